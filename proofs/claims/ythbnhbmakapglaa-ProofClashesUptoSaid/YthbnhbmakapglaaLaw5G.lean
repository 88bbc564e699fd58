/- ProofGood: plain law and by-value contract. -/
import Derived.Test.YthbnhbmakapglaaLaw5A
import Derived.Test.YthbnhbmakapglaaGapB
set_option linter.all false
namespace Go.Proofs.Ythbnhbmakapglaa
open Go Go.Abs Go.RowKit Go.Proofs.Ythbnhbmakapglaa.Ty

theorem path_dig : ∀ (n : Nat) (l : List PairD) (i : Nat), l.length = n → ∀ d ∈ pathF l i, d.length = 32 := by
  intro n
  induction n using Nat.strongRecOn with
  | _ n ih =>
    intro l i hn d hd
    by_cases h1 : l.length ≤ 1
    · rw [pathF_one i h1] at hd; simp at hd
    · have hs := splitF_lt (n := l.length) (by omega)
      have n1 : l.take (splitF l.length) ≠ [] := by intro hc; have := congrArg List.length hc; simp only [List.length_take, List.length_drop, List.length_nil] at this; omega
      have n2 : l.drop (splitF l.length) ≠ [] := by intro hc; have := congrArg List.length hc; simp only [List.length_take, List.length_drop, List.length_nil] at this; omega
      by_cases hi : i < splitF l.length
      · rw [pathF_lo (by omega) hi] at hd
        rcases List.mem_append.1 hd with hd | hd
        · exact ih (l.take (splitF l.length)).length (by simp; omega) _ i rfl d hd
        · simp at hd; subst hd; exact treeF_len _ n2
      · rw [pathF_hi (by omega) hi] at hd
        rcases List.mem_append.1 hd with hd | hd
        · exact ih (l.drop (splitF l.length)).length (by simp; omega) _ (i - splitF l.length) rfl d hd
        · simp at hd; subst hd; exact treeF_len _ n1
theorem fold_path : ∀ (n : Nat) (l : List PairD) (i : Nat) (hn : l.length = n) (hi : i < l.length), foldR (leafF l[i].k l[i].v) i l.length (pathF l i).reverse = (treeF l, true) := by
  intro n
  induction n using Nat.strongRecOn with
  | _ n ih =>
    intro l i hn hi
    by_cases h1 : l.length ≤ 1
    · have h : l.length = 1 := by omega
      obtain ⟨p, rfl⟩ := List.length_eq_one_iff.1 h
      have : i = 0 := by simpa using hi
      subst this
      rw [pathF_one 0 h1, treeF_one]; rfl
    · have hs := splitF_lt (n := l.length) (by omega)
      have hne : ¬ l.length = 1 := by omega
      rw [treeF_two (by omega)]
      by_cases hc : i < splitF l.length
      · rw [pathF_lo (by omega) hc]
        simp only [List.reverse_append, List.reverse_cons, List.reverse_nil, List.nil_append, List.singleton_append, foldR, if_neg hne, if_pos hc]
        have h := ih (l.take (splitF l.length)).length (by simp; omega) (l.take (splitF l.length)) i rfl (by simp; omega)
        have hk : (l.take (splitF l.length)).length = splitF l.length := by simp; omega
        have he : (l.take (splitF l.length))[i]'(by simp; omega) = l[i] := by simp
        rw [he, hk] at h
        rw [h]
      · rw [pathF_hi (by omega) hc]
        simp only [List.reverse_append, List.reverse_cons, List.reverse_nil, List.nil_append, List.singleton_append, foldR, if_neg hne, if_neg hc]
        have h := ih (l.drop (splitF l.length)).length (by simp; omega) (l.drop (splitF l.length)) (i - splitF l.length) rfl (by simp; omega)
        have hk : (l.drop (splitF l.length)).length = l.length - splitF l.length := by simp
        have he : (l.drop (splitF l.length))[i - splitF l.length]'(by simp; omega) = l[i] := by
          rw [List.getElem_drop]; congr 1; omega
        rw [he, hk] at h
        rw [h]
theorem shown_at {l : List PairD} (hr : Right l) (i : Nat) (hi : i < l.length) : shownF (rootF l) (atF l i hi) = true := by
  have hb := hr.big _ (List.getElem_mem hi)
  have hlen := hr.len
  have hp := pathF_short 8 l i (by omega)
  have hd := path_dig _ l i rfl
  have hf : formF (atF l i hi) = true := by
    simp only [formF, formG, atF, Bool.and_eq_true, Bool.not_eq_true', Bool.or_eq_false_iff, decide_eq_false_iff_not, List.all_eq_true, decide_eq_true_eq]
    refine ⟨⟨⟨⟨⟨⟨⟨?_, ?_⟩, ?_⟩, ?_⟩, ?_⟩, ?_⟩, ?_⟩, hd⟩ <;> (apply decide_eq_false; omega)
  have ht : treeOf (atF l i hi) = (treeF l, true) := by
    simp only [treeOf, atF, Int.toNat_natCast]
    exact fold_path _ l i rfl hi
  unfold shownF
  rw [hf, ht]
  simp [atF, rootF]
theorem there_iff {l : List PairD} {key : List UInt8} : thereF l key = true ↔ ∃ h : placeF l key < l.length, l[placeF l key].k = key := by
  unfold thereF
  by_cases h : placeF l key < l.length
  · rw [dif_pos h]; simp [h]
  · rw [dif_neg h]; simp [h]
theorem absent_at {l : List PairD} (hr : Right l) (key : List UInt8) (ht : thereF l key = false) : absentF (rootF l) key (gapF l key).1 = true := by
  have hz := wrong_right hr
  have hpl := placeF_le l key
  have h1 : ∀ (_ : 0 < placeF l key) (h' : placeF l key - 1 < l.length), Lib.compareBytes (l[placeF l key - 1]'h').k key < 0 := fun h h' => (placeF_iff hr key _ _).2 (by omega)
  have h2 : ∀ h : placeF l key < l.length, Lib.compareBytes key l[placeF l key].k < 0 := fun h => by
    have h3 : ¬ Lib.compareBytes l[placeF l key].k key < 0 := fun hc => by have := (placeF_iff hr key _ h).1 hc; omega
    have h4 : Lib.compareBytes l[placeF l key].k key ≠ 0 := fun hc => by
      have := there_iff.2 ⟨h, (cmp_zero _ _).1 hc⟩
      rw [ht] at this; cases this
    rw [cmp_neg]; omega
  unfold gapF
  rw [hz, if_pos rfl, ht]
  simp only [Bool.false_eq_true, if_false]
  have z1 : ∀ b i (h : i < l.length), b = true → atZ l b i = atF l i h := fun b i h hb => dif_pos ⟨hb, h⟩
  generalize placeF l key = j at *
  by_cases a : 0 < j
  · by_cases b : j < l.length
    · rw [decide_eq_true a, decide_eq_true b, z1 true (j - 1) (by omega) rfl, z1 true j b rfl]
      simp only [absentF, shown_at hr, Bool.true_and, Bool.and_true, Bool.and_eq_true, decide_eq_true_eq]
      refine ⟨⟨h1 a (by omega), h2 b⟩, ?_, ?_⟩
      · simp [atF]
      · simp only [atF]; omega
    · rw [decide_eq_true a, decide_eq_false b, z1 true (j - 1) (by omega) rfl]
      simp only [absentF, shown_at hr, Bool.true_and, Bool.and_true, Bool.and_eq_true, decide_eq_true_eq]
      refine ⟨h1 a (by omega), ?_⟩
      simp only [atF]; omega
  · by_cases b : j < l.length
    · rw [decide_eq_false a, decide_eq_true b, z1 true j b rfl]
      simp only [absentF, shown_at hr, Bool.true_and, Bool.and_true, Bool.and_eq_true, decide_eq_true_eq]
      refine ⟨h2 b, ?_⟩
      simp only [atF]; omega
    · rw [decide_eq_false a, decide_eq_false b]
      have : l = [] := List.length_eq_zero_iff.1 (by omega)
      subst this
      simp [absentF, rootF, treeF]
set_option maxHeartbeats 4000000
theorem walk_ProofGood (y0 : I) (l : List PairD) (e0 : y0 = psI l) (y1 : I) (key : List UInt8) (e1 : y1 = bI key) (hb : bkI y0 + bkI y1 ≤ 1048576) :
    ∃ Ds, PureD Try.prog 4 Ds (.i (.s (.bool true))) ∧ Ds = [.i y0, .i y1] := by
  subst e0; subst e1
  refine ⟨_, ?_, rfl⟩
  have hl := (pairs_small (l := l) (n := 1048576) (by omega)).1
  have hrt := root_B l hl
  by_cases h0 : (wrongF l).1 = 0
  · have hr := right_of h0
    have hz := wrong_zero h0
    have hs := show_A l key hl
    have hg := gap_A l key hl
    have hget := get_A l key hr
    rw [show rootR l = rootF l by rw [rootR, if_pos h0], hz] at hrt
    cases ht : thereF l key
    · have hgt : getF l key = ([], false) := by
        unfold getF
        by_cases h : placeF l key < l.length
        · rw [dif_pos h, if_neg (fun hc => by rw [there_iff.2 ⟨h, hc⟩] at ht; cases ht)]
        · rw [dif_neg h]
      have hst : showF l key = (zeroP, 6) := by
        unfold showF
        rw [if_pos h0]
        by_cases h : placeF l key < l.length
        · rw [dif_pos h, if_neg (fun hc => by rw [there_iff.2 ⟨h, hc⟩] at ht; cases ht)]
        · rw [dif_neg h]
      have hab := absent_at hr key ht
      have hgp : (gapF l key).2 = 0 := by unfold gapF; rw [if_pos h0, ht]; rfl
      have ha := absent_A (rootF l) key (gapF l key).1
      rw [hab] at ha
      rw [hgp] at hg
      rw [hst] at hs
      rw [hgt] at hget
      generalize (gapF l key).1 = G at *
      obtain ⟨gl, gr, L, R⟩ := G
      simp only [gapD, intD] at hg ha
      generalize rootF l = R0 at *
      clear hab hgp hst hgt ht
      cases g1 : decide ((60 : Int) < (key.length : Int))
      · refine callD_W 82 Try.func4 rfl rfl rfl (fun _ _ => rfl) ?_
        (repeat (first | (simp -implicitDefEqProofs only [ev1, ev2, ev3, ev4, ev5, ev6, mixed, Nat.reduceLT, Nat.reduceAdd, Nat.reduceMul, reduceIte, Nat.reduceEqDiff, reduceCtorEq, Nat.reducePow, Nat.reduceLeDiff, Int.reduceLE, Int.reduceLT, Int.reduceToNat, Int.reduceEq, Nat.reduceBEq, itsOf, gdA, byteI, opid, lenQ, ixQ, ldH, readAt, readCells, asCell, faQ, exQ, fldQ, partA, buildQ, slQ, stH, bslH, appH, dcells, convI, elemsOf, D.one, nilS, fillD, convN, cvH, T3, T4, T5, T22, T23, T25, T27, T28, T33, T39, T52]) | (with_reducible refine ⟨?_, ?_⟩; (· first | (obtain ⟨rfl⟩ := ‹Hq _ _›; with_reducible refine chk_ok ?_; kernel_rfl) | kernel_rfl)) | (with_reducible intro ops hops)))
        (first | refine Call_flat [] [] (alive5_A) (by simp [cvAs, cvA, cv1, cvL, cv0, bI, byteI, psI, intD, boolD, proofD, fltD, elemsOf, upd]) rfl ?_ | refine CallF_flat [] [] [] (alive5_A) (fun G _ => by simp [cvAs, cvA, cv1, cvL, cv0, bI, byteI, psI, intD, boolD, proofD, fltD, elemsOf, upd]) rfl ?_)
        (repeat (first | (simp -implicitDefEqProofs only [ev1, ev2, ev3, ev4, ev5, ev6, mixed, Nat.reduceLT, Nat.reduceAdd, Nat.reduceMul, reduceIte, Nat.reduceEqDiff, reduceCtorEq, Nat.reducePow, Nat.reduceLeDiff, Int.reduceLE, Int.reduceLT, Int.reduceToNat, Int.reduceEq, Nat.reduceBEq, itsOf, gdA, byteI, opid, lenQ, ixQ, ldH, readAt, readCells, asCell, faQ, exQ, fldQ, partA, buildQ, slQ, stH, bslH, appH, dcells, convI, elemsOf, D.one, nilS, fillD, convN, cvH, T3, T4, T5, T22, T23, T25, T27, T28, T33, T39, T52, psI, bI]) | (with_reducible refine ⟨?_, ?_⟩; (· first | (obtain ⟨rfl⟩ := ‹Hq _ _›; with_reducible refine chk_ok ?_; kernel_rfl) | kernel_rfl)) | (with_reducible intro ops hops)))
        (first | refine Call_frz [] (hrt) (by simp [cvAs, cvA, cv1, cvL, cv0, bI, byteI, psI, intD, boolD, proofD, fltD, elemsOf, upd]) ?_ | refine CallF_frz [] [] (hrt) (fun G _ => by simp [cvAs, cvA, cv1, cvL, cv0, bI, byteI, psI, intD, boolD, proofD, fltD, elemsOf, upd]) (by simp) ?_)
        (repeat (first | (simp -implicitDefEqProofs only [ev1, ev2, ev3, ev4, ev5, ev6, mixed, Nat.reduceLT, Nat.reduceAdd, Nat.reduceMul, reduceIte, Nat.reduceEqDiff, reduceCtorEq, Nat.reducePow, Nat.reduceLeDiff, Int.reduceLE, Int.reduceLT, Int.reduceToNat, Int.reduceEq, Nat.reduceBEq, itsOf, gdA, byteI, opid, lenQ, ixQ, ldH, readAt, readCells, asCell, faQ, exQ, fldQ, partA, buildQ, slQ, stH, bslH, appH, dcells, convI, elemsOf, D.one, nilS, fillD, convN, cvH, T3, T4, T5, T22, T23, T25, T27, T28, T33, T39, T52, fltD, intD, psI, bI]) | (with_reducible refine ⟨?_, ?_⟩; (· first | (obtain ⟨rfl⟩ := ‹Hq _ _›; with_reducible refine chk_ok ?_; kernel_rfl) | kernel_rfl)) | (with_reducible intro ops hops)))
        (first | refine Call_frz [] (hget) (by simp [cvAs, cvA, cv1, cvL, cv0, bI, byteI, psI, intD, boolD, proofD, fltD, elemsOf, upd]) ?_ | refine CallF_frz [] [] (hget) (fun G _ => by simp [cvAs, cvA, cv1, cvL, cv0, bI, byteI, psI, intD, boolD, proofD, fltD, elemsOf, upd]) (by simp) ?_)
        (repeat (first | (simp -implicitDefEqProofs only [ev1, ev2, ev3, ev4, ev5, ev6, mixed, Nat.reduceLT, Nat.reduceAdd, Nat.reduceMul, reduceIte, Nat.reduceEqDiff, reduceCtorEq, Nat.reducePow, Nat.reduceLeDiff, Int.reduceLE, Int.reduceLT, Int.reduceToNat, Int.reduceEq, Nat.reduceBEq, itsOf, gdA, byteI, opid, lenQ, ixQ, ldH, readAt, readCells, asCell, faQ, exQ, fldQ, partA, buildQ, slQ, stH, bslH, appH, dcells, convI, elemsOf, D.one, nilS, fillD, convN, cvH, T3, T4, T5, T22, T23, T25, T27, T28, T33, T39, T52, boolD, intD, psI, bI]) | (with_reducible refine ⟨?_, ?_⟩; (· first | (obtain ⟨rfl⟩ := ‹Hq _ _›; with_reducible refine chk_ok ?_; kernel_rfl) | kernel_rfl)) | (with_reducible intro ops hops)))
        (first | refine Call_frz [] (hs) (by simp [cvAs, cvA, cv1, cvL, cv0, bI, byteI, psI, intD, boolD, proofD, fltD, elemsOf, upd]) ?_ | refine CallF_frz [] [] (hs) (fun G _ => by simp [cvAs, cvA, cv1, cvL, cv0, bI, byteI, psI, intD, boolD, proofD, fltD, elemsOf, upd]) (by simp) ?_)
        (repeat (first | (simp -implicitDefEqProofs only [ev1, ev2, ev3, ev4, ev5, ev6, mixed, Nat.reduceLT, Nat.reduceAdd, Nat.reduceMul, reduceIte, Nat.reduceEqDiff, reduceCtorEq, Nat.reducePow, Nat.reduceLeDiff, Int.reduceLE, Int.reduceLT, Int.reduceToNat, Int.reduceEq, Nat.reduceBEq, itsOf, gdA, byteI, opid, lenQ, ixQ, ldH, readAt, readCells, asCell, faQ, exQ, fldQ, partA, buildQ, slQ, stH, bslH, appH, dcells, convI, elemsOf, D.one, nilS, fillD, convN, cvH, T3, T4, T5, T22, T23, T25, T27, T28, T33, T39, T52, proofD, zeroP, intD, psI, bI]) | (with_reducible refine ⟨?_, ?_⟩; (· first | (obtain ⟨rfl⟩ := ‹Hq _ _›; with_reducible refine chk_ok ?_; kernel_rfl) | kernel_rfl)) | (with_reducible intro ops hops)))
        (first | refine Call_frz [] (hg) (by simp [cvAs, cvA, cv1, cvL, cv0, bI, byteI, psI, intD, boolD, proofD, fltD, elemsOf, upd]) ?_ | refine CallF_frz [] [] (hg) (fun G _ => by simp [cvAs, cvA, cv1, cvL, cv0, bI, byteI, psI, intD, boolD, proofD, fltD, elemsOf, upd]) (by simp) ?_)
        (repeat (first | (simp -implicitDefEqProofs only [ev1, ev2, ev3, ev4, ev5, ev6, mixed, Nat.reduceLT, Nat.reduceAdd, Nat.reduceMul, reduceIte, Nat.reduceEqDiff, reduceCtorEq, Nat.reducePow, Nat.reduceLeDiff, Int.reduceLE, Int.reduceLT, Int.reduceToNat, Int.reduceEq, Nat.reduceBEq, itsOf, gdA, byteI, opid, lenQ, ixQ, ldH, readAt, readCells, asCell, faQ, exQ, fldQ, partA, buildQ, slQ, stH, bslH, appH, dcells, convI, elemsOf, D.one, nilS, fillD, convN, cvH, T3, T4, T5, T22, T23, T25, T27, T28, T33, T39, T52, proofD, intD, psI, bI, boolD, g1]) | (with_reducible refine ⟨?_, ?_⟩; (· first | (obtain ⟨rfl⟩ := ‹Hq _ _›; with_reducible refine chk_ok ?_; kernel_rfl) | kernel_rfl)) | (with_reducible intro ops hops)))
        (first | refine Call_flat [] [] (ha) (by simp [cvAs, cvA, cv1, cvL, cv0, bI, byteI, psI, intD, boolD, proofD, fltD, elemsOf, upd]) rfl ?_ | refine CallF_flat [] [] [] (ha) (fun G _ => by simp [cvAs, cvA, cv1, cvL, cv0, bI, byteI, psI, intD, boolD, proofD, fltD, elemsOf, upd]) rfl ?_)
        (repeat (first | (simp -implicitDefEqProofs only [ev1, ev2, ev3, ev4, ev5, ev6, mixed, Nat.reduceLT, Nat.reduceAdd, Nat.reduceMul, reduceIte, Nat.reduceEqDiff, reduceCtorEq, Nat.reducePow, Nat.reduceLeDiff, Int.reduceLE, Int.reduceLT, Int.reduceToNat, Int.reduceEq, Nat.reduceBEq, itsOf, gdA, byteI, opid, lenQ, ixQ, ldH, readAt, readCells, asCell, faQ, exQ, fldQ, partA, buildQ, slQ, stH, bslH, appH, dcells, convI, elemsOf, D.one, nilS, fillD, convN, cvH, T3, T4, T5, T22, T23, T25, T27, T28, T33, T39, T52, boolD]) | (with_reducible refine ⟨?_, ?_⟩; (· first | (obtain ⟨rfl⟩ := ‹Hq _ _›; with_reducible refine chk_ok ?_; kernel_rfl) | kernel_rfl)) | (with_reducible intro ops hops)))
        refine fin_ret [] rfl ?_
        simp [cv, cv1, cv0, upd]
      · refine callD_W 82 Try.func4 rfl rfl rfl (fun _ _ => rfl) ?_
        (repeat (first | (simp -implicitDefEqProofs only [ev1, ev2, ev3, ev4, ev5, ev6, mixed, Nat.reduceLT, Nat.reduceAdd, Nat.reduceMul, reduceIte, Nat.reduceEqDiff, reduceCtorEq, Nat.reducePow, Nat.reduceLeDiff, Int.reduceLE, Int.reduceLT, Int.reduceToNat, Int.reduceEq, Nat.reduceBEq, itsOf, gdA, byteI, opid, lenQ, ixQ, ldH, readAt, readCells, asCell, faQ, exQ, fldQ, partA, buildQ, slQ, stH, bslH, appH, dcells, convI, elemsOf, D.one, nilS, fillD, convN, cvH, T3, T4, T5, T22, T23, T25, T27, T28, T33, T39, T52]) | (with_reducible refine ⟨?_, ?_⟩; (· first | (obtain ⟨rfl⟩ := ‹Hq _ _›; with_reducible refine chk_ok ?_; kernel_rfl) | kernel_rfl)) | (with_reducible intro ops hops)))
        (first | refine Call_flat [] [] (alive5_A) (by simp [cvAs, cvA, cv1, cvL, cv0, bI, byteI, psI, intD, boolD, proofD, fltD, elemsOf, upd]) rfl ?_ | refine CallF_flat [] [] [] (alive5_A) (fun G _ => by simp [cvAs, cvA, cv1, cvL, cv0, bI, byteI, psI, intD, boolD, proofD, fltD, elemsOf, upd]) rfl ?_)
        (repeat (first | (simp -implicitDefEqProofs only [ev1, ev2, ev3, ev4, ev5, ev6, mixed, Nat.reduceLT, Nat.reduceAdd, Nat.reduceMul, reduceIte, Nat.reduceEqDiff, reduceCtorEq, Nat.reducePow, Nat.reduceLeDiff, Int.reduceLE, Int.reduceLT, Int.reduceToNat, Int.reduceEq, Nat.reduceBEq, itsOf, gdA, byteI, opid, lenQ, ixQ, ldH, readAt, readCells, asCell, faQ, exQ, fldQ, partA, buildQ, slQ, stH, bslH, appH, dcells, convI, elemsOf, D.one, nilS, fillD, convN, cvH, T3, T4, T5, T22, T23, T25, T27, T28, T33, T39, T52, psI, bI]) | (with_reducible refine ⟨?_, ?_⟩; (· first | (obtain ⟨rfl⟩ := ‹Hq _ _›; with_reducible refine chk_ok ?_; kernel_rfl) | kernel_rfl)) | (with_reducible intro ops hops)))
        (first | refine Call_frz [] (hrt) (by simp [cvAs, cvA, cv1, cvL, cv0, bI, byteI, psI, intD, boolD, proofD, fltD, elemsOf, upd]) ?_ | refine CallF_frz [] [] (hrt) (fun G _ => by simp [cvAs, cvA, cv1, cvL, cv0, bI, byteI, psI, intD, boolD, proofD, fltD, elemsOf, upd]) (by simp) ?_)
        (repeat (first | (simp -implicitDefEqProofs only [ev1, ev2, ev3, ev4, ev5, ev6, mixed, Nat.reduceLT, Nat.reduceAdd, Nat.reduceMul, reduceIte, Nat.reduceEqDiff, reduceCtorEq, Nat.reducePow, Nat.reduceLeDiff, Int.reduceLE, Int.reduceLT, Int.reduceToNat, Int.reduceEq, Nat.reduceBEq, itsOf, gdA, byteI, opid, lenQ, ixQ, ldH, readAt, readCells, asCell, faQ, exQ, fldQ, partA, buildQ, slQ, stH, bslH, appH, dcells, convI, elemsOf, D.one, nilS, fillD, convN, cvH, T3, T4, T5, T22, T23, T25, T27, T28, T33, T39, T52, fltD, intD, psI, bI]) | (with_reducible refine ⟨?_, ?_⟩; (· first | (obtain ⟨rfl⟩ := ‹Hq _ _›; with_reducible refine chk_ok ?_; kernel_rfl) | kernel_rfl)) | (with_reducible intro ops hops)))
        (first | refine Call_frz [] (hget) (by simp [cvAs, cvA, cv1, cvL, cv0, bI, byteI, psI, intD, boolD, proofD, fltD, elemsOf, upd]) ?_ | refine CallF_frz [] [] (hget) (fun G _ => by simp [cvAs, cvA, cv1, cvL, cv0, bI, byteI, psI, intD, boolD, proofD, fltD, elemsOf, upd]) (by simp) ?_)
        (repeat (first | (simp -implicitDefEqProofs only [ev1, ev2, ev3, ev4, ev5, ev6, mixed, Nat.reduceLT, Nat.reduceAdd, Nat.reduceMul, reduceIte, Nat.reduceEqDiff, reduceCtorEq, Nat.reducePow, Nat.reduceLeDiff, Int.reduceLE, Int.reduceLT, Int.reduceToNat, Int.reduceEq, Nat.reduceBEq, itsOf, gdA, byteI, opid, lenQ, ixQ, ldH, readAt, readCells, asCell, faQ, exQ, fldQ, partA, buildQ, slQ, stH, bslH, appH, dcells, convI, elemsOf, D.one, nilS, fillD, convN, cvH, T3, T4, T5, T22, T23, T25, T27, T28, T33, T39, T52, boolD, intD, psI, bI]) | (with_reducible refine ⟨?_, ?_⟩; (· first | (obtain ⟨rfl⟩ := ‹Hq _ _›; with_reducible refine chk_ok ?_; kernel_rfl) | kernel_rfl)) | (with_reducible intro ops hops)))
        (first | refine Call_frz [] (hs) (by simp [cvAs, cvA, cv1, cvL, cv0, bI, byteI, psI, intD, boolD, proofD, fltD, elemsOf, upd]) ?_ | refine CallF_frz [] [] (hs) (fun G _ => by simp [cvAs, cvA, cv1, cvL, cv0, bI, byteI, psI, intD, boolD, proofD, fltD, elemsOf, upd]) (by simp) ?_)
        (repeat (first | (simp -implicitDefEqProofs only [ev1, ev2, ev3, ev4, ev5, ev6, mixed, Nat.reduceLT, Nat.reduceAdd, Nat.reduceMul, reduceIte, Nat.reduceEqDiff, reduceCtorEq, Nat.reducePow, Nat.reduceLeDiff, Int.reduceLE, Int.reduceLT, Int.reduceToNat, Int.reduceEq, Nat.reduceBEq, itsOf, gdA, byteI, opid, lenQ, ixQ, ldH, readAt, readCells, asCell, faQ, exQ, fldQ, partA, buildQ, slQ, stH, bslH, appH, dcells, convI, elemsOf, D.one, nilS, fillD, convN, cvH, T3, T4, T5, T22, T23, T25, T27, T28, T33, T39, T52, proofD, zeroP, intD, psI, bI]) | (with_reducible refine ⟨?_, ?_⟩; (· first | (obtain ⟨rfl⟩ := ‹Hq _ _›; with_reducible refine chk_ok ?_; kernel_rfl) | kernel_rfl)) | (with_reducible intro ops hops)))
        (first | refine Call_frz [] (hg) (by simp [cvAs, cvA, cv1, cvL, cv0, bI, byteI, psI, intD, boolD, proofD, fltD, elemsOf, upd]) ?_ | refine CallF_frz [] [] (hg) (fun G _ => by simp [cvAs, cvA, cv1, cvL, cv0, bI, byteI, psI, intD, boolD, proofD, fltD, elemsOf, upd]) (by simp) ?_)
        (repeat (first | (simp -implicitDefEqProofs only [ev1, ev2, ev3, ev4, ev5, ev6, mixed, Nat.reduceLT, Nat.reduceAdd, Nat.reduceMul, reduceIte, Nat.reduceEqDiff, reduceCtorEq, Nat.reducePow, Nat.reduceLeDiff, Int.reduceLE, Int.reduceLT, Int.reduceToNat, Int.reduceEq, Nat.reduceBEq, itsOf, gdA, byteI, opid, lenQ, ixQ, ldH, readAt, readCells, asCell, faQ, exQ, fldQ, partA, buildQ, slQ, stH, bslH, appH, dcells, convI, elemsOf, D.one, nilS, fillD, convN, cvH, T3, T4, T5, T22, T23, T25, T27, T28, T33, T39, T52, proofD, intD, psI, bI, boolD, g1]) | (with_reducible refine ⟨?_, ?_⟩; (· first | (obtain ⟨rfl⟩ := ‹Hq _ _›; with_reducible refine chk_ok ?_; kernel_rfl) | kernel_rfl)) | (with_reducible intro ops hops)))
        refine fin_ret [] rfl ?_
        simp [cv, cv1, cv0, upd]
    · obtain ⟨hp, hk⟩ := there_iff.1 ht
      have hgt : getF l key = (l[placeF l key].v, true) := by unfold getF; rw [dif_pos hp, if_pos hk]
      have hst : showF l key = (atF l (placeF l key) hp, 0) := by unfold showF; rw [if_pos h0, dif_pos hp, if_pos hk]
      have hgp : gapF l key = (zeroG, 7) := by unfold gapF; rw [if_pos h0, ht]; rfl
      have hsh := shown_A (rootF l) (atF l (placeF l key) hp)
      rw [shown_at hr _ hp] at hsh
      have hv := hr.big _ (List.getElem_mem hp)
      have s1 := same_A key key (by rw [← hk]; omega)
      have s2 := same_A l[placeF l key].v l[placeF l key].v (by omega)
      rw [decide_eq_true rfl] at s1 s2
      rw [hgp] at hg
      rw [hst] at hs
      rw [hgt] at hget
      have hA1 : (atF l (placeF l key) hp).k = key := hk
      have hA2 : (atF l (placeF l key) hp).v = l[placeF l key].v := rfl
      generalize atF l (placeF l key) hp = A at *
      generalize l[placeF l key].v = V at *
      generalize rootF l = R0 at *
      obtain ⟨ai, an, ak, av, aq⟩ := A
      simp only at hA1 hA2
      subst hA1 hA2
      simp only [proofD, gapD, zeroG, zeroP] at hsh hs hg
      clear hgp hst hgt ht hk
      refine callD_W 82 Try.func4 rfl rfl rfl (fun _ _ => rfl) ?_
      (repeat (first | (simp -implicitDefEqProofs only [ev1, ev2, ev3, ev4, ev5, ev6, mixed, Nat.reduceLT, Nat.reduceAdd, Nat.reduceMul, reduceIte, Nat.reduceEqDiff, reduceCtorEq, Nat.reducePow, Nat.reduceLeDiff, Int.reduceLE, Int.reduceLT, Int.reduceToNat, Int.reduceEq, Nat.reduceBEq, itsOf, gdA, byteI, opid, lenQ, ixQ, ldH, readAt, readCells, asCell, faQ, exQ, fldQ, partA, buildQ, slQ, stH, bslH, appH, dcells, convI, elemsOf, D.one, nilS, fillD, convN, cvH, T3, T4, T5, T22, T23, T25, T27, T28, T33, T39, T52]) | (with_reducible refine ⟨?_, ?_⟩; (· first | (obtain ⟨rfl⟩ := ‹Hq _ _›; with_reducible refine chk_ok ?_; kernel_rfl) | kernel_rfl)) | (with_reducible intro ops hops)))
      (first | refine Call_flat [] [] (alive5_A) (by simp [cvAs, cvA, cv1, cvL, cv0, bI, byteI, psI, intD, boolD, proofD, fltD, elemsOf, upd]) rfl ?_ | refine CallF_flat [] [] [] (alive5_A) (fun G _ => by simp [cvAs, cvA, cv1, cvL, cv0, bI, byteI, psI, intD, boolD, proofD, fltD, elemsOf, upd]) rfl ?_)
      (repeat (first | (simp -implicitDefEqProofs only [ev1, ev2, ev3, ev4, ev5, ev6, mixed, Nat.reduceLT, Nat.reduceAdd, Nat.reduceMul, reduceIte, Nat.reduceEqDiff, reduceCtorEq, Nat.reducePow, Nat.reduceLeDiff, Int.reduceLE, Int.reduceLT, Int.reduceToNat, Int.reduceEq, Nat.reduceBEq, itsOf, gdA, byteI, opid, lenQ, ixQ, ldH, readAt, readCells, asCell, faQ, exQ, fldQ, partA, buildQ, slQ, stH, bslH, appH, dcells, convI, elemsOf, D.one, nilS, fillD, convN, cvH, T3, T4, T5, T22, T23, T25, T27, T28, T33, T39, T52, psI, bI]) | (with_reducible refine ⟨?_, ?_⟩; (· first | (obtain ⟨rfl⟩ := ‹Hq _ _›; with_reducible refine chk_ok ?_; kernel_rfl) | kernel_rfl)) | (with_reducible intro ops hops)))
      (first | refine Call_frz [] (hrt) (by simp [cvAs, cvA, cv1, cvL, cv0, bI, byteI, psI, intD, boolD, proofD, fltD, elemsOf, upd]) ?_ | refine CallF_frz [] [] (hrt) (fun G _ => by simp [cvAs, cvA, cv1, cvL, cv0, bI, byteI, psI, intD, boolD, proofD, fltD, elemsOf, upd]) (by simp) ?_)
      (repeat (first | (simp -implicitDefEqProofs only [ev1, ev2, ev3, ev4, ev5, ev6, mixed, Nat.reduceLT, Nat.reduceAdd, Nat.reduceMul, reduceIte, Nat.reduceEqDiff, reduceCtorEq, Nat.reducePow, Nat.reduceLeDiff, Int.reduceLE, Int.reduceLT, Int.reduceToNat, Int.reduceEq, Nat.reduceBEq, itsOf, gdA, byteI, opid, lenQ, ixQ, ldH, readAt, readCells, asCell, faQ, exQ, fldQ, partA, buildQ, slQ, stH, bslH, appH, dcells, convI, elemsOf, D.one, nilS, fillD, convN, cvH, T3, T4, T5, T22, T23, T25, T27, T28, T33, T39, T52, fltD, intD, psI, bI]) | (with_reducible refine ⟨?_, ?_⟩; (· first | (obtain ⟨rfl⟩ := ‹Hq _ _›; with_reducible refine chk_ok ?_; kernel_rfl) | kernel_rfl)) | (with_reducible intro ops hops)))
      (first | refine Call_frz [] (hget) (by simp [cvAs, cvA, cv1, cvL, cv0, bI, byteI, psI, intD, boolD, proofD, fltD, elemsOf, upd]) ?_ | refine CallF_frz [] [] (hget) (fun G _ => by simp [cvAs, cvA, cv1, cvL, cv0, bI, byteI, psI, intD, boolD, proofD, fltD, elemsOf, upd]) (by simp) ?_)
      (repeat (first | (simp -implicitDefEqProofs only [ev1, ev2, ev3, ev4, ev5, ev6, mixed, Nat.reduceLT, Nat.reduceAdd, Nat.reduceMul, reduceIte, Nat.reduceEqDiff, reduceCtorEq, Nat.reducePow, Nat.reduceLeDiff, Int.reduceLE, Int.reduceLT, Int.reduceToNat, Int.reduceEq, Nat.reduceBEq, itsOf, gdA, byteI, opid, lenQ, ixQ, ldH, readAt, readCells, asCell, faQ, exQ, fldQ, partA, buildQ, slQ, stH, bslH, appH, dcells, convI, elemsOf, D.one, nilS, fillD, convN, cvH, T3, T4, T5, T22, T23, T25, T27, T28, T33, T39, T52, boolD, intD, psI, bI]) | (with_reducible refine ⟨?_, ?_⟩; (· first | (obtain ⟨rfl⟩ := ‹Hq _ _›; with_reducible refine chk_ok ?_; kernel_rfl) | kernel_rfl)) | (with_reducible intro ops hops)))
      (first | refine Call_frz [] (hs) (by simp [cvAs, cvA, cv1, cvL, cv0, bI, byteI, psI, intD, boolD, proofD, fltD, elemsOf, upd]) ?_ | refine CallF_frz [] [] (hs) (fun G _ => by simp [cvAs, cvA, cv1, cvL, cv0, bI, byteI, psI, intD, boolD, proofD, fltD, elemsOf, upd]) (by simp) ?_)
      (repeat (first | (simp -implicitDefEqProofs only [ev1, ev2, ev3, ev4, ev5, ev6, mixed, Nat.reduceLT, Nat.reduceAdd, Nat.reduceMul, reduceIte, Nat.reduceEqDiff, reduceCtorEq, Nat.reducePow, Nat.reduceLeDiff, Int.reduceLE, Int.reduceLT, Int.reduceToNat, Int.reduceEq, Nat.reduceBEq, itsOf, gdA, byteI, opid, lenQ, ixQ, ldH, readAt, readCells, asCell, faQ, exQ, fldQ, partA, buildQ, slQ, stH, bslH, appH, dcells, convI, elemsOf, D.one, nilS, fillD, convN, cvH, T3, T4, T5, T22, T23, T25, T27, T28, T33, T39, T52, proofD, intD, psI, bI]) | (with_reducible refine ⟨?_, ?_⟩; (· first | (obtain ⟨rfl⟩ := ‹Hq _ _›; with_reducible refine chk_ok ?_; kernel_rfl) | kernel_rfl)) | (with_reducible intro ops hops)))
      (first | refine Call_frz [] (hg) (by simp [cvAs, cvA, cv1, cvL, cv0, bI, byteI, psI, intD, boolD, proofD, fltD, elemsOf, upd]) ?_ | refine CallF_frz [] [] (hg) (fun G _ => by simp [cvAs, cvA, cv1, cvL, cv0, bI, byteI, psI, intD, boolD, proofD, fltD, elemsOf, upd]) (by simp) ?_)
      (repeat (first | (simp -implicitDefEqProofs only [ev1, ev2, ev3, ev4, ev5, ev6, mixed, Nat.reduceLT, Nat.reduceAdd, Nat.reduceMul, reduceIte, Nat.reduceEqDiff, reduceCtorEq, Nat.reducePow, Nat.reduceLeDiff, Int.reduceLE, Int.reduceLT, Int.reduceToNat, Int.reduceEq, Nat.reduceBEq, itsOf, gdA, byteI, opid, lenQ, ixQ, ldH, readAt, readCells, asCell, faQ, exQ, fldQ, partA, buildQ, slQ, stH, bslH, appH, dcells, convI, elemsOf, D.one, nilS, fillD, convN, cvH, T3, T4, T5, T22, T23, T25, T27, T28, T33, T39, T52, intD, psI, boolD]) | (with_reducible refine ⟨?_, ?_⟩; (· first | (obtain ⟨rfl⟩ := ‹Hq _ _›; with_reducible refine chk_ok ?_; kernel_rfl) | kernel_rfl)) | (with_reducible intro ops hops)))
      (first | refine Call_flat [] [] (hsh) (by simp [cvAs, cvA, cv1, cvL, cv0, bI, byteI, psI, intD, boolD, proofD, fltD, elemsOf, upd]) rfl ?_ | refine CallF_flat [] [] [] (hsh) (fun G _ => by simp [cvAs, cvA, cv1, cvL, cv0, bI, byteI, psI, intD, boolD, proofD, fltD, elemsOf, upd]) rfl ?_)
      (repeat (first | (simp -implicitDefEqProofs only [ev1, ev2, ev3, ev4, ev5, ev6, mixed, Nat.reduceLT, Nat.reduceAdd, Nat.reduceMul, reduceIte, Nat.reduceEqDiff, reduceCtorEq, Nat.reducePow, Nat.reduceLeDiff, Int.reduceLE, Int.reduceLT, Int.reduceToNat, Int.reduceEq, Nat.reduceBEq, itsOf, gdA, byteI, opid, lenQ, ixQ, ldH, readAt, readCells, asCell, faQ, exQ, fldQ, partA, buildQ, slQ, stH, bslH, appH, dcells, convI, elemsOf, D.one, nilS, fillD, convN, cvH, T3, T4, T5, T22, T23, T25, T27, T28, T33, T39, T52, intD, psI, boolD]) | (with_reducible refine ⟨?_, ?_⟩; (· first | (obtain ⟨rfl⟩ := ‹Hq _ _›; with_reducible refine chk_ok ?_; kernel_rfl) | kernel_rfl)) | (with_reducible intro ops hops)))
      (first | refine Call_flat [] [] (s1) (by simp [cvAs, cvA, cv1, cvL, cv0, bI, byteI, psI, intD, boolD, proofD, fltD, elemsOf, upd]) rfl ?_ | refine CallF_flat [] [] [] (s1) (fun G _ => by simp [cvAs, cvA, cv1, cvL, cv0, bI, byteI, psI, intD, boolD, proofD, fltD, elemsOf, upd]) rfl ?_)
      (repeat (first | (simp -implicitDefEqProofs only [ev1, ev2, ev3, ev4, ev5, ev6, mixed, Nat.reduceLT, Nat.reduceAdd, Nat.reduceMul, reduceIte, Nat.reduceEqDiff, reduceCtorEq, Nat.reducePow, Nat.reduceLeDiff, Int.reduceLE, Int.reduceLT, Int.reduceToNat, Int.reduceEq, Nat.reduceBEq, itsOf, gdA, byteI, opid, lenQ, ixQ, ldH, readAt, readCells, asCell, faQ, exQ, fldQ, partA, buildQ, slQ, stH, bslH, appH, dcells, convI, elemsOf, D.one, nilS, fillD, convN, cvH, T3, T4, T5, T22, T23, T25, T27, T28, T33, T39, T52, intD, psI, boolD]) | (with_reducible refine ⟨?_, ?_⟩; (· first | (obtain ⟨rfl⟩ := ‹Hq _ _›; with_reducible refine chk_ok ?_; kernel_rfl) | kernel_rfl)) | (with_reducible intro ops hops)))
      (first | refine Call_flat [] [] (s2) (by simp [cvAs, cvA, cv1, cvL, cv0, bI, byteI, psI, intD, boolD, proofD, fltD, elemsOf, upd]) rfl ?_ | refine CallF_flat [] [] [] (s2) (fun G _ => by simp [cvAs, cvA, cv1, cvL, cv0, bI, byteI, psI, intD, boolD, proofD, fltD, elemsOf, upd]) rfl ?_)
      (repeat (first | (simp -implicitDefEqProofs only [ev1, ev2, ev3, ev4, ev5, ev6, mixed, Nat.reduceLT, Nat.reduceAdd, Nat.reduceMul, reduceIte, Nat.reduceEqDiff, reduceCtorEq, Nat.reducePow, Nat.reduceLeDiff, Int.reduceLE, Int.reduceLT, Int.reduceToNat, Int.reduceEq, Nat.reduceBEq, itsOf, gdA, byteI, opid, lenQ, ixQ, ldH, readAt, readCells, asCell, faQ, exQ, fldQ, partA, buildQ, slQ, stH, bslH, appH, dcells, convI, elemsOf, D.one, nilS, fillD, convN, cvH, T3, T4, T5, T22, T23, T25, T27, T28, T33, T39, T52, intD, psI, boolD]) | (with_reducible refine ⟨?_, ?_⟩; (· first | (obtain ⟨rfl⟩ := ‹Hq _ _›; with_reducible refine chk_ok ?_; kernel_rfl) | kernel_rfl)) | (with_reducible intro ops hops)))
      refine fin_ret [] rfl ?_
      simp [cv, cv1, cv0, upd]
  · generalize wrongF l = W at *
    generalize rootR l = R0 at *
    have g1 : decide ((W.1 : Int) = 0) = false := by simp; omega
    refine callD_W 82 Try.func4 rfl rfl rfl (fun _ _ => rfl) ?_
    (repeat (first | (simp -implicitDefEqProofs only [ev1, ev2, ev3, ev4, ev5, ev6, mixed, Nat.reduceLT, Nat.reduceAdd, Nat.reduceMul, reduceIte, Nat.reduceEqDiff, reduceCtorEq, Nat.reducePow, Nat.reduceLeDiff, Int.reduceLE, Int.reduceLT, Int.reduceToNat, Int.reduceEq, Nat.reduceBEq, itsOf, gdA, byteI, opid, lenQ, ixQ, ldH, readAt, readCells, asCell, faQ, exQ, fldQ, partA, buildQ, slQ, stH, bslH, appH, dcells, convI, elemsOf, D.one, nilS, fillD, convN, cvH, T3, T4, T5, T22, T23, T25, T27, T28, T33, T39, T52]) | (with_reducible refine ⟨?_, ?_⟩; (· first | (obtain ⟨rfl⟩ := ‹Hq _ _›; with_reducible refine chk_ok ?_; kernel_rfl) | kernel_rfl)) | (with_reducible intro ops hops)))
    (first | refine Call_flat [] [] (alive5_A) (by simp [cvAs, cvA, cv1, cvL, cv0, bI, byteI, psI, intD, boolD, proofD, fltD, elemsOf, upd]) rfl ?_ | refine CallF_flat [] [] [] (alive5_A) (fun G _ => by simp [cvAs, cvA, cv1, cvL, cv0, bI, byteI, psI, intD, boolD, proofD, fltD, elemsOf, upd]) rfl ?_)
    (repeat (first | (simp -implicitDefEqProofs only [ev1, ev2, ev3, ev4, ev5, ev6, mixed, Nat.reduceLT, Nat.reduceAdd, Nat.reduceMul, reduceIte, Nat.reduceEqDiff, reduceCtorEq, Nat.reducePow, Nat.reduceLeDiff, Int.reduceLE, Int.reduceLT, Int.reduceToNat, Int.reduceEq, Nat.reduceBEq, itsOf, gdA, byteI, opid, lenQ, ixQ, ldH, readAt, readCells, asCell, faQ, exQ, fldQ, partA, buildQ, slQ, stH, bslH, appH, dcells, convI, elemsOf, D.one, nilS, fillD, convN, cvH, T3, T4, T5, T22, T23, T25, T27, T28, T33, T39, T52, psI, bI]) | (with_reducible refine ⟨?_, ?_⟩; (· first | (obtain ⟨rfl⟩ := ‹Hq _ _›; with_reducible refine chk_ok ?_; kernel_rfl) | kernel_rfl)) | (with_reducible intro ops hops)))
    (first | refine Call_frz [] (hrt) (by simp [cvAs, cvA, cv1, cvL, cv0, bI, byteI, psI, intD, boolD, proofD, fltD, elemsOf, upd]) ?_ | refine CallF_frz [] [] (hrt) (fun G _ => by simp [cvAs, cvA, cv1, cvL, cv0, bI, byteI, psI, intD, boolD, proofD, fltD, elemsOf, upd]) (by simp) ?_)
    (repeat (first | (simp -implicitDefEqProofs only [ev1, ev2, ev3, ev4, ev5, ev6, mixed, Nat.reduceLT, Nat.reduceAdd, Nat.reduceMul, reduceIte, Nat.reduceEqDiff, reduceCtorEq, Nat.reducePow, Nat.reduceLeDiff, Int.reduceLE, Int.reduceLT, Int.reduceToNat, Int.reduceEq, Nat.reduceBEq, itsOf, gdA, byteI, opid, lenQ, ixQ, ldH, readAt, readCells, asCell, faQ, exQ, fldQ, partA, buildQ, slQ, stH, bslH, appH, dcells, convI, elemsOf, D.one, nilS, fillD, convN, cvH, T3, T4, T5, T22, T23, T25, T27, T28, T33, T39, T52, fltD, intD, psI, bI, g1]) | (with_reducible refine ⟨?_, ?_⟩; (· first | (obtain ⟨rfl⟩ := ‹Hq _ _›; with_reducible refine chk_ok ?_; kernel_rfl) | kernel_rfl)) | (with_reducible intro ops hops)))
    refine fin_ret [] rfl ?_
    simp [cv, cv1, cv0, upd]
end Go.Proofs.Ythbnhbmakapglaa
