/- landref4.Get, Same, Root, Play: by value. -/
import Derived.Test.YthbnhbmakapglaaBookR
set_option linter.all false
namespace Go.Proofs.Ythbnhbmakapglaa
open Go Go.Abs Go.RowKit Go.Proofs.Ythbnhbmakapglaa.Ty

set_option maxHeartbeats 4000000
theorem rget_A (l : List PairD) (key : List UInt8) (hl : l.length ≤ 1048576) (hb : ∀ p ∈ l, p.k.length ≤ 1048576) (hs : Srt l) :
    PureD Try.prog 40 [.i (psI l), .i (bI key)] (.tup [.i (bI (getF l key).1), boolD (getF l key).2]) := by
  rw [get_find hs]
  generalize hR : l.find? (fun q => decide (q.k = key)) = R
  refine callD_W 21 Try.func40 rfl rfl rfl (fun _ _ => rfl) ?_
  (repeat (first | (simp -implicitDefEqProofs only [ev1, ev2, ev3, ev4, ev5, ev6, mixed, Nat.reduceLT, Nat.reduceAdd, Nat.reduceMul, reduceIte, Nat.reduceEqDiff, reduceCtorEq, Nat.reducePow, Nat.reduceLeDiff, Int.reduceLE, Int.reduceLT, Int.reduceToNat, Int.reduceEq, Nat.reduceBEq, itsOf, gdA, byteI, opid, lenQ, ixQ, ldH, readAt, readCells, asCell, faQ, exQ, fldQ, partA, buildQ, slQ, stH, bslH, appH, dcells, convI, elemsOf, D.one, nilS, fillD, convN, cvH, T3, T5, T22, T23, T52, psI]) | (with_reducible refine ⟨?_, ?_⟩; (· first | (obtain ⟨rfl⟩ := ‹Hq _ _›; with_reducible refine chk_ok ?_; kernel_rfl) | kernel_rfl)) | (with_reducible intro ops hops)))
  refine W_loopI (ι := Nat) (fun i => i ≤ l.length ∧ (l.drop i).find? (fun q => decide (q.k = key)) = R)
    (fun i => stOf [(1, .i (bI key)), (8, .i (psI l)), (9, intD l.length), (10, intD i)] []) (fun i => l.length - i) 0 ⟨Nat.zero_le _, hR⟩ ?_ ?_
  · refine le_stOf _ _ [] [] ?_ ?_ rfl rfl
    · simp [cv, cvL, cv1, cv0, upd, lk, srcOf, intD, psI]
    · simp
  · rintro i ⟨hi, hf⟩
    rw [stOf_eq]
    clear hR
    by_cases hlt : i < l.length
    · have g1 : decide ((i : Int) < (l.length : Int)) = true := decide_eq_true (by omega)
      have e1 : (l.map encPr)[i]? = some [bI l[i].k, bI l[i].v] := by rw [List.getElem?_map, List.getElem?_eq_getElem hlt]; rfl
      have w1 : IntKind.i64.wrap ((i : Int) + 1) = ((i + 1 : Nat) : Int) := by rw [wrap64 (by omega) (by omega)]; omega
      rw [List.drop_eq_getElem_cons hlt, List.find?_cons] at hf
      have hsm := same_A l[i].k key (by have := hb _ (List.getElem_mem hlt); omega)
      generalize l[i] = q at *
      by_cases hk : q.k = key
      · rw [decide_eq_true hk] at hsm hf
        simp only at hf
        subst hf
        (repeat (first | (simp -implicitDefEqProofs only [ev1, ev2, ev3, ev4, ev5, ev6, mixed, Nat.reduceLT, Nat.reduceAdd, Nat.reduceMul, reduceIte, Nat.reduceEqDiff, reduceCtorEq, Nat.reducePow, Nat.reduceLeDiff, Int.reduceLE, Int.reduceLT, Int.reduceToNat, Int.reduceEq, Nat.reduceBEq, itsOf, gdA, byteI, opid, lenQ, ixQ, ldH, readAt, readCells, asCell, faQ, exQ, fldQ, partA, buildQ, slQ, stH, bslH, appH, dcells, convI, elemsOf, D.one, nilS, fillD, convN, cvH, T3, T5, T22, T23, T52, intD, psI, g1, e1]) | (with_reducible refine ⟨?_, ?_⟩; (· first | (obtain ⟨rfl⟩ := ‹Hq _ _›; with_reducible refine chk_ok ?_; kernel_rfl) | kernel_rfl)) | (with_reducible intro ops hops)))
        (first | refine Call_flat [] [] (hsm) (by simp [cvAs, cvA, cv1, cvL, cv0, bI, byteI, encPr, prD, psI, intD, boolD, fltD, doI, elemsOf, upd]) rfl ?_ | refine CallF_flat [] [] [] (hsm) (fun G _ => by simp [cvAs, cvA, cv1, cvL, cv0, bI, byteI, encPr, prD, psI, intD, boolD, fltD, doI, elemsOf, upd]) rfl ?_)
        (repeat (first | (simp -implicitDefEqProofs only [ev1, ev2, ev3, ev4, ev5, ev6, mixed, Nat.reduceLT, Nat.reduceAdd, Nat.reduceMul, reduceIte, Nat.reduceEqDiff, reduceCtorEq, Nat.reducePow, Nat.reduceLeDiff, Int.reduceLE, Int.reduceLT, Int.reduceToNat, Int.reduceEq, Nat.reduceBEq, itsOf, gdA, byteI, opid, lenQ, ixQ, ldH, readAt, readCells, asCell, faQ, exQ, fldQ, partA, buildQ, slQ, stH, bslH, appH, dcells, convI, elemsOf, D.one, nilS, fillD, convN, cvH, T3, T5, T22, T23, T52, intD]) | (with_reducible refine ⟨?_, ?_⟩; (· first | (obtain ⟨rfl⟩ := ‹Hq _ _›; with_reducible refine chk_ok ?_; kernel_rfl) | kernel_rfl)) | (with_reducible intro ops hops)))
        refine fin_tt [] rfl ?_
        simp [cv, cvT, cv1, cv0, upd, boolD]
      · rw [decide_eq_false hk] at hsm hf
        simp only at hf
        (repeat (first | (simp -implicitDefEqProofs only [ev1, ev2, ev3, ev4, ev5, ev6, mixed, Nat.reduceLT, Nat.reduceAdd, Nat.reduceMul, reduceIte, Nat.reduceEqDiff, reduceCtorEq, Nat.reducePow, Nat.reduceLeDiff, Int.reduceLE, Int.reduceLT, Int.reduceToNat, Int.reduceEq, Nat.reduceBEq, itsOf, gdA, byteI, opid, lenQ, ixQ, ldH, readAt, readCells, asCell, faQ, exQ, fldQ, partA, buildQ, slQ, stH, bslH, appH, dcells, convI, elemsOf, D.one, nilS, fillD, convN, cvH, T3, T5, T22, T23, T52, intD, psI, g1, e1]) | (with_reducible refine ⟨?_, ?_⟩; (· first | (obtain ⟨rfl⟩ := ‹Hq _ _›; with_reducible refine chk_ok ?_; kernel_rfl) | kernel_rfl)) | (with_reducible intro ops hops)))
        (first | refine Call_flat [] [] (hsm) (by simp [cvAs, cvA, cv1, cvL, cv0, bI, byteI, encPr, prD, psI, intD, boolD, fltD, doI, elemsOf, upd]) rfl ?_ | refine CallF_flat [] [] [] (hsm) (fun G _ => by simp [cvAs, cvA, cv1, cvL, cv0, bI, byteI, encPr, prD, psI, intD, boolD, fltD, doI, elemsOf, upd]) rfl ?_)
        (repeat (first | (simp -implicitDefEqProofs only [ev1, ev2, ev3, ev4, ev5, ev6, mixed, Nat.reduceLT, Nat.reduceAdd, Nat.reduceMul, reduceIte, Nat.reduceEqDiff, reduceCtorEq, Nat.reducePow, Nat.reduceLeDiff, Int.reduceLE, Int.reduceLT, Int.reduceToNat, Int.reduceEq, Nat.reduceBEq, itsOf, gdA, byteI, opid, lenQ, ixQ, ldH, readAt, readCells, asCell, faQ, exQ, fldQ, partA, buildQ, slQ, stH, bslH, appH, dcells, convI, elemsOf, D.one, nilS, fillD, convN, cvH, T3, T5, T22, T23, T52, intD, w1]) | (with_reducible refine ⟨?_, ?_⟩; (· first | (obtain ⟨rfl⟩ := ‹Hq _ _›; with_reducible refine chk_ok ?_; kernel_rfl) | kernel_rfl)) | (with_reducible intro ops hops)))
        refine ⟨i + 1, ⟨hlt, hf⟩, le_stOf _ _ [] [] ?_ ?_ rfl rfl, by simp; omega⟩
        · simp [cv, cvL, cv1, cv0, upd, lk, srcOf, intD, psI]
        · simp
    · have g1 : decide ((i : Int) < (l.length : Int)) = false := decide_eq_false (by omega)
      rw [List.drop_eq_nil_of_le (by omega), List.find?_nil] at hf
      subst hf
      (repeat (first | (simp -implicitDefEqProofs only [ev1, ev2, ev3, ev4, ev5, ev6, mixed, Nat.reduceLT, Nat.reduceAdd, Nat.reduceMul, reduceIte, Nat.reduceEqDiff, reduceCtorEq, Nat.reducePow, Nat.reduceLeDiff, Int.reduceLE, Int.reduceLT, Int.reduceToNat, Int.reduceEq, Nat.reduceBEq, itsOf, gdA, byteI, opid, lenQ, ixQ, ldH, readAt, readCells, asCell, faQ, exQ, fldQ, partA, buildQ, slQ, stH, bslH, appH, dcells, convI, elemsOf, D.one, nilS, fillD, convN, cvH, T3, T5, T22, T23, T52, intD, g1]) | (with_reducible refine ⟨?_, ?_⟩; (· first | (obtain ⟨rfl⟩ := ‹Hq _ _›; with_reducible refine chk_ok ?_; kernel_rfl) | kernel_rfl)) | (with_reducible intro ops hops)))
      refine fin_tt [] rfl ?_
      simp [cv, cvT, cv1, cv0, upd, boolD, bI]
theorem rsame_A (l : List PairD) (hl : l.length ≤ 1048576) (hb : ∀ p ∈ l, p.k.length ≤ 1048576 ∧ p.v.length ≤ 1048576) :
    PureD Try.prog 32 [.i (psI l), .i (psI l)] (.i (.s (.bool true))) := by
  have g0 : decide ((l.length : Int) = (l.length : Int)) = true := decide_eq_true rfl
  refine callD_W 43 Try.func32 rfl rfl rfl (fun _ _ => rfl) ?_
  (repeat (first | (simp -implicitDefEqProofs only [ev1, ev2, ev3, ev4, ev5, ev6, mixed, Nat.reduceLT, Nat.reduceAdd, Nat.reduceMul, reduceIte, Nat.reduceEqDiff, reduceCtorEq, Nat.reducePow, Nat.reduceLeDiff, Int.reduceLE, Int.reduceLT, Int.reduceToNat, Int.reduceEq, Nat.reduceBEq, itsOf, gdA, byteI, opid, lenQ, ixQ, ldH, readAt, readCells, asCell, faQ, exQ, fldQ, partA, buildQ, slQ, stH, bslH, appH, dcells, convI, elemsOf, D.one, nilS, fillD, convN, cvH, T3, T4, T5, T22, T23, T52, psI, g0]) | (with_reducible refine ⟨?_, ?_⟩; (· first | (obtain ⟨rfl⟩ := ‹Hq _ _›; with_reducible refine chk_ok ?_; kernel_rfl) | kernel_rfl)) | (with_reducible intro ops hops)))
  refine W_loopI (ι := Nat) (fun i => i ≤ l.length) (fun i => stOf [(0, .i (psI l)), (1, .i (psI l)), (12, intD l.length), (13, intD i)] []) (fun i => l.length - i) 0 (Nat.zero_le _) ?_ ?_
  · refine le_stOf _ _ [] [] ?_ ?_ rfl rfl
    · simp [cv, cvL, cv1, cv0, upd, lk, srcOf, intD, psI]
    · simp
  · rintro i hi
    rw [stOf_eq]
    by_cases hlt : i < l.length
    · have g1 : decide ((i : Int) < (l.length : Int)) = true := decide_eq_true (by omega)
      have e1 : (l.map encPr)[i]? = some [bI l[i].k, bI l[i].v] := by rw [List.getElem?_map, List.getElem?_eq_getElem hlt]; rfl
      have w1 : IntKind.i64.wrap ((i : Int) + 1) = ((i + 1 : Nat) : Int) := by rw [wrap64 (by omega) (by omega)]; omega
      have hbl := hb _ (List.getElem_mem hlt)
      have s1 := same_A l[i].k l[i].k (by omega)
      have s2 := same_A l[i].v l[i].v (by omega)
      rw [decide_eq_true rfl] at s1 s2
      generalize l[i] = q at *
      (repeat (first | (simp -implicitDefEqProofs only [ev1, ev2, ev3, ev4, ev5, ev6, mixed, Nat.reduceLT, Nat.reduceAdd, Nat.reduceMul, reduceIte, Nat.reduceEqDiff, reduceCtorEq, Nat.reducePow, Nat.reduceLeDiff, Int.reduceLE, Int.reduceLT, Int.reduceToNat, Int.reduceEq, Nat.reduceBEq, itsOf, gdA, byteI, opid, lenQ, ixQ, ldH, readAt, readCells, asCell, faQ, exQ, fldQ, partA, buildQ, slQ, stH, bslH, appH, dcells, convI, elemsOf, D.one, nilS, fillD, convN, cvH, T3, T4, T5, T22, T23, T52, intD, psI, g1, e1]) | (with_reducible refine ⟨?_, ?_⟩; (· first | (obtain ⟨rfl⟩ := ‹Hq _ _›; with_reducible refine chk_ok ?_; kernel_rfl) | kernel_rfl)) | (with_reducible intro ops hops)))
      (first | refine Call_flat [] [] (s1) (by simp [cvAs, cvA, cv1, cvL, cv0, bI, byteI, encPr, prD, psI, intD, boolD, fltD, doI, elemsOf, upd]) rfl ?_ | refine CallF_flat [] [] [] (s1) (fun G _ => by simp [cvAs, cvA, cv1, cvL, cv0, bI, byteI, encPr, prD, psI, intD, boolD, fltD, doI, elemsOf, upd]) rfl ?_)
      (repeat (first | (simp -implicitDefEqProofs only [ev1, ev2, ev3, ev4, ev5, ev6, mixed, Nat.reduceLT, Nat.reduceAdd, Nat.reduceMul, reduceIte, Nat.reduceEqDiff, reduceCtorEq, Nat.reducePow, Nat.reduceLeDiff, Int.reduceLE, Int.reduceLT, Int.reduceToNat, Int.reduceEq, Nat.reduceBEq, itsOf, gdA, byteI, opid, lenQ, ixQ, ldH, readAt, readCells, asCell, faQ, exQ, fldQ, partA, buildQ, slQ, stH, bslH, appH, dcells, convI, elemsOf, D.one, nilS, fillD, convN, cvH, T3, T4, T5, T22, T23, T52, intD, psI, e1]) | (with_reducible refine ⟨?_, ?_⟩; (· first | (obtain ⟨rfl⟩ := ‹Hq _ _›; with_reducible refine chk_ok ?_; kernel_rfl) | kernel_rfl)) | (with_reducible intro ops hops)))
      (first | refine Call_flat [] [] (s2) (by simp [cvAs, cvA, cv1, cvL, cv0, bI, byteI, encPr, prD, psI, intD, boolD, fltD, doI, elemsOf, upd]) rfl ?_ | refine CallF_flat [] [] [] (s2) (fun G _ => by simp [cvAs, cvA, cv1, cvL, cv0, bI, byteI, encPr, prD, psI, intD, boolD, fltD, doI, elemsOf, upd]) rfl ?_)
      (repeat (first | (simp -implicitDefEqProofs only [ev1, ev2, ev3, ev4, ev5, ev6, mixed, Nat.reduceLT, Nat.reduceAdd, Nat.reduceMul, reduceIte, Nat.reduceEqDiff, reduceCtorEq, Nat.reducePow, Nat.reduceLeDiff, Int.reduceLE, Int.reduceLT, Int.reduceToNat, Int.reduceEq, Nat.reduceBEq, itsOf, gdA, byteI, opid, lenQ, ixQ, ldH, readAt, readCells, asCell, faQ, exQ, fldQ, partA, buildQ, slQ, stH, bslH, appH, dcells, convI, elemsOf, D.one, nilS, fillD, convN, cvH, T3, T4, T5, T22, T23, T52, intD, w1]) | (with_reducible refine ⟨?_, ?_⟩; (· first | (obtain ⟨rfl⟩ := ‹Hq _ _›; with_reducible refine chk_ok ?_; kernel_rfl) | kernel_rfl)) | (with_reducible intro ops hops)))
      refine ⟨i + 1, hlt, le_stOf _ _ [] [] ?_ ?_ rfl rfl, by simp; omega⟩
      · simp [cv, cvL, cv1, cv0, upd, lk, srcOf, intD, psI]
      · simp
    · have g1 : decide ((i : Int) < (l.length : Int)) = false := decide_eq_false (by omega)
      (repeat (first | (simp -implicitDefEqProofs only [ev1, ev2, ev3, ev4, ev5, ev6, mixed, Nat.reduceLT, Nat.reduceAdd, Nat.reduceMul, reduceIte, Nat.reduceEqDiff, reduceCtorEq, Nat.reducePow, Nat.reduceLeDiff, Int.reduceLE, Int.reduceLT, Int.reduceToNat, Int.reduceEq, Nat.reduceBEq, itsOf, gdA, byteI, opid, lenQ, ixQ, ldH, readAt, readCells, asCell, faQ, exQ, fldQ, partA, buildQ, slQ, stH, bslH, appH, dcells, convI, elemsOf, D.one, nilS, fillD, convN, cvH, T3, T4, T5, T22, T23, T52, intD, g1]) | (with_reducible refine ⟨?_, ?_⟩; (· first | (obtain ⟨rfl⟩ := ‹Hq _ _›; with_reducible refine chk_ok ?_; kernel_rfl) | kernel_rfl)) | (with_reducible intro ops hops)))
      refine fin_ret [] rfl ?_
      simp [cv, cv1, cv0, upd]
theorem rroot_A (l : List PairD) (hl : l.length ≤ 1048576) (hb : ∀ p ∈ l, p.k.length ≤ 1048576 ∧ p.v.length ≤ 1048576) :
    PureD Try.prog 34 [.i (psI l)] (.tup [.i (bI (rootR l)), fltD (wrongF l).1 (wrongF l).2]) := by
  have hw := rwrong_A l hl (fun p hp => (hb p hp).1)
  unfold rootR
  by_cases h0 : (wrongF l).1 = 0
  · have hr := right_of h0
    have hz := wrong_zero h0
    rw [if_pos h0, hz]
    rw [hz] at hw
    simp only at *
    have htl : (treeF l).length ≤ 32 := by
      by_cases hn : l = []
      · subst hn; simp [treeF]
      · exact Nat.le_of_eq (treeF_len l hn)
    have htr := rtree_A _ l rfl hl hb
    have ht := rtop_A l.length (treeF l) hl (by omega)
    rw [show topF l.length (treeF l) = rootF l from rfl] at ht
    generalize rootF l = R at *
    generalize treeF l = T at *
    refine callD_W 17 Try.func34 rfl rfl rfl (fun _ _ => rfl) ?_
    (repeat (first | (simp -implicitDefEqProofs only [ev1, ev2, ev3, ev4, ev5, ev6, mixed, Nat.reduceLT, Nat.reduceAdd, Nat.reduceMul, reduceIte, Nat.reduceEqDiff, reduceCtorEq, Nat.reducePow, Nat.reduceLeDiff, Int.reduceLE, Int.reduceLT, Int.reduceToNat, Int.reduceEq, Nat.reduceBEq, itsOf, gdA, byteI, opid, lenQ, ixQ, ldH, readAt, readCells, asCell, faQ, exQ, fldQ, partA, buildQ, slQ, stH, bslH, appH, dcells, convI, elemsOf, D.one, nilS, fillD, convN, cvH, T3, T5, T22, T23, T28, T33, T52, psI]) | (with_reducible refine ⟨?_, ?_⟩; (· first | (obtain ⟨rfl⟩ := ‹Hq _ _›; with_reducible refine chk_ok ?_; kernel_rfl) | kernel_rfl)) | (with_reducible intro ops hops)))
    (first | refine Call_flat [] [] (hw) (by simp [cvAs, cvA, cv1, cvL, cv0, bI, byteI, encPr, prD, psI, intD, boolD, fltD, doI, elemsOf, upd]) rfl ?_ | refine CallF_flat [] [] [] (hw) (fun G _ => by simp [cvAs, cvA, cv1, cvL, cv0, bI, byteI, encPr, prD, psI, intD, boolD, fltD, doI, elemsOf, upd]) rfl ?_)
    (repeat (first | (simp -implicitDefEqProofs only [ev1, ev2, ev3, ev4, ev5, ev6, mixed, Nat.reduceLT, Nat.reduceAdd, Nat.reduceMul, reduceIte, Nat.reduceEqDiff, reduceCtorEq, Nat.reducePow, Nat.reduceLeDiff, Int.reduceLE, Int.reduceLT, Int.reduceToNat, Int.reduceEq, Nat.reduceBEq, itsOf, gdA, byteI, opid, lenQ, ixQ, ldH, readAt, readCells, asCell, faQ, exQ, fldQ, partA, buildQ, slQ, stH, bslH, appH, dcells, convI, elemsOf, D.one, nilS, fillD, convN, cvH, T3, T5, T22, T23, T28, T33, T52, fltD, intD, psI]) | (with_reducible refine ⟨?_, ?_⟩; (· first | (obtain ⟨rfl⟩ := ‹Hq _ _›; with_reducible refine chk_ok ?_; kernel_rfl) | kernel_rfl)) | (with_reducible intro ops hops)))
    (first | refine Call_frz [] (htr) (by simp [cvAs, cvA, cv1, cvL, cv0, bI, byteI, encPr, prD, psI, intD, boolD, fltD, doI, elemsOf, upd]) ?_ | refine CallF_frz [] [] (htr) (fun G _ => by simp [cvAs, cvA, cv1, cvL, cv0, bI, byteI, encPr, prD, psI, intD, boolD, fltD, doI, elemsOf, upd]) (by simp) ?_)
    (repeat (first | (simp -implicitDefEqProofs only [ev1, ev2, ev3, ev4, ev5, ev6, mixed, Nat.reduceLT, Nat.reduceAdd, Nat.reduceMul, reduceIte, Nat.reduceEqDiff, reduceCtorEq, Nat.reducePow, Nat.reduceLeDiff, Int.reduceLE, Int.reduceLT, Int.reduceToNat, Int.reduceEq, Nat.reduceBEq, itsOf, gdA, byteI, opid, lenQ, ixQ, ldH, readAt, readCells, asCell, faQ, exQ, fldQ, partA, buildQ, slQ, stH, bslH, appH, dcells, convI, elemsOf, D.one, nilS, fillD, convN, cvH, T3, T5, T22, T23, T28, T33, T52, bI]) | (with_reducible refine ⟨?_, ?_⟩; (· first | (obtain ⟨rfl⟩ := ‹Hq _ _›; with_reducible refine chk_ok ?_; kernel_rfl) | kernel_rfl)) | (with_reducible intro ops hops)))
    (first | refine Call_frz [] (ht) (by simp [cvAs, cvA, cv1, cvL, cv0, bI, byteI, encPr, prD, psI, intD, boolD, fltD, doI, elemsOf, upd]) ?_ | refine CallF_frz [] [] (ht) (fun G _ => by simp [cvAs, cvA, cv1, cvL, cv0, bI, byteI, encPr, prD, psI, intD, boolD, fltD, doI, elemsOf, upd]) (by simp) ?_)
    (repeat (first | (simp -implicitDefEqProofs only [ev1, ev2, ev3, ev4, ev5, ev6, mixed, Nat.reduceLT, Nat.reduceAdd, Nat.reduceMul, reduceIte, Nat.reduceEqDiff, reduceCtorEq, Nat.reducePow, Nat.reduceLeDiff, Int.reduceLE, Int.reduceLT, Int.reduceToNat, Int.reduceEq, Nat.reduceBEq, itsOf, gdA, byteI, opid, lenQ, ixQ, ldH, readAt, readCells, asCell, faQ, exQ, fldQ, partA, buildQ, slQ, stH, bslH, appH, dcells, convI, elemsOf, D.one, nilS, fillD, convN, cvH, T3, T5, T22, T23, T28, T33, T52, bI]) | (with_reducible refine ⟨?_, ?_⟩; (· first | (obtain ⟨rfl⟩ := ‹Hq _ _›; with_reducible refine chk_ok ?_; kernel_rfl) | kernel_rfl)) | (with_reducible intro ops hops)))
    refine fin_2 [] rfl ag33 sz33 (by simp [upd, readAt, readCells]; rfl) ?_
    simp [cv, cvT, cv1, cvL, cv0, upd, fltD, intD, bI]
  · rw [if_neg h0]
    generalize wrongF l = W at *
    have g1 : decide ((W.1 : Int) = 0) = false := by simp; omega
    refine callD_W 17 Try.func34 rfl rfl rfl (fun _ _ => rfl) ?_
    (repeat (first | (simp -implicitDefEqProofs only [ev1, ev2, ev3, ev4, ev5, ev6, mixed, Nat.reduceLT, Nat.reduceAdd, Nat.reduceMul, reduceIte, Nat.reduceEqDiff, reduceCtorEq, Nat.reducePow, Nat.reduceLeDiff, Int.reduceLE, Int.reduceLT, Int.reduceToNat, Int.reduceEq, Nat.reduceBEq, itsOf, gdA, byteI, opid, lenQ, ixQ, ldH, readAt, readCells, asCell, faQ, exQ, fldQ, partA, buildQ, slQ, stH, bslH, appH, dcells, convI, elemsOf, D.one, nilS, fillD, convN, cvH, T3, T5, T22, T23, T28, T33, T52, psI]) | (with_reducible refine ⟨?_, ?_⟩; (· first | (obtain ⟨rfl⟩ := ‹Hq _ _›; with_reducible refine chk_ok ?_; kernel_rfl) | kernel_rfl)) | (with_reducible intro ops hops)))
    (first | refine Call_flat [] [] (hw) (by simp [cvAs, cvA, cv1, cvL, cv0, bI, byteI, encPr, prD, psI, intD, boolD, fltD, doI, elemsOf, upd]) rfl ?_ | refine CallF_flat [] [] [] (hw) (fun G _ => by simp [cvAs, cvA, cv1, cvL, cv0, bI, byteI, encPr, prD, psI, intD, boolD, fltD, doI, elemsOf, upd]) rfl ?_)
    (repeat (first | (simp -implicitDefEqProofs only [ev1, ev2, ev3, ev4, ev5, ev6, mixed, Nat.reduceLT, Nat.reduceAdd, Nat.reduceMul, reduceIte, Nat.reduceEqDiff, reduceCtorEq, Nat.reducePow, Nat.reduceLeDiff, Int.reduceLE, Int.reduceLT, Int.reduceToNat, Int.reduceEq, Nat.reduceBEq, itsOf, gdA, byteI, opid, lenQ, ixQ, ldH, readAt, readCells, asCell, faQ, exQ, fldQ, partA, buildQ, slQ, stH, bslH, appH, dcells, convI, elemsOf, D.one, nilS, fillD, convN, cvH, T3, T5, T22, T23, T28, T33, T52, fltD, intD, g1]) | (with_reducible refine ⟨?_, ?_⟩; (· first | (obtain ⟨rfl⟩ := ‹Hq _ _›; with_reducible refine chk_ok ?_; kernel_rfl) | kernel_rfl)) | (with_reducible intro ops hops)))
    refine fin_2 [] rfl ag33 sz33 (by simp [upd, readAt, readCells]; rfl) ?_
    simp [cv, cvT, cv1, cvL, cv0, upd, fltD, intD, bI]
theorem rplay_A (ds : List DoD) (hl : ds.length ≤ 1099511627776) :
    PureD Try.prog 38 [.i (doI ds)] (.tup [.i (psI (playGo [] 0 ds).1), fltD (playGo [] 0 ds).2.1 (playGo [] 0 ds).2.2]) := by
  generalize hR : playGo [] 0 ds = R
  refine callD_W 47 Try.func38 rfl rfl rfl (fun _ _ => rfl) ?_
  (repeat (first | (simp -implicitDefEqProofs only [ev1, ev2, ev3, ev4, ev5, ev6, mixed, Nat.reduceLT, Nat.reduceAdd, Nat.reduceMul, reduceIte, Nat.reduceEqDiff, reduceCtorEq, Nat.reducePow, Nat.reduceLeDiff, Int.reduceLE, Int.reduceLT, Int.reduceToNat, Int.reduceEq, Nat.reduceBEq, itsOf, gdA, byteI, opid, lenQ, ixQ, ldH, readAt, readCells, asCell, faQ, exQ, fldQ, partA, buildQ, slQ, stH, bslH, appH, dcells, convI, elemsOf, D.one, nilS, fillD, convN, cvH, T3, T4, T5, T22, T23, T28, T33, T52, T55, T57, doI]) | (with_reducible refine ⟨?_, ?_⟩; (· first | (obtain ⟨rfl⟩ := ‹Hq _ _›; with_reducible refine chk_ok ?_; kernel_rfl) | kernel_rfl)) | (with_reducible intro ops hops)))
  refine W_loopI (ι := Nat × List PairD) (fun s => s.1 ≤ ds.length ∧ Right s.2 ∧ playGo s.2 s.1 (ds.drop s.1) = R)
    (fun s => stOf [(3, .pt 101 0 0 0), (4, .i (psI s.2)), (7, .i (doI ds)), (8, intD ds.length), (9, intD s.1)] [(101, .box [intD 0, intD 0])]) (fun s => ds.length - s.1) (0, []) ⟨Nat.zero_le _, right_nil, hR⟩ ?_ ?_
  · refine le_stOf _ _ [] [(101, 1001)] ?_ ?_ rfl rfl
    · simp [cv, cvL, cv1, cv0, upd, lk, srcOf, intD, doI, psI]
    · simp [objOk, srcOf, lk, cvO, cvL, cv0, frz, upd, D.one, intD, hO]
  · rintro ⟨i, l⟩ ⟨hi, hr, hp⟩
    simp only at hi hr hp
    rw [stOf_eq]
    clear hR
    have hll := hr.len
    by_cases hlt : i < ds.length
    · have g1 : decide ((i : Int) < (ds.length : Int)) = true := decide_eq_true (by omega)
      have e1 : (ds.map encDo)[i]? = some [bI ds[i].k, bI ds[i].v, .s (.bool ds[i].g)] := by rw [List.getElem?_map, List.getElem?_eq_getElem hlt]; rfl
      have w1 : IntKind.i64.wrap ((i : Int) + 1) = ((i + 1 : Nat) : Int) := by rw [wrap64 (by omega) (by omega)]; omega
      rw [List.drop_eq_getElem_cons hlt] at hp
      generalize ds[i] = d at *
      have hst := fun h1 h2 => step_right (d := d) hr h1 h2
      obtain ⟨dk, dv, dg⟩ := d
      simp only at *
      have hbig : bigP ⟨dk, dv⟩ = (decide ((60 : Int) < (dk.length : Int)) || decide ((200 : Int) < (dv.length : Int))) := by
        unfold bigP
        congr 1
        · by_cases h : 60 < dk.length
          · rw [decide_eq_true h, decide_eq_true (by omega)]
          · rw [decide_eq_false h, decide_eq_false (by omega)]
        · by_cases h : 200 < dv.length
          · rw [decide_eq_true h, decide_eq_true (by omega)]
          · rw [decide_eq_false h, decide_eq_false (by omega)]
      have hd := drop_A l dk (by omega) (fun p hp => by have := hr.big p hp; omega)
      have hset := set_A l ⟨dk, dv⟩ (srt_of hr) (by omega) (fun p hp => by have := hr.big p hp; omega)
      simp only [prD] at hset
      cases g2 : decide ((60 : Int) < (dk.length : Int))
      · cases g3 : decide ((200 : Int) < (dv.length : Int))
        · rw [g2, g3] at hbig
          simp only [Bool.or_self] at hbig
          simp only [playGo, hbig, Bool.false_eq_true, if_false] at hp
          have hst2 := hst hbig
          cases dg
          · have hsp : stepP l ⟨dk, dv, false⟩ = putP l ⟨dk, dv⟩ := rfl
            rw [hsp] at hp hst2
            generalize putP l ⟨dk, dv⟩ = m at *
            by_cases h200 : 200 < m.length
            · have g4 : decide ((200 : Int) < (m.length : Int)) = true := decide_eq_true (by omega)
              rw [if_pos h200] at hp
              subst hp
              (repeat (first | (simp -implicitDefEqProofs only [ev1, ev2, ev3, ev4, ev5, ev6, mixed, Nat.reduceLT, Nat.reduceAdd, Nat.reduceMul, reduceIte, Nat.reduceEqDiff, reduceCtorEq, Nat.reducePow, Nat.reduceLeDiff, Int.reduceLE, Int.reduceLT, Int.reduceToNat, Int.reduceEq, Nat.reduceBEq, itsOf, gdA, byteI, opid, lenQ, ixQ, ldH, readAt, readCells, asCell, faQ, exQ, fldQ, partA, buildQ, slQ, stH, bslH, appH, dcells, convI, elemsOf, D.one, nilS, fillD, convN, cvH, T3, T4, T5, T22, T23, T28, T33, T52, T55, T57, intD, doI, g1, e1, bI, g2, g3]) | (with_reducible refine ⟨?_, ?_⟩; (· first | (obtain ⟨rfl⟩ := ‹Hq _ _›; with_reducible refine chk_ok ?_; kernel_rfl) | kernel_rfl)) | (with_reducible intro ops hops)))
              (first | refine Call_frz [] (hset) (by simp [cvAs, cvA, cv1, cvL, cv0, bI, byteI, encPr, prD, psI, intD, boolD, fltD, doI, elemsOf, upd]) ?_ | refine CallF_frz [] [] (hset) (fun G _ => by simp [cvAs, cvA, cv1, cvL, cv0, bI, byteI, encPr, prD, psI, intD, boolD, fltD, doI, elemsOf, upd]) (by simp) ?_)
              (repeat (first | (simp -implicitDefEqProofs only [ev1, ev2, ev3, ev4, ev5, ev6, mixed, Nat.reduceLT, Nat.reduceAdd, Nat.reduceMul, reduceIte, Nat.reduceEqDiff, reduceCtorEq, Nat.reducePow, Nat.reduceLeDiff, Int.reduceLE, Int.reduceLT, Int.reduceToNat, Int.reduceEq, Nat.reduceBEq, itsOf, gdA, byteI, opid, lenQ, ixQ, ldH, readAt, readCells, asCell, faQ, exQ, fldQ, partA, buildQ, slQ, stH, bslH, appH, dcells, convI, elemsOf, D.one, nilS, fillD, convN, cvH, T3, T4, T5, T22, T23, T28, T33, T52, T55, T57, intD, psI, g4]) | (with_reducible refine ⟨?_, ?_⟩; (· first | (obtain ⟨rfl⟩ := ‹Hq _ _›; with_reducible refine chk_ok ?_; kernel_rfl) | kernel_rfl)) | (with_reducible intro ops hops)))
              refine fin_2 [] rfl ag33 sz33 (by simp [upd, readAt, readCells, hO, lk]; rfl) ?_
              simp [cv, cvT, cv1, cvL, cv0, upd, fltD, intD, psI]
            · have g4 : decide ((200 : Int) < (m.length : Int)) = false := decide_eq_false (by omega)
              rw [if_neg h200] at hp
              (repeat (first | (simp -implicitDefEqProofs only [ev1, ev2, ev3, ev4, ev5, ev6, mixed, Nat.reduceLT, Nat.reduceAdd, Nat.reduceMul, reduceIte, Nat.reduceEqDiff, reduceCtorEq, Nat.reducePow, Nat.reduceLeDiff, Int.reduceLE, Int.reduceLT, Int.reduceToNat, Int.reduceEq, Nat.reduceBEq, itsOf, gdA, byteI, opid, lenQ, ixQ, ldH, readAt, readCells, asCell, faQ, exQ, fldQ, partA, buildQ, slQ, stH, bslH, appH, dcells, convI, elemsOf, D.one, nilS, fillD, convN, cvH, T3, T4, T5, T22, T23, T28, T33, T52, T55, T57, intD, doI, g1, e1, bI, g2, g3]) | (with_reducible refine ⟨?_, ?_⟩; (· first | (obtain ⟨rfl⟩ := ‹Hq _ _›; with_reducible refine chk_ok ?_; kernel_rfl) | kernel_rfl)) | (with_reducible intro ops hops)))
              (first | refine Call_frz [] (hset) (by simp [cvAs, cvA, cv1, cvL, cv0, bI, byteI, encPr, prD, psI, intD, boolD, fltD, doI, elemsOf, upd]) ?_ | refine CallF_frz [] [] (hset) (fun G _ => by simp [cvAs, cvA, cv1, cvL, cv0, bI, byteI, encPr, prD, psI, intD, boolD, fltD, doI, elemsOf, upd]) (by simp) ?_)
              (repeat (first | (simp -implicitDefEqProofs only [ev1, ev2, ev3, ev4, ev5, ev6, mixed, Nat.reduceLT, Nat.reduceAdd, Nat.reduceMul, reduceIte, Nat.reduceEqDiff, reduceCtorEq, Nat.reducePow, Nat.reduceLeDiff, Int.reduceLE, Int.reduceLT, Int.reduceToNat, Int.reduceEq, Nat.reduceBEq, itsOf, gdA, byteI, opid, lenQ, ixQ, ldH, readAt, readCells, asCell, faQ, exQ, fldQ, partA, buildQ, slQ, stH, bslH, appH, dcells, convI, elemsOf, D.one, nilS, fillD, convN, cvH, T3, T4, T5, T22, T23, T28, T33, T52, T55, T57, intD, psI, g4, w1]) | (with_reducible refine ⟨?_, ?_⟩; (· first | (obtain ⟨rfl⟩ := ‹Hq _ _›; with_reducible refine chk_ok ?_; kernel_rfl) | kernel_rfl)) | (with_reducible intro ops hops)))
              refine ⟨(i + 1, m), ⟨hlt, hst2 h200, hp⟩, le_stOf _ _ [] [(101, 101)] ?_ ?_ rfl rfl, by simp; omega⟩
              · simp [cv, cvL, cv1, cv0, upd, lk, srcOf, intD, doI, psI]
              · simp [objOk, srcOf, lk, cvO, cvL, cv0, frz, upd, D.one, intD, hO]
          · have hsp : stepP l ⟨dk, dv, true⟩ = rmP l dk := rfl
            have hrl := rm_len l dk
            rw [hsp, if_neg (by omega)] at hp
            rw [hsp] at hst2
            generalize rmP l dk = m at *
            (repeat (first | (simp -implicitDefEqProofs only [ev1, ev2, ev3, ev4, ev5, ev6, mixed, Nat.reduceLT, Nat.reduceAdd, Nat.reduceMul, reduceIte, Nat.reduceEqDiff, reduceCtorEq, Nat.reducePow, Nat.reduceLeDiff, Int.reduceLE, Int.reduceLT, Int.reduceToNat, Int.reduceEq, Nat.reduceBEq, itsOf, gdA, byteI, opid, lenQ, ixQ, ldH, readAt, readCells, asCell, faQ, exQ, fldQ, partA, buildQ, slQ, stH, bslH, appH, dcells, convI, elemsOf, D.one, nilS, fillD, convN, cvH, T3, T4, T5, T22, T23, T28, T33, T52, T55, T57, intD, doI, g1, e1, bI, g2, g3]) | (with_reducible refine ⟨?_, ?_⟩; (· first | (obtain ⟨rfl⟩ := ‹Hq _ _›; with_reducible refine chk_ok ?_; kernel_rfl) | kernel_rfl)) | (with_reducible intro ops hops)))
            (first | refine Call_frz [] (hd) (by simp [cvAs, cvA, cv1, cvL, cv0, bI, byteI, encPr, prD, psI, intD, boolD, fltD, doI, elemsOf, upd]) ?_ | refine CallF_frz [] [] (hd) (fun G _ => by simp [cvAs, cvA, cv1, cvL, cv0, bI, byteI, encPr, prD, psI, intD, boolD, fltD, doI, elemsOf, upd]) (by simp) ?_)
            (repeat (first | (simp -implicitDefEqProofs only [ev1, ev2, ev3, ev4, ev5, ev6, mixed, Nat.reduceLT, Nat.reduceAdd, Nat.reduceMul, reduceIte, Nat.reduceEqDiff, reduceCtorEq, Nat.reducePow, Nat.reduceLeDiff, Int.reduceLE, Int.reduceLT, Int.reduceToNat, Int.reduceEq, Nat.reduceBEq, itsOf, gdA, byteI, opid, lenQ, ixQ, ldH, readAt, readCells, asCell, faQ, exQ, fldQ, partA, buildQ, slQ, stH, bslH, appH, dcells, convI, elemsOf, D.one, nilS, fillD, convN, cvH, T3, T4, T5, T22, T23, T28, T33, T52, T55, T57, intD, psI, w1]) | (with_reducible refine ⟨?_, ?_⟩; (· first | (obtain ⟨rfl⟩ := ‹Hq _ _›; with_reducible refine chk_ok ?_; kernel_rfl) | kernel_rfl)) | (with_reducible intro ops hops)))
            refine ⟨(i + 1, m), ⟨hlt, hst2 (by omega), hp⟩, le_stOf _ _ [] [(101, 101)] ?_ ?_ rfl rfl, by simp; omega⟩
            · simp [cv, cvL, cv1, cv0, upd, lk, srcOf, intD, doI, psI]
            · simp [objOk, srcOf, lk, cvO, cvL, cv0, frz, upd, D.one, intD, hO]
        · rw [g2, g3] at hbig
          simp only [Bool.false_or] at hbig
          simp only [playGo, hbig, if_true] at hp
          subst hp
          (repeat (first | (simp -implicitDefEqProofs only [ev1, ev2, ev3, ev4, ev5, ev6, mixed, Nat.reduceLT, Nat.reduceAdd, Nat.reduceMul, reduceIte, Nat.reduceEqDiff, reduceCtorEq, Nat.reducePow, Nat.reduceLeDiff, Int.reduceLE, Int.reduceLT, Int.reduceToNat, Int.reduceEq, Nat.reduceBEq, itsOf, gdA, byteI, opid, lenQ, ixQ, ldH, readAt, readCells, asCell, faQ, exQ, fldQ, partA, buildQ, slQ, stH, bslH, appH, dcells, convI, elemsOf, D.one, nilS, fillD, convN, cvH, T3, T4, T5, T22, T23, T28, T33, T52, T55, T57, intD, doI, g1, e1, bI, g2, g3]) | (with_reducible refine ⟨?_, ?_⟩; (· first | (obtain ⟨rfl⟩ := ‹Hq _ _›; with_reducible refine chk_ok ?_; kernel_rfl) | kernel_rfl)) | (with_reducible intro ops hops)))
          refine fin_2 [] rfl ag33 sz33 (by simp [upd, readAt, readCells, hO, lk]; rfl) ?_
          simp [cv, cvT, cv1, cvL, cv0, upd, fltD, intD, psI]
      · rw [g2] at hbig
        simp only [Bool.true_or] at hbig
        simp only [playGo, hbig, if_true] at hp
        subst hp
        (repeat (first | (simp -implicitDefEqProofs only [ev1, ev2, ev3, ev4, ev5, ev6, mixed, Nat.reduceLT, Nat.reduceAdd, Nat.reduceMul, reduceIte, Nat.reduceEqDiff, reduceCtorEq, Nat.reducePow, Nat.reduceLeDiff, Int.reduceLE, Int.reduceLT, Int.reduceToNat, Int.reduceEq, Nat.reduceBEq, itsOf, gdA, byteI, opid, lenQ, ixQ, ldH, readAt, readCells, asCell, faQ, exQ, fldQ, partA, buildQ, slQ, stH, bslH, appH, dcells, convI, elemsOf, D.one, nilS, fillD, convN, cvH, T3, T4, T5, T22, T23, T28, T33, T52, T55, T57, intD, doI, g1, e1, bI, g2]) | (with_reducible refine ⟨?_, ?_⟩; (· first | (obtain ⟨rfl⟩ := ‹Hq _ _›; with_reducible refine chk_ok ?_; kernel_rfl) | kernel_rfl)) | (with_reducible intro ops hops)))
        refine fin_2 [] rfl ag33 sz33 (by simp [upd, readAt, readCells, hO, lk]; rfl) ?_
        simp [cv, cvT, cv1, cvL, cv0, upd, fltD, intD, psI]
    · have g1 : decide ((i : Int) < (ds.length : Int)) = false := decide_eq_false (by omega)
      rw [List.drop_eq_nil_of_le (by omega)] at hp
      simp only [playGo] at hp
      subst hp
      (repeat (first | (simp -implicitDefEqProofs only [ev1, ev2, ev3, ev4, ev5, ev6, mixed, Nat.reduceLT, Nat.reduceAdd, Nat.reduceMul, reduceIte, Nat.reduceEqDiff, reduceCtorEq, Nat.reducePow, Nat.reduceLeDiff, Int.reduceLE, Int.reduceLT, Int.reduceToNat, Int.reduceEq, Nat.reduceBEq, itsOf, gdA, byteI, opid, lenQ, ixQ, ldH, readAt, readCells, asCell, faQ, exQ, fldQ, partA, buildQ, slQ, stH, bslH, appH, dcells, convI, elemsOf, D.one, nilS, fillD, convN, cvH, T3, T4, T5, T22, T23, T28, T33, T52, T55, T57, intD, g1]) | (with_reducible refine ⟨?_, ?_⟩; (· first | (obtain ⟨rfl⟩ := ‹Hq _ _›; with_reducible refine chk_ok ?_; kernel_rfl) | kernel_rfl)) | (with_reducible intro ops hops)))
      refine fin_2 [] rfl ag33 sz33 (by simp [upd, readAt, readCells, hO, lk]; rfl) ?_
      simp [cv, cvT, cv1, cvL, cv0, upd, fltD, intD, psI]
end Go.Proofs.Ythbnhbmakapglaa
