/- ProofClash, ProofEdited: by-value contracts. -/
import Derived.Test.YthbnhbmakapglaaClashW
import Derived.Test.YthbnhbmakapglaaDec5
import Derived.Test.YthbnhbmakapglaaLaw5G
set_option linter.all false
namespace Go.Proofs.Ythbnhbmakapglaa
open Go Go.Abs Go.RowKit Go.Proofs.Ythbnhbmakapglaa.Ty

theorem foldR_le {leaf : List UInt8} (hl : leaf.length = 32) : ∀ (r : List (List UInt8)) (i n : Nat), (foldR leaf i n r).1.length ≤ 32 := by
  intro r
  cases r with
  | nil =>
    intro i n
    simp only [foldR]
    split
    · exact Nat.le_of_eq hl
    · simp
  | cons d r =>
    intro i n
    simp only [foldR]
    split
    · exact Nat.le_of_eq hl
    · split <;> exact Nat.le_of_eq (sha_length _)
theorem treeF_le (l : List PairD) : (treeF l).length ≤ 32 := by
  by_cases h : l = []
  · subst h; simp [treeF]
  · exact Nat.le_of_eq (treeF_len l h)
def SmallC (r : CR) : Prop := r.1.length ≤ 2097152 ∧ r.2.1.length ≤ 2097152
theorem node_le {a b : List UInt8} (ha : a.length ≤ 32) (hb : b.length ≤ 32) : (nodeB a b).length ≤ 2097152 := by simp [nodeB]; omega
theorem clashGo_small (p : ProofD) (hk : p.k.length ≤ 60) (hv : p.v.length ≤ 200) : ∀ (rev : List (List UInt8)) (l : List PairD) (i : Nat), (∀ q ∈ l, q.k.length ≤ 60 ∧ q.v.length ≤ 200) → (∀ d ∈ rev, d.length = 32) → SmallC (clashGo p l i rev) := by
  have last : ∀ l : List PairD, (∀ q ∈ l, q.k.length ≤ 60 ∧ q.v.length ≤ 200) → SmallC (lastC p l) := by
    intro l hq
    cases l with
    | nil => simp [lastC, SmallC]
    | cons q r =>
      have := hq q (by simp)
      have h4 : ∀ n, (four n).length = 4 := fun _ => rfl
      simp only [lastC]
      split
      · simp [SmallC]
      · simp [SmallC, leafB, h4]; omega
  have hlf : (leafF p.k p.v).length = 32 := sha_length _
  intro rev
  induction rev with
  | nil => intro l i hq _; exact last l hq
  | cons d r ih =>
    intro l i hq hd
    have hd0 := hd d (by simp)
    have hdr : ∀ x ∈ r, x.length = 32 := fun x hx => hd x (by simp [hx])
    simp only [clashGo]
    split
    · split
      · split
        · exact ih _ _ (fun q hx => hq q (List.mem_of_mem_take hx)) hdr
        · exact ⟨node_le (treeF_le _) (treeF_le _), node_le (foldR_le hlf _ _ _) (by omega)⟩
      · split
        · exact ih _ _ (fun q hx => hq q (List.mem_of_mem_drop hx)) hdr
        · exact ⟨node_le (treeF_le _) (treeF_le _), node_le (by omega) (foldR_le hlf _ _ _)⟩
    · exact last l hq
theorem clash_small {l : List PairD} {p : ProofD} : SmallC (clashF l p) := by
  unfold clashF
  split
  · rename_i h0
    have hr := right_of h0
    split
    · rename_i h
      obtain ⟨hf, ht, htop⟩ := shownF_all h
      obtain ⟨a1, a2, a3, a4, a5, a6, a7, a8⟩ := formF_yes hf
      split
      · exact clashGo_small p a5 a6 _ _ _ hr.big (fun d hd => a8 d (by simpa using hd))
      · have h4 : ∀ n, (four n).length = 4 := fun _ => rfl
        have t1 := treeF_le l
        have t2 : (treeOf p).1.length ≤ 32 := foldR_le (sha_length _) _ _ _
        simp [SmallC, topB, h4]; omega
    · simp [SmallC]
  · simp [SmallC]
/-- What is told of a result that says yes: what the law asks of its two lists. -/
structure Yes (C : CR) : Prop where
  s1 : C.1.length ≤ 2097152
  s2 : C.2.1.length ≤ 2097152
  ne : C.1 ≠ C.2.1
  eq : sha C.1 = sha C.2.1
set_option maxHeartbeats 4000000
theorem walk_ProofClash (y0 : I) (l : List PairD) (e0 : y0 = psI l) (y1 : List I) (p : ProofD) (e1 : y1 = formI p) (hb : bkI y0 ≤ 1048576) :
    ∃ Ds, PureD Try.prog 6 Ds (.i (.s (.bool true))) ∧ Ds = [.i y0, .agg (y1.map .i)] := by
  subst e0; subst e1
  refine ⟨_, ?_, rfl⟩
  rw [proofD_formI]
  have hl := (pairs_small (l := l) (n := 1048576) (by omega)).1
  have hrt := root_B l hl
  by_cases h0 : (wrongF l).1 = 0
  case neg =>
    generalize wrongF l = W at *
    generalize rootR l = R0 at *
    obtain ⟨pi, pn, pk, pv, pq⟩ := p
    have g1 : decide ((W.1 : Int) = 0) = false := by simp; omega
    refine callD_W 72 Try.func6 rfl rfl rfl (fun _ _ => rfl) ?_
    (repeat (first | (simp -implicitDefEqProofs only [ev1, ev2, ev3, ev4, ev5, ev6, mixed, Nat.reduceLT, Nat.reduceAdd, Nat.reduceMul, reduceIte, Nat.reduceEqDiff, reduceCtorEq, Nat.reducePow, Nat.reduceLeDiff, Int.reduceLE, Int.reduceLT, Int.reduceToNat, Int.reduceEq, Nat.reduceBEq, itsOf, gdA, byteI, opid, lenQ, ixQ, ldH, readAt, readCells, asCell, faQ, exQ, fldQ, partA, buildQ, slQ, stH, bslH, appH, dcells, convI, elemsOf, D.one, nilS, fillD, convN, cvH, T3, T4, T5, T22, T23, T25, T27, T28, T33, T52, proofD, intD]) | (with_reducible refine ⟨?_, ?_⟩; (· first | (obtain ⟨rfl⟩ := ‹Hq _ _›; with_reducible refine chk_ok ?_; kernel_rfl) | kernel_rfl)) | (with_reducible intro ops hops)))
    (first | refine Call_flat [] [] (alive5_A) (by simp [cvAs, cvA, cv1, cvL, cv0, bI, byteI, encPr, psI, intD, boolD, proofD, fltD, elemsOf, upd]) rfl ?_ | refine CallF_flat [] [] [] (alive5_A) (fun G _ => by simp [cvAs, cvA, cv1, cvL, cv0, bI, byteI, encPr, psI, intD, boolD, proofD, fltD, elemsOf, upd]) rfl ?_)
    (repeat (first | (simp -implicitDefEqProofs only [ev1, ev2, ev3, ev4, ev5, ev6, mixed, Nat.reduceLT, Nat.reduceAdd, Nat.reduceMul, reduceIte, Nat.reduceEqDiff, reduceCtorEq, Nat.reducePow, Nat.reduceLeDiff, Int.reduceLE, Int.reduceLT, Int.reduceToNat, Int.reduceEq, Nat.reduceBEq, itsOf, gdA, byteI, opid, lenQ, ixQ, ldH, readAt, readCells, asCell, faQ, exQ, fldQ, partA, buildQ, slQ, stH, bslH, appH, dcells, convI, elemsOf, D.one, nilS, fillD, convN, cvH, T3, T4, T5, T22, T23, T25, T27, T28, T33, T52, psI, bI]) | (with_reducible refine ⟨?_, ?_⟩; (· first | (obtain ⟨rfl⟩ := ‹Hq _ _›; with_reducible refine chk_ok ?_; kernel_rfl) | kernel_rfl)) | (with_reducible intro ops hops)))
    (first | refine Call_frz [] (hrt) (by simp [cvAs, cvA, cv1, cvL, cv0, bI, byteI, encPr, psI, intD, boolD, proofD, fltD, elemsOf, upd]) ?_ | refine CallF_frz [] [] (hrt) (fun G _ => by simp [cvAs, cvA, cv1, cvL, cv0, bI, byteI, encPr, psI, intD, boolD, proofD, fltD, elemsOf, upd]) (by simp) ?_)
    (repeat (first | (simp -implicitDefEqProofs only [ev1, ev2, ev3, ev4, ev5, ev6, mixed, Nat.reduceLT, Nat.reduceAdd, Nat.reduceMul, reduceIte, Nat.reduceEqDiff, reduceCtorEq, Nat.reducePow, Nat.reduceLeDiff, Int.reduceLE, Int.reduceLT, Int.reduceToNat, Int.reduceEq, Nat.reduceBEq, itsOf, gdA, byteI, opid, lenQ, ixQ, ldH, readAt, readCells, asCell, faQ, exQ, fldQ, partA, buildQ, slQ, stH, bslH, appH, dcells, convI, elemsOf, D.one, nilS, fillD, convN, cvH, T3, T4, T5, T22, T23, T25, T27, T28, T33, T52, fltD, intD, psI, bI, g1]) | (with_reducible refine ⟨?_, ?_⟩; (· first | (obtain ⟨rfl⟩ := ‹Hq _ _›; with_reducible refine chk_ok ?_; kernel_rfl) | kernel_rfl)) | (with_reducible intro ops hops)))
    refine fin_ret [] rfl ?_
    simp [cv, cv1, cv0, upd]
  have hr := right_of h0
  have hz := wrong_zero h0
  rw [show rootR l = rootF l by rw [rootR, if_pos h0], hz] at hrt
  have hsh := shown_A (rootF l) p
  by_cases hs : shownF (rootF l) p = true
  case neg =>
    rw [show shownF (rootF l) p = false by simpa using hs] at hsh
    generalize rootF l = R0 at *
    obtain ⟨pi, pn, pk, pv, pq⟩ := p
    simp only [proofD] at hsh
    refine callD_W 72 Try.func6 rfl rfl rfl (fun _ _ => rfl) ?_
    (repeat (first | (simp -implicitDefEqProofs only [ev1, ev2, ev3, ev4, ev5, ev6, mixed, Nat.reduceLT, Nat.reduceAdd, Nat.reduceMul, reduceIte, Nat.reduceEqDiff, reduceCtorEq, Nat.reducePow, Nat.reduceLeDiff, Int.reduceLE, Int.reduceLT, Int.reduceToNat, Int.reduceEq, Nat.reduceBEq, itsOf, gdA, byteI, opid, lenQ, ixQ, ldH, readAt, readCells, asCell, faQ, exQ, fldQ, partA, buildQ, slQ, stH, bslH, appH, dcells, convI, elemsOf, D.one, nilS, fillD, convN, cvH, T3, T4, T5, T22, T23, T25, T27, T28, T33, T52, proofD, intD]) | (with_reducible refine ⟨?_, ?_⟩; (· first | (obtain ⟨rfl⟩ := ‹Hq _ _›; with_reducible refine chk_ok ?_; kernel_rfl) | kernel_rfl)) | (with_reducible intro ops hops)))
    (first | refine Call_flat [] [] (alive5_A) (by simp [cvAs, cvA, cv1, cvL, cv0, bI, byteI, encPr, psI, intD, boolD, proofD, fltD, elemsOf, upd]) rfl ?_ | refine CallF_flat [] [] [] (alive5_A) (fun G _ => by simp [cvAs, cvA, cv1, cvL, cv0, bI, byteI, encPr, psI, intD, boolD, proofD, fltD, elemsOf, upd]) rfl ?_)
    (repeat (first | (simp -implicitDefEqProofs only [ev1, ev2, ev3, ev4, ev5, ev6, mixed, Nat.reduceLT, Nat.reduceAdd, Nat.reduceMul, reduceIte, Nat.reduceEqDiff, reduceCtorEq, Nat.reducePow, Nat.reduceLeDiff, Int.reduceLE, Int.reduceLT, Int.reduceToNat, Int.reduceEq, Nat.reduceBEq, itsOf, gdA, byteI, opid, lenQ, ixQ, ldH, readAt, readCells, asCell, faQ, exQ, fldQ, partA, buildQ, slQ, stH, bslH, appH, dcells, convI, elemsOf, D.one, nilS, fillD, convN, cvH, T3, T4, T5, T22, T23, T25, T27, T28, T33, T52, psI, bI]) | (with_reducible refine ⟨?_, ?_⟩; (· first | (obtain ⟨rfl⟩ := ‹Hq _ _›; with_reducible refine chk_ok ?_; kernel_rfl) | kernel_rfl)) | (with_reducible intro ops hops)))
    (first | refine Call_frz [] (hrt) (by simp [cvAs, cvA, cv1, cvL, cv0, bI, byteI, encPr, psI, intD, boolD, proofD, fltD, elemsOf, upd]) ?_ | refine CallF_frz [] [] (hrt) (fun G _ => by simp [cvAs, cvA, cv1, cvL, cv0, bI, byteI, encPr, psI, intD, boolD, proofD, fltD, elemsOf, upd]) (by simp) ?_)
    (repeat (first | (simp -implicitDefEqProofs only [ev1, ev2, ev3, ev4, ev5, ev6, mixed, Nat.reduceLT, Nat.reduceAdd, Nat.reduceMul, reduceIte, Nat.reduceEqDiff, reduceCtorEq, Nat.reducePow, Nat.reduceLeDiff, Int.reduceLE, Int.reduceLT, Int.reduceToNat, Int.reduceEq, Nat.reduceBEq, itsOf, gdA, byteI, opid, lenQ, ixQ, ldH, readAt, readCells, asCell, faQ, exQ, fldQ, partA, buildQ, slQ, stH, bslH, appH, dcells, convI, elemsOf, D.one, nilS, fillD, convN, cvH, T3, T4, T5, T22, T23, T25, T27, T28, T33, T52, fltD, intD, psI, bI]) | (with_reducible refine ⟨?_, ?_⟩; (· first | (obtain ⟨rfl⟩ := ‹Hq _ _›; with_reducible refine chk_ok ?_; kernel_rfl) | kernel_rfl)) | (with_reducible intro ops hops)))
    (first | refine Call_flat [] [] (hsh) (by simp [cvAs, cvA, cv1, cvL, cv0, bI, byteI, encPr, psI, intD, boolD, proofD, fltD, elemsOf, upd]) rfl ?_ | refine CallF_flat [] [] [] (hsh) (fun G _ => by simp [cvAs, cvA, cv1, cvL, cv0, bI, byteI, encPr, psI, intD, boolD, proofD, fltD, elemsOf, upd]) rfl ?_)
    (repeat (first | (simp -implicitDefEqProofs only [ev1, ev2, ev3, ev4, ev5, ev6, mixed, Nat.reduceLT, Nat.reduceAdd, Nat.reduceMul, reduceIte, Nat.reduceEqDiff, reduceCtorEq, Nat.reducePow, Nat.reduceLeDiff, Int.reduceLE, Int.reduceLT, Int.reduceToNat, Int.reduceEq, Nat.reduceBEq, itsOf, gdA, byteI, opid, lenQ, ixQ, ldH, readAt, readCells, asCell, faQ, exQ, fldQ, partA, buildQ, slQ, stH, bslH, appH, dcells, convI, elemsOf, D.one, nilS, fillD, convN, cvH, T3, T4, T5, T22, T23, T25, T27, T28, T33, T52, boolD]) | (with_reducible refine ⟨?_, ?_⟩; (· first | (obtain ⟨rfl⟩ := ‹Hq _ _›; with_reducible refine chk_ok ?_; kernel_rfl) | kernel_rfl)) | (with_reducible intro ops hops)))
    refine fin_ret [] rfl ?_
    simp [cv, cv1, cv0, upd]
  have hcl := Clash_A l p hl
  obtain ⟨hyes, hno⟩ := clash_told hr hs
  obtain ⟨c1, c2⟩ := clash_small (l := l) (p := p)
  rw [hs] at hsh
  obtain ⟨hf, htok, htop⟩ := shownF_all hs
  obtain ⟨a1, a2, a3, a4, a5, a6, a7, a8⟩ := formF_yes hf
  clear htop htok hf hs
  generalize clashF l p = C at *
  generalize rootF l = R0 at *
  obtain ⟨X, Y, ok⟩ := C
  obtain ⟨pi, pn, pk, pv, pq⟩ := p
  simp only [crD] at *
  simp only [proofD] at hsh hcl
  cases ok
  · obtain ⟨q1, hi, q2, q3⟩ := hno rfl
    obtain ⟨m, rfl⟩ := Int.eq_ofNat_of_zero_le a3
    simp only [Int.toNat_natCast] at hi q2 q3
    subst q1
    have g1 : decide ((l.length : Int) = (l.length : Int)) = true := decide_eq_true rfl
    have e1 : (l.map encPr)[m]? = some [bI l[m].k, bI l[m].v] := by rw [List.getElem?_map, List.getElem?_eq_getElem hi]; rfl
    have c5 : (0 ≤ (m : Int)) = True := eq_true (by omega)
    have hbg := hr.big _ (List.getElem_mem hi)
    have t1 := same_A l[m].k pk (by omega)
    have t2 := same_A l[m].v pv (by omega)
    rw [decide_eq_true q2] at t1
    rw [decide_eq_true q3] at t2
    clear q2 q3
    generalize l[m] = Q at *
    refine callD_W 72 Try.func6 rfl rfl rfl (fun _ _ => rfl) ?_
    (repeat (first | (simp -implicitDefEqProofs only [ev1, ev2, ev3, ev4, ev5, ev6, mixed, Nat.reduceLT, Nat.reduceAdd, Nat.reduceMul, reduceIte, Nat.reduceEqDiff, reduceCtorEq, Nat.reducePow, Nat.reduceLeDiff, Int.reduceLE, Int.reduceLT, Int.reduceToNat, Int.reduceEq, Nat.reduceBEq, itsOf, gdA, byteI, opid, lenQ, ixQ, ldH, readAt, readCells, asCell, faQ, exQ, fldQ, partA, buildQ, slQ, stH, bslH, appH, dcells, convI, elemsOf, D.one, nilS, fillD, convN, cvH, T3, T4, T5, T22, T23, T25, T27, T28, T33, T52, proofD, intD]) | (with_reducible refine ⟨?_, ?_⟩; (· first | (obtain ⟨rfl⟩ := ‹Hq _ _›; with_reducible refine chk_ok ?_; kernel_rfl) | kernel_rfl)) | (with_reducible intro ops hops)))
    (first | refine Call_flat [] [] (alive5_A) (by simp [cvAs, cvA, cv1, cvL, cv0, bI, byteI, encPr, psI, intD, boolD, proofD, fltD, elemsOf, upd]) rfl ?_ | refine CallF_flat [] [] [] (alive5_A) (fun G _ => by simp [cvAs, cvA, cv1, cvL, cv0, bI, byteI, encPr, psI, intD, boolD, proofD, fltD, elemsOf, upd]) rfl ?_)
    (repeat (first | (simp -implicitDefEqProofs only [ev1, ev2, ev3, ev4, ev5, ev6, mixed, Nat.reduceLT, Nat.reduceAdd, Nat.reduceMul, reduceIte, Nat.reduceEqDiff, reduceCtorEq, Nat.reducePow, Nat.reduceLeDiff, Int.reduceLE, Int.reduceLT, Int.reduceToNat, Int.reduceEq, Nat.reduceBEq, itsOf, gdA, byteI, opid, lenQ, ixQ, ldH, readAt, readCells, asCell, faQ, exQ, fldQ, partA, buildQ, slQ, stH, bslH, appH, dcells, convI, elemsOf, D.one, nilS, fillD, convN, cvH, T3, T4, T5, T22, T23, T25, T27, T28, T33, T52, psI, bI]) | (with_reducible refine ⟨?_, ?_⟩; (· first | (obtain ⟨rfl⟩ := ‹Hq _ _›; with_reducible refine chk_ok ?_; kernel_rfl) | kernel_rfl)) | (with_reducible intro ops hops)))
    (first | refine Call_frz [] (hrt) (by simp [cvAs, cvA, cv1, cvL, cv0, bI, byteI, encPr, psI, intD, boolD, proofD, fltD, elemsOf, upd]) ?_ | refine CallF_frz [] [] (hrt) (fun G _ => by simp [cvAs, cvA, cv1, cvL, cv0, bI, byteI, encPr, psI, intD, boolD, proofD, fltD, elemsOf, upd]) (by simp) ?_)
    (repeat (first | (simp -implicitDefEqProofs only [ev1, ev2, ev3, ev4, ev5, ev6, mixed, Nat.reduceLT, Nat.reduceAdd, Nat.reduceMul, reduceIte, Nat.reduceEqDiff, reduceCtorEq, Nat.reducePow, Nat.reduceLeDiff, Int.reduceLE, Int.reduceLT, Int.reduceToNat, Int.reduceEq, Nat.reduceBEq, itsOf, gdA, byteI, opid, lenQ, ixQ, ldH, readAt, readCells, asCell, faQ, exQ, fldQ, partA, buildQ, slQ, stH, bslH, appH, dcells, convI, elemsOf, D.one, nilS, fillD, convN, cvH, T3, T4, T5, T22, T23, T25, T27, T28, T33, T52, fltD, intD, psI, bI]) | (with_reducible refine ⟨?_, ?_⟩; (· first | (obtain ⟨rfl⟩ := ‹Hq _ _›; with_reducible refine chk_ok ?_; kernel_rfl) | kernel_rfl)) | (with_reducible intro ops hops)))
    (first | refine Call_flat [] [] (hsh) (by simp [cvAs, cvA, cv1, cvL, cv0, bI, byteI, encPr, psI, intD, boolD, proofD, fltD, elemsOf, upd]) rfl ?_ | refine CallF_flat [] [] [] (hsh) (fun G _ => by simp [cvAs, cvA, cv1, cvL, cv0, bI, byteI, encPr, psI, intD, boolD, proofD, fltD, elemsOf, upd]) rfl ?_)
    (repeat (first | (simp -implicitDefEqProofs only [ev1, ev2, ev3, ev4, ev5, ev6, mixed, Nat.reduceLT, Nat.reduceAdd, Nat.reduceMul, reduceIte, Nat.reduceEqDiff, reduceCtorEq, Nat.reducePow, Nat.reduceLeDiff, Int.reduceLE, Int.reduceLT, Int.reduceToNat, Int.reduceEq, Nat.reduceBEq, itsOf, gdA, byteI, opid, lenQ, ixQ, ldH, readAt, readCells, asCell, faQ, exQ, fldQ, partA, buildQ, slQ, stH, bslH, appH, dcells, convI, elemsOf, D.one, nilS, fillD, convN, cvH, T3, T4, T5, T22, T23, T25, T27, T28, T33, T52, boolD, intD, psI, bI]) | (with_reducible refine ⟨?_, ?_⟩; (· first | (obtain ⟨rfl⟩ := ‹Hq _ _›; with_reducible refine chk_ok ?_; kernel_rfl) | kernel_rfl)) | (with_reducible intro ops hops)))
    (first | refine Call_frz [] (hcl) (by simp [cvAs, cvA, cv1, cvL, cv0, bI, byteI, encPr, psI, intD, boolD, proofD, fltD, elemsOf, upd]) ?_ | refine CallF_frz [] [] (hcl) (fun G _ => by simp [cvAs, cvA, cv1, cvL, cv0, bI, byteI, encPr, psI, intD, boolD, proofD, fltD, elemsOf, upd]) (by simp) ?_)
    (repeat (first | (simp -implicitDefEqProofs only [ev1, ev2, ev3, ev4, ev5, ev6, mixed, Nat.reduceLT, Nat.reduceAdd, Nat.reduceMul, reduceIte, Nat.reduceEqDiff, reduceCtorEq, Nat.reducePow, Nat.reduceLeDiff, Int.reduceLE, Int.reduceLT, Int.reduceToNat, Int.reduceEq, Nat.reduceBEq, itsOf, gdA, byteI, opid, lenQ, ixQ, ldH, readAt, readCells, asCell, faQ, exQ, fldQ, partA, buildQ, slQ, stH, bslH, appH, dcells, convI, elemsOf, D.one, nilS, fillD, convN, cvH, T3, T4, T5, T22, T23, T25, T27, T28, T33, T52, boolD, intD, psI, g1, e1, c5, List.length_map]) | (with_reducible refine ⟨?_, ?_⟩; (· first | (obtain ⟨rfl⟩ := ‹Hq _ _›; with_reducible refine chk_ok ?_; kernel_rfl) | kernel_rfl)) | (with_reducible intro ops hops)))
    (first | refine Call_flat [] [] (t1) (by simp [cvAs, cvA, cv1, cvL, cv0, bI, byteI, encPr, psI, intD, boolD, proofD, fltD, elemsOf, upd]) rfl ?_ | refine CallF_flat [] [] [] (t1) (fun G _ => by simp [cvAs, cvA, cv1, cvL, cv0, bI, byteI, encPr, psI, intD, boolD, proofD, fltD, elemsOf, upd]) rfl ?_)
    (repeat (first | (simp -implicitDefEqProofs only [ev1, ev2, ev3, ev4, ev5, ev6, mixed, Nat.reduceLT, Nat.reduceAdd, Nat.reduceMul, reduceIte, Nat.reduceEqDiff, reduceCtorEq, Nat.reducePow, Nat.reduceLeDiff, Int.reduceLE, Int.reduceLT, Int.reduceToNat, Int.reduceEq, Nat.reduceBEq, itsOf, gdA, byteI, opid, lenQ, ixQ, ldH, readAt, readCells, asCell, faQ, exQ, fldQ, partA, buildQ, slQ, stH, bslH, appH, dcells, convI, elemsOf, D.one, nilS, fillD, convN, cvH, T3, T4, T5, T22, T23, T25, T27, T28, T33, T52, boolD, intD, psI, g1, e1, c5, List.length_map]) | (with_reducible refine ⟨?_, ?_⟩; (· first | (obtain ⟨rfl⟩ := ‹Hq _ _›; with_reducible refine chk_ok ?_; kernel_rfl) | kernel_rfl)) | (with_reducible intro ops hops)))
    (first | refine Call_flat [] [] (t2) (by simp [cvAs, cvA, cv1, cvL, cv0, bI, byteI, encPr, psI, intD, boolD, proofD, fltD, elemsOf, upd]) rfl ?_ | refine CallF_flat [] [] [] (t2) (fun G _ => by simp [cvAs, cvA, cv1, cvL, cv0, bI, byteI, encPr, psI, intD, boolD, proofD, fltD, elemsOf, upd]) rfl ?_)
    (repeat (first | (simp -implicitDefEqProofs only [ev1, ev2, ev3, ev4, ev5, ev6, mixed, Nat.reduceLT, Nat.reduceAdd, Nat.reduceMul, reduceIte, Nat.reduceEqDiff, reduceCtorEq, Nat.reducePow, Nat.reduceLeDiff, Int.reduceLE, Int.reduceLT, Int.reduceToNat, Int.reduceEq, Nat.reduceBEq, itsOf, gdA, byteI, opid, lenQ, ixQ, ldH, readAt, readCells, asCell, faQ, exQ, fldQ, partA, buildQ, slQ, stH, bslH, appH, dcells, convI, elemsOf, D.one, nilS, fillD, convN, cvH, T3, T4, T5, T22, T23, T25, T27, T28, T33, T52, boolD, intD]) | (with_reducible refine ⟨?_, ?_⟩; (· first | (obtain ⟨rfl⟩ := ‹Hq _ _›; with_reducible refine chk_ok ?_; kernel_rfl) | kernel_rfl)) | (with_reducible intro ops hops)))
    refine fin_ret [] rfl ?_
    simp [cv, cv1, cv0, upd]
  · obtain ⟨q1, q2⟩ := hyes rfl
    have t1 := same_A X Y (by omega)
    rw [decide_eq_false q1] at t1
    have d1 := sum_D X (by omega)
    have d2 := sum_D Y (by omega)
    have t2 := same_A (sha X) (sha Y) (by rw [sha_length]; omega)
    rw [decide_eq_true q2] at t2
    clear hyes hno q2
    generalize sha X = SX at *
    generalize sha Y = SY at *
    refine callD_W 72 Try.func6 rfl rfl rfl (fun _ _ => rfl) ?_
    (repeat (first | (simp -implicitDefEqProofs only [ev1, ev2, ev3, ev4, ev5, ev6, mixed, Nat.reduceLT, Nat.reduceAdd, Nat.reduceMul, reduceIte, Nat.reduceEqDiff, reduceCtorEq, Nat.reducePow, Nat.reduceLeDiff, Int.reduceLE, Int.reduceLT, Int.reduceToNat, Int.reduceEq, Nat.reduceBEq, itsOf, gdA, byteI, opid, lenQ, ixQ, ldH, readAt, readCells, asCell, faQ, exQ, fldQ, partA, buildQ, slQ, stH, bslH, appH, dcells, convI, elemsOf, D.one, nilS, fillD, convN, cvH, T3, T4, T5, T22, T23, T25, T27, T28, T33, T52, proofD, intD]) | (with_reducible refine ⟨?_, ?_⟩; (· first | (obtain ⟨rfl⟩ := ‹Hq _ _›; with_reducible refine chk_ok ?_; kernel_rfl) | kernel_rfl)) | (with_reducible intro ops hops)))
    (first | refine Call_flat [] [] (alive5_A) (by simp [cvAs, cvA, cv1, cvL, cv0, bI, byteI, encPr, psI, intD, boolD, proofD, fltD, elemsOf, upd]) rfl ?_ | refine CallF_flat [] [] [] (alive5_A) (fun G _ => by simp [cvAs, cvA, cv1, cvL, cv0, bI, byteI, encPr, psI, intD, boolD, proofD, fltD, elemsOf, upd]) rfl ?_)
    (repeat (first | (simp -implicitDefEqProofs only [ev1, ev2, ev3, ev4, ev5, ev6, mixed, Nat.reduceLT, Nat.reduceAdd, Nat.reduceMul, reduceIte, Nat.reduceEqDiff, reduceCtorEq, Nat.reducePow, Nat.reduceLeDiff, Int.reduceLE, Int.reduceLT, Int.reduceToNat, Int.reduceEq, Nat.reduceBEq, itsOf, gdA, byteI, opid, lenQ, ixQ, ldH, readAt, readCells, asCell, faQ, exQ, fldQ, partA, buildQ, slQ, stH, bslH, appH, dcells, convI, elemsOf, D.one, nilS, fillD, convN, cvH, T3, T4, T5, T22, T23, T25, T27, T28, T33, T52, psI, bI]) | (with_reducible refine ⟨?_, ?_⟩; (· first | (obtain ⟨rfl⟩ := ‹Hq _ _›; with_reducible refine chk_ok ?_; kernel_rfl) | kernel_rfl)) | (with_reducible intro ops hops)))
    (first | refine Call_frz [] (hrt) (by simp [cvAs, cvA, cv1, cvL, cv0, bI, byteI, encPr, psI, intD, boolD, proofD, fltD, elemsOf, upd]) ?_ | refine CallF_frz [] [] (hrt) (fun G _ => by simp [cvAs, cvA, cv1, cvL, cv0, bI, byteI, encPr, psI, intD, boolD, proofD, fltD, elemsOf, upd]) (by simp) ?_)
    (repeat (first | (simp -implicitDefEqProofs only [ev1, ev2, ev3, ev4, ev5, ev6, mixed, Nat.reduceLT, Nat.reduceAdd, Nat.reduceMul, reduceIte, Nat.reduceEqDiff, reduceCtorEq, Nat.reducePow, Nat.reduceLeDiff, Int.reduceLE, Int.reduceLT, Int.reduceToNat, Int.reduceEq, Nat.reduceBEq, itsOf, gdA, byteI, opid, lenQ, ixQ, ldH, readAt, readCells, asCell, faQ, exQ, fldQ, partA, buildQ, slQ, stH, bslH, appH, dcells, convI, elemsOf, D.one, nilS, fillD, convN, cvH, T3, T4, T5, T22, T23, T25, T27, T28, T33, T52, fltD, intD, psI, bI]) | (with_reducible refine ⟨?_, ?_⟩; (· first | (obtain ⟨rfl⟩ := ‹Hq _ _›; with_reducible refine chk_ok ?_; kernel_rfl) | kernel_rfl)) | (with_reducible intro ops hops)))
    (first | refine Call_flat [] [] (hsh) (by simp [cvAs, cvA, cv1, cvL, cv0, bI, byteI, encPr, psI, intD, boolD, proofD, fltD, elemsOf, upd]) rfl ?_ | refine CallF_flat [] [] [] (hsh) (fun G _ => by simp [cvAs, cvA, cv1, cvL, cv0, bI, byteI, encPr, psI, intD, boolD, proofD, fltD, elemsOf, upd]) rfl ?_)
    (repeat (first | (simp -implicitDefEqProofs only [ev1, ev2, ev3, ev4, ev5, ev6, mixed, Nat.reduceLT, Nat.reduceAdd, Nat.reduceMul, reduceIte, Nat.reduceEqDiff, reduceCtorEq, Nat.reducePow, Nat.reduceLeDiff, Int.reduceLE, Int.reduceLT, Int.reduceToNat, Int.reduceEq, Nat.reduceBEq, itsOf, gdA, byteI, opid, lenQ, ixQ, ldH, readAt, readCells, asCell, faQ, exQ, fldQ, partA, buildQ, slQ, stH, bslH, appH, dcells, convI, elemsOf, D.one, nilS, fillD, convN, cvH, T3, T4, T5, T22, T23, T25, T27, T28, T33, T52, boolD, intD, psI, bI]) | (with_reducible refine ⟨?_, ?_⟩; (· first | (obtain ⟨rfl⟩ := ‹Hq _ _›; with_reducible refine chk_ok ?_; kernel_rfl) | kernel_rfl)) | (with_reducible intro ops hops)))
    (first | refine Call_frz [] (hcl) (by simp [cvAs, cvA, cv1, cvL, cv0, bI, byteI, encPr, psI, intD, boolD, proofD, fltD, elemsOf, upd]) ?_ | refine CallF_frz [] [] (hcl) (fun G _ => by simp [cvAs, cvA, cv1, cvL, cv0, bI, byteI, encPr, psI, intD, boolD, proofD, fltD, elemsOf, upd]) (by simp) ?_)
    (repeat (first | (simp -implicitDefEqProofs only [ev1, ev2, ev3, ev4, ev5, ev6, mixed, Nat.reduceLT, Nat.reduceAdd, Nat.reduceMul, reduceIte, Nat.reduceEqDiff, reduceCtorEq, Nat.reducePow, Nat.reduceLeDiff, Int.reduceLE, Int.reduceLT, Int.reduceToNat, Int.reduceEq, Nat.reduceBEq, itsOf, gdA, byteI, opid, lenQ, ixQ, ldH, readAt, readCells, asCell, faQ, exQ, fldQ, partA, buildQ, slQ, stH, bslH, appH, dcells, convI, elemsOf, D.one, nilS, fillD, convN, cvH, T3, T4, T5, T22, T23, T25, T27, T28, T33, T52, boolD, intD, psI, bI]) | (with_reducible refine ⟨?_, ?_⟩; (· first | (obtain ⟨rfl⟩ := ‹Hq _ _›; with_reducible refine chk_ok ?_; kernel_rfl) | kernel_rfl)) | (with_reducible intro ops hops)))
    (first | refine Call_flat [] [] (t1) (by simp [cvAs, cvA, cv1, cvL, cv0, bI, byteI, encPr, psI, intD, boolD, proofD, fltD, elemsOf, upd]) rfl ?_ | refine CallF_flat [] [] [] (t1) (fun G _ => by simp [cvAs, cvA, cv1, cvL, cv0, bI, byteI, encPr, psI, intD, boolD, proofD, fltD, elemsOf, upd]) rfl ?_)
    (repeat (first | (simp -implicitDefEqProofs only [ev1, ev2, ev3, ev4, ev5, ev6, mixed, Nat.reduceLT, Nat.reduceAdd, Nat.reduceMul, reduceIte, Nat.reduceEqDiff, reduceCtorEq, Nat.reducePow, Nat.reduceLeDiff, Int.reduceLE, Int.reduceLT, Int.reduceToNat, Int.reduceEq, Nat.reduceBEq, itsOf, gdA, byteI, opid, lenQ, ixQ, ldH, readAt, readCells, asCell, faQ, exQ, fldQ, partA, buildQ, slQ, stH, bslH, appH, dcells, convI, elemsOf, D.one, nilS, fillD, convN, cvH, T3, T4, T5, T22, T23, T25, T27, T28, T33, T52, boolD, intD, bI]) | (with_reducible refine ⟨?_, ?_⟩; (· first | (obtain ⟨rfl⟩ := ‹Hq _ _›; with_reducible refine chk_ok ?_; kernel_rfl) | kernel_rfl)) | (with_reducible intro ops hops)))
    (first | refine Call_frz [] (d1) (by simp [cvAs, cvA, cv1, cvL, cv0, bI, byteI, encPr, psI, intD, boolD, proofD, fltD, elemsOf, upd]) ?_ | refine CallF_frz [] [] (d1) (fun G _ => by simp [cvAs, cvA, cv1, cvL, cv0, bI, byteI, encPr, psI, intD, boolD, proofD, fltD, elemsOf, upd]) (by simp) ?_)
    (repeat (first | (simp -implicitDefEqProofs only [ev1, ev2, ev3, ev4, ev5, ev6, mixed, Nat.reduceLT, Nat.reduceAdd, Nat.reduceMul, reduceIte, Nat.reduceEqDiff, reduceCtorEq, Nat.reducePow, Nat.reduceLeDiff, Int.reduceLE, Int.reduceLT, Int.reduceToNat, Int.reduceEq, Nat.reduceBEq, itsOf, gdA, byteI, opid, lenQ, ixQ, ldH, readAt, readCells, asCell, faQ, exQ, fldQ, partA, buildQ, slQ, stH, bslH, appH, dcells, convI, elemsOf, D.one, nilS, fillD, convN, cvH, T3, T4, T5, T22, T23, T25, T27, T28, T33, T52, boolD, intD, bI]) | (with_reducible refine ⟨?_, ?_⟩; (· first | (obtain ⟨rfl⟩ := ‹Hq _ _›; with_reducible refine chk_ok ?_; kernel_rfl) | kernel_rfl)) | (with_reducible intro ops hops)))
    (first | refine Call_frz [] (d2) (by simp [cvAs, cvA, cv1, cvL, cv0, bI, byteI, encPr, psI, intD, boolD, proofD, fltD, elemsOf, upd]) ?_ | refine CallF_frz [] [] (d2) (fun G _ => by simp [cvAs, cvA, cv1, cvL, cv0, bI, byteI, encPr, psI, intD, boolD, proofD, fltD, elemsOf, upd]) (by simp) ?_)
    (repeat (first | (simp -implicitDefEqProofs only [ev1, ev2, ev3, ev4, ev5, ev6, mixed, Nat.reduceLT, Nat.reduceAdd, Nat.reduceMul, reduceIte, Nat.reduceEqDiff, reduceCtorEq, Nat.reducePow, Nat.reduceLeDiff, Int.reduceLE, Int.reduceLT, Int.reduceToNat, Int.reduceEq, Nat.reduceBEq, itsOf, gdA, byteI, opid, lenQ, ixQ, ldH, readAt, readCells, asCell, faQ, exQ, fldQ, partA, buildQ, slQ, stH, bslH, appH, dcells, convI, elemsOf, D.one, nilS, fillD, convN, cvH, T3, T4, T5, T22, T23, T25, T27, T28, T33, T52, boolD, intD, bI]) | (with_reducible refine ⟨?_, ?_⟩; (· first | (obtain ⟨rfl⟩ := ‹Hq _ _›; with_reducible refine chk_ok ?_; kernel_rfl) | kernel_rfl)) | (with_reducible intro ops hops)))
    (first | refine Call_flat [] [] (t2) (by simp [cvAs, cvA, cv1, cvL, cv0, bI, byteI, encPr, psI, intD, boolD, proofD, fltD, elemsOf, upd]) rfl ?_ | refine CallF_flat [] [] [] (t2) (fun G _ => by simp [cvAs, cvA, cv1, cvL, cv0, bI, byteI, encPr, psI, intD, boolD, proofD, fltD, elemsOf, upd]) rfl ?_)
    (repeat (first | (simp -implicitDefEqProofs only [ev1, ev2, ev3, ev4, ev5, ev6, mixed, Nat.reduceLT, Nat.reduceAdd, Nat.reduceMul, reduceIte, Nat.reduceEqDiff, reduceCtorEq, Nat.reducePow, Nat.reduceLeDiff, Int.reduceLE, Int.reduceLT, Int.reduceToNat, Int.reduceEq, Nat.reduceBEq, itsOf, gdA, byteI, opid, lenQ, ixQ, ldH, readAt, readCells, asCell, faQ, exQ, fldQ, partA, buildQ, slQ, stH, bslH, appH, dcells, convI, elemsOf, D.one, nilS, fillD, convN, cvH, T3, T4, T5, T22, T23, T25, T27, T28, T33, T52, boolD, intD]) | (with_reducible refine ⟨?_, ?_⟩; (· first | (obtain ⟨rfl⟩ := ‹Hq _ _›; with_reducible refine chk_ok ?_; kernel_rfl) | kernel_rfl)) | (with_reducible intro ops hops)))
    refine fin_ret [] rfl ?_
    simp [cv, cv1, cv0, upd]
end Go.Proofs.Ythbnhbmakapglaa
