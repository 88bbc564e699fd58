/- book.Get, proof.ShowGap, Absent: by value. -/
import Derived.Test.YthbnhbmakapglaaProofT
import Derived.Test.YthbnhbmakapglaaR1Same
set_option linter.all false
namespace Go.Proofs.Ythbnhbmakapglaa
open Go Go.Abs Go.RowKit Go.Proofs.Ythbnhbmakapglaa.Ty

def getF (l : List PairD) (key : List UInt8) : List UInt8 × Bool :=
  if h : placeF l key < l.length then (if l[placeF l key].k = key then (l[placeF l key].v, true) else ([], false)) else ([], false)
structure GapD where
  hl : Bool
  hr : Bool
  left : ProofD
  right : ProofD
def gapD (g : GapD) : D := .agg [boolD g.hl, boolD g.hr, intD g.left.i, intD g.left.n, .i (bI g.left.k), .i (bI g.left.v), .i (bbI g.left.path), intD g.right.i, intD g.right.n, .i (bI g.right.k), .i (bI g.right.v), .i (bbI g.right.path)]
def zeroG : GapD := ⟨false, false, zeroP, zeroP⟩
def atZ (l : List PairD) (b : Bool) (i : Nat) : ProofD := if h : b = true ∧ i < l.length then atF l i h.2 else zeroP
def gapF (l : List PairD) (key : List UInt8) : GapD × Nat :=
  if (wrongF l).1 = 0 then (if thereF l key then (zeroG, 7) else (⟨decide (0 < placeF l key), decide (placeF l key < l.length), atZ l (decide (0 < placeF l key)) (placeF l key - 1), atZ l (decide (placeF l key < l.length)) (placeF l key)⟩, 0)) else (zeroG, (wrongF l).1)
set_option maxHeartbeats 4000000
theorem get_A (l : List PairD) (key : List UInt8) (hr : Right l) : PureD Try.prog 17 [.i (psI l), .i (bI key)] (.tup [.i (bI (getF l key).1), boolD (getF l key).2]) := by
  have hf := find_A l key hr
  unfold thereF at hf
  unfold getF
  by_cases h1 : placeF l key < l.length
  · rw [dif_pos h1] at hf ⊢
    have hv := (hr.big _ (List.getElem_mem h1)).2
    have e1 : (l.map encPr)[placeF l key]? = some [bI l[placeF l key].k, bI l[placeF l key].v] := by rw [List.getElem?_map, List.getElem?_eq_getElem h1]; rfl
    by_cases h2 : l[placeF l key].k = key
    · rw [if_pos h2]
      rw [decide_eq_true h2] at hf
      simp only
      generalize l[placeF l key] = p at *
      generalize placeF l key = j at *
      refine callD_W 22 Try.func17 rfl rfl rfl (fun _ _ => rfl) ?_
      (repeat (first | (simp -implicitDefEqProofs only [ev1, ev2, ev3, ev4, ev5, ev6, mixed, Nat.reduceLT, Nat.reduceAdd, Nat.reduceMul, reduceIte, Nat.reduceEqDiff, reduceCtorEq, Nat.reducePow, Nat.reduceLeDiff, Int.reduceLE, Int.reduceLT, Int.reduceToNat, Int.reduceEq, Nat.reduceBEq, itsOf, gdA, byteI, opid, lenQ, ixQ, ldH, readAt, readCells, asCell, faQ, exQ, fldQ, partA, buildQ, slQ, stH, bslH, appH, dcells, convI, elemsOf, D.one, nilS, fillD, convN, cvH, T4, T5, T22, T23, T52, psI, bI]) | (with_reducible refine ⟨?_, ?_⟩; (· first | (obtain ⟨rfl⟩ := ‹Hq _ _›; with_reducible refine chk_ok ?_; kernel_rfl) | kernel_rfl)) | (with_reducible intro ops hops)))
      (first | refine Call_flat [] [] (hf) (by simp [cvAs, cvA, cv1, cvL, cv0, bI, byteI, bbI, encPr, psI, intD, boolD, proofD, fltD, elemsOf, upd]) rfl ?_ | refine CallF_flat [] [] [] (hf) (fun G _ => by simp [cvAs, cvA, cv1, cvL, cv0, bI, byteI, bbI, encPr, psI, intD, boolD, proofD, fltD, elemsOf, upd]) rfl ?_)
      (repeat (first | (simp -implicitDefEqProofs only [ev1, ev2, ev3, ev4, ev5, ev6, mixed, Nat.reduceLT, Nat.reduceAdd, Nat.reduceMul, reduceIte, Nat.reduceEqDiff, reduceCtorEq, Nat.reducePow, Nat.reduceLeDiff, Int.reduceLE, Int.reduceLT, Int.reduceToNat, Int.reduceEq, Nat.reduceBEq, itsOf, gdA, byteI, opid, lenQ, ixQ, ldH, readAt, readCells, asCell, faQ, exQ, fldQ, partA, buildQ, slQ, stH, bslH, appH, dcells, convI, elemsOf, D.one, nilS, fillD, convN, cvH, T4, T5, T22, T23, T52, boolD, intD, psI, e1]) | (with_reducible refine ⟨?_, ?_⟩; (· first | (obtain ⟨rfl⟩ := ‹Hq _ _›; with_reducible refine chk_ok ?_; kernel_rfl) | kernel_rfl)) | (with_reducible intro ops hops)))
      (first | refine Call_frz [] (clone_A p.v (by omega)) (by simp [cvAs, cvA, cv1, cvL, cv0, bI, byteI, bbI, encPr, psI, intD, boolD, proofD, fltD, elemsOf, upd]) ?_ | refine CallF_frz [] [] (clone_A p.v (by omega)) (fun G _ => by simp [cvAs, cvA, cv1, cvL, cv0, bI, byteI, bbI, encPr, psI, intD, boolD, proofD, fltD, elemsOf, upd]) (by simp) ?_)
      (repeat (first | (simp -implicitDefEqProofs only [ev1, ev2, ev3, ev4, ev5, ev6, mixed, Nat.reduceLT, Nat.reduceAdd, Nat.reduceMul, reduceIte, Nat.reduceEqDiff, reduceCtorEq, Nat.reducePow, Nat.reduceLeDiff, Int.reduceLE, Int.reduceLT, Int.reduceToNat, Int.reduceEq, Nat.reduceBEq, itsOf, gdA, byteI, opid, lenQ, ixQ, ldH, readAt, readCells, asCell, faQ, exQ, fldQ, partA, buildQ, slQ, stH, bslH, appH, dcells, convI, elemsOf, D.one, nilS, fillD, convN, cvH, T4, T5, T22, T23, T52, bI]) | (with_reducible refine ⟨?_, ?_⟩; (· first | (obtain ⟨rfl⟩ := ‹Hq _ _›; with_reducible refine chk_ok ?_; kernel_rfl) | kernel_rfl)) | (with_reducible intro ops hops)))
      refine fin_tt [] rfl ?_
      simp [cv, cvT, cv1, cv0, upd, boolD]
    · rw [if_neg h2]
      rw [decide_eq_false h2] at hf
      simp only
      generalize placeF l key = j at *
      refine callD_W 22 Try.func17 rfl rfl rfl (fun _ _ => rfl) ?_
      (repeat (first | (simp -implicitDefEqProofs only [ev1, ev2, ev3, ev4, ev5, ev6, mixed, Nat.reduceLT, Nat.reduceAdd, Nat.reduceMul, reduceIte, Nat.reduceEqDiff, reduceCtorEq, Nat.reducePow, Nat.reduceLeDiff, Int.reduceLE, Int.reduceLT, Int.reduceToNat, Int.reduceEq, Nat.reduceBEq, itsOf, gdA, byteI, opid, lenQ, ixQ, ldH, readAt, readCells, asCell, faQ, exQ, fldQ, partA, buildQ, slQ, stH, bslH, appH, dcells, convI, elemsOf, D.one, nilS, fillD, convN, cvH, T4, T5, T22, T23, T52, psI, bI]) | (with_reducible refine ⟨?_, ?_⟩; (· first | (obtain ⟨rfl⟩ := ‹Hq _ _›; with_reducible refine chk_ok ?_; kernel_rfl) | kernel_rfl)) | (with_reducible intro ops hops)))
      (first | refine Call_flat [] [] (hf) (by simp [cvAs, cvA, cv1, cvL, cv0, bI, byteI, bbI, encPr, psI, intD, boolD, proofD, fltD, elemsOf, upd]) rfl ?_ | refine CallF_flat [] [] [] (hf) (fun G _ => by simp [cvAs, cvA, cv1, cvL, cv0, bI, byteI, bbI, encPr, psI, intD, boolD, proofD, fltD, elemsOf, upd]) rfl ?_)
      (repeat (first | (simp -implicitDefEqProofs only [ev1, ev2, ev3, ev4, ev5, ev6, mixed, Nat.reduceLT, Nat.reduceAdd, Nat.reduceMul, reduceIte, Nat.reduceEqDiff, reduceCtorEq, Nat.reducePow, Nat.reduceLeDiff, Int.reduceLE, Int.reduceLT, Int.reduceToNat, Int.reduceEq, Nat.reduceBEq, itsOf, gdA, byteI, opid, lenQ, ixQ, ldH, readAt, readCells, asCell, faQ, exQ, fldQ, partA, buildQ, slQ, stH, bslH, appH, dcells, convI, elemsOf, D.one, nilS, fillD, convN, cvH, T4, T5, T22, T23, T52, boolD, intD, psI]) | (with_reducible refine ⟨?_, ?_⟩; (· first | (obtain ⟨rfl⟩ := ‹Hq _ _›; with_reducible refine chk_ok ?_; kernel_rfl) | kernel_rfl)) | (with_reducible intro ops hops)))
      refine fin_tt [] rfl ?_
      simp [cv, cvT, cv1, cv0, upd, boolD, bI]
  · rw [dif_neg h1] at hf ⊢
    generalize placeF l key = j at *
    refine callD_W 22 Try.func17 rfl rfl rfl (fun _ _ => rfl) ?_
    (repeat (first | (simp -implicitDefEqProofs only [ev1, ev2, ev3, ev4, ev5, ev6, mixed, Nat.reduceLT, Nat.reduceAdd, Nat.reduceMul, reduceIte, Nat.reduceEqDiff, reduceCtorEq, Nat.reducePow, Nat.reduceLeDiff, Int.reduceLE, Int.reduceLT, Int.reduceToNat, Int.reduceEq, Nat.reduceBEq, itsOf, gdA, byteI, opid, lenQ, ixQ, ldH, readAt, readCells, asCell, faQ, exQ, fldQ, partA, buildQ, slQ, stH, bslH, appH, dcells, convI, elemsOf, D.one, nilS, fillD, convN, cvH, T4, T5, T22, T23, T52, psI, bI]) | (with_reducible refine ⟨?_, ?_⟩; (· first | (obtain ⟨rfl⟩ := ‹Hq _ _›; with_reducible refine chk_ok ?_; kernel_rfl) | kernel_rfl)) | (with_reducible intro ops hops)))
    (first | refine Call_flat [] [] (hf) (by simp [cvAs, cvA, cv1, cvL, cv0, bI, byteI, bbI, encPr, psI, intD, boolD, proofD, fltD, elemsOf, upd]) rfl ?_ | refine CallF_flat [] [] [] (hf) (fun G _ => by simp [cvAs, cvA, cv1, cvL, cv0, bI, byteI, bbI, encPr, psI, intD, boolD, proofD, fltD, elemsOf, upd]) rfl ?_)
    (repeat (first | (simp -implicitDefEqProofs only [ev1, ev2, ev3, ev4, ev5, ev6, mixed, Nat.reduceLT, Nat.reduceAdd, Nat.reduceMul, reduceIte, Nat.reduceEqDiff, reduceCtorEq, Nat.reducePow, Nat.reduceLeDiff, Int.reduceLE, Int.reduceLT, Int.reduceToNat, Int.reduceEq, Nat.reduceBEq, itsOf, gdA, byteI, opid, lenQ, ixQ, ldH, readAt, readCells, asCell, faQ, exQ, fldQ, partA, buildQ, slQ, stH, bslH, appH, dcells, convI, elemsOf, D.one, nilS, fillD, convN, cvH, T4, T5, T22, T23, T52, boolD, intD, psI]) | (with_reducible refine ⟨?_, ?_⟩; (· first | (obtain ⟨rfl⟩ := ‹Hq _ _›; with_reducible refine chk_ok ?_; kernel_rfl) | kernel_rfl)) | (with_reducible intro ops hops)))
    refine fin_tt [] rfl ?_
    simp [cv, cvT, cv1, cv0, upd, boolD, bI]

theorem gap_A (l : List PairD) (key : List UInt8) (hl : l.length ≤ 1048576) : PureD Try.prog 18 [.i (psI l), .i (bI key)] (.tup [gapD (gapF l key).1, intD (gapF l key).2]) := by
  have hw := wrong_A l hl
  unfold gapF
  by_cases h0 : (wrongF l).1 = 0
  · have hr := right_of h0
    have hz := wrong_zero h0
    rw [if_pos h0]
    rw [hz] at hw
    simp only at hw
    have hf := find_A l key hr
    have hat := fun (i : Nat) (h : i < l.length) => at_A l i h hl (fun p hp => by have := hr.big p hp; omega)
    have hple := placeF_le l key
    cases ht : thereF l key
    · rw [ht] at hf
      simp only [Bool.false_eq_true, if_false]
      generalize placeF l key = j at *
      have z1 : ∀ b i (h : i < l.length), b = true → atZ l b i = atF l i h := fun b i h hb => dif_pos ⟨hb, h⟩
      have z2 : ∀ i, atZ l false i = zeroP := fun i => dif_neg (by simp)
      by_cases h1 : 0 < j
      · have g1 : decide ((0 : Int) < (j : Int)) = true := decide_eq_true (by omega)
        have w1 : IntKind.i64.wrap ((j : Int) - 1) = ((j - 1 : Nat) : Int) := by rw [wrap64 (by omega) (by omega)]; omega
        have a1 := hat (j - 1) (by omega)
        rw [decide_eq_true h1, z1 true (j - 1) (by omega) rfl]
        by_cases h2 : j < l.length
        · have g2 : decide ((j : Int) < (l.length : Int)) = true := decide_eq_true (by omega)
          have a2 := hat j h2
          rw [decide_eq_true h2, z1 true j h2 rfl]
          generalize atF l (j - 1) _ = A at *
          generalize atF l j _ = B at *
          generalize j - 1 = j1 at *
          refine callD_W 44 Try.func18 rfl rfl rfl (fun _ _ => rfl) ?_
          (repeat (first | (simp -implicitDefEqProofs only [ev1, ev2, ev3, ev4, ev5, ev6, mixed, Nat.reduceLT, Nat.reduceAdd, Nat.reduceMul, reduceIte, Nat.reduceEqDiff, reduceCtorEq, Nat.reducePow, Nat.reduceLeDiff, Int.reduceLE, Int.reduceLT, Int.reduceToNat, Int.reduceEq, Nat.reduceBEq, itsOf, gdA, byteI, opid, lenQ, ixQ, ldH, readAt, readCells, asCell, faQ, exQ, fldQ, partA, buildQ, slQ, stH, bslH, appH, dcells, convI, elemsOf, D.one, nilS, fillD, convN, cvH, T3, T4, T5, T22, T23, T25, T27, T28, T33, T39, T52, psI, bI]) | (with_reducible refine ⟨?_, ?_⟩; (· first | (obtain ⟨rfl⟩ := ‹Hq _ _›; with_reducible refine chk_ok ?_; kernel_rfl) | kernel_rfl)) | (with_reducible intro ops hops)))
          (first | refine Call_flat [] [] (hw) (by simp [cvAs, cvA, cv1, cvL, cv0, bI, byteI, bbI, encPr, psI, intD, boolD, proofD, fltD, elemsOf, upd]) rfl ?_ | refine CallF_flat [] [] [] (hw) (fun G _ => by simp [cvAs, cvA, cv1, cvL, cv0, bI, byteI, bbI, encPr, psI, intD, boolD, proofD, fltD, elemsOf, upd]) rfl ?_)
          (repeat (first | (simp -implicitDefEqProofs only [ev1, ev2, ev3, ev4, ev5, ev6, mixed, Nat.reduceLT, Nat.reduceAdd, Nat.reduceMul, reduceIte, Nat.reduceEqDiff, reduceCtorEq, Nat.reducePow, Nat.reduceLeDiff, Int.reduceLE, Int.reduceLT, Int.reduceToNat, Int.reduceEq, Nat.reduceBEq, itsOf, gdA, byteI, opid, lenQ, ixQ, ldH, readAt, readCells, asCell, faQ, exQ, fldQ, partA, buildQ, slQ, stH, bslH, appH, dcells, convI, elemsOf, D.one, nilS, fillD, convN, cvH, T3, T4, T5, T22, T23, T25, T27, T28, T33, T39, T52, fltD, intD, psI, bI]) | (with_reducible refine ⟨?_, ?_⟩; (· first | (obtain ⟨rfl⟩ := ‹Hq _ _›; with_reducible refine chk_ok ?_; kernel_rfl) | kernel_rfl)) | (with_reducible intro ops hops)))
          (first | refine Call_flat [] [] (hf) (by simp [cvAs, cvA, cv1, cvL, cv0, bI, byteI, bbI, encPr, psI, intD, boolD, proofD, fltD, elemsOf, upd]) rfl ?_ | refine CallF_flat [] [] [] (hf) (fun G _ => by simp [cvAs, cvA, cv1, cvL, cv0, bI, byteI, bbI, encPr, psI, intD, boolD, proofD, fltD, elemsOf, upd]) rfl ?_)
          (repeat (first | (simp -implicitDefEqProofs only [ev1, ev2, ev3, ev4, ev5, ev6, mixed, Nat.reduceLT, Nat.reduceAdd, Nat.reduceMul, reduceIte, Nat.reduceEqDiff, reduceCtorEq, Nat.reducePow, Nat.reduceLeDiff, Int.reduceLE, Int.reduceLT, Int.reduceToNat, Int.reduceEq, Nat.reduceBEq, itsOf, gdA, byteI, opid, lenQ, ixQ, ldH, readAt, readCells, asCell, faQ, exQ, fldQ, partA, buildQ, slQ, stH, bslH, appH, dcells, convI, elemsOf, D.one, nilS, fillD, convN, cvH, T3, T4, T5, T22, T23, T25, T27, T28, T33, T39, T52, boolD, intD, psI, bI, g1, w1]) | (with_reducible refine ⟨?_, ?_⟩; (· first | (obtain ⟨rfl⟩ := ‹Hq _ _›; with_reducible refine chk_ok ?_; kernel_rfl) | kernel_rfl)) | (with_reducible intro ops hops)))
          (first | refine Call_frz [] (a1) (by simp [cvAs, cvA, cv1, cvL, cv0, bI, byteI, bbI, encPr, psI, intD, boolD, proofD, fltD, elemsOf, upd]) ?_ | refine CallF_frz [] [] (a1) (fun G _ => by simp [cvAs, cvA, cv1, cvL, cv0, bI, byteI, bbI, encPr, psI, intD, boolD, proofD, fltD, elemsOf, upd]) (by simp) ?_)
          (repeat (first | (simp -implicitDefEqProofs only [ev1, ev2, ev3, ev4, ev5, ev6, mixed, Nat.reduceLT, Nat.reduceAdd, Nat.reduceMul, reduceIte, Nat.reduceEqDiff, reduceCtorEq, Nat.reducePow, Nat.reduceLeDiff, Int.reduceLE, Int.reduceLT, Int.reduceToNat, Int.reduceEq, Nat.reduceBEq, itsOf, gdA, byteI, opid, lenQ, ixQ, ldH, readAt, readCells, asCell, faQ, exQ, fldQ, partA, buildQ, slQ, stH, bslH, appH, dcells, convI, elemsOf, D.one, nilS, fillD, convN, cvH, T3, T4, T5, T22, T23, T25, T27, T28, T33, T39, T52, proofD, intD, g2]) | (with_reducible refine ⟨?_, ?_⟩; (· first | (obtain ⟨rfl⟩ := ‹Hq _ _›; with_reducible refine chk_ok ?_; kernel_rfl) | kernel_rfl)) | (with_reducible intro ops hops)))
          (first | refine Call_frz [] (a2) (by simp [cvAs, cvA, cv1, cvL, cv0, bI, byteI, bbI, encPr, psI, intD, boolD, proofD, fltD, elemsOf, upd]) ?_ | refine CallF_frz [] [] (a2) (fun G _ => by simp [cvAs, cvA, cv1, cvL, cv0, bI, byteI, bbI, encPr, psI, intD, boolD, proofD, fltD, elemsOf, upd]) (by simp) ?_)
          (repeat (first | (simp -implicitDefEqProofs only [ev1, ev2, ev3, ev4, ev5, ev6, mixed, Nat.reduceLT, Nat.reduceAdd, Nat.reduceMul, reduceIte, Nat.reduceEqDiff, reduceCtorEq, Nat.reducePow, Nat.reduceLeDiff, Int.reduceLE, Int.reduceLT, Int.reduceToNat, Int.reduceEq, Nat.reduceBEq, itsOf, gdA, byteI, opid, lenQ, ixQ, ldH, readAt, readCells, asCell, faQ, exQ, fldQ, partA, buildQ, slQ, stH, bslH, appH, dcells, convI, elemsOf, D.one, nilS, fillD, convN, cvH, T3, T4, T5, T22, T23, T25, T27, T28, T33, T39, T52, proofD, intD]) | (with_reducible refine ⟨?_, ?_⟩; (· first | (obtain ⟨rfl⟩ := ‹Hq _ _›; with_reducible refine chk_ok ?_; kernel_rfl) | kernel_rfl)) | (with_reducible intro ops hops)))
          refine fin_ct [] rfl ag39 sz39 (by simp [upd, readAt, readCells]; rfl) ?_
          simp [cv, cvT, cv1, cvL, cv0, upd, gapD, intD, boolD]
        · have g2 : decide ((j : Int) < (l.length : Int)) = false := decide_eq_false (by omega)
          rw [decide_eq_false h2, z2 j]
          generalize atF l (j - 1) _ = A at *
          generalize j - 1 = j1 at *
          refine callD_W 44 Try.func18 rfl rfl rfl (fun _ _ => rfl) ?_
          (repeat (first | (simp -implicitDefEqProofs only [ev1, ev2, ev3, ev4, ev5, ev6, mixed, Nat.reduceLT, Nat.reduceAdd, Nat.reduceMul, reduceIte, Nat.reduceEqDiff, reduceCtorEq, Nat.reducePow, Nat.reduceLeDiff, Int.reduceLE, Int.reduceLT, Int.reduceToNat, Int.reduceEq, Nat.reduceBEq, itsOf, gdA, byteI, opid, lenQ, ixQ, ldH, readAt, readCells, asCell, faQ, exQ, fldQ, partA, buildQ, slQ, stH, bslH, appH, dcells, convI, elemsOf, D.one, nilS, fillD, convN, cvH, T3, T4, T5, T22, T23, T25, T27, T28, T33, T39, T52, psI, bI]) | (with_reducible refine ⟨?_, ?_⟩; (· first | (obtain ⟨rfl⟩ := ‹Hq _ _›; with_reducible refine chk_ok ?_; kernel_rfl) | kernel_rfl)) | (with_reducible intro ops hops)))
          (first | refine Call_flat [] [] (hw) (by simp [cvAs, cvA, cv1, cvL, cv0, bI, byteI, bbI, encPr, psI, intD, boolD, proofD, fltD, elemsOf, upd]) rfl ?_ | refine CallF_flat [] [] [] (hw) (fun G _ => by simp [cvAs, cvA, cv1, cvL, cv0, bI, byteI, bbI, encPr, psI, intD, boolD, proofD, fltD, elemsOf, upd]) rfl ?_)
          (repeat (first | (simp -implicitDefEqProofs only [ev1, ev2, ev3, ev4, ev5, ev6, mixed, Nat.reduceLT, Nat.reduceAdd, Nat.reduceMul, reduceIte, Nat.reduceEqDiff, reduceCtorEq, Nat.reducePow, Nat.reduceLeDiff, Int.reduceLE, Int.reduceLT, Int.reduceToNat, Int.reduceEq, Nat.reduceBEq, itsOf, gdA, byteI, opid, lenQ, ixQ, ldH, readAt, readCells, asCell, faQ, exQ, fldQ, partA, buildQ, slQ, stH, bslH, appH, dcells, convI, elemsOf, D.one, nilS, fillD, convN, cvH, T3, T4, T5, T22, T23, T25, T27, T28, T33, T39, T52, fltD, intD, psI, bI]) | (with_reducible refine ⟨?_, ?_⟩; (· first | (obtain ⟨rfl⟩ := ‹Hq _ _›; with_reducible refine chk_ok ?_; kernel_rfl) | kernel_rfl)) | (with_reducible intro ops hops)))
          (first | refine Call_flat [] [] (hf) (by simp [cvAs, cvA, cv1, cvL, cv0, bI, byteI, bbI, encPr, psI, intD, boolD, proofD, fltD, elemsOf, upd]) rfl ?_ | refine CallF_flat [] [] [] (hf) (fun G _ => by simp [cvAs, cvA, cv1, cvL, cv0, bI, byteI, bbI, encPr, psI, intD, boolD, proofD, fltD, elemsOf, upd]) rfl ?_)
          (repeat (first | (simp -implicitDefEqProofs only [ev1, ev2, ev3, ev4, ev5, ev6, mixed, Nat.reduceLT, Nat.reduceAdd, Nat.reduceMul, reduceIte, Nat.reduceEqDiff, reduceCtorEq, Nat.reducePow, Nat.reduceLeDiff, Int.reduceLE, Int.reduceLT, Int.reduceToNat, Int.reduceEq, Nat.reduceBEq, itsOf, gdA, byteI, opid, lenQ, ixQ, ldH, readAt, readCells, asCell, faQ, exQ, fldQ, partA, buildQ, slQ, stH, bslH, appH, dcells, convI, elemsOf, D.one, nilS, fillD, convN, cvH, T3, T4, T5, T22, T23, T25, T27, T28, T33, T39, T52, boolD, intD, psI, bI, g1, w1]) | (with_reducible refine ⟨?_, ?_⟩; (· first | (obtain ⟨rfl⟩ := ‹Hq _ _›; with_reducible refine chk_ok ?_; kernel_rfl) | kernel_rfl)) | (with_reducible intro ops hops)))
          (first | refine Call_frz [] (a1) (by simp [cvAs, cvA, cv1, cvL, cv0, bI, byteI, bbI, encPr, psI, intD, boolD, proofD, fltD, elemsOf, upd]) ?_ | refine CallF_frz [] [] (a1) (fun G _ => by simp [cvAs, cvA, cv1, cvL, cv0, bI, byteI, bbI, encPr, psI, intD, boolD, proofD, fltD, elemsOf, upd]) (by simp) ?_)
          (repeat (first | (simp -implicitDefEqProofs only [ev1, ev2, ev3, ev4, ev5, ev6, mixed, Nat.reduceLT, Nat.reduceAdd, Nat.reduceMul, reduceIte, Nat.reduceEqDiff, reduceCtorEq, Nat.reducePow, Nat.reduceLeDiff, Int.reduceLE, Int.reduceLT, Int.reduceToNat, Int.reduceEq, Nat.reduceBEq, itsOf, gdA, byteI, opid, lenQ, ixQ, ldH, readAt, readCells, asCell, faQ, exQ, fldQ, partA, buildQ, slQ, stH, bslH, appH, dcells, convI, elemsOf, D.one, nilS, fillD, convN, cvH, T3, T4, T5, T22, T23, T25, T27, T28, T33, T39, T52, proofD, intD, g2]) | (with_reducible refine ⟨?_, ?_⟩; (· first | (obtain ⟨rfl⟩ := ‹Hq _ _›; with_reducible refine chk_ok ?_; kernel_rfl) | kernel_rfl)) | (with_reducible intro ops hops)))
          refine fin_ct [] rfl ag39 sz39 (by simp [upd, readAt, readCells]; rfl) ?_
          simp [cv, cvT, cv1, cvL, cv0, upd, gapD, intD, boolD, zeroP, bI, bbI]
      · have hj : j = 0 := by omega
        subst hj
        rw [decide_eq_false h1, z2]
        by_cases h2 : 0 < l.length
        · have g2 : decide ((0 : Int) < (l.length : Int)) = true := decide_eq_true (by omega)
          have a2 := hat 0 h2
          rw [decide_eq_true h2, z1 true 0 h2 rfl]
          generalize atF l 0 _ = B at *
          refine callD_W 44 Try.func18 rfl rfl rfl (fun _ _ => rfl) ?_
          (repeat (first | (simp -implicitDefEqProofs only [ev1, ev2, ev3, ev4, ev5, ev6, mixed, Nat.reduceLT, Nat.reduceAdd, Nat.reduceMul, reduceIte, Nat.reduceEqDiff, reduceCtorEq, Nat.reducePow, Nat.reduceLeDiff, Int.reduceLE, Int.reduceLT, Int.reduceToNat, Int.reduceEq, Nat.reduceBEq, itsOf, gdA, byteI, opid, lenQ, ixQ, ldH, readAt, readCells, asCell, faQ, exQ, fldQ, partA, buildQ, slQ, stH, bslH, appH, dcells, convI, elemsOf, D.one, nilS, fillD, convN, cvH, T3, T4, T5, T22, T23, T25, T27, T28, T33, T39, T52, psI, bI]) | (with_reducible refine ⟨?_, ?_⟩; (· first | (obtain ⟨rfl⟩ := ‹Hq _ _›; with_reducible refine chk_ok ?_; kernel_rfl) | kernel_rfl)) | (with_reducible intro ops hops)))
          (first | refine Call_flat [] [] (hw) (by simp [cvAs, cvA, cv1, cvL, cv0, bI, byteI, bbI, encPr, psI, intD, boolD, proofD, fltD, elemsOf, upd]) rfl ?_ | refine CallF_flat [] [] [] (hw) (fun G _ => by simp [cvAs, cvA, cv1, cvL, cv0, bI, byteI, bbI, encPr, psI, intD, boolD, proofD, fltD, elemsOf, upd]) rfl ?_)
          (repeat (first | (simp -implicitDefEqProofs only [ev1, ev2, ev3, ev4, ev5, ev6, mixed, Nat.reduceLT, Nat.reduceAdd, Nat.reduceMul, reduceIte, Nat.reduceEqDiff, reduceCtorEq, Nat.reducePow, Nat.reduceLeDiff, Int.reduceLE, Int.reduceLT, Int.reduceToNat, Int.reduceEq, Nat.reduceBEq, itsOf, gdA, byteI, opid, lenQ, ixQ, ldH, readAt, readCells, asCell, faQ, exQ, fldQ, partA, buildQ, slQ, stH, bslH, appH, dcells, convI, elemsOf, D.one, nilS, fillD, convN, cvH, T3, T4, T5, T22, T23, T25, T27, T28, T33, T39, T52, fltD, intD, psI, bI]) | (with_reducible refine ⟨?_, ?_⟩; (· first | (obtain ⟨rfl⟩ := ‹Hq _ _›; with_reducible refine chk_ok ?_; kernel_rfl) | kernel_rfl)) | (with_reducible intro ops hops)))
          (first | refine Call_flat [] [] (hf) (by simp [cvAs, cvA, cv1, cvL, cv0, bI, byteI, bbI, encPr, psI, intD, boolD, proofD, fltD, elemsOf, upd]) rfl ?_ | refine CallF_flat [] [] [] (hf) (fun G _ => by simp [cvAs, cvA, cv1, cvL, cv0, bI, byteI, bbI, encPr, psI, intD, boolD, proofD, fltD, elemsOf, upd]) rfl ?_)
          (repeat (first | (simp -implicitDefEqProofs only [ev1, ev2, ev3, ev4, ev5, ev6, mixed, Nat.reduceLT, Nat.reduceAdd, Nat.reduceMul, reduceIte, Nat.reduceEqDiff, reduceCtorEq, Nat.reducePow, Nat.reduceLeDiff, Int.reduceLE, Int.reduceLT, Int.reduceToNat, Int.reduceEq, Nat.reduceBEq, itsOf, gdA, byteI, opid, lenQ, ixQ, ldH, readAt, readCells, asCell, faQ, exQ, fldQ, partA, buildQ, slQ, stH, bslH, appH, dcells, convI, elemsOf, D.one, nilS, fillD, convN, cvH, T3, T4, T5, T22, T23, T25, T27, T28, T33, T39, T52, boolD, intD, psI, bI, g2, Int.natCast_zero]) | (with_reducible refine ⟨?_, ?_⟩; (· first | (obtain ⟨rfl⟩ := ‹Hq _ _›; with_reducible refine chk_ok ?_; kernel_rfl) | kernel_rfl)) | (with_reducible intro ops hops)))
          (first | refine Call_frz [] (a2) (by simp [cvAs, cvA, cv1, cvL, cv0, bI, byteI, bbI, encPr, psI, intD, boolD, proofD, fltD, elemsOf, upd]) ?_ | refine CallF_frz [] [] (a2) (fun G _ => by simp [cvAs, cvA, cv1, cvL, cv0, bI, byteI, bbI, encPr, psI, intD, boolD, proofD, fltD, elemsOf, upd]) (by simp) ?_)
          (repeat (first | (simp -implicitDefEqProofs only [ev1, ev2, ev3, ev4, ev5, ev6, mixed, Nat.reduceLT, Nat.reduceAdd, Nat.reduceMul, reduceIte, Nat.reduceEqDiff, reduceCtorEq, Nat.reducePow, Nat.reduceLeDiff, Int.reduceLE, Int.reduceLT, Int.reduceToNat, Int.reduceEq, Nat.reduceBEq, itsOf, gdA, byteI, opid, lenQ, ixQ, ldH, readAt, readCells, asCell, faQ, exQ, fldQ, partA, buildQ, slQ, stH, bslH, appH, dcells, convI, elemsOf, D.one, nilS, fillD, convN, cvH, T3, T4, T5, T22, T23, T25, T27, T28, T33, T39, T52, proofD, intD]) | (with_reducible refine ⟨?_, ?_⟩; (· first | (obtain ⟨rfl⟩ := ‹Hq _ _›; with_reducible refine chk_ok ?_; kernel_rfl) | kernel_rfl)) | (with_reducible intro ops hops)))
          refine fin_ct [] rfl ag39 sz39 (by simp [upd, readAt, readCells]; rfl) ?_
          simp [cv, cvT, cv1, cvL, cv0, upd, gapD, intD, boolD, zeroP, bI, bbI]
        · have g2 : decide ((0 : Int) < (l.length : Int)) = false := decide_eq_false (by omega)
          rw [decide_eq_false h2, z2]
          refine callD_W 44 Try.func18 rfl rfl rfl (fun _ _ => rfl) ?_
          (repeat (first | (simp -implicitDefEqProofs only [ev1, ev2, ev3, ev4, ev5, ev6, mixed, Nat.reduceLT, Nat.reduceAdd, Nat.reduceMul, reduceIte, Nat.reduceEqDiff, reduceCtorEq, Nat.reducePow, Nat.reduceLeDiff, Int.reduceLE, Int.reduceLT, Int.reduceToNat, Int.reduceEq, Nat.reduceBEq, itsOf, gdA, byteI, opid, lenQ, ixQ, ldH, readAt, readCells, asCell, faQ, exQ, fldQ, partA, buildQ, slQ, stH, bslH, appH, dcells, convI, elemsOf, D.one, nilS, fillD, convN, cvH, T3, T4, T5, T22, T23, T25, T27, T28, T33, T39, T52, psI, bI]) | (with_reducible refine ⟨?_, ?_⟩; (· first | (obtain ⟨rfl⟩ := ‹Hq _ _›; with_reducible refine chk_ok ?_; kernel_rfl) | kernel_rfl)) | (with_reducible intro ops hops)))
          (first | refine Call_flat [] [] (hw) (by simp [cvAs, cvA, cv1, cvL, cv0, bI, byteI, bbI, encPr, psI, intD, boolD, proofD, fltD, elemsOf, upd]) rfl ?_ | refine CallF_flat [] [] [] (hw) (fun G _ => by simp [cvAs, cvA, cv1, cvL, cv0, bI, byteI, bbI, encPr, psI, intD, boolD, proofD, fltD, elemsOf, upd]) rfl ?_)
          (repeat (first | (simp -implicitDefEqProofs only [ev1, ev2, ev3, ev4, ev5, ev6, mixed, Nat.reduceLT, Nat.reduceAdd, Nat.reduceMul, reduceIte, Nat.reduceEqDiff, reduceCtorEq, Nat.reducePow, Nat.reduceLeDiff, Int.reduceLE, Int.reduceLT, Int.reduceToNat, Int.reduceEq, Nat.reduceBEq, itsOf, gdA, byteI, opid, lenQ, ixQ, ldH, readAt, readCells, asCell, faQ, exQ, fldQ, partA, buildQ, slQ, stH, bslH, appH, dcells, convI, elemsOf, D.one, nilS, fillD, convN, cvH, T3, T4, T5, T22, T23, T25, T27, T28, T33, T39, T52, fltD, intD, psI, bI]) | (with_reducible refine ⟨?_, ?_⟩; (· first | (obtain ⟨rfl⟩ := ‹Hq _ _›; with_reducible refine chk_ok ?_; kernel_rfl) | kernel_rfl)) | (with_reducible intro ops hops)))
          (first | refine Call_flat [] [] (hf) (by simp [cvAs, cvA, cv1, cvL, cv0, bI, byteI, bbI, encPr, psI, intD, boolD, proofD, fltD, elemsOf, upd]) rfl ?_ | refine CallF_flat [] [] [] (hf) (fun G _ => by simp [cvAs, cvA, cv1, cvL, cv0, bI, byteI, bbI, encPr, psI, intD, boolD, proofD, fltD, elemsOf, upd]) rfl ?_)
          (repeat (first | (simp -implicitDefEqProofs only [ev1, ev2, ev3, ev4, ev5, ev6, mixed, Nat.reduceLT, Nat.reduceAdd, Nat.reduceMul, reduceIte, Nat.reduceEqDiff, reduceCtorEq, Nat.reducePow, Nat.reduceLeDiff, Int.reduceLE, Int.reduceLT, Int.reduceToNat, Int.reduceEq, Nat.reduceBEq, itsOf, gdA, byteI, opid, lenQ, ixQ, ldH, readAt, readCells, asCell, faQ, exQ, fldQ, partA, buildQ, slQ, stH, bslH, appH, dcells, convI, elemsOf, D.one, nilS, fillD, convN, cvH, T3, T4, T5, T22, T23, T25, T27, T28, T33, T39, T52, boolD, intD, psI, bI, g2, Int.natCast_zero]) | (with_reducible refine ⟨?_, ?_⟩; (· first | (obtain ⟨rfl⟩ := ‹Hq _ _›; with_reducible refine chk_ok ?_; kernel_rfl) | kernel_rfl)) | (with_reducible intro ops hops)))
          refine fin_ct [] rfl ag39 sz39 (by simp [upd, readAt, readCells]; rfl) ?_
          simp [cv, cvT, cv1, cvL, cv0, upd, gapD, intD, boolD, zeroP, bI, bbI]
    · rw [ht] at hf
      simp only [if_true]
      generalize placeF l key = j at *
      refine callD_W 44 Try.func18 rfl rfl rfl (fun _ _ => rfl) ?_
      (repeat (first | (simp -implicitDefEqProofs only [ev1, ev2, ev3, ev4, ev5, ev6, mixed, Nat.reduceLT, Nat.reduceAdd, Nat.reduceMul, reduceIte, Nat.reduceEqDiff, reduceCtorEq, Nat.reducePow, Nat.reduceLeDiff, Int.reduceLE, Int.reduceLT, Int.reduceToNat, Int.reduceEq, Nat.reduceBEq, itsOf, gdA, byteI, opid, lenQ, ixQ, ldH, readAt, readCells, asCell, faQ, exQ, fldQ, partA, buildQ, slQ, stH, bslH, appH, dcells, convI, elemsOf, D.one, nilS, fillD, convN, cvH, T3, T4, T5, T22, T23, T25, T27, T28, T33, T39, T52, psI, bI]) | (with_reducible refine ⟨?_, ?_⟩; (· first | (obtain ⟨rfl⟩ := ‹Hq _ _›; with_reducible refine chk_ok ?_; kernel_rfl) | kernel_rfl)) | (with_reducible intro ops hops)))
      (first | refine Call_flat [] [] (hw) (by simp [cvAs, cvA, cv1, cvL, cv0, bI, byteI, bbI, encPr, psI, intD, boolD, proofD, fltD, elemsOf, upd]) rfl ?_ | refine CallF_flat [] [] [] (hw) (fun G _ => by simp [cvAs, cvA, cv1, cvL, cv0, bI, byteI, bbI, encPr, psI, intD, boolD, proofD, fltD, elemsOf, upd]) rfl ?_)
      (repeat (first | (simp -implicitDefEqProofs only [ev1, ev2, ev3, ev4, ev5, ev6, mixed, Nat.reduceLT, Nat.reduceAdd, Nat.reduceMul, reduceIte, Nat.reduceEqDiff, reduceCtorEq, Nat.reducePow, Nat.reduceLeDiff, Int.reduceLE, Int.reduceLT, Int.reduceToNat, Int.reduceEq, Nat.reduceBEq, itsOf, gdA, byteI, opid, lenQ, ixQ, ldH, readAt, readCells, asCell, faQ, exQ, fldQ, partA, buildQ, slQ, stH, bslH, appH, dcells, convI, elemsOf, D.one, nilS, fillD, convN, cvH, T3, T4, T5, T22, T23, T25, T27, T28, T33, T39, T52, fltD, intD, psI, bI]) | (with_reducible refine ⟨?_, ?_⟩; (· first | (obtain ⟨rfl⟩ := ‹Hq _ _›; with_reducible refine chk_ok ?_; kernel_rfl) | kernel_rfl)) | (with_reducible intro ops hops)))
      (first | refine Call_flat [] [] (hf) (by simp [cvAs, cvA, cv1, cvL, cv0, bI, byteI, bbI, encPr, psI, intD, boolD, proofD, fltD, elemsOf, upd]) rfl ?_ | refine CallF_flat [] [] [] (hf) (fun G _ => by simp [cvAs, cvA, cv1, cvL, cv0, bI, byteI, bbI, encPr, psI, intD, boolD, proofD, fltD, elemsOf, upd]) rfl ?_)
      (repeat (first | (simp -implicitDefEqProofs only [ev1, ev2, ev3, ev4, ev5, ev6, mixed, Nat.reduceLT, Nat.reduceAdd, Nat.reduceMul, reduceIte, Nat.reduceEqDiff, reduceCtorEq, Nat.reducePow, Nat.reduceLeDiff, Int.reduceLE, Int.reduceLT, Int.reduceToNat, Int.reduceEq, Nat.reduceBEq, itsOf, gdA, byteI, opid, lenQ, ixQ, ldH, readAt, readCells, asCell, faQ, exQ, fldQ, partA, buildQ, slQ, stH, bslH, appH, dcells, convI, elemsOf, D.one, nilS, fillD, convN, cvH, T3, T4, T5, T22, T23, T25, T27, T28, T33, T39, T52, boolD, intD, psI, bI]) | (with_reducible refine ⟨?_, ?_⟩; (· first | (obtain ⟨rfl⟩ := ‹Hq _ _›; with_reducible refine chk_ok ?_; kernel_rfl) | kernel_rfl)) | (with_reducible intro ops hops)))
      refine fin_ct [] rfl ag39 sz39 (by simp [upd, readAt, readCells]; rfl) ?_
      simp [cv, cvT, cv1, cvL, cv0, upd, gapD, intD, boolD, zeroG, zeroP, bI, bbI]
  · rw [if_neg h0]
    generalize wrongF l = W at *
    have g1 : decide ((W.1 : Int) = 0) = false := by simp; omega
    refine callD_W 44 Try.func18 rfl rfl rfl (fun _ _ => rfl) ?_
    (repeat (first | (simp -implicitDefEqProofs only [ev1, ev2, ev3, ev4, ev5, ev6, mixed, Nat.reduceLT, Nat.reduceAdd, Nat.reduceMul, reduceIte, Nat.reduceEqDiff, reduceCtorEq, Nat.reducePow, Nat.reduceLeDiff, Int.reduceLE, Int.reduceLT, Int.reduceToNat, Int.reduceEq, Nat.reduceBEq, itsOf, gdA, byteI, opid, lenQ, ixQ, ldH, readAt, readCells, asCell, faQ, exQ, fldQ, partA, buildQ, slQ, stH, bslH, appH, dcells, convI, elemsOf, D.one, nilS, fillD, convN, cvH, T3, T4, T5, T22, T23, T25, T27, T28, T33, T39, T52, psI, bI]) | (with_reducible refine ⟨?_, ?_⟩; (· first | (obtain ⟨rfl⟩ := ‹Hq _ _›; with_reducible refine chk_ok ?_; kernel_rfl) | kernel_rfl)) | (with_reducible intro ops hops)))
    (first | refine Call_flat [] [] (hw) (by simp [cvAs, cvA, cv1, cvL, cv0, bI, byteI, bbI, encPr, psI, intD, boolD, proofD, fltD, elemsOf, upd]) rfl ?_ | refine CallF_flat [] [] [] (hw) (fun G _ => by simp [cvAs, cvA, cv1, cvL, cv0, bI, byteI, bbI, encPr, psI, intD, boolD, proofD, fltD, elemsOf, upd]) rfl ?_)
    (repeat (first | (simp -implicitDefEqProofs only [ev1, ev2, ev3, ev4, ev5, ev6, mixed, Nat.reduceLT, Nat.reduceAdd, Nat.reduceMul, reduceIte, Nat.reduceEqDiff, reduceCtorEq, Nat.reducePow, Nat.reduceLeDiff, Int.reduceLE, Int.reduceLT, Int.reduceToNat, Int.reduceEq, Nat.reduceBEq, itsOf, gdA, byteI, opid, lenQ, ixQ, ldH, readAt, readCells, asCell, faQ, exQ, fldQ, partA, buildQ, slQ, stH, bslH, appH, dcells, convI, elemsOf, D.one, nilS, fillD, convN, cvH, T3, T4, T5, T22, T23, T25, T27, T28, T33, T39, T52, fltD, intD, g1]) | (with_reducible refine ⟨?_, ?_⟩; (· first | (obtain ⟨rfl⟩ := ‹Hq _ _›; with_reducible refine chk_ok ?_; kernel_rfl) | kernel_rfl)) | (with_reducible intro ops hops)))
    refine fin_ct [] rfl ag39 sz39 (by simp [upd, readAt, readCells]; rfl) ?_
    simp [cv, cvT, cv1, cvL, cv0, upd, gapD, intD, boolD, zeroG, zeroP, bI, bbI]
end Go.Proofs.Ythbnhbmakapglaa
