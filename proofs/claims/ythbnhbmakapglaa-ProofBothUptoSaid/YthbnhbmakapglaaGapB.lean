/- proof.Absent: by value. -/
import Derived.Test.YthbnhbmakapglaaGapA
set_option linter.all false
namespace Go.Proofs.Ythbnhbmakapglaa
open Go Go.Abs Go.RowKit Go.Proofs.Ythbnhbmakapglaa.Ty

def absentF (root key : List UInt8) (g : GapD) : Bool :=
  match g.hl, g.hr with
  | false, false => decide (topF 0 [] = root)
  | true, false => shownF root g.left && decide (Lib.compareBytes g.left.k key < 0) && decide (g.left.i = g.left.n - 1)
  | false, true => shownF root g.right && decide (Lib.compareBytes key g.right.k < 0) && decide (g.right.i = 0)
  | true, true => shownF root g.left && decide (Lib.compareBytes g.left.k key < 0) && (shownF root g.right && decide (Lib.compareBytes key g.right.k < 0)) && (decide (g.left.n = g.right.n) && decide (g.left.i + 1 = g.right.i))
theorem shownF_form {r : List UInt8} {p : ProofD} (h : shownF r p = true) : formF p = true := by
  unfold shownF at h; simp only [Bool.and_eq_true] at h; exact h.1.1
theorem dec_not (x : Int) : decide (x < 0) = !decide (0 ≤ x) := by
  by_cases h : x < 0
  · rw [decide_eq_true h, decide_eq_false (by omega)]; rfl
  · rw [decide_eq_false h, decide_eq_true (by omega)]; rfl
set_option maxHeartbeats 4000000
theorem absent_A (root key : List UInt8) (g : GapD) : PureD Try.prog 21 [.i (bI root), .i (bI key), gapD g] (boolD (absentF root key g)) := by
  obtain ⟨hl, hr, L, R⟩ := g
  have sL := shown_A root L
  have sR := shown_A root R
  simp only [proofD] at sL sR
  have fL : shownF root L = true → IntKind.i64.wrap (L.n - 1) = L.n - 1 ∧ IntKind.i64.wrap (L.i + 1) = L.i + 1 := fun h => by
    obtain ⟨a1, a2, a3, a4, _⟩ := formF_yes (shownF_form h)
    exact ⟨wrap64 (by omega) (by omega), wrap64 (by omega) (by omega)⟩
  unfold absentF
  cases hl
  · cases hr
    · simp only
      have ht := top_A 0 [] (by simp)
      generalize topF 0 [] = T at *
      refine callD_W 89 Try.func21 rfl rfl rfl (fun _ _ => rfl) ?_
      (repeat (first | (simp -implicitDefEqProofs only [ev1, ev2, ev3, ev4, ev5, ev6, mixed, Nat.reduceLT, Nat.reduceAdd, Nat.reduceMul, reduceIte, Nat.reduceEqDiff, reduceCtorEq, Nat.reducePow, Nat.reduceLeDiff, Int.reduceLE, Int.reduceLT, Int.reduceToNat, Int.reduceEq, Nat.reduceBEq, itsOf, gdA, byteI, opid, lenQ, ixQ, ldH, readAt, readCells, asCell, faQ, exQ, fldQ, partA, buildQ, slQ, stH, bslH, appH, dcells, convI, elemsOf, D.one, nilS, fillD, convN, cvH, T3, T4, T5, T23, T25, T27, T39, gapD, boolD, intD]) | (with_reducible refine ⟨?_, ?_⟩; (· first | (obtain ⟨rfl⟩ := ‹Hq _ _›; with_reducible refine chk_ok ?_; kernel_rfl) | kernel_rfl)) | (with_reducible intro ops hops)))
      (first | refine Call_frz [] (ht) (by simp [cvAs, cvA, cv1, cvL, cv0, bI, byteI, intD, boolD, proofD, elemsOf, upd]) ?_ | refine CallF_frz [] [] (ht) (fun G _ => by simp [cvAs, cvA, cv1, cvL, cv0, bI, byteI, intD, boolD, proofD, elemsOf, upd]) (by simp) ?_)
      (repeat (first | (simp -implicitDefEqProofs only [ev1, ev2, ev3, ev4, ev5, ev6, mixed, Nat.reduceLT, Nat.reduceAdd, Nat.reduceMul, reduceIte, Nat.reduceEqDiff, reduceCtorEq, Nat.reducePow, Nat.reduceLeDiff, Int.reduceLE, Int.reduceLT, Int.reduceToNat, Int.reduceEq, Nat.reduceBEq, itsOf, gdA, byteI, opid, lenQ, ixQ, ldH, readAt, readCells, asCell, faQ, exQ, fldQ, partA, buildQ, slQ, stH, bslH, appH, dcells, convI, elemsOf, D.one, nilS, fillD, convN, cvH, T3, T4, T5, T23, T25, T27, T39]) | (with_reducible refine ⟨?_, ?_⟩; (· first | (obtain ⟨rfl⟩ := ‹Hq _ _›; with_reducible refine chk_ok ?_; kernel_rfl) | kernel_rfl)) | (with_reducible intro ops hops)))
      (first | refine Call_flat [] [] (equal_A T root) (by simp [cvAs, cvA, cv1, cvL, cv0, bI, byteI, intD, boolD, proofD, elemsOf, upd]) rfl ?_ | refine CallF_flat [] [] [] (equal_A T root) (fun G _ => by simp [cvAs, cvA, cv1, cvL, cv0, bI, byteI, intD, boolD, proofD, elemsOf, upd]) rfl ?_)
      (repeat (first | (simp -implicitDefEqProofs only [ev1, ev2, ev3, ev4, ev5, ev6, mixed, Nat.reduceLT, Nat.reduceAdd, Nat.reduceMul, reduceIte, Nat.reduceEqDiff, reduceCtorEq, Nat.reducePow, Nat.reduceLeDiff, Int.reduceLE, Int.reduceLT, Int.reduceToNat, Int.reduceEq, Nat.reduceBEq, itsOf, gdA, byteI, opid, lenQ, ixQ, ldH, readAt, readCells, asCell, faQ, exQ, fldQ, partA, buildQ, slQ, stH, bslH, appH, dcells, convI, elemsOf, D.one, nilS, fillD, convN, cvH, T3, T4, T5, T23, T25, T27, T39]) | (with_reducible refine ⟨?_, ?_⟩; (· first | (obtain ⟨rfl⟩ := ‹Hq _ _›; with_reducible refine chk_ok ?_; kernel_rfl) | kernel_rfl)) | (with_reducible intro ops hops)))
      refine fin_ret [] rfl ?_
      simp [cv, cv1, cv0, upd, boolD]
    · simp only
      rw [dec_not]
      generalize shownF root R = S at *
      obtain ⟨ri, rn, rk, rv, rq⟩ := R
      simp only
      cases S
      · simp only [Bool.false_and]
        refine callD_W 89 Try.func21 rfl rfl rfl (fun _ _ => rfl) ?_
        (repeat (first | (simp -implicitDefEqProofs only [ev1, ev2, ev3, ev4, ev5, ev6, mixed, Nat.reduceLT, Nat.reduceAdd, Nat.reduceMul, reduceIte, Nat.reduceEqDiff, reduceCtorEq, Nat.reducePow, Nat.reduceLeDiff, Int.reduceLE, Int.reduceLT, Int.reduceToNat, Int.reduceEq, Nat.reduceBEq, itsOf, gdA, byteI, opid, lenQ, ixQ, ldH, readAt, readCells, asCell, faQ, exQ, fldQ, partA, buildQ, slQ, stH, bslH, appH, dcells, convI, elemsOf, D.one, nilS, fillD, convN, cvH, T3, T4, T5, T23, T25, T27, T39, gapD, boolD, intD]) | (with_reducible refine ⟨?_, ?_⟩; (· first | (obtain ⟨rfl⟩ := ‹Hq _ _›; with_reducible refine chk_ok ?_; kernel_rfl) | kernel_rfl)) | (with_reducible intro ops hops)))
        (first | refine Call_flat [] [] (sR) (by simp [cvAs, cvA, cv1, cvL, cv0, bI, byteI, intD, boolD, proofD, elemsOf, upd]) rfl ?_ | refine CallF_flat [] [] [] (sR) (fun G _ => by simp [cvAs, cvA, cv1, cvL, cv0, bI, byteI, intD, boolD, proofD, elemsOf, upd]) rfl ?_)
        (repeat (first | (simp -implicitDefEqProofs only [ev1, ev2, ev3, ev4, ev5, ev6, mixed, Nat.reduceLT, Nat.reduceAdd, Nat.reduceMul, reduceIte, Nat.reduceEqDiff, reduceCtorEq, Nat.reducePow, Nat.reduceLeDiff, Int.reduceLE, Int.reduceLT, Int.reduceToNat, Int.reduceEq, Nat.reduceBEq, itsOf, gdA, byteI, opid, lenQ, ixQ, ldH, readAt, readCells, asCell, faQ, exQ, fldQ, partA, buildQ, slQ, stH, bslH, appH, dcells, convI, elemsOf, D.one, nilS, fillD, convN, cvH, T3, T4, T5, T23, T25, T27, T39, boolD]) | (with_reducible refine ⟨?_, ?_⟩; (· first | (obtain ⟨rfl⟩ := ‹Hq _ _›; with_reducible refine chk_ok ?_; kernel_rfl) | kernel_rfl)) | (with_reducible intro ops hops)))
        refine fin_ret [] rfl ?_
        simp [cv, cv1, cv0, upd, boolD]
      · simp only [Bool.true_and]
        have hc := cmp_A key rk
        generalize Lib.compareBytes key rk = C at *
        refine callD_W 89 Try.func21 rfl rfl rfl (fun _ _ => rfl) ?_
        (repeat (first | (simp -implicitDefEqProofs only [ev1, ev2, ev3, ev4, ev5, ev6, mixed, Nat.reduceLT, Nat.reduceAdd, Nat.reduceMul, reduceIte, Nat.reduceEqDiff, reduceCtorEq, Nat.reducePow, Nat.reduceLeDiff, Int.reduceLE, Int.reduceLT, Int.reduceToNat, Int.reduceEq, Nat.reduceBEq, itsOf, gdA, byteI, opid, lenQ, ixQ, ldH, readAt, readCells, asCell, faQ, exQ, fldQ, partA, buildQ, slQ, stH, bslH, appH, dcells, convI, elemsOf, D.one, nilS, fillD, convN, cvH, T3, T4, T5, T23, T25, T27, T39, gapD, boolD, intD]) | (with_reducible refine ⟨?_, ?_⟩; (· first | (obtain ⟨rfl⟩ := ‹Hq _ _›; with_reducible refine chk_ok ?_; kernel_rfl) | kernel_rfl)) | (with_reducible intro ops hops)))
        (first | refine Call_flat [] [] (sR) (by simp [cvAs, cvA, cv1, cvL, cv0, bI, byteI, intD, boolD, proofD, elemsOf, upd]) rfl ?_ | refine CallF_flat [] [] [] (sR) (fun G _ => by simp [cvAs, cvA, cv1, cvL, cv0, bI, byteI, intD, boolD, proofD, elemsOf, upd]) rfl ?_)
        (repeat (first | (simp -implicitDefEqProofs only [ev1, ev2, ev3, ev4, ev5, ev6, mixed, Nat.reduceLT, Nat.reduceAdd, Nat.reduceMul, reduceIte, Nat.reduceEqDiff, reduceCtorEq, Nat.reducePow, Nat.reduceLeDiff, Int.reduceLE, Int.reduceLT, Int.reduceToNat, Int.reduceEq, Nat.reduceBEq, itsOf, gdA, byteI, opid, lenQ, ixQ, ldH, readAt, readCells, asCell, faQ, exQ, fldQ, partA, buildQ, slQ, stH, bslH, appH, dcells, convI, elemsOf, D.one, nilS, fillD, convN, cvH, T3, T4, T5, T23, T25, T27, T39, boolD]) | (with_reducible refine ⟨?_, ?_⟩; (· first | (obtain ⟨rfl⟩ := ‹Hq _ _›; with_reducible refine chk_ok ?_; kernel_rfl) | kernel_rfl)) | (with_reducible intro ops hops)))
        (first | refine Call_flat [] [] (hc) (by simp [cvAs, cvA, cv1, cvL, cv0, bI, byteI, intD, boolD, proofD, elemsOf, upd]) rfl ?_ | refine CallF_flat [] [] [] (hc) (fun G _ => by simp [cvAs, cvA, cv1, cvL, cv0, bI, byteI, intD, boolD, proofD, elemsOf, upd]) rfl ?_)
        cases g1 : decide (0 ≤ C)
        · (repeat (first | (simp -implicitDefEqProofs only [ev1, ev2, ev3, ev4, ev5, ev6, mixed, Nat.reduceLT, Nat.reduceAdd, Nat.reduceMul, reduceIte, Nat.reduceEqDiff, reduceCtorEq, Nat.reducePow, Nat.reduceLeDiff, Int.reduceLE, Int.reduceLT, Int.reduceToNat, Int.reduceEq, Nat.reduceBEq, itsOf, gdA, byteI, opid, lenQ, ixQ, ldH, readAt, readCells, asCell, faQ, exQ, fldQ, partA, buildQ, slQ, stH, bslH, appH, dcells, convI, elemsOf, D.one, nilS, fillD, convN, cvH, T3, T4, T5, T23, T25, T27, T39, g1]) | (with_reducible refine ⟨?_, ?_⟩; (· first | (obtain ⟨rfl⟩ := ‹Hq _ _›; with_reducible refine chk_ok ?_; kernel_rfl) | kernel_rfl)) | (with_reducible intro ops hops)))
          refine fin_ret [] rfl ?_
          simp [cv, cv1, cv0, upd, boolD]
        · (repeat (first | (simp -implicitDefEqProofs only [ev1, ev2, ev3, ev4, ev5, ev6, mixed, Nat.reduceLT, Nat.reduceAdd, Nat.reduceMul, reduceIte, Nat.reduceEqDiff, reduceCtorEq, Nat.reducePow, Nat.reduceLeDiff, Int.reduceLE, Int.reduceLT, Int.reduceToNat, Int.reduceEq, Nat.reduceBEq, itsOf, gdA, byteI, opid, lenQ, ixQ, ldH, readAt, readCells, asCell, faQ, exQ, fldQ, partA, buildQ, slQ, stH, bslH, appH, dcells, convI, elemsOf, D.one, nilS, fillD, convN, cvH, T3, T4, T5, T23, T25, T27, T39, g1]) | (with_reducible refine ⟨?_, ?_⟩; (· first | (obtain ⟨rfl⟩ := ‹Hq _ _›; with_reducible refine chk_ok ?_; kernel_rfl) | kernel_rfl)) | (with_reducible intro ops hops)))
          refine fin_ret [] rfl ?_
          simp [cv, cv1, cv0, upd, boolD]
  · cases hr
    · simp only
      rw [dec_not]
      have fL' := fun h => (fL h).1
      clear fL
      generalize shownF root L = S at *
      obtain ⟨ri, rn, rk, rv, rq⟩ := L
      simp only at *
      cases S
      · simp only [Bool.false_and]
        refine callD_W 89 Try.func21 rfl rfl rfl (fun _ _ => rfl) ?_
        (repeat (first | (simp -implicitDefEqProofs only [ev1, ev2, ev3, ev4, ev5, ev6, mixed, Nat.reduceLT, Nat.reduceAdd, Nat.reduceMul, reduceIte, Nat.reduceEqDiff, reduceCtorEq, Nat.reducePow, Nat.reduceLeDiff, Int.reduceLE, Int.reduceLT, Int.reduceToNat, Int.reduceEq, Nat.reduceBEq, itsOf, gdA, byteI, opid, lenQ, ixQ, ldH, readAt, readCells, asCell, faQ, exQ, fldQ, partA, buildQ, slQ, stH, bslH, appH, dcells, convI, elemsOf, D.one, nilS, fillD, convN, cvH, T3, T4, T5, T23, T25, T27, T39, gapD, boolD, intD]) | (with_reducible refine ⟨?_, ?_⟩; (· first | (obtain ⟨rfl⟩ := ‹Hq _ _›; with_reducible refine chk_ok ?_; kernel_rfl) | kernel_rfl)) | (with_reducible intro ops hops)))
        (first | refine Call_flat [] [] (sL) (by simp [cvAs, cvA, cv1, cvL, cv0, bI, byteI, intD, boolD, proofD, elemsOf, upd]) rfl ?_ | refine CallF_flat [] [] [] (sL) (fun G _ => by simp [cvAs, cvA, cv1, cvL, cv0, bI, byteI, intD, boolD, proofD, elemsOf, upd]) rfl ?_)
        (repeat (first | (simp -implicitDefEqProofs only [ev1, ev2, ev3, ev4, ev5, ev6, mixed, Nat.reduceLT, Nat.reduceAdd, Nat.reduceMul, reduceIte, Nat.reduceEqDiff, reduceCtorEq, Nat.reducePow, Nat.reduceLeDiff, Int.reduceLE, Int.reduceLT, Int.reduceToNat, Int.reduceEq, Nat.reduceBEq, itsOf, gdA, byteI, opid, lenQ, ixQ, ldH, readAt, readCells, asCell, faQ, exQ, fldQ, partA, buildQ, slQ, stH, bslH, appH, dcells, convI, elemsOf, D.one, nilS, fillD, convN, cvH, T3, T4, T5, T23, T25, T27, T39, boolD]) | (with_reducible refine ⟨?_, ?_⟩; (· first | (obtain ⟨rfl⟩ := ‹Hq _ _›; with_reducible refine chk_ok ?_; kernel_rfl) | kernel_rfl)) | (with_reducible intro ops hops)))
        refine fin_ret [] rfl ?_
        simp [cv, cv1, cv0, upd, boolD]
      · simp only [Bool.true_and]
        have hw := fL' rfl
        have hc := cmp_A rk key
        generalize Lib.compareBytes rk key = C at *
        refine callD_W 89 Try.func21 rfl rfl rfl (fun _ _ => rfl) ?_
        (repeat (first | (simp -implicitDefEqProofs only [ev1, ev2, ev3, ev4, ev5, ev6, mixed, Nat.reduceLT, Nat.reduceAdd, Nat.reduceMul, reduceIte, Nat.reduceEqDiff, reduceCtorEq, Nat.reducePow, Nat.reduceLeDiff, Int.reduceLE, Int.reduceLT, Int.reduceToNat, Int.reduceEq, Nat.reduceBEq, itsOf, gdA, byteI, opid, lenQ, ixQ, ldH, readAt, readCells, asCell, faQ, exQ, fldQ, partA, buildQ, slQ, stH, bslH, appH, dcells, convI, elemsOf, D.one, nilS, fillD, convN, cvH, T3, T4, T5, T23, T25, T27, T39, gapD, boolD, intD]) | (with_reducible refine ⟨?_, ?_⟩; (· first | (obtain ⟨rfl⟩ := ‹Hq _ _›; with_reducible refine chk_ok ?_; kernel_rfl) | kernel_rfl)) | (with_reducible intro ops hops)))
        (first | refine Call_flat [] [] (sL) (by simp [cvAs, cvA, cv1, cvL, cv0, bI, byteI, intD, boolD, proofD, elemsOf, upd]) rfl ?_ | refine CallF_flat [] [] [] (sL) (fun G _ => by simp [cvAs, cvA, cv1, cvL, cv0, bI, byteI, intD, boolD, proofD, elemsOf, upd]) rfl ?_)
        (repeat (first | (simp -implicitDefEqProofs only [ev1, ev2, ev3, ev4, ev5, ev6, mixed, Nat.reduceLT, Nat.reduceAdd, Nat.reduceMul, reduceIte, Nat.reduceEqDiff, reduceCtorEq, Nat.reducePow, Nat.reduceLeDiff, Int.reduceLE, Int.reduceLT, Int.reduceToNat, Int.reduceEq, Nat.reduceBEq, itsOf, gdA, byteI, opid, lenQ, ixQ, ldH, readAt, readCells, asCell, faQ, exQ, fldQ, partA, buildQ, slQ, stH, bslH, appH, dcells, convI, elemsOf, D.one, nilS, fillD, convN, cvH, T3, T4, T5, T23, T25, T27, T39, boolD]) | (with_reducible refine ⟨?_, ?_⟩; (· first | (obtain ⟨rfl⟩ := ‹Hq _ _›; with_reducible refine chk_ok ?_; kernel_rfl) | kernel_rfl)) | (with_reducible intro ops hops)))
        (first | refine Call_flat [] [] (hc) (by simp [cvAs, cvA, cv1, cvL, cv0, bI, byteI, intD, boolD, proofD, elemsOf, upd]) rfl ?_ | refine CallF_flat [] [] [] (hc) (fun G _ => by simp [cvAs, cvA, cv1, cvL, cv0, bI, byteI, intD, boolD, proofD, elemsOf, upd]) rfl ?_)
        cases g1 : decide (0 ≤ C)
        · (repeat (first | (simp -implicitDefEqProofs only [ev1, ev2, ev3, ev4, ev5, ev6, mixed, Nat.reduceLT, Nat.reduceAdd, Nat.reduceMul, reduceIte, Nat.reduceEqDiff, reduceCtorEq, Nat.reducePow, Nat.reduceLeDiff, Int.reduceLE, Int.reduceLT, Int.reduceToNat, Int.reduceEq, Nat.reduceBEq, itsOf, gdA, byteI, opid, lenQ, ixQ, ldH, readAt, readCells, asCell, faQ, exQ, fldQ, partA, buildQ, slQ, stH, bslH, appH, dcells, convI, elemsOf, D.one, nilS, fillD, convN, cvH, T3, T4, T5, T23, T25, T27, T39, g1, hw]) | (with_reducible refine ⟨?_, ?_⟩; (· first | (obtain ⟨rfl⟩ := ‹Hq _ _›; with_reducible refine chk_ok ?_; kernel_rfl) | kernel_rfl)) | (with_reducible intro ops hops)))
          refine fin_ret [] rfl ?_
          simp [cv, cv1, cv0, upd, boolD]
        · (repeat (first | (simp -implicitDefEqProofs only [ev1, ev2, ev3, ev4, ev5, ev6, mixed, Nat.reduceLT, Nat.reduceAdd, Nat.reduceMul, reduceIte, Nat.reduceEqDiff, reduceCtorEq, Nat.reducePow, Nat.reduceLeDiff, Int.reduceLE, Int.reduceLT, Int.reduceToNat, Int.reduceEq, Nat.reduceBEq, itsOf, gdA, byteI, opid, lenQ, ixQ, ldH, readAt, readCells, asCell, faQ, exQ, fldQ, partA, buildQ, slQ, stH, bslH, appH, dcells, convI, elemsOf, D.one, nilS, fillD, convN, cvH, T3, T4, T5, T23, T25, T27, T39, g1]) | (with_reducible refine ⟨?_, ?_⟩; (· first | (obtain ⟨rfl⟩ := ‹Hq _ _›; with_reducible refine chk_ok ?_; kernel_rfl) | kernel_rfl)) | (with_reducible intro ops hops)))
          refine fin_ret [] rfl ?_
          simp [cv, cv1, cv0, upd, boolD]
    · simp only
      rw [dec_not, dec_not]
      have fL' := fun h => (fL h).2
      clear fL
      generalize shownF root L = S at *
      generalize shownF root R = S' at *
      obtain ⟨li, ln, lk, lv, lq⟩ := L
      obtain ⟨ri, rn, rk, rv, rq⟩ := R
      simp only at *
      have hcL := cmp_A lk key
      have hcR := cmp_A key rk
      generalize Lib.compareBytes lk key = C at *
      generalize Lib.compareBytes key rk = C' at *
      cases S
      · simp only [Bool.false_and]
        refine callD_W 89 Try.func21 rfl rfl rfl (fun _ _ => rfl) ?_
        (repeat (first | (simp -implicitDefEqProofs only [ev1, ev2, ev3, ev4, ev5, ev6, mixed, Nat.reduceLT, Nat.reduceAdd, Nat.reduceMul, reduceIte, Nat.reduceEqDiff, reduceCtorEq, Nat.reducePow, Nat.reduceLeDiff, Int.reduceLE, Int.reduceLT, Int.reduceToNat, Int.reduceEq, Nat.reduceBEq, itsOf, gdA, byteI, opid, lenQ, ixQ, ldH, readAt, readCells, asCell, faQ, exQ, fldQ, partA, buildQ, slQ, stH, bslH, appH, dcells, convI, elemsOf, D.one, nilS, fillD, convN, cvH, T3, T4, T5, T23, T25, T27, T39, gapD, boolD, intD]) | (with_reducible refine ⟨?_, ?_⟩; (· first | (obtain ⟨rfl⟩ := ‹Hq _ _›; with_reducible refine chk_ok ?_; kernel_rfl) | kernel_rfl)) | (with_reducible intro ops hops)))
        (first | refine Call_flat [] [] (sL) (by simp [cvAs, cvA, cv1, cvL, cv0, bI, byteI, intD, boolD, proofD, elemsOf, upd]) rfl ?_ | refine CallF_flat [] [] [] (sL) (fun G _ => by simp [cvAs, cvA, cv1, cvL, cv0, bI, byteI, intD, boolD, proofD, elemsOf, upd]) rfl ?_)
        (repeat (first | (simp -implicitDefEqProofs only [ev1, ev2, ev3, ev4, ev5, ev6, mixed, Nat.reduceLT, Nat.reduceAdd, Nat.reduceMul, reduceIte, Nat.reduceEqDiff, reduceCtorEq, Nat.reducePow, Nat.reduceLeDiff, Int.reduceLE, Int.reduceLT, Int.reduceToNat, Int.reduceEq, Nat.reduceBEq, itsOf, gdA, byteI, opid, lenQ, ixQ, ldH, readAt, readCells, asCell, faQ, exQ, fldQ, partA, buildQ, slQ, stH, bslH, appH, dcells, convI, elemsOf, D.one, nilS, fillD, convN, cvH, T3, T4, T5, T23, T25, T27, T39, boolD]) | (with_reducible refine ⟨?_, ?_⟩; (· first | (obtain ⟨rfl⟩ := ‹Hq _ _›; with_reducible refine chk_ok ?_; kernel_rfl) | kernel_rfl)) | (with_reducible intro ops hops)))
        refine fin_ret [] rfl ?_
        simp [cv, cv1, cv0, upd, boolD]
      have hw := fL' rfl
      cases g1 : decide (0 ≤ C)
      case true =>
        refine callD_W 89 Try.func21 rfl rfl rfl (fun _ _ => rfl) ?_
        (repeat (first | (simp -implicitDefEqProofs only [ev1, ev2, ev3, ev4, ev5, ev6, mixed, Nat.reduceLT, Nat.reduceAdd, Nat.reduceMul, reduceIte, Nat.reduceEqDiff, reduceCtorEq, Nat.reducePow, Nat.reduceLeDiff, Int.reduceLE, Int.reduceLT, Int.reduceToNat, Int.reduceEq, Nat.reduceBEq, itsOf, gdA, byteI, opid, lenQ, ixQ, ldH, readAt, readCells, asCell, faQ, exQ, fldQ, partA, buildQ, slQ, stH, bslH, appH, dcells, convI, elemsOf, D.one, nilS, fillD, convN, cvH, T3, T4, T5, T23, T25, T27, T39, gapD, boolD, intD]) | (with_reducible refine ⟨?_, ?_⟩; (· first | (obtain ⟨rfl⟩ := ‹Hq _ _›; with_reducible refine chk_ok ?_; kernel_rfl) | kernel_rfl)) | (with_reducible intro ops hops)))
        (first | refine Call_flat [] [] (sL) (by simp [cvAs, cvA, cv1, cvL, cv0, bI, byteI, intD, boolD, proofD, elemsOf, upd]) rfl ?_ | refine CallF_flat [] [] [] (sL) (fun G _ => by simp [cvAs, cvA, cv1, cvL, cv0, bI, byteI, intD, boolD, proofD, elemsOf, upd]) rfl ?_)
        (repeat (first | (simp -implicitDefEqProofs only [ev1, ev2, ev3, ev4, ev5, ev6, mixed, Nat.reduceLT, Nat.reduceAdd, Nat.reduceMul, reduceIte, Nat.reduceEqDiff, reduceCtorEq, Nat.reducePow, Nat.reduceLeDiff, Int.reduceLE, Int.reduceLT, Int.reduceToNat, Int.reduceEq, Nat.reduceBEq, itsOf, gdA, byteI, opid, lenQ, ixQ, ldH, readAt, readCells, asCell, faQ, exQ, fldQ, partA, buildQ, slQ, stH, bslH, appH, dcells, convI, elemsOf, D.one, nilS, fillD, convN, cvH, T3, T4, T5, T23, T25, T27, T39, boolD]) | (with_reducible refine ⟨?_, ?_⟩; (· first | (obtain ⟨rfl⟩ := ‹Hq _ _›; with_reducible refine chk_ok ?_; kernel_rfl) | kernel_rfl)) | (with_reducible intro ops hops)))
        (first | refine Call_flat [] [] (hcL) (by simp [cvAs, cvA, cv1, cvL, cv0, bI, byteI, intD, boolD, proofD, elemsOf, upd]) rfl ?_ | refine CallF_flat [] [] [] (hcL) (fun G _ => by simp [cvAs, cvA, cv1, cvL, cv0, bI, byteI, intD, boolD, proofD, elemsOf, upd]) rfl ?_)
        (repeat (first | (simp -implicitDefEqProofs only [ev1, ev2, ev3, ev4, ev5, ev6, mixed, Nat.reduceLT, Nat.reduceAdd, Nat.reduceMul, reduceIte, Nat.reduceEqDiff, reduceCtorEq, Nat.reducePow, Nat.reduceLeDiff, Int.reduceLE, Int.reduceLT, Int.reduceToNat, Int.reduceEq, Nat.reduceBEq, itsOf, gdA, byteI, opid, lenQ, ixQ, ldH, readAt, readCells, asCell, faQ, exQ, fldQ, partA, buildQ, slQ, stH, bslH, appH, dcells, convI, elemsOf, D.one, nilS, fillD, convN, cvH, T3, T4, T5, T23, T25, T27, T39, g1]) | (with_reducible refine ⟨?_, ?_⟩; (· first | (obtain ⟨rfl⟩ := ‹Hq _ _›; with_reducible refine chk_ok ?_; kernel_rfl) | kernel_rfl)) | (with_reducible intro ops hops)))
        refine fin_ret [] rfl ?_
        simp [cv, cv1, cv0, upd, boolD]
      cases S'
      · refine callD_W 89 Try.func21 rfl rfl rfl (fun _ _ => rfl) ?_
        (repeat (first | (simp -implicitDefEqProofs only [ev1, ev2, ev3, ev4, ev5, ev6, mixed, Nat.reduceLT, Nat.reduceAdd, Nat.reduceMul, reduceIte, Nat.reduceEqDiff, reduceCtorEq, Nat.reducePow, Nat.reduceLeDiff, Int.reduceLE, Int.reduceLT, Int.reduceToNat, Int.reduceEq, Nat.reduceBEq, itsOf, gdA, byteI, opid, lenQ, ixQ, ldH, readAt, readCells, asCell, faQ, exQ, fldQ, partA, buildQ, slQ, stH, bslH, appH, dcells, convI, elemsOf, D.one, nilS, fillD, convN, cvH, T3, T4, T5, T23, T25, T27, T39, gapD, boolD, intD]) | (with_reducible refine ⟨?_, ?_⟩; (· first | (obtain ⟨rfl⟩ := ‹Hq _ _›; with_reducible refine chk_ok ?_; kernel_rfl) | kernel_rfl)) | (with_reducible intro ops hops)))
        (first | refine Call_flat [] [] (sL) (by simp [cvAs, cvA, cv1, cvL, cv0, bI, byteI, intD, boolD, proofD, elemsOf, upd]) rfl ?_ | refine CallF_flat [] [] [] (sL) (fun G _ => by simp [cvAs, cvA, cv1, cvL, cv0, bI, byteI, intD, boolD, proofD, elemsOf, upd]) rfl ?_)
        (repeat (first | (simp -implicitDefEqProofs only [ev1, ev2, ev3, ev4, ev5, ev6, mixed, Nat.reduceLT, Nat.reduceAdd, Nat.reduceMul, reduceIte, Nat.reduceEqDiff, reduceCtorEq, Nat.reducePow, Nat.reduceLeDiff, Int.reduceLE, Int.reduceLT, Int.reduceToNat, Int.reduceEq, Nat.reduceBEq, itsOf, gdA, byteI, opid, lenQ, ixQ, ldH, readAt, readCells, asCell, faQ, exQ, fldQ, partA, buildQ, slQ, stH, bslH, appH, dcells, convI, elemsOf, D.one, nilS, fillD, convN, cvH, T3, T4, T5, T23, T25, T27, T39, boolD]) | (with_reducible refine ⟨?_, ?_⟩; (· first | (obtain ⟨rfl⟩ := ‹Hq _ _›; with_reducible refine chk_ok ?_; kernel_rfl) | kernel_rfl)) | (with_reducible intro ops hops)))
        (first | refine Call_flat [] [] (hcL) (by simp [cvAs, cvA, cv1, cvL, cv0, bI, byteI, intD, boolD, proofD, elemsOf, upd]) rfl ?_ | refine CallF_flat [] [] [] (hcL) (fun G _ => by simp [cvAs, cvA, cv1, cvL, cv0, bI, byteI, intD, boolD, proofD, elemsOf, upd]) rfl ?_)
        (repeat (first | (simp -implicitDefEqProofs only [ev1, ev2, ev3, ev4, ev5, ev6, mixed, Nat.reduceLT, Nat.reduceAdd, Nat.reduceMul, reduceIte, Nat.reduceEqDiff, reduceCtorEq, Nat.reducePow, Nat.reduceLeDiff, Int.reduceLE, Int.reduceLT, Int.reduceToNat, Int.reduceEq, Nat.reduceBEq, itsOf, gdA, byteI, opid, lenQ, ixQ, ldH, readAt, readCells, asCell, faQ, exQ, fldQ, partA, buildQ, slQ, stH, bslH, appH, dcells, convI, elemsOf, D.one, nilS, fillD, convN, cvH, T3, T4, T5, T23, T25, T27, T39, g1]) | (with_reducible refine ⟨?_, ?_⟩; (· first | (obtain ⟨rfl⟩ := ‹Hq _ _›; with_reducible refine chk_ok ?_; kernel_rfl) | kernel_rfl)) | (with_reducible intro ops hops)))
        (first | refine Call_flat [] [] (sR) (by simp [cvAs, cvA, cv1, cvL, cv0, bI, byteI, intD, boolD, proofD, elemsOf, upd]) rfl ?_ | refine CallF_flat [] [] [] (sR) (fun G _ => by simp [cvAs, cvA, cv1, cvL, cv0, bI, byteI, intD, boolD, proofD, elemsOf, upd]) rfl ?_)
        (repeat (first | (simp -implicitDefEqProofs only [ev1, ev2, ev3, ev4, ev5, ev6, mixed, Nat.reduceLT, Nat.reduceAdd, Nat.reduceMul, reduceIte, Nat.reduceEqDiff, reduceCtorEq, Nat.reducePow, Nat.reduceLeDiff, Int.reduceLE, Int.reduceLT, Int.reduceToNat, Int.reduceEq, Nat.reduceBEq, itsOf, gdA, byteI, opid, lenQ, ixQ, ldH, readAt, readCells, asCell, faQ, exQ, fldQ, partA, buildQ, slQ, stH, bslH, appH, dcells, convI, elemsOf, D.one, nilS, fillD, convN, cvH, T3, T4, T5, T23, T25, T27, T39, boolD]) | (with_reducible refine ⟨?_, ?_⟩; (· first | (obtain ⟨rfl⟩ := ‹Hq _ _›; with_reducible refine chk_ok ?_; kernel_rfl) | kernel_rfl)) | (with_reducible intro ops hops)))
        refine fin_ret [] rfl ?_
        simp [cv, cv1, cv0, upd, boolD]
      cases g2 : decide (0 ≤ C')
      case true =>
        refine callD_W 89 Try.func21 rfl rfl rfl (fun _ _ => rfl) ?_
        (repeat (first | (simp -implicitDefEqProofs only [ev1, ev2, ev3, ev4, ev5, ev6, mixed, Nat.reduceLT, Nat.reduceAdd, Nat.reduceMul, reduceIte, Nat.reduceEqDiff, reduceCtorEq, Nat.reducePow, Nat.reduceLeDiff, Int.reduceLE, Int.reduceLT, Int.reduceToNat, Int.reduceEq, Nat.reduceBEq, itsOf, gdA, byteI, opid, lenQ, ixQ, ldH, readAt, readCells, asCell, faQ, exQ, fldQ, partA, buildQ, slQ, stH, bslH, appH, dcells, convI, elemsOf, D.one, nilS, fillD, convN, cvH, T3, T4, T5, T23, T25, T27, T39, gapD, boolD, intD]) | (with_reducible refine ⟨?_, ?_⟩; (· first | (obtain ⟨rfl⟩ := ‹Hq _ _›; with_reducible refine chk_ok ?_; kernel_rfl) | kernel_rfl)) | (with_reducible intro ops hops)))
        (first | refine Call_flat [] [] (sL) (by simp [cvAs, cvA, cv1, cvL, cv0, bI, byteI, intD, boolD, proofD, elemsOf, upd]) rfl ?_ | refine CallF_flat [] [] [] (sL) (fun G _ => by simp [cvAs, cvA, cv1, cvL, cv0, bI, byteI, intD, boolD, proofD, elemsOf, upd]) rfl ?_)
        (repeat (first | (simp -implicitDefEqProofs only [ev1, ev2, ev3, ev4, ev5, ev6, mixed, Nat.reduceLT, Nat.reduceAdd, Nat.reduceMul, reduceIte, Nat.reduceEqDiff, reduceCtorEq, Nat.reducePow, Nat.reduceLeDiff, Int.reduceLE, Int.reduceLT, Int.reduceToNat, Int.reduceEq, Nat.reduceBEq, itsOf, gdA, byteI, opid, lenQ, ixQ, ldH, readAt, readCells, asCell, faQ, exQ, fldQ, partA, buildQ, slQ, stH, bslH, appH, dcells, convI, elemsOf, D.one, nilS, fillD, convN, cvH, T3, T4, T5, T23, T25, T27, T39, boolD]) | (with_reducible refine ⟨?_, ?_⟩; (· first | (obtain ⟨rfl⟩ := ‹Hq _ _›; with_reducible refine chk_ok ?_; kernel_rfl) | kernel_rfl)) | (with_reducible intro ops hops)))
        (first | refine Call_flat [] [] (hcL) (by simp [cvAs, cvA, cv1, cvL, cv0, bI, byteI, intD, boolD, proofD, elemsOf, upd]) rfl ?_ | refine CallF_flat [] [] [] (hcL) (fun G _ => by simp [cvAs, cvA, cv1, cvL, cv0, bI, byteI, intD, boolD, proofD, elemsOf, upd]) rfl ?_)
        (repeat (first | (simp -implicitDefEqProofs only [ev1, ev2, ev3, ev4, ev5, ev6, mixed, Nat.reduceLT, Nat.reduceAdd, Nat.reduceMul, reduceIte, Nat.reduceEqDiff, reduceCtorEq, Nat.reducePow, Nat.reduceLeDiff, Int.reduceLE, Int.reduceLT, Int.reduceToNat, Int.reduceEq, Nat.reduceBEq, itsOf, gdA, byteI, opid, lenQ, ixQ, ldH, readAt, readCells, asCell, faQ, exQ, fldQ, partA, buildQ, slQ, stH, bslH, appH, dcells, convI, elemsOf, D.one, nilS, fillD, convN, cvH, T3, T4, T5, T23, T25, T27, T39, g1]) | (with_reducible refine ⟨?_, ?_⟩; (· first | (obtain ⟨rfl⟩ := ‹Hq _ _›; with_reducible refine chk_ok ?_; kernel_rfl) | kernel_rfl)) | (with_reducible intro ops hops)))
        (first | refine Call_flat [] [] (sR) (by simp [cvAs, cvA, cv1, cvL, cv0, bI, byteI, intD, boolD, proofD, elemsOf, upd]) rfl ?_ | refine CallF_flat [] [] [] (sR) (fun G _ => by simp [cvAs, cvA, cv1, cvL, cv0, bI, byteI, intD, boolD, proofD, elemsOf, upd]) rfl ?_)
        (repeat (first | (simp -implicitDefEqProofs only [ev1, ev2, ev3, ev4, ev5, ev6, mixed, Nat.reduceLT, Nat.reduceAdd, Nat.reduceMul, reduceIte, Nat.reduceEqDiff, reduceCtorEq, Nat.reducePow, Nat.reduceLeDiff, Int.reduceLE, Int.reduceLT, Int.reduceToNat, Int.reduceEq, Nat.reduceBEq, itsOf, gdA, byteI, opid, lenQ, ixQ, ldH, readAt, readCells, asCell, faQ, exQ, fldQ, partA, buildQ, slQ, stH, bslH, appH, dcells, convI, elemsOf, D.one, nilS, fillD, convN, cvH, T3, T4, T5, T23, T25, T27, T39, boolD]) | (with_reducible refine ⟨?_, ?_⟩; (· first | (obtain ⟨rfl⟩ := ‹Hq _ _›; with_reducible refine chk_ok ?_; kernel_rfl) | kernel_rfl)) | (with_reducible intro ops hops)))
        (first | refine Call_flat [] [] (hcR) (by simp [cvAs, cvA, cv1, cvL, cv0, bI, byteI, intD, boolD, proofD, elemsOf, upd]) rfl ?_ | refine CallF_flat [] [] [] (hcR) (fun G _ => by simp [cvAs, cvA, cv1, cvL, cv0, bI, byteI, intD, boolD, proofD, elemsOf, upd]) rfl ?_)
        (repeat (first | (simp -implicitDefEqProofs only [ev1, ev2, ev3, ev4, ev5, ev6, mixed, Nat.reduceLT, Nat.reduceAdd, Nat.reduceMul, reduceIte, Nat.reduceEqDiff, reduceCtorEq, Nat.reducePow, Nat.reduceLeDiff, Int.reduceLE, Int.reduceLT, Int.reduceToNat, Int.reduceEq, Nat.reduceBEq, itsOf, gdA, byteI, opid, lenQ, ixQ, ldH, readAt, readCells, asCell, faQ, exQ, fldQ, partA, buildQ, slQ, stH, bslH, appH, dcells, convI, elemsOf, D.one, nilS, fillD, convN, cvH, T3, T4, T5, T23, T25, T27, T39, g2]) | (with_reducible refine ⟨?_, ?_⟩; (· first | (obtain ⟨rfl⟩ := ‹Hq _ _›; with_reducible refine chk_ok ?_; kernel_rfl) | kernel_rfl)) | (with_reducible intro ops hops)))
        refine fin_ret [] rfl ?_
        simp [cv, cv1, cv0, upd, boolD]
      cases g3 : decide (ln = rn)
      all_goals
        refine callD_W 89 Try.func21 rfl rfl rfl (fun _ _ => rfl) ?_
        (repeat (first | (simp -implicitDefEqProofs only [ev1, ev2, ev3, ev4, ev5, ev6, mixed, Nat.reduceLT, Nat.reduceAdd, Nat.reduceMul, reduceIte, Nat.reduceEqDiff, reduceCtorEq, Nat.reducePow, Nat.reduceLeDiff, Int.reduceLE, Int.reduceLT, Int.reduceToNat, Int.reduceEq, Nat.reduceBEq, itsOf, gdA, byteI, opid, lenQ, ixQ, ldH, readAt, readCells, asCell, faQ, exQ, fldQ, partA, buildQ, slQ, stH, bslH, appH, dcells, convI, elemsOf, D.one, nilS, fillD, convN, cvH, T3, T4, T5, T23, T25, T27, T39, gapD, boolD, intD]) | (with_reducible refine ⟨?_, ?_⟩; (· first | (obtain ⟨rfl⟩ := ‹Hq _ _›; with_reducible refine chk_ok ?_; kernel_rfl) | kernel_rfl)) | (with_reducible intro ops hops)))
        (first | refine Call_flat [] [] (sL) (by simp [cvAs, cvA, cv1, cvL, cv0, bI, byteI, intD, boolD, proofD, elemsOf, upd]) rfl ?_ | refine CallF_flat [] [] [] (sL) (fun G _ => by simp [cvAs, cvA, cv1, cvL, cv0, bI, byteI, intD, boolD, proofD, elemsOf, upd]) rfl ?_)
        (repeat (first | (simp -implicitDefEqProofs only [ev1, ev2, ev3, ev4, ev5, ev6, mixed, Nat.reduceLT, Nat.reduceAdd, Nat.reduceMul, reduceIte, Nat.reduceEqDiff, reduceCtorEq, Nat.reducePow, Nat.reduceLeDiff, Int.reduceLE, Int.reduceLT, Int.reduceToNat, Int.reduceEq, Nat.reduceBEq, itsOf, gdA, byteI, opid, lenQ, ixQ, ldH, readAt, readCells, asCell, faQ, exQ, fldQ, partA, buildQ, slQ, stH, bslH, appH, dcells, convI, elemsOf, D.one, nilS, fillD, convN, cvH, T3, T4, T5, T23, T25, T27, T39, boolD]) | (with_reducible refine ⟨?_, ?_⟩; (· first | (obtain ⟨rfl⟩ := ‹Hq _ _›; with_reducible refine chk_ok ?_; kernel_rfl) | kernel_rfl)) | (with_reducible intro ops hops)))
        (first | refine Call_flat [] [] (hcL) (by simp [cvAs, cvA, cv1, cvL, cv0, bI, byteI, intD, boolD, proofD, elemsOf, upd]) rfl ?_ | refine CallF_flat [] [] [] (hcL) (fun G _ => by simp [cvAs, cvA, cv1, cvL, cv0, bI, byteI, intD, boolD, proofD, elemsOf, upd]) rfl ?_)
        (repeat (first | (simp -implicitDefEqProofs only [ev1, ev2, ev3, ev4, ev5, ev6, mixed, Nat.reduceLT, Nat.reduceAdd, Nat.reduceMul, reduceIte, Nat.reduceEqDiff, reduceCtorEq, Nat.reducePow, Nat.reduceLeDiff, Int.reduceLE, Int.reduceLT, Int.reduceToNat, Int.reduceEq, Nat.reduceBEq, itsOf, gdA, byteI, opid, lenQ, ixQ, ldH, readAt, readCells, asCell, faQ, exQ, fldQ, partA, buildQ, slQ, stH, bslH, appH, dcells, convI, elemsOf, D.one, nilS, fillD, convN, cvH, T3, T4, T5, T23, T25, T27, T39, g1]) | (with_reducible refine ⟨?_, ?_⟩; (· first | (obtain ⟨rfl⟩ := ‹Hq _ _›; with_reducible refine chk_ok ?_; kernel_rfl) | kernel_rfl)) | (with_reducible intro ops hops)))
        (first | refine Call_flat [] [] (sR) (by simp [cvAs, cvA, cv1, cvL, cv0, bI, byteI, intD, boolD, proofD, elemsOf, upd]) rfl ?_ | refine CallF_flat [] [] [] (sR) (fun G _ => by simp [cvAs, cvA, cv1, cvL, cv0, bI, byteI, intD, boolD, proofD, elemsOf, upd]) rfl ?_)
        (repeat (first | (simp -implicitDefEqProofs only [ev1, ev2, ev3, ev4, ev5, ev6, mixed, Nat.reduceLT, Nat.reduceAdd, Nat.reduceMul, reduceIte, Nat.reduceEqDiff, reduceCtorEq, Nat.reducePow, Nat.reduceLeDiff, Int.reduceLE, Int.reduceLT, Int.reduceToNat, Int.reduceEq, Nat.reduceBEq, itsOf, gdA, byteI, opid, lenQ, ixQ, ldH, readAt, readCells, asCell, faQ, exQ, fldQ, partA, buildQ, slQ, stH, bslH, appH, dcells, convI, elemsOf, D.one, nilS, fillD, convN, cvH, T3, T4, T5, T23, T25, T27, T39, boolD]) | (with_reducible refine ⟨?_, ?_⟩; (· first | (obtain ⟨rfl⟩ := ‹Hq _ _›; with_reducible refine chk_ok ?_; kernel_rfl) | kernel_rfl)) | (with_reducible intro ops hops)))
        (first | refine Call_flat [] [] (hcR) (by simp [cvAs, cvA, cv1, cvL, cv0, bI, byteI, intD, boolD, proofD, elemsOf, upd]) rfl ?_ | refine CallF_flat [] [] [] (hcR) (fun G _ => by simp [cvAs, cvA, cv1, cvL, cv0, bI, byteI, intD, boolD, proofD, elemsOf, upd]) rfl ?_)
        (repeat (first | (simp -implicitDefEqProofs only [ev1, ev2, ev3, ev4, ev5, ev6, mixed, Nat.reduceLT, Nat.reduceAdd, Nat.reduceMul, reduceIte, Nat.reduceEqDiff, reduceCtorEq, Nat.reducePow, Nat.reduceLeDiff, Int.reduceLE, Int.reduceLT, Int.reduceToNat, Int.reduceEq, Nat.reduceBEq, itsOf, gdA, byteI, opid, lenQ, ixQ, ldH, readAt, readCells, asCell, faQ, exQ, fldQ, partA, buildQ, slQ, stH, bslH, appH, dcells, convI, elemsOf, D.one, nilS, fillD, convN, cvH, T3, T4, T5, T23, T25, T27, T39, g2, g3, hw]) | (with_reducible refine ⟨?_, ?_⟩; (· first | (obtain ⟨rfl⟩ := ‹Hq _ _›; with_reducible refine chk_ok ?_; kernel_rfl) | kernel_rfl)) | (with_reducible intro ops hops)))
        refine fin_ret [] rfl ?_
        simp [cv, cv1, cv0, upd, boolD]
end Go.Proofs.Ythbnhbmakapglaa
