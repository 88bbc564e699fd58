/- proof.form, tree, Shown: by value. -/
import Derived.Test.YthbnhbmakapglaaProofB
set_option linter.all false
namespace Go.Proofs.Ythbnhbmakapglaa
open Go Go.Abs Go.RowKit Go.Proofs.Ythbnhbmakapglaa.Ty

def formI (p : ProofD) : List I := [.s (.int .i64 p.i), .s (.int .i64 p.n), bI p.k, bI p.v, bbI p.path]
def formG (p : ProofD) : Bool := decide (p.n < 1) || decide (200 < p.n) || decide (p.i < 0) || decide (p.n ≤ p.i) || decide (60 < p.k.length) || decide (200 < p.v.length) || decide (40 < p.path.length)
def formF (p : ProofD) : Bool := !formG p && p.path.all fun d => decide (d.length = 32)
theorem formF_no {p : ProofD} (h : formG p = true) : formF p = false := by simp [formF, h]
theorem all_drop {l : List (List UInt8)} {i : Nat} (h : i < l.length) : (l.drop i).all (fun d => decide (d.length = 32)) = (decide (l[i].length = 32) && (l.drop (i + 1)).all fun d => decide (d.length = 32)) := by
  rw [List.drop_eq_getElem_cons h]; rfl
set_option maxHeartbeats 4000000
theorem form_A (p : ProofD) : PureD Try.prog 47 [.rp (formI p) 0] (boolD (formF p)) := by
  have hN := formF_no (p := p)
  unfold formG at hN
  obtain ⟨i, n, k, v, q⟩ := p
  have hl : (q.map fun b => [bI b]).length = q.length := by simp
  have e0 : ∀ j (h : j < q.length), (q.map fun b => [bI b])[j]? = some [bI q[j]] := fun j h => by rw [List.getElem?_map, List.getElem?_eq_getElem h]; rfl
  cases g1 : decide (n < 1)
  case true =>
    rw [hN (by simp [g1])]
    refine callD_W 72 Try.func47 rfl rfl rfl (fun _ _ => rfl) ?_
    (repeat (first | (simp -implicitDefEqProofs only [ev1, ev2, ev3, ev4, ev5, ev6, mixed, Nat.reduceLT, Nat.reduceAdd, Nat.reduceMul, reduceIte, Nat.reduceEqDiff, reduceCtorEq, Nat.reducePow, Nat.reduceLeDiff, Int.reduceLE, Int.reduceLT, Int.reduceToNat, Int.reduceEq, Nat.reduceBEq, itsOf, gdA, byteI, opid, lenQ, ixQ, ldH, readAt, readCells, asCell, faQ, exQ, fldQ, partA, buildQ, slQ, stH, bslH, appH, dcells, convI, elemsOf, D.one, nilS, fillD, convN, cvH, T3, T5, T23, T25, T27, formI, g1]) | (with_reducible refine ⟨?_, ?_⟩; (· first | (obtain ⟨rfl⟩ := ‹Hq _ _›; with_reducible refine chk_ok ?_; kernel_rfl) | kernel_rfl)) | (with_reducible intro ops hops)))
    refine fin_ret [] rfl ?_
    simp [cv, cv1, cv0, upd, boolD]
  cases g2 : decide ((200 : Int) < n)
  case true =>
    rw [hN (by simp [g2])]
    refine callD_W 72 Try.func47 rfl rfl rfl (fun _ _ => rfl) ?_
    (repeat (first | (simp -implicitDefEqProofs only [ev1, ev2, ev3, ev4, ev5, ev6, mixed, Nat.reduceLT, Nat.reduceAdd, Nat.reduceMul, reduceIte, Nat.reduceEqDiff, reduceCtorEq, Nat.reducePow, Nat.reduceLeDiff, Int.reduceLE, Int.reduceLT, Int.reduceToNat, Int.reduceEq, Nat.reduceBEq, itsOf, gdA, byteI, opid, lenQ, ixQ, ldH, readAt, readCells, asCell, faQ, exQ, fldQ, partA, buildQ, slQ, stH, bslH, appH, dcells, convI, elemsOf, D.one, nilS, fillD, convN, cvH, T3, T5, T23, T25, T27, formI, g1, g2]) | (with_reducible refine ⟨?_, ?_⟩; (· first | (obtain ⟨rfl⟩ := ‹Hq _ _›; with_reducible refine chk_ok ?_; kernel_rfl) | kernel_rfl)) | (with_reducible intro ops hops)))
    refine fin_ret [] rfl ?_
    simp [cv, cv1, cv0, upd, boolD]
  cases g3 : decide (i < 0)
  case true =>
    rw [hN (by simp [g3])]
    refine callD_W 72 Try.func47 rfl rfl rfl (fun _ _ => rfl) ?_
    (repeat (first | (simp -implicitDefEqProofs only [ev1, ev2, ev3, ev4, ev5, ev6, mixed, Nat.reduceLT, Nat.reduceAdd, Nat.reduceMul, reduceIte, Nat.reduceEqDiff, reduceCtorEq, Nat.reducePow, Nat.reduceLeDiff, Int.reduceLE, Int.reduceLT, Int.reduceToNat, Int.reduceEq, Nat.reduceBEq, itsOf, gdA, byteI, opid, lenQ, ixQ, ldH, readAt, readCells, asCell, faQ, exQ, fldQ, partA, buildQ, slQ, stH, bslH, appH, dcells, convI, elemsOf, D.one, nilS, fillD, convN, cvH, T3, T5, T23, T25, T27, formI, g1, g2, g3]) | (with_reducible refine ⟨?_, ?_⟩; (· first | (obtain ⟨rfl⟩ := ‹Hq _ _›; with_reducible refine chk_ok ?_; kernel_rfl) | kernel_rfl)) | (with_reducible intro ops hops)))
    refine fin_ret [] rfl ?_
    simp [cv, cv1, cv0, upd, boolD]
  cases g4 : decide (n ≤ i)
  case true =>
    rw [hN (by simp [g4])]
    refine callD_W 72 Try.func47 rfl rfl rfl (fun _ _ => rfl) ?_
    (repeat (first | (simp -implicitDefEqProofs only [ev1, ev2, ev3, ev4, ev5, ev6, mixed, Nat.reduceLT, Nat.reduceAdd, Nat.reduceMul, reduceIte, Nat.reduceEqDiff, reduceCtorEq, Nat.reducePow, Nat.reduceLeDiff, Int.reduceLE, Int.reduceLT, Int.reduceToNat, Int.reduceEq, Nat.reduceBEq, itsOf, gdA, byteI, opid, lenQ, ixQ, ldH, readAt, readCells, asCell, faQ, exQ, fldQ, partA, buildQ, slQ, stH, bslH, appH, dcells, convI, elemsOf, D.one, nilS, fillD, convN, cvH, T3, T5, T23, T25, T27, formI, g1, g2, g3, g4]) | (with_reducible refine ⟨?_, ?_⟩; (· first | (obtain ⟨rfl⟩ := ‹Hq _ _›; with_reducible refine chk_ok ?_; kernel_rfl) | kernel_rfl)) | (with_reducible intro ops hops)))
    refine fin_ret [] rfl ?_
    simp [cv, cv1, cv0, upd, boolD]
  cases g5 : decide ((60 : Int) < (k.length : Int))
  case true =>
    rw [hN (by simp at g5; simp; omega)]
    refine callD_W 72 Try.func47 rfl rfl rfl (fun _ _ => rfl) ?_
    (repeat (first | (simp -implicitDefEqProofs only [ev1, ev2, ev3, ev4, ev5, ev6, mixed, Nat.reduceLT, Nat.reduceAdd, Nat.reduceMul, reduceIte, Nat.reduceEqDiff, reduceCtorEq, Nat.reducePow, Nat.reduceLeDiff, Int.reduceLE, Int.reduceLT, Int.reduceToNat, Int.reduceEq, Nat.reduceBEq, itsOf, gdA, byteI, opid, lenQ, ixQ, ldH, readAt, readCells, asCell, faQ, exQ, fldQ, partA, buildQ, slQ, stH, bslH, appH, dcells, convI, elemsOf, D.one, nilS, fillD, convN, cvH, T3, T5, T23, T25, T27, formI, g1, g2, g3, g4, g5, bI]) | (with_reducible refine ⟨?_, ?_⟩; (· first | (obtain ⟨rfl⟩ := ‹Hq _ _›; with_reducible refine chk_ok ?_; kernel_rfl) | kernel_rfl)) | (with_reducible intro ops hops)))
    refine fin_ret [] rfl ?_
    simp [cv, cv1, cv0, upd, boolD]
  cases g6 : decide ((200 : Int) < (v.length : Int))
  case true =>
    rw [hN (by simp at g6; simp; omega)]
    refine callD_W 72 Try.func47 rfl rfl rfl (fun _ _ => rfl) ?_
    (repeat (first | (simp -implicitDefEqProofs only [ev1, ev2, ev3, ev4, ev5, ev6, mixed, Nat.reduceLT, Nat.reduceAdd, Nat.reduceMul, reduceIte, Nat.reduceEqDiff, reduceCtorEq, Nat.reducePow, Nat.reduceLeDiff, Int.reduceLE, Int.reduceLT, Int.reduceToNat, Int.reduceEq, Nat.reduceBEq, itsOf, gdA, byteI, opid, lenQ, ixQ, ldH, readAt, readCells, asCell, faQ, exQ, fldQ, partA, buildQ, slQ, stH, bslH, appH, dcells, convI, elemsOf, D.one, nilS, fillD, convN, cvH, T3, T5, T23, T25, T27, formI, g1, g2, g3, g4, g5, g6, bI]) | (with_reducible refine ⟨?_, ?_⟩; (· first | (obtain ⟨rfl⟩ := ‹Hq _ _›; with_reducible refine chk_ok ?_; kernel_rfl) | kernel_rfl)) | (with_reducible intro ops hops)))
    refine fin_ret [] rfl ?_
    simp [cv, cv1, cv0, upd, boolD]
  cases g7 : decide ((40 : Int) < (q.length : Int))
  case true =>
    rw [hN (by simp at g7; simp; omega)]
    refine callD_W 72 Try.func47 rfl rfl rfl (fun _ _ => rfl) ?_
    (repeat (first | (simp -implicitDefEqProofs only [ev1, ev2, ev3, ev4, ev5, ev6, mixed, Nat.reduceLT, Nat.reduceAdd, Nat.reduceMul, reduceIte, Nat.reduceEqDiff, reduceCtorEq, Nat.reducePow, Nat.reduceLeDiff, Int.reduceLE, Int.reduceLT, Int.reduceToNat, Int.reduceEq, Nat.reduceBEq, itsOf, gdA, byteI, opid, lenQ, ixQ, ldH, readAt, readCells, asCell, faQ, exQ, fldQ, partA, buildQ, slQ, stH, bslH, appH, dcells, convI, elemsOf, D.one, nilS, fillD, convN, cvH, T3, T5, T23, T25, T27, formI, g1, g2, g3, g4, g5, g6, g7, bI, bbI, hl]) | (with_reducible refine ⟨?_, ?_⟩; (· first | (obtain ⟨rfl⟩ := ‹Hq _ _›; with_reducible refine chk_ok ?_; kernel_rfl) | kernel_rfl)) | (with_reducible intro ops hops)))
    refine fin_ret [] rfl ?_
    simp [cv, cv1, cv0, upd, boolD]
  have hF : formF ⟨i, n, k, v, q⟩ = (q.drop 0).all fun d => decide (d.length = 32) := by
    have b5 : decide (60 < k.length) = false := by simp at g5 ⊢; omega
    have b6 : decide (200 < v.length) = false := by simp at g6 ⊢; omega
    have b7 : decide (40 < q.length) = false := by simp at g7 ⊢; omega
    simp [formF, formG, g1, g2, g3, g4, b5, b6, b7]
  have hq : q.length ≤ 40 := by simp at g7; omega
  generalize formF ⟨i, n, k, v, q⟩ = R at hF
  clear hN
  refine callD_W 72 Try.func47 rfl rfl rfl (fun _ _ => rfl) ?_
  (repeat (first | (simp -implicitDefEqProofs only [ev1, ev2, ev3, ev4, ev5, ev6, mixed, Nat.reduceLT, Nat.reduceAdd, Nat.reduceMul, reduceIte, Nat.reduceEqDiff, reduceCtorEq, Nat.reducePow, Nat.reduceLeDiff, Int.reduceLE, Int.reduceLT, Int.reduceToNat, Int.reduceEq, Nat.reduceBEq, itsOf, gdA, byteI, opid, lenQ, ixQ, ldH, readAt, readCells, asCell, faQ, exQ, fldQ, partA, buildQ, slQ, stH, bslH, appH, dcells, convI, elemsOf, D.one, nilS, fillD, convN, cvH, T3, T5, T23, T25, T27, formI, g1, g2, g3, g4, g5, g6, g7, bI, bbI, hl]) | (with_reducible refine ⟨?_, ?_⟩; (· first | (obtain ⟨rfl⟩ := ‹Hq _ _›; with_reducible refine chk_ok ?_; kernel_rfl) | kernel_rfl)) | (with_reducible intro ops hops)))
  refine W_loopI (ι := Nat) (fun j => j ≤ q.length ∧ R = (q.drop j).all fun d => decide (d.length = 32))
    (fun j => stOf [(62, .i (bbI q)), (63, intD q.length), (64, intD j)] []) (fun j => q.length - j) 0 ⟨Nat.zero_le _, hF⟩ ?_ ?_
  · refine le_stOf _ _ [] [] ?_ ?_ rfl rfl
    · simp [cv, cvL, cv1, cv0, upd, lk, srcOf, intD, bbI, bI]
    · simp
  · rintro j ⟨hj, hR⟩
    rw [stOf_eq]
    (repeat (first | (simp -implicitDefEqProofs only [ev1, ev2, ev3, ev4, ev5, ev6, mixed, Nat.reduceLT, Nat.reduceAdd, Nat.reduceMul, reduceIte, Nat.reduceEqDiff, reduceCtorEq, Nat.reducePow, Nat.reduceLeDiff, Int.reduceLE, Int.reduceLT, Int.reduceToNat, Int.reduceEq, Nat.reduceBEq, itsOf, gdA, byteI, opid, lenQ, ixQ, ldH, readAt, readCells, asCell, faQ, exQ, fldQ, partA, buildQ, slQ, stH, bslH, appH, dcells, convI, elemsOf, D.one, nilS, fillD, convN, cvH, T3, T5, T23, T25, T27, intD]) | (with_reducible refine ⟨?_, ?_⟩; (· first | (obtain ⟨rfl⟩ := ‹Hq _ _›; with_reducible refine chk_ok ?_; kernel_rfl) | kernel_rfl)) | (with_reducible intro ops hops)))
    refine Wc_split (fun h => ?_) (fun h => ?_)
    · have h2 : j < q.length := by simp at h; omega
      clear h
      have e1 := e0 j h2
      simp only [bI] at e1
      rw [all_drop h2] at hR
      have w1 : IntKind.i64.wrap ((j : Int) + 1) = ((j + 1 : Nat) : Int) := by rw [wrap64 (by omega) (by omega)]; omega
      generalize q[j] = d at *
      (repeat (first | (simp -implicitDefEqProofs only [ev1, ev2, ev3, ev4, ev5, ev6, mixed, Nat.reduceLT, Nat.reduceAdd, Nat.reduceMul, reduceIte, Nat.reduceEqDiff, reduceCtorEq, Nat.reducePow, Nat.reduceLeDiff, Int.reduceLE, Int.reduceLT, Int.reduceToNat, Int.reduceEq, Nat.reduceBEq, itsOf, gdA, byteI, opid, lenQ, ixQ, ldH, readAt, readCells, asCell, faQ, exQ, fldQ, partA, buildQ, slQ, stH, bslH, appH, dcells, convI, elemsOf, D.one, nilS, fillD, convN, cvH, T3, T5, T23, T25, T27, bbI, e1, bI]) | (with_reducible refine ⟨?_, ?_⟩; (· first | (obtain ⟨rfl⟩ := ‹Hq _ _›; with_reducible refine chk_ok ?_; kernel_rfl) | kernel_rfl)) | (with_reducible intro ops hops)))
      refine Wc_split (fun h => ?_) (fun h => ?_)
      · have h3 : d.length ≠ 32 := by simp at h; omega
        simp only [h3, decide_false, Bool.false_and] at hR
        (repeat (first | (simp -implicitDefEqProofs only [ev1, ev2, ev3, ev4, ev5, ev6, mixed, Nat.reduceLT, Nat.reduceAdd, Nat.reduceMul, reduceIte, Nat.reduceEqDiff, reduceCtorEq, Nat.reducePow, Nat.reduceLeDiff, Int.reduceLE, Int.reduceLT, Int.reduceToNat, Int.reduceEq, Nat.reduceBEq, itsOf, gdA, byteI, opid, lenQ, ixQ, ldH, readAt, readCells, asCell, faQ, exQ, fldQ, partA, buildQ, slQ, stH, bslH, appH, dcells, convI, elemsOf, D.one, nilS, fillD, convN, cvH, T3, T5, T23, T25, T27]) | (with_reducible refine ⟨?_, ?_⟩; (· first | (obtain ⟨rfl⟩ := ‹Hq _ _›; with_reducible refine chk_ok ?_; kernel_rfl) | kernel_rfl)) | (with_reducible intro ops hops)))
        refine fin_ret [] rfl ?_
        simp [cv, cv1, cv0, upd, hR, boolD]
      · have h3 : d.length = 32 := by simp at h; omega
        simp only [h3, decide_true, Bool.true_and] at hR
        (repeat (first | (simp -implicitDefEqProofs only [ev1, ev2, ev3, ev4, ev5, ev6, mixed, Nat.reduceLT, Nat.reduceAdd, Nat.reduceMul, reduceIte, Nat.reduceEqDiff, reduceCtorEq, Nat.reducePow, Nat.reduceLeDiff, Int.reduceLE, Int.reduceLT, Int.reduceToNat, Int.reduceEq, Nat.reduceBEq, itsOf, gdA, byteI, opid, lenQ, ixQ, ldH, readAt, readCells, asCell, faQ, exQ, fldQ, partA, buildQ, slQ, stH, bslH, appH, dcells, convI, elemsOf, D.one, nilS, fillD, convN, cvH, T3, T5, T23, T25, T27, w1]) | (with_reducible refine ⟨?_, ?_⟩; (· first | (obtain ⟨rfl⟩ := ‹Hq _ _›; with_reducible refine chk_ok ?_; kernel_rfl) | kernel_rfl)) | (with_reducible intro ops hops)))
        refine ⟨j + 1, ⟨h2, hR⟩, le_stOf _ _ [] [] ?_ ?_ rfl rfl, by simp; omega⟩
        · simp [cv, cvL, cv1, cv0, upd, lk, srcOf, intD, bbI, bI]
        · simp
    · have h2 : ¬ j < q.length := by simp at h; omega
      clear h
      rw [List.drop_eq_nil_of_le (by omega)] at hR
      (repeat (first | (simp -implicitDefEqProofs only [ev1, ev2, ev3, ev4, ev5, ev6, mixed, Nat.reduceLT, Nat.reduceAdd, Nat.reduceMul, reduceIte, Nat.reduceEqDiff, reduceCtorEq, Nat.reducePow, Nat.reduceLeDiff, Int.reduceLE, Int.reduceLT, Int.reduceToNat, Int.reduceEq, Nat.reduceBEq, itsOf, gdA, byteI, opid, lenQ, ixQ, ldH, readAt, readCells, asCell, faQ, exQ, fldQ, partA, buildQ, slQ, stH, bslH, appH, dcells, convI, elemsOf, D.one, nilS, fillD, convN, cvH, T3, T5, T23, T25, T27]) | (with_reducible refine ⟨?_, ?_⟩; (· first | (obtain ⟨rfl⟩ := ‹Hq _ _›; with_reducible refine chk_ok ?_; kernel_rfl) | kernel_rfl)) | (with_reducible intro ops hops)))
      refine fin_ret [] rfl ?_
      simp [cv, cv1, cv0, upd, hR, boolD]
end Go.Proofs.Ythbnhbmakapglaa
