/- landtop.Names: a by-value contract. -/
import Derived.Test.YtjobfnpbahdolaaTy
set_option linter.all false
namespace Go.Proofs.Ytjobfnpbahdolaa
open Go Go.Abs Go.RowKit Go.Proofs.Ytjobfnpbahdolaa.Ty

def intI (z : Int) : List I := [.s (.int .i64 z)]
def errsZ : List Int := [0, 1, 2, 3, 4, 5, 6, 7, 8, 9, 10, 11, 12]
def wantZ : List Int := [1152921504606849707, 576460752303424853, 4, 1, 2, 200, 20000, 200, 60, 200, 10, 1000000, 30, 10, 1, 2, 3, 1, 2, 3, 4, 4, 8, 8, 50, 60, 150, 40, 49, 48, 1, 2, 3, 4, 5, 6, 7, 8, 9, 10, 11, 12, 13, 14, 15, 16, 17, 18, 1, 2, 3, 4, 5, 32, 40, 1000000000000, 20, 120]
theorem errs_get (k : Nat) (h : k < 13) : (errsZ.map intI)[k]? = some [.s (.int .i64 (k : Int))] := by
  have : ∀ k : Nat, k < 13 → errsZ[k]? = some (k : Int) := by decide +kernel
  rw [List.getElem?_map, this k h]; rfl
theorem want_get (k : Nat) (h : k < 58) : ∃ z, (wantZ.map intI)[k]? = some [.s (.int .i64 z)] :=
  ⟨wantZ[k]'(by simpa [wantZ] using h), by rw [List.getElem?_map, List.getElem?_eq_getElem (by simpa [wantZ] using h)]; rfl⟩

set_option maxHeartbeats 4000000
theorem walk_Names : ∃ Ds, PureD Try.prog 3 Ds (.i (.s (.bool true))) ∧ Ds = [] := by
  refine ⟨_, ?_, rfl⟩
  refine callD_W 36 Try.func3 rfl rfl rfl (fun _ _ => rfl) ?_
  (repeat (first | (simp -implicitDefEqProofs only [ev1, ev2, ev3, ev4, ev5, mixed, Nat.reduceLT, Nat.reduceAdd, Nat.reduceMul, reduceIte, Nat.reduceEqDiff, reduceCtorEq, Nat.reducePow, Nat.reduceLeDiff, Int.reduceLE, Int.reduceLT, Int.reduceToNat, Int.reduceEq, itsOf, gdA, byteI, opid, lenQ, ixQ, ldH, readAt, readCells, asCell, faQ, exQ, fldQ, partA, buildQ, slQ, stH, bslH, appH, dcells, convI, elemsOf, D.one, nilS, fillD, convN, cvH, T3, T9, T12, T13, T22, T23, T24]) | (with_reducible refine ⟨?_, ?_⟩; (· first | (obtain ⟨rfl⟩ := ‹Hq _ _›; with_reducible refine chk_ok ?_; kernel_rfl) | kernel_rfl)) | (with_reducible intro ops hops)))
  refine W_loopI (ι := Nat) (fun k => k ≤ 13) (fun k => stOf [(8, .os 100 1 0 13), (9, .i (.s (.int .i64 13))), (10, .i (.s (.int .i64 (k : Nat))))] [(100, .arr 1 (errsZ.map intI))]) (fun k => 13 - k) 0 (by omega) ?_ ?_
  · refine le_stOf _ _ [] [(100, 1256)] ?_ ?_ rfl rfl
    · simp [cv, cv1, cv0, upd, lk, srcOf]
    · simp [objOk, srcOf, lk, cvO, frz, upd, errsZ, intI]
  · intro k hk
    rw [stOf_eq]
    (repeat (first | (simp -implicitDefEqProofs only [ev1, ev2, ev3, ev4, ev5, mixed, Nat.reduceLT, Nat.reduceAdd, Nat.reduceMul, reduceIte, Nat.reduceEqDiff, reduceCtorEq, Nat.reducePow, Nat.reduceLeDiff, Int.reduceLE, Int.reduceLT, Int.reduceToNat, Int.reduceEq, itsOf, gdA, byteI, opid, lenQ, ixQ, ldH, readAt, readCells, asCell, faQ, exQ, fldQ, partA, buildQ, slQ, stH, bslH, appH, dcells, convI, elemsOf, D.one, nilS, fillD, convN, cvH, T3, T9, T12, T13, T22, T23, T24]) | (with_reducible refine ⟨?_, ?_⟩; (· first | (obtain ⟨rfl⟩ := ‹Hq _ _›; with_reducible refine chk_ok ?_; kernel_rfl) | kernel_rfl)) | (with_reducible intro ops hops)))
    refine Wc_split (fun h => ?_) (fun h => ?_)
    · have h1 : k < 13 := by simp at h; omega
      clear h
      have e1 := errs_get k h1
      have l1 : ((k : Int) < 13) = True := eq_true (by omega)
      have w1 : IntKind.i64.wrap ((k : Int) + 1) = ((k + 1 : Nat) : Int) := by rw [wrap64 (by omega) (by omega)]; omega
      (repeat (first | (simp -implicitDefEqProofs only [ev1, ev2, ev3, ev4, ev5, mixed, Nat.reduceLT, Nat.reduceAdd, Nat.reduceMul, reduceIte, Nat.reduceEqDiff, reduceCtorEq, Nat.reducePow, Nat.reduceLeDiff, Int.reduceLE, Int.reduceLT, Int.reduceToNat, Int.reduceEq, itsOf, gdA, byteI, opid, lenQ, ixQ, ldH, readAt, readCells, asCell, faQ, exQ, fldQ, partA, buildQ, slQ, stH, bslH, appH, dcells, convI, elemsOf, D.one, nilS, fillD, convN, cvH, T3, T9, T12, T13, T22, T23, T24, e1, l1, w1]) | (with_reducible refine ⟨?_, ?_⟩; (· first | (obtain ⟨rfl⟩ := ‹Hq _ _›; with_reducible refine chk_ok ?_; kernel_rfl) | kernel_rfl)) | (with_reducible intro ops hops)))
      refine ⟨k + 1, h1, le_stOf _ _ [] [(100, 100)] ?_ ?_ rfl rfl, ?_⟩
      · simp [cv, cv1, cv0, upd, lk, srcOf]
      · simp [objOk, srcOf, lk, cvO, frz, upd, hO]
      · simp; omega
    · (repeat (first | (simp -implicitDefEqProofs only [ev1, ev2, ev3, ev4, ev5, mixed, Nat.reduceLT, Nat.reduceAdd, Nat.reduceMul, reduceIte, Nat.reduceEqDiff, reduceCtorEq, Nat.reducePow, Nat.reduceLeDiff, Int.reduceLE, Int.reduceLT, Int.reduceToNat, Int.reduceEq, itsOf, gdA, byteI, opid, lenQ, ixQ, ldH, readAt, readCells, asCell, faQ, exQ, fldQ, partA, buildQ, slQ, stH, bslH, appH, dcells, convI, elemsOf, D.one, nilS, fillD, convN, cvH, T3, T9, T12, T13, T22, T23, T24]) | (with_reducible refine ⟨?_, ?_⟩; (· first | (obtain ⟨rfl⟩ := ‹Hq _ _›; with_reducible refine chk_ok ?_; kernel_rfl) | kernel_rfl)) | (with_reducible intro ops hops)))
      refine W_loopI (ι := Nat) (fun k => k ≤ 58) (fun k => stOf [(4, .os 100 1 0 58), (5, .os 101 1 0 58), (22, .i (.s (.int .i64 58))), (23, .i (.s (.int .i64 (k : Nat))))] [(100, .arr 1 (wantZ.map intI)), (101, .arr 1 (wantZ.map intI))]) (fun k => 58 - k) 0 (by omega) ?_ ?_
      · refine le_stOf _ _ [] [(100, 3048), (101, 3304)] ?_ ?_ rfl rfl
        · simp [cv, cv1, cv0, upd, lk, srcOf]
        · simp [objOk, srcOf, lk, cvO, frz, upd, wantZ, intI]
      · intro k hk
        rw [stOf_eq]
        (repeat (first | (simp -implicitDefEqProofs only [ev1, ev2, ev3, ev4, ev5, mixed, Nat.reduceLT, Nat.reduceAdd, Nat.reduceMul, reduceIte, Nat.reduceEqDiff, reduceCtorEq, Nat.reducePow, Nat.reduceLeDiff, Int.reduceLE, Int.reduceLT, Int.reduceToNat, Int.reduceEq, itsOf, gdA, byteI, opid, lenQ, ixQ, ldH, readAt, readCells, asCell, faQ, exQ, fldQ, partA, buildQ, slQ, stH, bslH, appH, dcells, convI, elemsOf, D.one, nilS, fillD, convN, cvH, T3, T9, T12, T13, T22, T23, T24]) | (with_reducible refine ⟨?_, ?_⟩; (· first | (obtain ⟨rfl⟩ := ‹Hq _ _›; with_reducible refine chk_ok ?_; kernel_rfl) | kernel_rfl)) | (with_reducible intro ops hops)))
        refine Wc_split (fun h => ?_) (fun h => ?_)
        · have h1 : k < 58 := by simp at h; omega
          clear h
          obtain ⟨z, e1⟩ := want_get k h1
          have l1 : ((k : Int) < 58) = True := eq_true (by omega)
          have w1 : IntKind.i64.wrap ((k : Int) + 1) = ((k + 1 : Nat) : Int) := by rw [wrap64 (by omega) (by omega)]; omega
          (repeat (first | (simp -implicitDefEqProofs only [ev1, ev2, ev3, ev4, ev5, mixed, Nat.reduceLT, Nat.reduceAdd, Nat.reduceMul, reduceIte, Nat.reduceEqDiff, reduceCtorEq, Nat.reducePow, Nat.reduceLeDiff, Int.reduceLE, Int.reduceLT, Int.reduceToNat, Int.reduceEq, itsOf, gdA, byteI, opid, lenQ, ixQ, ldH, readAt, readCells, asCell, faQ, exQ, fldQ, partA, buildQ, slQ, stH, bslH, appH, dcells, convI, elemsOf, D.one, nilS, fillD, convN, cvH, T3, T9, T12, T13, T22, T23, T24, e1, l1, w1]) | (with_reducible refine ⟨?_, ?_⟩; (· first | (obtain ⟨rfl⟩ := ‹Hq _ _›; with_reducible refine chk_ok ?_; kernel_rfl) | kernel_rfl)) | (with_reducible intro ops hops)))
          refine ⟨k + 1, h1, le_stOf _ _ [] [(100, 100), (101, 101)] ?_ ?_ rfl rfl, ?_⟩
          · simp [cv, cv1, cv0, upd, lk, srcOf]
          · simp [objOk, srcOf, lk, cvO, frz, upd, hO]
          · simp; omega
        · (repeat (first | (simp -implicitDefEqProofs only [ev1, ev2, ev3, ev4, ev5, mixed, Nat.reduceLT, Nat.reduceAdd, Nat.reduceMul, reduceIte, Nat.reduceEqDiff, reduceCtorEq, Nat.reducePow, Nat.reduceLeDiff, Int.reduceLE, Int.reduceLT, Int.reduceToNat, Int.reduceEq, itsOf, gdA, byteI, opid, lenQ, ixQ, ldH, readAt, readCells, asCell, faQ, exQ, fldQ, partA, buildQ, slQ, stH, bslH, appH, dcells, convI, elemsOf, D.one, nilS, fillD, convN, cvH, T3, T9, T12, T13, T22, T23, T24]) | (with_reducible refine ⟨?_, ?_⟩; (· first | (obtain ⟨rfl⟩ := ‹Hq _ _›; with_reducible refine chk_ok ?_; kernel_rfl) | kernel_rfl)) | (with_reducible intro ops hops)))
          refine fin_ret [] rfl ?_
          simp [cv, cv1, cv0, upd]
end Go.Proofs.Ytjobfnpbahdolaa
