/- landref4.Less, Wrong, Half: by value. -/
import Derived.Test.YtmclpbcipkdmcaaGreatDoorGBook
set_option linter.all false
namespace Go.Proofs.YtmclpbcipkdmcaaGreatDoor
open Go Go.Abs Go.RowKit Go.Proofs.YtmclpbcipkdmcaaGreatDoor.Ty
theorem tyRefA0 : (type_of% @Ty.T3) := @Ty.T3

set_option maxHeartbeats 4000000
theorem half_A (n : Nat) (h0 : 1 ≤ n) (hn : n ≤ 1048576) : PureD Tryz.prog 161 [intD n] (intD (splitF n)) := by
  refine callD_W 11 Tryz.func161 rfl rfl rfl (fun _ _ => rfl) ?_
  (repeat (first | (simp -implicitDefEqProofs only [ev, mixed, Nat.reduceLT, Nat.reduceAdd, Nat.reduceMul, reduceIte, Nat.reduceEqDiff, reduceCtorEq, Nat.reducePow, Nat.reduceLeDiff, Int.reduceLE, Int.reduceLT, Int.reduceToNat, Int.reduceEq, Nat.reduceBEq, itsOf, gdA, byteI, opid, lenQ, ixQ, ldH, readAt, readCells, asCell, faQ, exQ, fldQ, partA, buildQ, slQ, stH, bslH, appH, dcells, convI, elemsOf, D.one, nilS, fillD, convN, cvH, tyRefA0, intD]) | (with_reducible refine ⟨?_, ?_⟩; (· first | (obtain ⟨rfl⟩ := ‹Hq _ _›; with_reducible refine chk_ok ?_; kernel_rfl) | kernel_rfl)) | (with_reducible intro ops hops)))
  refine W_loopI (ι := Nat) (fun i => 2 ^ i = 1 ∨ 2 ^ i < n)
    (fun i => stOf [(0, intD n), (3, intD (2 ^ i : Nat))] []) (fun i => n - 2 ^ i) 0 (.inl rfl) ?_ ?_
  · refine le_stOf _ _ [] [] ?_ ?_ rfl rfl
    · simp [cv, cv1, cv0, upd, lk, srcOf, intD]
    · simp
  · rintro i hi
    rw [stOf_eq]
    have hp : 0 < 2 ^ i := Nat.pow_pos (by decide)
    have hs : 2 ^ (i + 1) = 2 * 2 ^ i := by rw [Nat.pow_succ]; omega
    have hfin := pow2_split hi
    have w1 : IntKind.i64.wrap (2 * ((2 ^ i : Nat) : Int)) = ((2 ^ (i + 1) : Nat) : Int) := by rw [hs, wrap64 (by omega) (by omega)]; omega
    generalize hx : 2 ^ i = x at *
    generalize hy : 2 ^ (i + 1) = y at *
    (repeat (first | (simp -implicitDefEqProofs only [ev, mixed, Nat.reduceLT, Nat.reduceAdd, Nat.reduceMul, reduceIte, Nat.reduceEqDiff, reduceCtorEq, Nat.reducePow, Nat.reduceLeDiff, Int.reduceLE, Int.reduceLT, Int.reduceToNat, Int.reduceEq, Nat.reduceBEq, itsOf, gdA, byteI, opid, lenQ, ixQ, ldH, readAt, readCells, asCell, faQ, exQ, fldQ, partA, buildQ, slQ, stH, bslH, appH, dcells, convI, elemsOf, D.one, nilS, fillD, convN, cvH, tyRefA0, intD, w1]) | (with_reducible refine ⟨?_, ?_⟩; (· first | (obtain ⟨rfl⟩ := ‹Hq _ _›; with_reducible refine chk_ok ?_; kernel_rfl) | kernel_rfl)) | (with_reducible intro ops hops)))
    refine Wc_split (fun h => ?_) (fun h => ?_)
    · have h1 : n ≤ 2 * x := by simp at h; omega
      clear h
      (repeat (first | (simp -implicitDefEqProofs only [ev, mixed, Nat.reduceLT, Nat.reduceAdd, Nat.reduceMul, reduceIte, Nat.reduceEqDiff, reduceCtorEq, Nat.reducePow, Nat.reduceLeDiff, Int.reduceLE, Int.reduceLT, Int.reduceToNat, Int.reduceEq, Nat.reduceBEq, itsOf, gdA, byteI, opid, lenQ, ixQ, ldH, readAt, readCells, asCell, faQ, exQ, fldQ, partA, buildQ, slQ, stH, bslH, appH, dcells, convI, elemsOf, D.one, nilS, fillD, convN, cvH, tyRefA0]) | (with_reducible refine ⟨?_, ?_⟩; (· first | (obtain ⟨rfl⟩ := ‹Hq _ _›; with_reducible refine chk_ok ?_; kernel_rfl) | kernel_rfl)) | (with_reducible intro ops hops)))
      refine fin_ret [] rfl ?_
      simp [cv, cv1, cv0, upd, intD, hfin h1 h0]
    · have h1 : y < n := by simp at h; omega
      clear h
      (repeat (first | (simp -implicitDefEqProofs only [ev, mixed, Nat.reduceLT, Nat.reduceAdd, Nat.reduceMul, reduceIte, Nat.reduceEqDiff, reduceCtorEq, Nat.reducePow, Nat.reduceLeDiff, Int.reduceLE, Int.reduceLT, Int.reduceToNat, Int.reduceEq, Nat.reduceBEq, itsOf, gdA, byteI, opid, lenQ, ixQ, ldH, readAt, readCells, asCell, faQ, exQ, fldQ, partA, buildQ, slQ, stH, bslH, appH, dcells, convI, elemsOf, D.one, nilS, fillD, convN, cvH, tyRefA0, w1]) | (with_reducible refine ⟨?_, ?_⟩; (· first | (obtain ⟨rfl⟩ := ‹Hq _ _›; with_reducible refine chk_ok ?_; kernel_rfl) | kernel_rfl)) | (with_reducible intro ops hops)))
      refine ⟨i + 1, by show 2 ^ (i + 1) = 1 ∨ 2 ^ (i + 1) < n; rw [hy]; exact .inr h1, le_stOf _ _ [] [] ?_ ?_ rfl rfl, by simp only [hx, hy]; omega⟩
      · simp only [hy]; simp [cv, cv1, cv0, upd, lk, srcOf, intD]
      · simp

end Go.Proofs.YtmclpbcipkdmcaaGreatDoor
