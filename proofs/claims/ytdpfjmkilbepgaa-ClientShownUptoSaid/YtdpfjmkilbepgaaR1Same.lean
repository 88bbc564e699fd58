/- The contract of landref1.Same, by the abstract walk. -/
import Derived.Test.YtdpfjmkilbepgaaAbs4
import Derived.Test.YtdpfjmkilbepgaaTy
set_option linter.all false
namespace Go.Proofs.Ytdpfjmkilbepgaa
open Go Go.Abs Go.RowKit Go.Proofs.Ytdpfjmkilbepgaa.Ty
theorem tyR1Same0 : (type_of% @Ty.T3) ∧ (type_of% @Ty.T5) ∧ (type_of% @Ty.T25) := ⟨@Ty.T3, @Ty.T5, @Ty.T25⟩

set_option maxHeartbeats 1000000
theorem same_A (x y : List UInt8) (hx : x.length ≤ 1099511627776) : PureD Try.prog 25 [.i (bI x), .i (bI y)] (.i (.s (.bool (decide (x = y))))) := by
  refine callD_W 26 Try.func25 rfl rfl rfl (fun _ _ => rfl) ?_
  (repeat (first | (simp -implicitDefEqProofs only [ev, mixed, Nat.reduceLT, Nat.reduceAdd, Nat.reduceMul, reduceIte, Nat.reduceEqDiff, reduceCtorEq, Nat.reducePow, Nat.reduceLeDiff, Int.reduceLE, Int.reduceLT, Int.reduceToNat, Int.reduceEq, Nat.reduceBEq, itsOf, gdA, byteI, opid, lenQ, ixQ, ldH, readAt, readCells, asCell, faQ, exQ, fldQ, partA, buildQ, slQ, stH, bslH, appH, dcells, convI, elemsOf, D.one, nilS, fillD, convN, cvH, tyR1Same0, bI]) | (with_reducible refine ⟨?_, ?_⟩; (· first | (obtain ⟨rfl⟩ := ‹Hq _ _›; with_reducible refine chk_ok ?_; kernel_rfl) | kernel_rfl)) | (with_reducible intro ops hops)))
  refine Wc_split (fun h => ?_) (fun h => ?_)
  · (repeat (first | (simp -implicitDefEqProofs only [ev, mixed, Nat.reduceLT, Nat.reduceAdd, Nat.reduceMul, reduceIte, Nat.reduceEqDiff, reduceCtorEq, Nat.reducePow, Nat.reduceLeDiff, Int.reduceLE, Int.reduceLT, Int.reduceToNat, Int.reduceEq, Nat.reduceBEq, itsOf, gdA, byteI, opid, lenQ, ixQ, ldH, readAt, readCells, asCell, faQ, exQ, fldQ, partA, buildQ, slQ, stH, bslH, appH, dcells, convI, elemsOf, D.one, nilS, fillD, convN, cvH, tyR1Same0, bI]) | (with_reducible refine ⟨?_, ?_⟩; (· first | (obtain ⟨rfl⟩ := ‹Hq _ _›; with_reducible refine chk_ok ?_; kernel_rfl) | kernel_rfl)) | (with_reducible intro ops hops)))
    refine fin_ret [] rfl ?_
    have : x ≠ y := by intro e; subst e; simp at h
    simp [cv, cv1, cv0, upd, this]
  · have hl : x.length = y.length := by simp at h; omega
    clear h
    (repeat (first | (simp -implicitDefEqProofs only [ev, mixed, Nat.reduceLT, Nat.reduceAdd, Nat.reduceMul, reduceIte, Nat.reduceEqDiff, reduceCtorEq, Nat.reducePow, Nat.reduceLeDiff, Int.reduceLE, Int.reduceLT, Int.reduceToNat, Int.reduceEq, Nat.reduceBEq, itsOf, gdA, byteI, opid, lenQ, ixQ, ldH, readAt, readCells, asCell, faQ, exQ, fldQ, partA, buildQ, slQ, stH, bslH, appH, dcells, convI, elemsOf, D.one, nilS, fillD, convN, cvH, tyR1Same0, bI]) | (with_reducible refine ⟨?_, ?_⟩; (· first | (obtain ⟨rfl⟩ := ‹Hq _ _›; with_reducible refine chk_ok ?_; kernel_rfl) | kernel_rfl)) | (with_reducible intro ops hops)))
    refine W_loop (ι := { k : Nat // k ≤ x.length ∧ x.take k = y.take k }) (fun k => stOf [(0, .i (.sl (x.map byteI))), (1, .i (.sl (y.map byteI))), (12, .i (.s (.int .i64 x.length))), (13, .i (.s (.int .i64 (k.1 : Nat))))] []) (fun k => x.length - k.1) ⟨0, by simp⟩ ?_ ?_
    · refine le_stOf _ _ [] [] ?_ ?_ rfl rfl
      · simp [cv, cv1, cv0, upd, lk]
      · simp
    · rintro ⟨k, hk, ht⟩
      rw [stOf_eq]
      (repeat (first | (simp -implicitDefEqProofs only [ev, mixed, Nat.reduceLT, Nat.reduceAdd, Nat.reduceMul, reduceIte, Nat.reduceEqDiff, reduceCtorEq, Nat.reducePow, Nat.reduceLeDiff, Int.reduceLE, Int.reduceLT, Int.reduceToNat, Int.reduceEq, Nat.reduceBEq, itsOf, gdA, byteI, opid, lenQ, ixQ, ldH, readAt, readCells, asCell, faQ, exQ, fldQ, partA, buildQ, slQ, stH, bslH, appH, dcells, convI, elemsOf, D.one, nilS, fillD, convN, cvH, tyR1Same0]) | (with_reducible refine ⟨?_, ?_⟩; (· first | (obtain ⟨rfl⟩ := ‹Hq _ _›; with_reducible refine chk_ok ?_; kernel_rfl) | kernel_rfl)) | (with_reducible intro ops hops)))
      refine Wc_split (fun h => ?_) (fun h => ?_)
      · have hlt : k < x.length := by simp at h; omega
        clear h
        have e1 : (x.map byteI)[k]? = some [.s (.int .u8 (x[k].toNat : Int))] := by simp [hlt, byteI]
        have e2 : (y.map byteI)[k]? = some [.s (.int .u8 ((y[k]'(by omega)).toNat : Int))] := by simp [show k < y.length by omega, byteI]
        (repeat (first | (simp -implicitDefEqProofs only [ev, mixed, Nat.reduceLT, Nat.reduceAdd, Nat.reduceMul, reduceIte, Nat.reduceEqDiff, reduceCtorEq, Nat.reducePow, Nat.reduceLeDiff, Int.reduceLE, Int.reduceLT, Int.reduceToNat, Int.reduceEq, Nat.reduceBEq, itsOf, gdA, byteI, opid, lenQ, ixQ, ldH, readAt, readCells, asCell, faQ, exQ, fldQ, partA, buildQ, slQ, stH, bslH, appH, dcells, convI, elemsOf, D.one, nilS, fillD, convN, cvH, tyR1Same0, e1, e2]) | (with_reducible refine ⟨?_, ?_⟩; (· first | (obtain ⟨rfl⟩ := ‹Hq _ _›; with_reducible refine chk_ok ?_; kernel_rfl) | kernel_rfl)) | (with_reducible intro ops hops)))
        refine Wc_split (fun h => ?_) (fun h => ?_)
        · (repeat (first | (simp -implicitDefEqProofs only [ev, mixed, Nat.reduceLT, Nat.reduceAdd, Nat.reduceMul, reduceIte, Nat.reduceEqDiff, reduceCtorEq, Nat.reducePow, Nat.reduceLeDiff, Int.reduceLE, Int.reduceLT, Int.reduceToNat, Int.reduceEq, Nat.reduceBEq, itsOf, gdA, byteI, opid, lenQ, ixQ, ldH, readAt, readCells, asCell, faQ, exQ, fldQ, partA, buildQ, slQ, stH, bslH, appH, dcells, convI, elemsOf, D.one, nilS, fillD, convN, cvH, tyR1Same0]) | (with_reducible refine ⟨?_, ?_⟩; (· first | (obtain ⟨rfl⟩ := ‹Hq _ _›; with_reducible refine chk_ok ?_; kernel_rfl) | kernel_rfl)) | (with_reducible intro ops hops)))
          refine fin_ret [] rfl ?_
          have : x ≠ y := by intro e; subst e; simp at h
          simp [cv, cv1, cv0, upd, this]
        · have hb : x[k] = y[k] := UInt8.toNat_inj.1 (by simp at h; omega)
          clear h
          have hw : IntKind.i64.wrap ((k : Int) + 1) = ((k + 1 : Nat) : Int) := by rw [wrap64 (by omega) (by omega)]; omega
          (repeat (first | (simp -implicitDefEqProofs only [ev, mixed, Nat.reduceLT, Nat.reduceAdd, Nat.reduceMul, reduceIte, Nat.reduceEqDiff, reduceCtorEq, Nat.reducePow, Nat.reduceLeDiff, Int.reduceLE, Int.reduceLT, Int.reduceToNat, Int.reduceEq, Nat.reduceBEq, itsOf, gdA, byteI, opid, lenQ, ixQ, ldH, readAt, readCells, asCell, faQ, exQ, fldQ, partA, buildQ, slQ, stH, bslH, appH, dcells, convI, elemsOf, D.one, nilS, fillD, convN, cvH, tyR1Same0, hw]) | (with_reducible refine ⟨?_, ?_⟩; (· first | (obtain ⟨rfl⟩ := ‹Hq _ _›; with_reducible refine chk_ok ?_; kernel_rfl) | kernel_rfl)) | (with_reducible intro ops hops)))
          refine ⟨⟨k + 1, hlt, ?_⟩, le_stOf _ _ [] [] ?_ ?_ rfl rfl, ?_⟩
          · rw [List.take_succ_eq_append_getElem hlt, List.take_succ_eq_append_getElem (by omega), ht, hb]
          · simp [cv, cv1, cv0, upd, lk]
          · simp
          · simp; omega
      · have hk' : k = x.length := by simp at h; omega
        subst hk'
        (repeat (first | (simp -implicitDefEqProofs only [ev, mixed, Nat.reduceLT, Nat.reduceAdd, Nat.reduceMul, reduceIte, Nat.reduceEqDiff, reduceCtorEq, Nat.reducePow, Nat.reduceLeDiff, Int.reduceLE, Int.reduceLT, Int.reduceToNat, Int.reduceEq, Nat.reduceBEq, itsOf, gdA, byteI, opid, lenQ, ixQ, ldH, readAt, readCells, asCell, faQ, exQ, fldQ, partA, buildQ, slQ, stH, bslH, appH, dcells, convI, elemsOf, D.one, nilS, fillD, convN, cvH, tyR1Same0]) | (with_reducible refine ⟨?_, ?_⟩; (· first | (obtain ⟨rfl⟩ := ‹Hq _ _›; with_reducible refine chk_ok ?_; kernel_rfl) | kernel_rfl)) | (with_reducible intro ops hops)))
        refine fin_ret [] rfl ?_
        have : x = y := by rw [List.take_length, hl, List.take_length] at ht; exact ht
        simp [cv, cv1, cv0, upd, this]
end Go.Proofs.Ytdpfjmkilbepgaa
