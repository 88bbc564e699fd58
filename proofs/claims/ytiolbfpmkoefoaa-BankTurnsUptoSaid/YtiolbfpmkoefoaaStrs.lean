/- Strings: compared; their order is one. -/
import Derived.Test.YtiolbfpmkoefoaaCmpO
import Derived.Test.YtiolbfpmkoefoaaKL
set_option linter.all false
namespace Go.Proofs.Ytiolbfpmkoefoaa
open Go Go.Abs Go.RowKit Go.Proofs.Ytiolbfpmkoefoaa.Ty
theorem tyStrs0 : (type_of% @Ty.T9) := @Ty.T9
theorem tyStrs1 : (type_of% @Ty.T9) := @Ty.T9

def sI (s : ByteArray) : I := .s (.string s)
def sD (s : ByteArray) : D := .i (.s (.string s))
def wD (n : Nat) : D := .i (.s (.int .u64 n))
theorem cmpS_ok : KL.CmpOk cmpS where
  zero := fun _ _ => cmpS_zero
  neg := fun a b => by unfold cmpS; rw [cmp_neg b.data.toList a.data.toList]; omega
  trans := fun a b d h1 h2 => cmp_trans _ _ _ h1 h2
theorem cmpstr_D (a b : ByteArray) (G : Nat → Ob) : DirD Try.prog 46 [sD a, sD b] G (.i (.s (.int .i64 (cmpS a b)))) G := by
  refine dir_flat (vs := [.string a, .string b]) (v := .int .i64 (cmpS a b)) rfl (fun w => ?_) (fun K => .i (.s _ rfl))
  rw [run_callFunc_extern Try.func46 (by kernel_rfl) (by kernel_rfl) (by kernel_rfl) (e := Extern.BytealgCompare.compare) (by kernel_rfl)]
  rw [show ([Value.string a, Value.string b].toArray) = #[.string a, .string b] from rfl, Lib.run_compareString]
  rfl
set_option maxHeartbeats 2000000
theorem cmpString_A (a b : ByteArray) : PureD Try.prog 44 [sD a, sD b] (.i (.s (.int .i64 (cmpS a b)))) := by
  refine callD_W 8 Try.func44 rfl rfl rfl (fun _ _ => rfl) ?_
  (repeat (first | (simp -implicitDefEqProofs only [ev, mixed, Nat.reduceLT, Nat.reduceAdd, Nat.reduceMul, reduceIte, Nat.reduceEqDiff, reduceCtorEq, Nat.reducePow, Nat.reduceLeDiff, Int.reduceLE, Int.reduceLT, Int.reduceToNat, Int.reduceEq, Nat.reduceBEq, itsOf, gdA, byteI, opid, lenQ, ixQ, ldH, readAt, readCells, asCell, faQ, exQ, fldQ, partA, buildQ, slQ, stH, bslH, appH, dcells, convI, elemsOf, D.one, nilS, fillD, convN, cvH, tyStrs0, sD]) | (with_reducible refine ⟨?_, ?_⟩; (· first | (obtain ⟨rfl⟩ := ‹Hq _ _›; with_reducible refine chk_ok ?_; kernel_rfl) | kernel_rfl)) | (with_reducible intro ops hops)))
  refine Call_dir (cmpstr_D a b) ?_
  (repeat (first | (simp -implicitDefEqProofs only [ev, mixed, Nat.reduceLT, Nat.reduceAdd, Nat.reduceMul, reduceIte, Nat.reduceEqDiff, reduceCtorEq, Nat.reducePow, Nat.reduceLeDiff, Int.reduceLE, Int.reduceLT, Int.reduceToNat, Int.reduceEq, Nat.reduceBEq, itsOf, gdA, byteI, opid, lenQ, ixQ, ldH, readAt, readCells, asCell, faQ, exQ, fldQ, partA, buildQ, slQ, stH, bslH, appH, dcells, convI, elemsOf, D.one, nilS, fillD, convN, cvH, tyStrs0]) | (with_reducible refine ⟨?_, ?_⟩; (· first | (obtain ⟨rfl⟩ := ‹Hq _ _›; with_reducible refine chk_ok ?_; kernel_rfl) | kernel_rfl)) | (with_reducible intro ops hops)))
  refine fin_ret [] rfl ?_
  simp [cv, cv1, cv0, upd]
theorem scmp_A (a b : ByteArray) : PureD Try.prog 37 [sD a, sD b] (.i (.s (.int .i64 (cmpS a b)))) := by
  refine callD_W 8 Try.func37 rfl rfl rfl (fun _ _ => rfl) ?_
  (repeat (first | (simp -implicitDefEqProofs only [ev, mixed, Nat.reduceLT, Nat.reduceAdd, Nat.reduceMul, reduceIte, Nat.reduceEqDiff, reduceCtorEq, Nat.reducePow, Nat.reduceLeDiff, Int.reduceLE, Int.reduceLT, Int.reduceToNat, Int.reduceEq, Nat.reduceBEq, itsOf, gdA, byteI, opid, lenQ, ixQ, ldH, readAt, readCells, asCell, faQ, exQ, fldQ, partA, buildQ, slQ, stH, bslH, appH, dcells, convI, elemsOf, D.one, nilS, fillD, convN, cvH, tyStrs1, sD]) | (with_reducible refine ⟨?_, ?_⟩; (· first | (obtain ⟨rfl⟩ := ‹Hq _ _›; with_reducible refine chk_ok ?_; kernel_rfl) | kernel_rfl)) | (with_reducible intro ops hops)))
  (first | refine Call_flat [] [] (cmpString_A a b) (by simp [cvAs, cvA, cvRL, cvR, cvBox, cv1, cvL, cv0, bI, byteI, sD, sI, wD, elemsOf, upd]) rfl ?_ | refine CallF_flat [] [] [] (cmpString_A a b) (fun G _ => by simp [cvAs, cvA, cvRL, cvR, cvBox, cv1, cvL, cv0, bI, byteI, sD, sI, wD, elemsOf, upd]) rfl ?_)
  (repeat (first | (simp -implicitDefEqProofs only [ev, mixed, Nat.reduceLT, Nat.reduceAdd, Nat.reduceMul, reduceIte, Nat.reduceEqDiff, reduceCtorEq, Nat.reducePow, Nat.reduceLeDiff, Int.reduceLE, Int.reduceLT, Int.reduceToNat, Int.reduceEq, Nat.reduceBEq, itsOf, gdA, byteI, opid, lenQ, ixQ, ldH, readAt, readCells, asCell, faQ, exQ, fldQ, partA, buildQ, slQ, stH, bslH, appH, dcells, convI, elemsOf, D.one, nilS, fillD, convN, cvH, tyStrs1]) | (with_reducible refine ⟨?_, ?_⟩; (· first | (obtain ⟨rfl⟩ := ‹Hq _ _›; with_reducible refine chk_ok ?_; kernel_rfl) | kernel_rfl)) | (with_reducible intro ops hops)))
  refine fin_ret [] rfl ?_
  simp [cv, cv1, cv0, upd]
end Go.Proofs.Ytiolbfpmkoefoaa
