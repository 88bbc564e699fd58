/- slices.Clone at api.Known: an own slice of what stands in a list. -/
import Derived.Test.YtmclpbcipkdmcaaDoorClQ
set_option linter.all false
namespace Go.Proofs.YtmclpbcipkdmcaaDoor
open Go Go.Abs Go.RowKit Go.Proofs.YtmclpbcipkdmcaaDoor.Ty
theorem tyClnKn0 : (type_of% @Ty.T0) ∧ (type_of% @Ty.T3) ∧ (type_of% @Ty.T5) ∧ (type_of% @Ty.T29) ∧ (type_of% @Ty.T94) ∧ (type_of% @Ty.T133) := ⟨@Ty.T0, @Ty.T3, @Ty.T5, @Ty.T29, @Ty.T94, @Ty.T133⟩
set_option maxHeartbeats 4000000
theorem uni_Kn (l : List KnownD) : uni 4 (l.map encK) = true := by simp [uni, encK]
theorem clone_Kn (l : List KnownD) (hl : l.length ≤ 1048576) : CallD Tryd.prog 101 [.i (.sl (l.map encK))] noH (.os 1 4 0 l.length) (hOf noH [(1, .arr 4 (l.map encK))]) := by
  cases l with
  | nil =>
    refine call_case (Enters_of Tryd.func101 rfl rfl) fun K vs hrd => ?_
    obtain ⟨hs, hg⟩ := hrd
    obtain ⟨a, c, hv⟩ := sl_nil (hg 0 _ rfl)
    refine ⟨[.i (.s (.slice a 0 c))], ?_, hs, fun j d hd => ?_⟩
    · have hun := un94
      refine callD_W 8 Tryd.func101 rfl rfl rfl (fun _ _ => rfl) ?_
      cases a with
      | none =>
        simp -implicitDefEqProofs only [ev, mixed, Nat.reduceLT, Nat.reduceAdd, Nat.reduceMul, reduceIte, Nat.reduceEqDiff, reduceCtorEq, Nat.reducePow, Nat.reduceLeDiff, Int.reduceLE, Int.reduceLT, Int.reduceToNat, Int.reduceEq, Nat.reduceBEq, itsOf, gdA, byteI, opid, lenQ, ixQ, ldH, readAt, readCells, asCell, faQ, exQ, fldQ, partA, buildQ, slQ, stH, bslH, appH, dcells, convI, elemsOf, D.one, nilS, fillD, convN, cvH, tyClnKn0, bq_eqnil hun, Option.isNone_none]
        exact newD [] []
      | some a =>
        simp -implicitDefEqProofs only [ev, mixed, Nat.reduceLT, Nat.reduceAdd, Nat.reduceMul, reduceIte, Nat.reduceEqDiff, reduceCtorEq, Nat.reducePow, Nat.reduceLeDiff, Int.reduceLE, Int.reduceLT, Int.reduceToNat, Int.reduceEq, Nat.reduceBEq, itsOf, gdA, byteI, opid, lenQ, ixQ, ldH, readAt, readCells, asCell, faQ, exQ, fldQ, partA, buildQ, slQ, stH, bslH, appH, dcells, convI, elemsOf, D.one, nilS, fillD, convN, cvH, tyClnKn0, bq_eqnil hun, Option.isNone_some]
        exact newD [] [(1, 1770)]
    · cases j with
      | zero => simp at hd; subst hd; rw [hv]; exact .i (.s _ rfl)
      | succ j => simp at hd
  | cons p t =>
    have hu := uni_Kn t
    have e3 : t.length + 1 ≤ 140737488355328 := by simp at hl; omega
    have e4 : (t.length + 1) * 64 ≤ 140737488355328 := by simp at hl; omega
    have e5 : (encK p).length = 4 := rfl
    refine callD_W 8 Tryd.func101 rfl rfl rfl (fun _ _ => rfl) ?_
    (repeat (first | (simp -implicitDefEqProofs only [ev, mixed, Nat.reduceLT, Nat.reduceAdd, Nat.reduceMul, reduceIte, Nat.reduceEqDiff, reduceCtorEq, Nat.reducePow, Nat.reduceLeDiff, Int.reduceLE, Int.reduceLT, Int.reduceToNat, Int.reduceEq, Nat.reduceBEq, itsOf, gdA, byteI, opid, lenQ, ixQ, ldH, readAt, readCells, asCell, faQ, exQ, fldQ, partA, buildQ, slQ, stH, bslH, appH, dcells, convI, elemsOf, D.one, nilS, fillD, convN, cvH, tyClnKn0, hu, e3, e4, e5, List.map_cons, List.length_cons, List.length_map]) | (with_reducible refine ⟨?_, ?_⟩; (· first | (obtain ⟨rfl⟩ := ‹Hq _ _›; with_reducible refine chk_ok ?_; kernel_rfl) | kernel_rfl)) | (with_reducible intro ops hops)))
    exact newD [] [(1, 1770)]
end Go.Proofs.YtmclpbcipkdmcaaDoor
