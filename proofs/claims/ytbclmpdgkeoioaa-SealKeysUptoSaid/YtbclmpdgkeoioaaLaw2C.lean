/- The law SealKeys. -/
import Derived.Test.YtbclmpdgkeoioaaLaw2B
import Derived.Test.YtbclmpdgkeoioaaR2A
set_option linter.all false
namespace Go.Proofs.Ytbclmpdgkeoioaa
open Go Go.Abs Go.RowKit Go.Proofs.Ytbclmpdgkeoioaa.Ty

theorem key_q (seed : List UInt8) : keyF seed ^ qI % pN = 1 := sg1 (secretF seed)
set_option maxHeartbeats 2000000
theorem walk_SealKeys (y0 : I) (seed : List UInt8) (e0 : y0 = bI seed) (hb : bkI y0 ≤ 1048576) : ∃ Ds, PureD Try.prog 12 Ds (.i (.s (.bool true))) ∧ Ds = [.i y0] := by
  subst e0
  rw [bk_B] at hb
  refine ⟨_, ?_, rfl⟩
  have hk := key_A seed (by omega)
  have h1 := key_big seed
  have h2 : keyF seed < pN := pow_lt _ _
  have hp := rpower_A (keyF seed) qI pN (key_lt _) (by rw [← qI_eq]; decide) (by decide) (by decide)
  rw [key_q, ← qI_eq] at hp
  simp only [qN, pN] at hp h2
  generalize keyF seed = K at *
  have g1 : decide ((1 : Int) < (K : Int)) = true := by simp; omega
  have g2 : decide ((K : Int) < 1152921504606849707) = true := by simp; omega
  refine callD_W 19 Try.func12 rfl rfl rfl (fun _ _ => rfl) ?_
  (repeat (first | (simp -implicitDefEqProofs only [ev1, ev2, ev3, ev4, ev5, mixed, Nat.reduceLT, Nat.reduceAdd, Nat.reduceMul, reduceIte, Nat.reduceEqDiff, reduceCtorEq, Nat.reducePow, Nat.reduceLeDiff, Int.reduceLE, Int.reduceLT, Int.reduceToNat, Int.reduceEq, itsOf, gdA, byteI, opid, lenQ, ixQ, ldH, readAt, readCells, asCell, faQ, exQ, fldQ, partA, buildQ, slQ, stH, bslH, appH, dcells, convI, elemsOf, D.one, nilS, fillD, convN, cvH, List.contains_nil, List.contains_cons, Nat.reduceBEq, Bool.or_self, Bool.or_false, T4, T5, T24, T44, bI]) | (with_reducible refine ⟨?_, ?_⟩; (· first | (obtain ⟨rfl⟩ := ‹Hq _ _›; with_reducible refine chk_ok ?_; kernel_rfl) | kernel_rfl)) | (with_reducible intro ops hops)))
  (first | refine Call_flat [] [] (alive2_A) (by simp [cvAs, cvA, cv1, cvL, cv0, bI, byteI, u64D, elemsOf, upd]) rfl ?_ | refine CallF_flat [] [] [] (alive2_A) (fun G _ => by simp [cvAs, cvA, cv1, cvL, cv0, bI, byteI, u64D, elemsOf, upd]) rfl ?_)
  (repeat (first | (simp -implicitDefEqProofs only [ev1, ev2, ev3, ev4, ev5, mixed, Nat.reduceLT, Nat.reduceAdd, Nat.reduceMul, reduceIte, Nat.reduceEqDiff, reduceCtorEq, Nat.reducePow, Nat.reduceLeDiff, Int.reduceLE, Int.reduceLT, Int.reduceToNat, Int.reduceEq, itsOf, gdA, byteI, opid, lenQ, ixQ, ldH, readAt, readCells, asCell, faQ, exQ, fldQ, partA, buildQ, slQ, stH, bslH, appH, dcells, convI, elemsOf, D.one, nilS, fillD, convN, cvH, List.contains_nil, List.contains_cons, Nat.reduceBEq, Bool.or_self, Bool.or_false, T4, T5, T24, T44, bI]) | (with_reducible refine ⟨?_, ?_⟩; (· first | (obtain ⟨rfl⟩ := ‹Hq _ _›; with_reducible refine chk_ok ?_; kernel_rfl) | kernel_rfl)) | (with_reducible intro ops hops)))
  (first | refine Call_flat [] [] (hk) (by simp [cvAs, cvA, cv1, cvL, cv0, bI, byteI, u64D, elemsOf, upd]) rfl ?_ | refine CallF_flat [] [] [] (hk) (fun G _ => by simp [cvAs, cvA, cv1, cvL, cv0, bI, byteI, u64D, elemsOf, upd]) rfl ?_)
  (repeat (first | (simp -implicitDefEqProofs only [ev1, ev2, ev3, ev4, ev5, mixed, Nat.reduceLT, Nat.reduceAdd, Nat.reduceMul, reduceIte, Nat.reduceEqDiff, reduceCtorEq, Nat.reducePow, Nat.reduceLeDiff, Int.reduceLE, Int.reduceLT, Int.reduceToNat, Int.reduceEq, itsOf, gdA, byteI, opid, lenQ, ixQ, ldH, readAt, readCells, asCell, faQ, exQ, fldQ, partA, buildQ, slQ, stH, bslH, appH, dcells, convI, elemsOf, D.one, nilS, fillD, convN, cvH, List.contains_nil, List.contains_cons, Nat.reduceBEq, Bool.or_self, Bool.or_false, T4, T5, T24, T44, u64D, g1, g2]) | (with_reducible refine ⟨?_, ?_⟩; (· first | (obtain ⟨rfl⟩ := ‹Hq _ _›; with_reducible refine chk_ok ?_; kernel_rfl) | kernel_rfl)) | (with_reducible intro ops hops)))
  (first | refine Call_flat [] [] (hp) (by simp [cvAs, cvA, cv1, cvL, cv0, bI, byteI, u64D, elemsOf, upd]) rfl ?_ | refine CallF_flat [] [] [] (hp) (fun G _ => by simp [cvAs, cvA, cv1, cvL, cv0, bI, byteI, u64D, elemsOf, upd]) rfl ?_)
  (repeat (first | (simp -implicitDefEqProofs only [ev1, ev2, ev3, ev4, ev5, mixed, Nat.reduceLT, Nat.reduceAdd, Nat.reduceMul, reduceIte, Nat.reduceEqDiff, reduceCtorEq, Nat.reducePow, Nat.reduceLeDiff, Int.reduceLE, Int.reduceLT, Int.reduceToNat, Int.reduceEq, itsOf, gdA, byteI, opid, lenQ, ixQ, ldH, readAt, readCells, asCell, faQ, exQ, fldQ, partA, buildQ, slQ, stH, bslH, appH, dcells, convI, elemsOf, D.one, nilS, fillD, convN, cvH, List.contains_nil, List.contains_cons, Nat.reduceBEq, Bool.or_self, Bool.or_false, T4, T5, T24, T44, u64D]) | (with_reducible refine ⟨?_, ?_⟩; (· first | (obtain ⟨rfl⟩ := ‹Hq _ _›; with_reducible refine chk_ok ?_; kernel_rfl) | kernel_rfl)) | (with_reducible intro ops hops)))
  refine fin_ret [] rfl ?_
  simp [cv, cv1, cv0, upd]
end Go.Proofs.Ytbclmpdgkeoioaa
