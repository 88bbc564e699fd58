/- The laws on seals: plain laws and by-value contracts. -/
import Derived.Test.YtbclmpdgkeoioaaSealC
set_option linter.all false
namespace Go.Proofs.Ytbclmpdgkeoioaa
open Go Go.Abs Go.RowKit Go.Proofs.Ytbclmpdgkeoioaa.Ty

def fpow : Nat → Nat → Nat → Nat → Nat → Nat
  | 0, r, _, _, m => r % m
  | f + 1, r, b, e, m => fpow f (if e % 2 = 1 then r * b % m else r) (b * b % m) (e / 2) m
theorem fpow_eq : ∀ (f r b e m : Nat), e < 2 ^ f → fpow f r b e m = r * b ^ e % m
  | 0, r, b, e, m, h => by
    have : e = 0 := by simpa using h
    subst this; simp [fpow]
  | f + 1, r, b, e, m, h => by
    rw [fpow, fpow_eq f _ _ _ _ (by rw [Nat.pow_succ] at h; omega), ← pow_step]
theorem fpow_one {b e m : Nat} (h : e < 2 ^ 60) : b ^ e % m = fpow 60 1 b e m := by rw [fpow_eq 60 1 b e m h, Nat.one_mul]
theorem base_q : 4 ^ qN % pN = 1 := by
  rw [fpow_one (by decide)]; decide +kernel
theorem pow_q (a : Nat) : (4 ^ a) ^ qN % pN = 1 := by
  rw [← Nat.pow_mul, Nat.mul_comm, Nat.pow_mul, Nat.pow_mod, base_q, Nat.one_pow]; decide
theorem per (n : Nat) : 4 ^ n % pN = 4 ^ (n % qN) % pN := by
  conv => lhs; rw [← Nat.div_add_mod n qN, Nat.pow_add, Nat.pow_mul, Nat.mul_mod, Nat.pow_mod, base_q, Nat.one_pow]
  rw [show 1 % pN = 1 by decide, Nat.one_mul, Nat.mod_mod]
theorem pow_pos' {x : Nat} (h : x ≤ qN) : 1 ≤ 4 ^ x % pN := by
  rcases Nat.eq_zero_or_pos (4 ^ x % pN) with h0 | h0
  · exfalso
    have := base_q
    rw [show qN = x + (qN - x) by omega, Nat.pow_add, Nat.mul_mod, h0, Nat.zero_mul] at this
    simp at this
  · exact h0
theorem once_le (seed m : List UInt8) : onceF seed m ≤ qN := by
  have := Nat.mod_lt (numF (sha (onceB ++ (be64 (secretF seed) ++ m)))) (show 0 < qN - 1 by decide)
  simp only [onceF, qN] at *; omega
@[irreducible] def qI : Nat := qN
theorem qI_eq : qN = qI := by unfold qI; rfl
theorem sg1 (a : Nat) : (4 ^ a % pN) ^ qI % pN = 1 := by
  have h := pow_q a
  rw [qI_eq] at h
  rw [← Nat.pow_mod]; exact h
theorem sg2 (X K E : Nat) : 4 ^ ((K + E * X % qN) % qN) % pN = (4 ^ K % pN) * ((4 ^ X % pN) ^ E % pN) % pN := by
  rw [← Nat.pow_mod, ← Nat.pow_mul, ← Nat.mul_mod, ← Nat.pow_add, Nat.add_mod_mod, ← per, Nat.mul_comm E X]
theorem good_of {key : Nat} {m : List UInt8} {r s : Nat} (h1 : 1 ≤ key) (h2 : key < pN) (h3 : 1 ≤ r) (h4 : r < pN) (h5 : s < qN) (h6 : key ^ qI % pN = 1) (h7 : 4 ^ s % pN = r * (key ^ askF r key m % pN) % pN) : goodF key m r s = true := by
  unfold goodF
  rw [← qI_eq] at h6
  rw [Bool.and_eq_true]
  exact ⟨decide_eq_true ⟨h1, h2, h3, h4, h5, h6⟩, decide_eq_true h7⟩
theorem seal_good (seed m : List UInt8) : goodF (keyF seed) m (sigR seed m) (sigS seed m) = true :=
  good_of (pow_pos' (Nat.le_of_lt (secret_lt seed).2)) (pow_lt _ _) (pow_pos' (once_le seed m)) (pow_lt _ _) (Nat.mod_lt _ (by decide)) (sg1 _) (sg2 _ _ _)

theorem goodF_no {key : Nat} {m : List UInt8} {r s : Nat} (h : ¬ 4 ^ s % pN = r * (key ^ askF r key m % pN) % pN) : goodF key m r s = false := by
  unfold goodF
  rw [decide_eq_false h, Bool.and_false]
theorem alive2_h (K A s : Nat) (hA : A < 2 ^ 60) (hs : s = 1) (h : ¬ 4 = fpow 60 1 K A pN) : ¬ 4 ^ s % pN = 1 * (K ^ A % pN) % pN := by
  subst hs
  rw [fpow_one hA, Nat.one_mul, show 4 ^ 1 % pN = 4 by decide, Nat.mod_eq_of_lt (a := fpow 60 1 K A pN) (by rw [← fpow_one hA]; exact pow_lt _ _)]
  exact h
theorem askF_lt (r K : Nat) (m : List UInt8) : askF r K m < 2 ^ 60 := Nat.lt_trans (Nat.mod_lt _ (show 0 < qN by decide)) (by decide)
theorem keyF_eq (seed : List UInt8) : keyF seed = fpow 60 1 4 (secretF seed) pN := fpow_one (Nat.lt_trans (secret_lt seed).2 (by decide))
theorem goodF_key (seed : List UInt8) (m : List UInt8) (h : ¬ 4 = fpow 60 1 (fpow 60 1 4 (secretF seed) pN) (askF 1 (fpow 60 1 4 (secretF seed) pN) [109]) pN) : goodF (keyF seed) [109] 1 1 = false := by
  rw [keyF_eq]; exact goodF_no (alive2_h _ _ 1 (askF_lt 1 _ [109]) rfl h)
theorem alive2_c : ¬ 4 = fpow 60 1 (fpow 60 1 4 (secretF [97]) pN) (askF 1 (fpow 60 1 4 (secretF [97]) pN) [109]) pN := by decide +kernel
theorem alive2_fact : goodF (keyF [97]) [109] 1 1 = false := goodF_key [97] [] alive2_c

set_option maxHeartbeats 2000000
theorem key_lt (seed : List UInt8) : keyF seed < 18446744073709551616 := Nat.lt_trans (pow_lt _ _) (by decide)
theorem sigR_lt (seed m : List UInt8) : sigR seed m < 18446744073709551616 := Nat.lt_trans (pow_lt _ _) (by decide)
theorem sigS_lt (seed m : List UInt8) : sigS seed m < 18446744073709551616 := Nat.lt_trans (Nat.mod_lt _ (show 0 < qN by decide)) (by decide)
theorem alive2_A : PureD Try.prog 26 [] (.i (.s (.bool true))) := by
  have hk := key_A [97] (by simp)
  have hs := sign_A [97] [109] (by simp) (by simp)
  have hg := good_A (keyF [97]) [109] (sigR [97] [109]) (sigS [97] [109]) (key_lt _) (sigR_lt _ _) (sigS_lt _ _) (by simp)
  rw [seal_good] at hg
  have hg2 := good_A (keyF [97]) [109] 1 1 (key_lt _) (by decide) (by decide) (by simp)
  rw [alive2_fact] at hg2
  generalize keyF [97] = K at *
  generalize sigR [97] [109] = R at *
  generalize sigS [97] [109] = S at *
  refine callD_W 22 Try.func26 rfl rfl rfl (fun _ _ => rfl) ?_
  (repeat (first | (simp -implicitDefEqProofs only [ev1, ev2, ev3, ev4, ev5, mixed, Nat.reduceLT, Nat.reduceAdd, Nat.reduceMul, reduceIte, Nat.reduceEqDiff, reduceCtorEq, Nat.reducePow, Nat.reduceLeDiff, Int.reduceLE, Int.reduceLT, Int.reduceToNat, Int.reduceEq, itsOf, gdA, byteI, opid, lenQ, ixQ, ldH, readAt, readCells, asCell, faQ, exQ, fldQ, partA, buildQ, slQ, stH, bslH, appH, dcells, convI, elemsOf, D.one, nilS, fillD, convN, cvH, List.contains_nil, List.contains_cons, Nat.reduceBEq, Bool.or_self, Bool.or_false, T1, T4, T5, T24, T44, T47, convQ_none]) | (with_reducible refine ⟨?_, ?_⟩; (· first | (obtain ⟨rfl⟩ := ‹Hq _ _›; with_reducible refine chk_ok ?_; kernel_rfl) | kernel_rfl)) | (with_reducible intro ops hops)))
  (first | refine Call_flat [] [] (hk) (by simp [cvAs, cvA, cv1, cvL, cv0, bI, byteI, u64D, sealD, elemsOf, upd]) rfl ?_ | refine CallF_flat [] [] [] (hk) (fun G _ => by simp [cvAs, cvA, cv1, cvL, cv0, bI, byteI, u64D, sealD, elemsOf, upd]) rfl ?_)
  (repeat (first | (simp -implicitDefEqProofs only [ev1, ev2, ev3, ev4, ev5, mixed, Nat.reduceLT, Nat.reduceAdd, Nat.reduceMul, reduceIte, Nat.reduceEqDiff, reduceCtorEq, Nat.reducePow, Nat.reduceLeDiff, Int.reduceLE, Int.reduceLT, Int.reduceToNat, Int.reduceEq, itsOf, gdA, byteI, opid, lenQ, ixQ, ldH, readAt, readCells, asCell, faQ, exQ, fldQ, partA, buildQ, slQ, stH, bslH, appH, dcells, convI, elemsOf, D.one, nilS, fillD, convN, cvH, List.contains_nil, List.contains_cons, Nat.reduceBEq, Bool.or_self, Bool.or_false, T1, T4, T5, T24, T44, T47, convQ_none, u64D]) | (with_reducible refine ⟨?_, ?_⟩; (· first | (obtain ⟨rfl⟩ := ‹Hq _ _›; with_reducible refine chk_ok ?_; kernel_rfl) | kernel_rfl)) | (with_reducible intro ops hops)))
  (first | refine Call_flat [] [] (hs) (by simp [cvAs, cvA, cv1, cvL, cv0, bI, byteI, u64D, sealD, elemsOf, upd]) rfl ?_ | refine CallF_flat [] [] [] (hs) (fun G _ => by simp [cvAs, cvA, cv1, cvL, cv0, bI, byteI, u64D, sealD, elemsOf, upd]) rfl ?_)
  (repeat (first | (simp -implicitDefEqProofs only [ev1, ev2, ev3, ev4, ev5, mixed, Nat.reduceLT, Nat.reduceAdd, Nat.reduceMul, reduceIte, Nat.reduceEqDiff, reduceCtorEq, Nat.reducePow, Nat.reduceLeDiff, Int.reduceLE, Int.reduceLT, Int.reduceToNat, Int.reduceEq, itsOf, gdA, byteI, opid, lenQ, ixQ, ldH, readAt, readCells, asCell, faQ, exQ, fldQ, partA, buildQ, slQ, stH, bslH, appH, dcells, convI, elemsOf, D.one, nilS, fillD, convN, cvH, List.contains_nil, List.contains_cons, Nat.reduceBEq, Bool.or_self, Bool.or_false, T1, T4, T5, T24, T44, T47, convQ_none, u64D, sealD]) | (with_reducible refine ⟨?_, ?_⟩; (· first | (obtain ⟨rfl⟩ := ‹Hq _ _›; with_reducible refine chk_ok ?_; kernel_rfl) | kernel_rfl)) | (with_reducible intro ops hops)))
  (first | refine Call_flat [] [] (hg) (by simp [cvAs, cvA, cv1, cvL, cv0, bI, byteI, u64D, sealD, elemsOf, upd]) rfl ?_ | refine CallF_flat [] [] [] (hg) (fun G _ => by simp [cvAs, cvA, cv1, cvL, cv0, bI, byteI, u64D, sealD, elemsOf, upd]) rfl ?_)
  (repeat (first | (simp -implicitDefEqProofs only [ev1, ev2, ev3, ev4, ev5, mixed, Nat.reduceLT, Nat.reduceAdd, Nat.reduceMul, reduceIte, Nat.reduceEqDiff, reduceCtorEq, Nat.reducePow, Nat.reduceLeDiff, Int.reduceLE, Int.reduceLT, Int.reduceToNat, Int.reduceEq, itsOf, gdA, byteI, opid, lenQ, ixQ, ldH, readAt, readCells, asCell, faQ, exQ, fldQ, partA, buildQ, slQ, stH, bslH, appH, dcells, convI, elemsOf, D.one, nilS, fillD, convN, cvH, List.contains_nil, List.contains_cons, Nat.reduceBEq, Bool.or_self, Bool.or_false, T1, T4, T5, T24, T44, T47, convQ_none, u64D, sealD]) | (with_reducible refine ⟨?_, ?_⟩; (· first | (obtain ⟨rfl⟩ := ‹Hq _ _›; with_reducible refine chk_ok ?_; kernel_rfl) | kernel_rfl)) | (with_reducible intro ops hops)))
  (first | refine Call_flat [] [] (hg2) (by simp [cvAs, cvA, cv1, cvL, cv0, bI, byteI, u64D, sealD, elemsOf, upd]) rfl ?_ | refine CallF_flat [] [] [] (hg2) (fun G _ => by simp [cvAs, cvA, cv1, cvL, cv0, bI, byteI, u64D, sealD, elemsOf, upd]) rfl ?_)
  (repeat (first | (simp -implicitDefEqProofs only [ev1, ev2, ev3, ev4, ev5, mixed, Nat.reduceLT, Nat.reduceAdd, Nat.reduceMul, reduceIte, Nat.reduceEqDiff, reduceCtorEq, Nat.reducePow, Nat.reduceLeDiff, Int.reduceLE, Int.reduceLT, Int.reduceToNat, Int.reduceEq, itsOf, gdA, byteI, opid, lenQ, ixQ, ldH, readAt, readCells, asCell, faQ, exQ, fldQ, partA, buildQ, slQ, stH, bslH, appH, dcells, convI, elemsOf, D.one, nilS, fillD, convN, cvH, List.contains_nil, List.contains_cons, Nat.reduceBEq, Bool.or_self, Bool.or_false, T1, T4, T5, T24, T44, T47, convQ_none, u64D]) | (with_reducible refine ⟨?_, ?_⟩; (· first | (obtain ⟨rfl⟩ := ‹Hq _ _›; with_reducible refine chk_ok ?_; kernel_rfl) | kernel_rfl)) | (with_reducible intro ops hops)))
  refine fin_ret [] rfl ?_
  simp [cv, cv1, cv0, upd]

theorem walk_SealGood (y0 : I) (seed : List UInt8) (e0 : y0 = bI seed) (y1 : I) (m : List UInt8) (e1 : y1 = bI m) (hb : bkI y0 + bkI y1 ≤ 1048576) : ∃ Ds, PureD Try.prog 10 Ds (.i (.s (.bool true))) ∧ Ds = [.i y0, .i y1] := by
  subst e0; subst e1
  rw [bk_B, bk_B] at hb
  refine ⟨_, ?_, rfl⟩
  have hk := key_A seed (by omega)
  have hs := sign_A seed m (by omega) (by omega)
  have hg := good_A (keyF seed) m (sigR seed m) (sigS seed m) (key_lt _) (sigR_lt _ _) (sigS_lt _ _) (by omega)
  rw [seal_good] at hg
  generalize keyF seed = K at *
  generalize sigR seed m = R at *
  generalize sigS seed m = S at *
  refine callD_W 14 Try.func10 rfl rfl rfl (fun _ _ => rfl) ?_
  (repeat (first | (simp -implicitDefEqProofs only [ev1, ev2, ev3, ev4, ev5, mixed, Nat.reduceLT, Nat.reduceAdd, Nat.reduceMul, reduceIte, Nat.reduceEqDiff, reduceCtorEq, Nat.reducePow, Nat.reduceLeDiff, Int.reduceLE, Int.reduceLT, Int.reduceToNat, Int.reduceEq, itsOf, gdA, byteI, opid, lenQ, ixQ, ldH, readAt, readCells, asCell, faQ, exQ, fldQ, partA, buildQ, slQ, stH, bslH, appH, dcells, convI, elemsOf, D.one, nilS, fillD, convN, cvH, List.contains_nil, List.contains_cons, Nat.reduceBEq, Bool.or_self, Bool.or_false, T4, T5, T24, T44, T47, bI]) | (with_reducible refine ⟨?_, ?_⟩; (· first | (obtain ⟨rfl⟩ := ‹Hq _ _›; with_reducible refine chk_ok ?_; kernel_rfl) | kernel_rfl)) | (with_reducible intro ops hops)))
  (first | refine Call_flat [] [] (alive2_A) (by simp [cvAs, cvA, cv1, cvL, cv0, bI, byteI, u64D, sealD, elemsOf, upd]) rfl ?_ | refine CallF_flat [] [] [] (alive2_A) (fun G _ => by simp [cvAs, cvA, cv1, cvL, cv0, bI, byteI, u64D, sealD, elemsOf, upd]) rfl ?_)
  (repeat (first | (simp -implicitDefEqProofs only [ev1, ev2, ev3, ev4, ev5, mixed, Nat.reduceLT, Nat.reduceAdd, Nat.reduceMul, reduceIte, Nat.reduceEqDiff, reduceCtorEq, Nat.reducePow, Nat.reduceLeDiff, Int.reduceLE, Int.reduceLT, Int.reduceToNat, Int.reduceEq, itsOf, gdA, byteI, opid, lenQ, ixQ, ldH, readAt, readCells, asCell, faQ, exQ, fldQ, partA, buildQ, slQ, stH, bslH, appH, dcells, convI, elemsOf, D.one, nilS, fillD, convN, cvH, List.contains_nil, List.contains_cons, Nat.reduceBEq, Bool.or_self, Bool.or_false, T4, T5, T24, T44, T47, bI]) | (with_reducible refine ⟨?_, ?_⟩; (· first | (obtain ⟨rfl⟩ := ‹Hq _ _›; with_reducible refine chk_ok ?_; kernel_rfl) | kernel_rfl)) | (with_reducible intro ops hops)))
  (first | refine Call_flat [] [] (hk) (by simp [cvAs, cvA, cv1, cvL, cv0, bI, byteI, u64D, sealD, elemsOf, upd]) rfl ?_ | refine CallF_flat [] [] [] (hk) (fun G _ => by simp [cvAs, cvA, cv1, cvL, cv0, bI, byteI, u64D, sealD, elemsOf, upd]) rfl ?_)
  (repeat (first | (simp -implicitDefEqProofs only [ev1, ev2, ev3, ev4, ev5, mixed, Nat.reduceLT, Nat.reduceAdd, Nat.reduceMul, reduceIte, Nat.reduceEqDiff, reduceCtorEq, Nat.reducePow, Nat.reduceLeDiff, Int.reduceLE, Int.reduceLT, Int.reduceToNat, Int.reduceEq, itsOf, gdA, byteI, opid, lenQ, ixQ, ldH, readAt, readCells, asCell, faQ, exQ, fldQ, partA, buildQ, slQ, stH, bslH, appH, dcells, convI, elemsOf, D.one, nilS, fillD, convN, cvH, List.contains_nil, List.contains_cons, Nat.reduceBEq, Bool.or_self, Bool.or_false, T4, T5, T24, T44, T47, bI, u64D]) | (with_reducible refine ⟨?_, ?_⟩; (· first | (obtain ⟨rfl⟩ := ‹Hq _ _›; with_reducible refine chk_ok ?_; kernel_rfl) | kernel_rfl)) | (with_reducible intro ops hops)))
  (first | refine Call_flat [] [] (hs) (by simp [cvAs, cvA, cv1, cvL, cv0, bI, byteI, u64D, sealD, elemsOf, upd]) rfl ?_ | refine CallF_flat [] [] [] (hs) (fun G _ => by simp [cvAs, cvA, cv1, cvL, cv0, bI, byteI, u64D, sealD, elemsOf, upd]) rfl ?_)
  (repeat (first | (simp -implicitDefEqProofs only [ev1, ev2, ev3, ev4, ev5, mixed, Nat.reduceLT, Nat.reduceAdd, Nat.reduceMul, reduceIte, Nat.reduceEqDiff, reduceCtorEq, Nat.reducePow, Nat.reduceLeDiff, Int.reduceLE, Int.reduceLT, Int.reduceToNat, Int.reduceEq, itsOf, gdA, byteI, opid, lenQ, ixQ, ldH, readAt, readCells, asCell, faQ, exQ, fldQ, partA, buildQ, slQ, stH, bslH, appH, dcells, convI, elemsOf, D.one, nilS, fillD, convN, cvH, List.contains_nil, List.contains_cons, Nat.reduceBEq, Bool.or_self, Bool.or_false, T4, T5, T24, T44, T47, bI, u64D, sealD]) | (with_reducible refine ⟨?_, ?_⟩; (· first | (obtain ⟨rfl⟩ := ‹Hq _ _›; with_reducible refine chk_ok ?_; kernel_rfl) | kernel_rfl)) | (with_reducible intro ops hops)))
  (first | refine Call_flat [] [] (hg) (by simp [cvAs, cvA, cv1, cvL, cv0, bI, byteI, u64D, sealD, elemsOf, upd]) rfl ?_ | refine CallF_flat [] [] [] (hg) (fun G _ => by simp [cvAs, cvA, cv1, cvL, cv0, bI, byteI, u64D, sealD, elemsOf, upd]) rfl ?_)
  (repeat (first | (simp -implicitDefEqProofs only [ev1, ev2, ev3, ev4, ev5, mixed, Nat.reduceLT, Nat.reduceAdd, Nat.reduceMul, reduceIte, Nat.reduceEqDiff, reduceCtorEq, Nat.reducePow, Nat.reduceLeDiff, Int.reduceLE, Int.reduceLT, Int.reduceToNat, Int.reduceEq, itsOf, gdA, byteI, opid, lenQ, ixQ, ldH, readAt, readCells, asCell, faQ, exQ, fldQ, partA, buildQ, slQ, stH, bslH, appH, dcells, convI, elemsOf, D.one, nilS, fillD, convN, cvH, List.contains_nil, List.contains_cons, Nat.reduceBEq, Bool.or_self, Bool.or_false, T4, T5, T24, T44, T47, u64D]) | (with_reducible refine ⟨?_, ?_⟩; (· first | (obtain ⟨rfl⟩ := ‹Hq _ _›; with_reducible refine chk_ok ?_; kernel_rfl) | kernel_rfl)) | (with_reducible intro ops hops)))
  refine fin_ret [] rfl ?_
  simp [cv, cv1, cv0, upd]
end Go.Proofs.Ytbclmpdgkeoioaa
