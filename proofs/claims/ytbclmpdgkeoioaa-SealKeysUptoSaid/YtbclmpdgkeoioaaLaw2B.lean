/- The law SealOne: a plain law and a by-value contract. -/
import Derived.Test.YtbclmpdgkeoioaaLaw2
import Derived.Test.YtbclmpdgkeoioaaPrime
set_option linter.all false
namespace Go.Proofs.Ytbclmpdgkeoioaa
open Go Go.Abs Go.RowKit Go.Proofs.Ytbclmpdgkeoioaa.Ty

theorem base_less (k : Nat) (h0 : 0 < k) (hk : k < qN) : 4 ^ k % pN ≠ 1 :=
  no_less (a := 4) (Q := qN) (P := pN) (by decide) qN_prime base_q (by decide) k h0 hk
theorem base_inj {s t : Nat} (hs : s < qN) (ht : t < qN) (h : 4 ^ s % pN = 4 ^ t % pN) : s = t := by
  have main : ∀ {s t : Nat}, s < t → t < qN → 4 ^ s % pN = 4 ^ t % pN → False := by
    intro s t hst ht h
    refine base_less (t - s) (by omega) (by omega) ?_
    have h1 := pm 4 pN s (qN - s)
    have h2 := pm 4 pN t (qN - s)
    rw [← h, ← h1, show s + (qN - s) = qN by omega, base_q, show t + (qN - s) = (t - s) + qN by omega, pm, base_q, Nat.mul_one, Nat.mod_mod] at h2
    exact h2
  rcases Nat.lt_trichotomy s t with h1 | h1 | h1
  · exact (main h1 ht h).elim
  · exact h1
  · exact (main h1 hs h.symm).elim
theorem good_eq {key : Nat} {m : List UInt8} {r s : Nat} (h : goodF key m r s = true) : s < qN ∧ 4 ^ s % pN = r * (key ^ askF r key m % pN) % pN := by
  unfold goodF at h
  rw [Bool.and_eq_true] at h
  exact ⟨(of_decide_eq_true h.1).2.2.2.2.1, of_decide_eq_true h.2⟩
theorem seal_one (seed m : List UInt8) (s : Nat) (hs : s ≠ sigS seed m) : goodF (keyF seed) m (sigR seed m) s = false := by
  cases h : goodF (keyF seed) m (sigR seed m) s with
  | false => rfl
  | true =>
    obtain ⟨h1, h2⟩ := good_eq h
    obtain ⟨g1, g2⟩ := good_eq (seal_good seed m)
    exact absurd (base_inj h1 g1 (h2.trans g2.symm)) hs
theorem key_big (seed : List UInt8) : 1 < keyF seed := by
  have h1 := pow_pos' (Nat.le_of_lt (secret_lt seed).2)
  have h2 := base_less (secretF seed) (secret_lt seed).1 (secret_lt seed).2
  have e : keyF seed = 4 ^ secretF seed % pN := rfl
  rw [e]; omega

set_option maxHeartbeats 2000000
theorem walk_SealOne (y0 : I) (seed : List UInt8) (e0 : y0 = bI seed) (y1 : I) (m : List UInt8) (e1 : y1 = bI m) (y2 : I) (s : Nat) (e2 : y2 = .s (.int .u64 (s : Int)) ∧ s < 18446744073709551616) (hb : bkI y0 + bkI y1 + bkI y2 ≤ 1048576) : ∃ Ds, PureD Try.prog 11 Ds (.i (.s (.bool true))) ∧ Ds = [.i y0, .i y1, .i y2] := by
  subst e0; subst e1
  obtain ⟨rfl, hs⟩ := e2
  rw [bk_B, bk_B] at hb
  refine ⟨_, ?_, rfl⟩
  have hk := key_A seed (by omega)
  have hsg := sign_A seed m (by omega) (by omega)
  have hg := good_A (keyF seed) m (sigR seed m) (sigS seed m) (key_lt _) (sigR_lt _ _) (sigS_lt _ _) (by omega)
  rw [seal_good] at hg
  have hg2 := good_A (keyF seed) m (sigR seed m) s (key_lt _) (sigR_lt _ _) hs (by omega)
  have ho := seal_one seed m s
  generalize keyF seed = K at *
  generalize sigR seed m = R at *
  generalize sigS seed m = S at *
  refine callD_W 35 Try.func11 rfl rfl rfl (fun _ _ => rfl) ?_
  (repeat (first | (simp -implicitDefEqProofs only [ev1, ev2, ev3, ev4, ev5, mixed, Nat.reduceLT, Nat.reduceAdd, Nat.reduceMul, reduceIte, Nat.reduceEqDiff, reduceCtorEq, Nat.reducePow, Nat.reduceLeDiff, Int.reduceLE, Int.reduceLT, Int.reduceToNat, Int.reduceEq, itsOf, gdA, byteI, opid, lenQ, ixQ, ldH, readAt, readCells, asCell, faQ, exQ, fldQ, partA, buildQ, slQ, stH, bslH, appH, dcells, convI, elemsOf, D.one, nilS, fillD, convN, cvH, List.contains_nil, List.contains_cons, Nat.reduceBEq, Bool.or_self, Bool.or_false, T4, T5, T24, T44, T47, bI]) | (with_reducible refine ⟨?_, ?_⟩; (· first | (obtain ⟨rfl⟩ := ‹Hq _ _›; with_reducible refine chk_ok ?_; kernel_rfl) | kernel_rfl)) | (with_reducible intro ops hops)))
  (first | refine Call_flat [] [] (alive2_A) (by simp [cvAs, cvA, cv1, cvL, cv0, bI, byteI, u64D, sealD, elemsOf, upd]) rfl ?_ | refine CallF_flat [] [] [] (alive2_A) (fun G _ => by simp [cvAs, cvA, cv1, cvL, cv0, bI, byteI, u64D, sealD, elemsOf, upd]) rfl ?_)
  (repeat (first | (simp -implicitDefEqProofs only [ev1, ev2, ev3, ev4, ev5, mixed, Nat.reduceLT, Nat.reduceAdd, Nat.reduceMul, reduceIte, Nat.reduceEqDiff, reduceCtorEq, Nat.reducePow, Nat.reduceLeDiff, Int.reduceLE, Int.reduceLT, Int.reduceToNat, Int.reduceEq, itsOf, gdA, byteI, opid, lenQ, ixQ, ldH, readAt, readCells, asCell, faQ, exQ, fldQ, partA, buildQ, slQ, stH, bslH, appH, dcells, convI, elemsOf, D.one, nilS, fillD, convN, cvH, List.contains_nil, List.contains_cons, Nat.reduceBEq, Bool.or_self, Bool.or_false, T4, T5, T24, T44, T47, bI]) | (with_reducible refine ⟨?_, ?_⟩; (· first | (obtain ⟨rfl⟩ := ‹Hq _ _›; with_reducible refine chk_ok ?_; kernel_rfl) | kernel_rfl)) | (with_reducible intro ops hops)))
  (first | refine Call_flat [] [] (hk) (by simp [cvAs, cvA, cv1, cvL, cv0, bI, byteI, u64D, sealD, elemsOf, upd]) rfl ?_ | refine CallF_flat [] [] [] (hk) (fun G _ => by simp [cvAs, cvA, cv1, cvL, cv0, bI, byteI, u64D, sealD, elemsOf, upd]) rfl ?_)
  (repeat (first | (simp -implicitDefEqProofs only [ev1, ev2, ev3, ev4, ev5, mixed, Nat.reduceLT, Nat.reduceAdd, Nat.reduceMul, reduceIte, Nat.reduceEqDiff, reduceCtorEq, Nat.reducePow, Nat.reduceLeDiff, Int.reduceLE, Int.reduceLT, Int.reduceToNat, Int.reduceEq, itsOf, gdA, byteI, opid, lenQ, ixQ, ldH, readAt, readCells, asCell, faQ, exQ, fldQ, partA, buildQ, slQ, stH, bslH, appH, dcells, convI, elemsOf, D.one, nilS, fillD, convN, cvH, List.contains_nil, List.contains_cons, Nat.reduceBEq, Bool.or_self, Bool.or_false, T4, T5, T24, T44, T47, bI, u64D]) | (with_reducible refine ⟨?_, ?_⟩; (· first | (obtain ⟨rfl⟩ := ‹Hq _ _›; with_reducible refine chk_ok ?_; kernel_rfl) | kernel_rfl)) | (with_reducible intro ops hops)))
  (first | refine Call_flat [] [] (hsg) (by simp [cvAs, cvA, cv1, cvL, cv0, bI, byteI, u64D, sealD, elemsOf, upd]) rfl ?_ | refine CallF_flat [] [] [] (hsg) (fun G _ => by simp [cvAs, cvA, cv1, cvL, cv0, bI, byteI, u64D, sealD, elemsOf, upd]) rfl ?_)
  (repeat (first | (simp -implicitDefEqProofs only [ev1, ev2, ev3, ev4, ev5, mixed, Nat.reduceLT, Nat.reduceAdd, Nat.reduceMul, reduceIte, Nat.reduceEqDiff, reduceCtorEq, Nat.reducePow, Nat.reduceLeDiff, Int.reduceLE, Int.reduceLT, Int.reduceToNat, Int.reduceEq, itsOf, gdA, byteI, opid, lenQ, ixQ, ldH, readAt, readCells, asCell, faQ, exQ, fldQ, partA, buildQ, slQ, stH, bslH, appH, dcells, convI, elemsOf, D.one, nilS, fillD, convN, cvH, List.contains_nil, List.contains_cons, Nat.reduceBEq, Bool.or_self, Bool.or_false, T4, T5, T24, T44, T47, bI, u64D, sealD]) | (with_reducible refine ⟨?_, ?_⟩; (· first | (obtain ⟨rfl⟩ := ‹Hq _ _›; with_reducible refine chk_ok ?_; kernel_rfl) | kernel_rfl)) | (with_reducible intro ops hops)))
  (first | refine Call_flat [] [] (hg) (by simp [cvAs, cvA, cv1, cvL, cv0, bI, byteI, u64D, sealD, elemsOf, upd]) rfl ?_ | refine CallF_flat [] [] [] (hg) (fun G _ => by simp [cvAs, cvA, cv1, cvL, cv0, bI, byteI, u64D, sealD, elemsOf, upd]) rfl ?_)
  (repeat (first | (simp -implicitDefEqProofs only [ev1, ev2, ev3, ev4, ev5, mixed, Nat.reduceLT, Nat.reduceAdd, Nat.reduceMul, reduceIte, Nat.reduceEqDiff, reduceCtorEq, Nat.reducePow, Nat.reduceLeDiff, Int.reduceLE, Int.reduceLT, Int.reduceToNat, Int.reduceEq, itsOf, gdA, byteI, opid, lenQ, ixQ, ldH, readAt, readCells, asCell, faQ, exQ, fldQ, partA, buildQ, slQ, stH, bslH, appH, dcells, convI, elemsOf, D.one, nilS, fillD, convN, cvH, List.contains_nil, List.contains_cons, Nat.reduceBEq, Bool.or_self, Bool.or_false, T4, T5, T24, T44, T47, bI, u64D, sealD]) | (with_reducible refine ⟨?_, ?_⟩; (· first | (obtain ⟨rfl⟩ := ‹Hq _ _›; with_reducible refine chk_ok ?_; kernel_rfl) | kernel_rfl)) | (with_reducible intro ops hops)))
  cases g : decide ((s : Int) = (S : Int))
  · have hne : s ≠ S := by simp at g; omega
    rw [ho hne] at hg2
    (repeat (first | (simp -implicitDefEqProofs only [ev1, ev2, ev3, ev4, ev5, mixed, Nat.reduceLT, Nat.reduceAdd, Nat.reduceMul, reduceIte, Nat.reduceEqDiff, reduceCtorEq, Nat.reducePow, Nat.reduceLeDiff, Int.reduceLE, Int.reduceLT, Int.reduceToNat, Int.reduceEq, itsOf, gdA, byteI, opid, lenQ, ixQ, ldH, readAt, readCells, asCell, faQ, exQ, fldQ, partA, buildQ, slQ, stH, bslH, appH, dcells, convI, elemsOf, D.one, nilS, fillD, convN, cvH, List.contains_nil, List.contains_cons, Nat.reduceBEq, Bool.or_self, Bool.or_false, T4, T5, T24, T44, T47, g, bI, u64D]) | (with_reducible refine ⟨?_, ?_⟩; (· first | (obtain ⟨rfl⟩ := ‹Hq _ _›; with_reducible refine chk_ok ?_; kernel_rfl) | kernel_rfl)) | (with_reducible intro ops hops)))
    (first | refine Call_flat [] [] (hg2) (by simp [cvAs, cvA, cv1, cvL, cv0, bI, byteI, u64D, sealD, elemsOf, upd]) rfl ?_ | refine CallF_flat [] [] [] (hg2) (fun G _ => by simp [cvAs, cvA, cv1, cvL, cv0, bI, byteI, u64D, sealD, elemsOf, upd]) rfl ?_)
    (repeat (first | (simp -implicitDefEqProofs only [ev1, ev2, ev3, ev4, ev5, mixed, Nat.reduceLT, Nat.reduceAdd, Nat.reduceMul, reduceIte, Nat.reduceEqDiff, reduceCtorEq, Nat.reducePow, Nat.reduceLeDiff, Int.reduceLE, Int.reduceLT, Int.reduceToNat, Int.reduceEq, itsOf, gdA, byteI, opid, lenQ, ixQ, ldH, readAt, readCells, asCell, faQ, exQ, fldQ, partA, buildQ, slQ, stH, bslH, appH, dcells, convI, elemsOf, D.one, nilS, fillD, convN, cvH, List.contains_nil, List.contains_cons, Nat.reduceBEq, Bool.or_self, Bool.or_false, T4, T5, T24, T44, T47, u64D]) | (with_reducible refine ⟨?_, ?_⟩; (· first | (obtain ⟨rfl⟩ := ‹Hq _ _›; with_reducible refine chk_ok ?_; kernel_rfl) | kernel_rfl)) | (with_reducible intro ops hops)))
    refine fin_ret [] rfl ?_
    simp [cv, cv1, cv0, upd]
  · (repeat (first | (simp -implicitDefEqProofs only [ev1, ev2, ev3, ev4, ev5, mixed, Nat.reduceLT, Nat.reduceAdd, Nat.reduceMul, reduceIte, Nat.reduceEqDiff, reduceCtorEq, Nat.reducePow, Nat.reduceLeDiff, Int.reduceLE, Int.reduceLT, Int.reduceToNat, Int.reduceEq, itsOf, gdA, byteI, opid, lenQ, ixQ, ldH, readAt, readCells, asCell, faQ, exQ, fldQ, partA, buildQ, slQ, stH, bslH, appH, dcells, convI, elemsOf, D.one, nilS, fillD, convN, cvH, List.contains_nil, List.contains_cons, Nat.reduceBEq, Bool.or_self, Bool.or_false, T4, T5, T24, T44, T47, g, bI, u64D]) | (with_reducible refine ⟨?_, ?_⟩; (· first | (obtain ⟨rfl⟩ := ‹Hq _ _›; with_reducible refine chk_ok ?_; kernel_rfl) | kernel_rfl)) | (with_reducible intro ops hops)))
    refine fin_ret [] rfl ?_
    simp [cv, cv1, cv0, upd]
end Go.Proofs.Ytbclmpdgkeoioaa
