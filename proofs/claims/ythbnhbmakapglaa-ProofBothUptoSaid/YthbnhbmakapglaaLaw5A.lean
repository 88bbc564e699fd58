/- ProofShort: plain law and by-value contract. -/
import Derived.Test.YthbnhbmakapglaaAlive5
import Derived.Test.YthbnhbmakapglaaAbs4
set_option linter.all false
namespace Go.Proofs.Ythbnhbmakapglaa
open Go Go.Abs Go.RowKit Go.Proofs.Ythbnhbmakapglaa.Ty

theorem dec_Pair {e : List I} (h : HasCs [.sl [.int .u8], .sl [.int .u8]] e) : ∃ p : PairD, e = encPr p ∧ True := by
  obtain ⟨x, _, rfl, hx, h⟩ := hasCs_cons h
  obtain ⟨y, _, rfl, hy, h⟩ := hasCs_cons h
  obtain rfl := hasCs_nil h
  obtain ⟨a, rfl⟩ := dec_B hx
  obtain ⟨b, rfl⟩ := dec_B hy
  exact ⟨⟨a, b⟩, rfl, trivial⟩
theorem dec_Pairs {x : I} (h : HasC (.sl [.sl [.int .u8], .sl [.int .u8]]) x) : ∃ l : List PairD, x = psI l := by
  obtain ⟨l, h1, _⟩ := dec_list (fun _ he => dec_Pair he) h
  exact ⟨l, h1⟩
theorem pairs_small {l : List PairD} {n : Nat} (h : bkI (psI l) ≤ n) : l.length ≤ n ∧ ∀ p ∈ l, p.k.length ≤ n ∧ p.v.length ≤ n := by
  refine ⟨Nat.le_trans (bk_len _ _) h, fun p hp => ?_⟩
  have := bk_mem encPr hp
  simp only [encPr, bkL, bk_B, psI] at this h
  omega

theorem pathF_short : ∀ (k : Nat) (l : List PairD) (i : Nat), l.length ≤ 2 ^ k → (pathF l i).length ≤ k := by
  intro k
  induction k with
  | zero => intro l i h; rw [pathF_one i (by simpa using h)]; simp
  | succ k ih =>
    intro l i h
    by_cases h1 : l.length ≤ 1
    · rw [pathF_one i h1]; simp
    · have hs := splitF_lt (n := l.length) (by omega)
      have hs2 := splitF_le (n := l.length)
      have hk : splitF l.length ≤ 2 ^ k := by
        have : 2 ^ Nat.log2 (l.length - 1) < 2 ^ (k + 1) := Nat.lt_of_lt_of_le hs.2 h
        have := (Nat.pow_lt_pow_iff_right (by decide)).1 this
        exact Nat.pow_le_pow_right (by decide) (by omega)
      by_cases hi : i < splitF l.length
      · rw [pathF_lo (by omega) hi]
        have := ih (l.take (splitF l.length)) i (by simp; omega)
        simp; omega
      · rw [pathF_hi (by omega) hi]
        have := ih (l.drop (splitF l.length)) (i - splitF l.length) (by simp; omega)
        simp; omega
theorem showF_cases (l : List PairD) (key : List UInt8) : ((showF l key).2 ≠ 0 ∧ (showF l key).1 = zeroP) ∨ ((wrongF l).1 = 0 ∧ ∃ h : placeF l key < l.length, l[placeF l key].k = key ∧ showF l key = (atF l (placeF l key) h, 0)) := by
  unfold showF
  by_cases h0 : (wrongF l).1 = 0
  · rw [if_pos h0]
    by_cases h1 : placeF l key < l.length
    · rw [dif_pos h1]
      by_cases h2 : l[placeF l key].k = key
      · rw [if_pos h2]; exact .inr ⟨h0, h1, h2, rfl⟩
      · rw [if_neg h2]; exact .inl ⟨by decide, rfl⟩
    · rw [dif_neg h1]; exact .inl ⟨by decide, rfl⟩
  · rw [if_neg h0]; exact .inl ⟨h0, rfl⟩
set_option maxHeartbeats 2000000
theorem walk_ProofShort (y0 : I) (l : List PairD) (e0 : y0 = psI l) (y1 : I) (key : List UInt8) (e1 : y1 = bI key) (hb : bkI y0 + bkI y1 ≤ 1048576) :
    ∃ Ds, PureD Try.prog 3 Ds (.i (.s (.bool true))) ∧ Ds = [.i y0, .i y1] := by
  subst e0; subst e1
  refine ⟨_, ?_, rfl⟩
  have hl := (pairs_small (l := l) (n := 1048576) (by omega)).1
  have hs := show_A l key hl
  have h1 : (showF l key).2 ≠ 0 → (showF l key).1.path = [] := by
    intro h; rcases showF_cases l key with h2 | ⟨_, h3, _, h4⟩
    · rw [h2.2]; rfl
    · rw [h4] at h; exact absurd rfl h
  have h2 : (showF l key).2 = 0 → (showF l key).1.n = l.length ∧ ∀ k, l.length ≤ 2 ^ k → (showF l key).1.path.length ≤ k := by
    intro h; rcases showF_cases l key with h2 | ⟨_, h3, _, h4⟩
    · exact absurd h h2.1
    · rw [h4]; exact ⟨rfl, fun k hk => pathF_short k l _ hk⟩
  generalize showF l key = S at *
  obtain ⟨⟨pi, pn, pk, pv, pq⟩, e⟩ := S
  simp only at *
  have hq : (pq.map fun b => [bI b]).length = pq.length := by simp
  by_cases he : e = 0
  · subst he
    obtain ⟨h3, h4⟩ := h2 rfl
    subst h3
    refine callD_W 41 Try.func3 rfl rfl rfl (fun _ _ => rfl) ?_
    (repeat (first | (simp -implicitDefEqProofs only [ev1, ev2, ev3, ev4, ev5, ev6, mixed, Nat.reduceLT, Nat.reduceAdd, Nat.reduceMul, reduceIte, Nat.reduceEqDiff, reduceCtorEq, Nat.reducePow, Nat.reduceLeDiff, Int.reduceLE, Int.reduceLT, Int.reduceToNat, Int.reduceEq, Nat.reduceBEq, itsOf, gdA, byteI, opid, lenQ, ixQ, ldH, readAt, readCells, asCell, faQ, exQ, fldQ, partA, buildQ, slQ, stH, bslH, appH, dcells, convI, elemsOf, D.one, nilS, fillD, convN, cvH, T3, T4, T5, T22, T23, T25, T27, T28, T52]) | (with_reducible refine ⟨?_, ?_⟩; (· first | (obtain ⟨rfl⟩ := ‹Hq _ _›; with_reducible refine chk_ok ?_; kernel_rfl) | kernel_rfl)) | (with_reducible intro ops hops)))
    (first | refine Call_flat [] [] (alive5_A) (by simp [cvAs, cvA, cv1, cvL, cv0, bI, byteI, bbI, encPr, psI, intD, proofD, elemsOf, upd]) rfl ?_ | refine CallF_flat [] [] [] (alive5_A) (fun G _ => by simp [cvAs, cvA, cv1, cvL, cv0, bI, byteI, bbI, encPr, psI, intD, proofD, elemsOf, upd]) rfl ?_)
    (repeat (first | (simp -implicitDefEqProofs only [ev1, ev2, ev3, ev4, ev5, ev6, mixed, Nat.reduceLT, Nat.reduceAdd, Nat.reduceMul, reduceIte, Nat.reduceEqDiff, reduceCtorEq, Nat.reducePow, Nat.reduceLeDiff, Int.reduceLE, Int.reduceLT, Int.reduceToNat, Int.reduceEq, Nat.reduceBEq, itsOf, gdA, byteI, opid, lenQ, ixQ, ldH, readAt, readCells, asCell, faQ, exQ, fldQ, partA, buildQ, slQ, stH, bslH, appH, dcells, convI, elemsOf, D.one, nilS, fillD, convN, cvH, T3, T4, T5, T22, T23, T25, T27, T28, T52, psI, bI]) | (with_reducible refine ⟨?_, ?_⟩; (· first | (obtain ⟨rfl⟩ := ‹Hq _ _›; with_reducible refine chk_ok ?_; kernel_rfl) | kernel_rfl)) | (with_reducible intro ops hops)))
    (first | refine Call_frz [] (hs) (by simp [cvAs, cvA, cv1, cvL, cv0, bI, byteI, bbI, encPr, psI, intD, proofD, elemsOf, upd]) ?_ | refine CallF_frz [] [] (hs) (fun G _ => by simp [cvAs, cvA, cv1, cvL, cv0, bI, byteI, bbI, encPr, psI, intD, proofD, elemsOf, upd]) (by simp) ?_)
    (repeat (first | (simp -implicitDefEqProofs only [ev1, ev2, ev3, ev4, ev5, ev6, mixed, Nat.reduceLT, Nat.reduceAdd, Nat.reduceMul, reduceIte, Nat.reduceEqDiff, reduceCtorEq, Nat.reducePow, Nat.reduceLeDiff, Int.reduceLE, Int.reduceLT, Int.reduceToNat, Int.reduceEq, Nat.reduceBEq, itsOf, gdA, byteI, opid, lenQ, ixQ, ldH, readAt, readCells, asCell, faQ, exQ, fldQ, partA, buildQ, slQ, stH, bslH, appH, dcells, convI, elemsOf, D.one, nilS, fillD, convN, cvH, T3, T4, T5, T22, T23, T25, T27, T28, T52, intD, proofD]) | (with_reducible refine ⟨?_, ?_⟩; (· first | (obtain ⟨rfl⟩ := ‹Hq _ _›; with_reducible refine chk_ok ?_; kernel_rfl) | kernel_rfl)) | (with_reducible intro ops hops)))
    refine W_loopI (ι := Nat) (fun k => k ≤ 20)
      (fun k => stOf [(0, .i (psI l)), (5, .pt 100 0 0 0), (7, intD k)] [(100, .box [intD pi, intD l.length, .i (bI pk), .i (bI pv), .i (bbI pq)])]) (fun k => 20 - k) 0 (by omega) ?_ ?_
    · refine le_stOf _ _ [] [(100, 1774)] ?_ ?_ rfl rfl
      · simp [cv, cvL, cv1, cv0, upd, lk, srcOf, intD, psI]
      · simp [objOk, srcOf, lk, cvO, cvL, cv0, frz, upd, D.one, intD, hO]
    · rintro k hk
      rw [stOf_eq]
      have w0 : IntKind.i64.wrap (1 * 2 ^ min k IntKind.i64.bits) = ((2 ^ k : Nat) : Int) := by
        have hm : min k (IntKind.bits .i64) = k := by simp [IntKind.bits]; omega
        have : 2 ^ k ≤ 2 ^ 20 := Nat.pow_le_pow_right (by decide) hk
        have hx : (2 : Int) ^ k = ((2 ^ k : Nat) : Int) := by rw [Int.natCast_pow]; rfl
        rw [hm, Int.one_mul, hx]
        generalize 2 ^ k = x at *
        rw [wrap64 (by omega) (by omega)]
      have w1 : IntKind.i64.wrap ((k : Int) + 1) = ((k + 1 : Nat) : Int) := by rw [wrap64 (by omega) (by omega)]; omega
      (repeat (first | (simp -implicitDefEqProofs only [ev1, ev2, ev3, ev4, ev5, ev6, mixed, Nat.reduceLT, Nat.reduceAdd, Nat.reduceMul, reduceIte, Nat.reduceEqDiff, reduceCtorEq, Nat.reducePow, Nat.reduceLeDiff, Int.reduceLE, Int.reduceLT, Int.reduceToNat, Int.reduceEq, Nat.reduceBEq, itsOf, gdA, byteI, opid, lenQ, ixQ, ldH, readAt, readCells, asCell, faQ, exQ, fldQ, partA, buildQ, slQ, stH, bslH, appH, dcells, convI, elemsOf, D.one, nilS, fillD, convN, cvH, T3, T4, T5, T22, T23, T25, T27, T28, T52, intD, psI, w0]) | (with_reducible refine ⟨?_, ?_⟩; (· first | (obtain ⟨rfl⟩ := ‹Hq _ _›; with_reducible refine chk_ok ?_; kernel_rfl) | kernel_rfl)) | (with_reducible intro ops hops)))
      refine Wc_split (fun h => ?_) (fun h => ?_)
      · have h5 : 2 ^ k < l.length := by have h := of_decide_eq_true h; omega
        have h6 : k < 20 := by
          rcases Nat.lt_or_ge k 20 with h | h
          · exact h
          · have : 2 ^ 20 ≤ 2 ^ k := Nat.pow_le_pow_right (by decide) h
            omega
        clear h
        (repeat (first | (simp -implicitDefEqProofs only [ev1, ev2, ev3, ev4, ev5, ev6, mixed, Nat.reduceLT, Nat.reduceAdd, Nat.reduceMul, reduceIte, Nat.reduceEqDiff, reduceCtorEq, Nat.reducePow, Nat.reduceLeDiff, Int.reduceLE, Int.reduceLT, Int.reduceToNat, Int.reduceEq, Nat.reduceBEq, itsOf, gdA, byteI, opid, lenQ, ixQ, ldH, readAt, readCells, asCell, faQ, exQ, fldQ, partA, buildQ, slQ, stH, bslH, appH, dcells, convI, elemsOf, D.one, nilS, fillD, convN, cvH, T3, T4, T5, T22, T23, T25, T27, T28, T52, w1]) | (with_reducible refine ⟨?_, ?_⟩; (· first | (obtain ⟨rfl⟩ := ‹Hq _ _›; with_reducible refine chk_ok ?_; kernel_rfl) | kernel_rfl)) | (with_reducible intro ops hops)))
        refine ⟨k + 1, by omega, le_stOf _ _ [] [(100, 100)] ?_ ?_ rfl rfl, by simp; omega⟩
        · simp [cv, cvL, cv1, cv0, upd, lk, srcOf, intD, psI]
        · simp [objOk, srcOf, lk, cvO, cvL, cv0, frz, upd, D.one, intD, hO]
      · have h5 : l.length ≤ 2 ^ k := by have h := of_decide_eq_false h; omega
        have h6 := h4 k h5
        have g1 : decide ((pq.length : Int) ≤ (k : Int)) = true := decide_eq_true (by omega)
        clear h h5
        (repeat (first | (simp -implicitDefEqProofs only [ev1, ev2, ev3, ev4, ev5, ev6, mixed, Nat.reduceLT, Nat.reduceAdd, Nat.reduceMul, reduceIte, Nat.reduceEqDiff, reduceCtorEq, Nat.reducePow, Nat.reduceLeDiff, Int.reduceLE, Int.reduceLT, Int.reduceToNat, Int.reduceEq, Nat.reduceBEq, itsOf, gdA, byteI, opid, lenQ, ixQ, ldH, readAt, readCells, asCell, faQ, exQ, fldQ, partA, buildQ, slQ, stH, bslH, appH, dcells, convI, elemsOf, D.one, nilS, fillD, convN, cvH, T3, T4, T5, T22, T23, T25, T27, T28, T52, bbI, hq, g1]) | (with_reducible refine ⟨?_, ?_⟩; (· first | (obtain ⟨rfl⟩ := ‹Hq _ _›; with_reducible refine chk_ok ?_; kernel_rfl) | kernel_rfl)) | (with_reducible intro ops hops)))
        refine fin_ret [] rfl ?_
        simp [cv, cv1, cv0, upd]
  · have hp := h1 he
    subst hp
    have g1 : decide ((e : Int) = 0) = false := by simp; omega
    refine callD_W 41 Try.func3 rfl rfl rfl (fun _ _ => rfl) ?_
    (repeat (first | (simp -implicitDefEqProofs only [ev1, ev2, ev3, ev4, ev5, ev6, mixed, Nat.reduceLT, Nat.reduceAdd, Nat.reduceMul, reduceIte, Nat.reduceEqDiff, reduceCtorEq, Nat.reducePow, Nat.reduceLeDiff, Int.reduceLE, Int.reduceLT, Int.reduceToNat, Int.reduceEq, Nat.reduceBEq, itsOf, gdA, byteI, opid, lenQ, ixQ, ldH, readAt, readCells, asCell, faQ, exQ, fldQ, partA, buildQ, slQ, stH, bslH, appH, dcells, convI, elemsOf, D.one, nilS, fillD, convN, cvH, T3, T4, T5, T22, T23, T25, T27, T28, T52]) | (with_reducible refine ⟨?_, ?_⟩; (· first | (obtain ⟨rfl⟩ := ‹Hq _ _›; with_reducible refine chk_ok ?_; kernel_rfl) | kernel_rfl)) | (with_reducible intro ops hops)))
    (first | refine Call_flat [] [] (alive5_A) (by simp [cvAs, cvA, cv1, cvL, cv0, bI, byteI, bbI, encPr, psI, intD, proofD, elemsOf, upd]) rfl ?_ | refine CallF_flat [] [] [] (alive5_A) (fun G _ => by simp [cvAs, cvA, cv1, cvL, cv0, bI, byteI, bbI, encPr, psI, intD, proofD, elemsOf, upd]) rfl ?_)
    (repeat (first | (simp -implicitDefEqProofs only [ev1, ev2, ev3, ev4, ev5, ev6, mixed, Nat.reduceLT, Nat.reduceAdd, Nat.reduceMul, reduceIte, Nat.reduceEqDiff, reduceCtorEq, Nat.reducePow, Nat.reduceLeDiff, Int.reduceLE, Int.reduceLT, Int.reduceToNat, Int.reduceEq, Nat.reduceBEq, itsOf, gdA, byteI, opid, lenQ, ixQ, ldH, readAt, readCells, asCell, faQ, exQ, fldQ, partA, buildQ, slQ, stH, bslH, appH, dcells, convI, elemsOf, D.one, nilS, fillD, convN, cvH, T3, T4, T5, T22, T23, T25, T27, T28, T52, psI, bI]) | (with_reducible refine ⟨?_, ?_⟩; (· first | (obtain ⟨rfl⟩ := ‹Hq _ _›; with_reducible refine chk_ok ?_; kernel_rfl) | kernel_rfl)) | (with_reducible intro ops hops)))
    (first | refine Call_frz [] (hs) (by simp [cvAs, cvA, cv1, cvL, cv0, bI, byteI, bbI, encPr, psI, intD, proofD, elemsOf, upd]) ?_ | refine CallF_frz [] [] (hs) (fun G _ => by simp [cvAs, cvA, cv1, cvL, cv0, bI, byteI, bbI, encPr, psI, intD, proofD, elemsOf, upd]) (by simp) ?_)
    (repeat (first | (simp -implicitDefEqProofs only [ev1, ev2, ev3, ev4, ev5, ev6, mixed, Nat.reduceLT, Nat.reduceAdd, Nat.reduceMul, reduceIte, Nat.reduceEqDiff, reduceCtorEq, Nat.reducePow, Nat.reduceLeDiff, Int.reduceLE, Int.reduceLT, Int.reduceToNat, Int.reduceEq, Nat.reduceBEq, itsOf, gdA, byteI, opid, lenQ, ixQ, ldH, readAt, readCells, asCell, faQ, exQ, fldQ, partA, buildQ, slQ, stH, bslH, appH, dcells, convI, elemsOf, D.one, nilS, fillD, convN, cvH, T3, T4, T5, T22, T23, T25, T27, T28, T52, intD, proofD, bbI, List.map_nil, g1]) | (with_reducible refine ⟨?_, ?_⟩; (· first | (obtain ⟨rfl⟩ := ‹Hq _ _›; with_reducible refine chk_ok ?_; kernel_rfl) | kernel_rfl)) | (with_reducible intro ops hops)))
    refine fin_ret [] rfl ?_
    simp [cv, cv1, cv0, upd]
end Go.Proofs.Ythbnhbmakapglaa
