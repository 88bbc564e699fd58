/- seal.secret, ask, Key, Sign, Good: by value. -/
import Derived.Test.YtdpfjmkilbepgaaSealA
set_option linter.all false
namespace Go.Proofs.Ytdpfjmkilbepgaa
open Go Go.Abs Go.RowKit Go.Proofs.Ytdpfjmkilbepgaa.Ty
theorem tySealB0 : (type_of% @Ty.T2) ∧ (type_of% @Ty.T3) ∧ (type_of% @Ty.T5) ∧ (type_of% @Ty.T25) ∧ (type_of% @Ty.T26) ∧ (type_of% @Ty.T44) := ⟨@Ty.T2, @Ty.T3, @Ty.T5, @Ty.T25, @Ty.T26, @Ty.T44⟩
theorem tySealB1 : (type_of% @Ty.T3) ∧ (type_of% @Ty.T5) ∧ (type_of% @Ty.T25) ∧ (type_of% @Ty.T26) ∧ (type_of% @Ty.T44) := ⟨@Ty.T3, @Ty.T5, @Ty.T25, @Ty.T26, @Ty.T44⟩
theorem tySealB2 : (type_of% @Ty.T5) ∧ (type_of% @Ty.T25) ∧ (type_of% @Ty.T44) := ⟨@Ty.T5, @Ty.T25, @Ty.T44⟩

def qN : Nat := 576460752303424853
def pN : Nat := 1152921504606849707
def keyB : List UInt8 := [107, 101, 121]
def onceB : List UInt8 := [111, 110, 99, 101]
def secretF (seed : List UInt8) : Nat := numF (sha (keyB ++ seed)) % (qN - 1) + 1
def askF (r key : Nat) (m : List UInt8) : Nat := numF (sha (be64 r ++ (be64 key ++ m))) % qN
def keyF (seed : List UInt8) : Nat := 4 ^ secretF seed % pN
def onceF (seed m : List UInt8) : Nat := numF (sha (onceB ++ (be64 (secretF seed) ++ m))) % (qN - 1) + 1
def sigR (seed m : List UInt8) : Nat := 4 ^ onceF seed m % pN
def sigS (seed m : List UInt8) : Nat := (onceF seed m + askF (sigR seed m) (keyF seed) m * secretF seed % qN) % qN
def goodF (key : Nat) (m : List UInt8) (r s : Nat) : Bool :=
  decide (1 ≤ key ∧ key < pN ∧ 1 ≤ r ∧ r < pN ∧ s < qN ∧ key ^ qN % pN = 1) && decide (4 ^ s % pN = r * (key ^ askF r key m % pN) % pN)
theorem be64_len (n : Nat) : (be64 n).length = 8 := rfl
theorem tmodN (a b : Nat) : (a : Int).tmod (b : Int) = ((a % b : Nat) : Int) := by rw [Int.tmod_eq_emod_of_nonneg (by omega)]; exact (Int.natCast_emod _ _).symm
theorem secret_lt (seed : List UInt8) : 1 ≤ secretF seed ∧ secretF seed < qN := by
  have := Nat.mod_lt (numF (sha (keyB ++ seed))) (show 0 < qN - 1 by decide)
  simp only [secretF, qN] at *; omega

set_option maxHeartbeats 2000000
theorem secret_A (seed : List UInt8) (hb : seed.length ≤ 1099511627776) : PureD Try.prog 110 [.i (bI seed)] (u64D (secretF seed)) := by
  have hn := number_S [keyB, seed] (by simp) (by intro b hb'; simp at hb'; rcases hb' with rfl | rfl; decide; omega)
  have hf : [keyB, seed].flatten = keyB ++ seed := by simp
  rw [hf] at hn
  have hs : secretF seed = numF (sha (keyB ++ seed)) % 576460752303424852 + 1 := rfl
  have hlt := numF_lt (sha (keyB ++ seed))
  generalize numF (sha (keyB ++ seed)) = N at hn hs hlt
  have w1 : (N : Int).tmod 576460752303424852 = ((N % 576460752303424852 : Nat) : Int) := tmodN N 576460752303424852
  have w2 : IntKind.u64.wrap (((N % 576460752303424852 : Nat) : Int) + 1) = ((secretF seed : Nat) : Int) := by rw [hs, IntKind.wrap_u64]; omega
  refine callD_W 10 Try.func110 rfl rfl rfl (fun _ _ => rfl) ?_
  (repeat (first | (simp -implicitDefEqProofs only [ev, mixed, Nat.reduceLT, Nat.reduceAdd, Nat.reduceMul, reduceIte, Nat.reduceEqDiff, reduceCtorEq, Nat.reducePow, Nat.reduceLeDiff, Int.reduceLE, Int.reduceLT, Int.reduceToNat, Int.reduceEq, Nat.reduceBEq, itsOf, gdA, byteI, opid, lenQ, ixQ, ldH, readAt, readCells, asCell, faQ, exQ, fldQ, partA, buildQ, slQ, stH, bslH, appH, dcells, convI, elemsOf, D.one, nilS, fillD, convN, cvH, tySealB0, bI, convQ_none]) | (with_reducible refine ⟨?_, ?_⟩; (· first | (obtain ⟨rfl⟩ := ‹Hq _ _›; with_reducible refine chk_ok ?_; kernel_rfl) | kernel_rfl)) | (with_reducible intro ops hops)))
  (first | refine Call_flat [1259] [] (hn) (by simp [cvAs, cvA, cvRL, cvR, cvBox, cv1, cvL, cv0, bI, byteI, u64D, bbI, elemsOf, upd, keyB, byteI, frz, bbI]) rfl ?_ | refine CallF_flat [1259] [] [1259] (hn) (fun G hG => by (have hG1259 := hG 1259 (by simp); simp [cvAs, cvA, cvRL, cvR, cvBox, cv1, cvL, cv0, bI, byteI, u64D, bbI, elemsOf, upd, keyB, byteI, frz, bbI, hG1259])) rfl ?_)
  (repeat (first | (simp -implicitDefEqProofs only [ev, mixed, Nat.reduceLT, Nat.reduceAdd, Nat.reduceMul, reduceIte, Nat.reduceEqDiff, reduceCtorEq, Nat.reducePow, Nat.reduceLeDiff, Int.reduceLE, Int.reduceLT, Int.reduceToNat, Int.reduceEq, Nat.reduceBEq, itsOf, gdA, byteI, opid, lenQ, ixQ, ldH, readAt, readCells, asCell, faQ, exQ, fldQ, partA, buildQ, slQ, stH, bslH, appH, dcells, convI, elemsOf, D.one, nilS, fillD, convN, cvH, tySealB0, u64D, w1, w2]) | (with_reducible refine ⟨?_, ?_⟩; (· first | (obtain ⟨rfl⟩ := ‹Hq _ _›; with_reducible refine chk_ok ?_; kernel_rfl) | kernel_rfl)) | (with_reducible intro ops hops)))
  refine fin_ret [] rfl ?_
  simp [cv, cv1, cv0, upd, u64D]

theorem ask_A (r key : Nat) (m : List UInt8) (hb : m.length ≤ 1099511627776) : PureD Try.prog 113 [u64D r, u64D key, .i (bI m)] (u64D (askF r key m)) := by
  have hn := number_S [be64 r, be64 key, m] (by simp) (by intro b hb'; simp at hb'; rcases hb' with rfl | rfl | rfl; (rw [be64_len]; decide); (rw [be64_len]; decide); omega)
  have hf : [be64 r, be64 key, m].flatten = be64 r ++ (be64 key ++ m) := by simp
  rw [hf] at hn
  have hs : askF r key m = numF (sha (be64 r ++ (be64 key ++ m))) % 576460752303424853 := rfl
  generalize numF (sha (be64 r ++ (be64 key ++ m))) = N at hn hs
  have w1 : (N : Int).tmod 576460752303424853 = ((askF r key m : Nat) : Int) := by rw [hs]; exact tmodN N 576460752303424853
  refine callD_W 15 Try.func113 rfl rfl rfl (fun _ _ => rfl) ?_
  (repeat (first | (simp -implicitDefEqProofs only [ev, mixed, Nat.reduceLT, Nat.reduceAdd, Nat.reduceMul, reduceIte, Nat.reduceEqDiff, reduceCtorEq, Nat.reducePow, Nat.reduceLeDiff, Int.reduceLE, Int.reduceLT, Int.reduceToNat, Int.reduceEq, Nat.reduceBEq, itsOf, gdA, byteI, opid, lenQ, ixQ, ldH, readAt, readCells, asCell, faQ, exQ, fldQ, partA, buildQ, slQ, stH, bslH, appH, dcells, convI, elemsOf, D.one, nilS, fillD, convN, cvH, tySealB1, u64D, bI]) | (with_reducible refine ⟨?_, ?_⟩; (· first | (obtain ⟨rfl⟩ := ‹Hq _ _›; with_reducible refine chk_ok ?_; kernel_rfl) | kernel_rfl)) | (with_reducible intro ops hops)))
  (first | refine Call_frz [] (eight_S r) (by simp [cvAs, cvA, cvRL, cvR, cvBox, cv1, cvL, cv0, bI, byteI, u64D, bbI, elemsOf, upd]) ?_ | refine CallF_frz [] [] (eight_S r) (fun G _ => by simp [cvAs, cvA, cvRL, cvR, cvBox, cv1, cvL, cv0, bI, byteI, u64D, bbI, elemsOf, upd]) (by simp) ?_)
  (repeat (first | (simp -implicitDefEqProofs only [ev, mixed, Nat.reduceLT, Nat.reduceAdd, Nat.reduceMul, reduceIte, Nat.reduceEqDiff, reduceCtorEq, Nat.reducePow, Nat.reduceLeDiff, Int.reduceLE, Int.reduceLT, Int.reduceToNat, Int.reduceEq, Nat.reduceBEq, itsOf, gdA, byteI, opid, lenQ, ixQ, ldH, readAt, readCells, asCell, faQ, exQ, fldQ, partA, buildQ, slQ, stH, bslH, appH, dcells, convI, elemsOf, D.one, nilS, fillD, convN, cvH, tySealB1, u64D, bI]) | (with_reducible refine ⟨?_, ?_⟩; (· first | (obtain ⟨rfl⟩ := ‹Hq _ _›; with_reducible refine chk_ok ?_; kernel_rfl) | kernel_rfl)) | (with_reducible intro ops hops)))
  (first | refine Call_frz [] (eight_S key) (by simp [cvAs, cvA, cvRL, cvR, cvBox, cv1, cvL, cv0, bI, byteI, u64D, bbI, elemsOf, upd]) ?_ | refine CallF_frz [] [] (eight_S key) (fun G _ => by simp [cvAs, cvA, cvRL, cvR, cvBox, cv1, cvL, cv0, bI, byteI, u64D, bbI, elemsOf, upd]) (by simp) ?_)
  (repeat (first | (simp -implicitDefEqProofs only [ev, mixed, Nat.reduceLT, Nat.reduceAdd, Nat.reduceMul, reduceIte, Nat.reduceEqDiff, reduceCtorEq, Nat.reducePow, Nat.reduceLeDiff, Int.reduceLE, Int.reduceLT, Int.reduceToNat, Int.reduceEq, Nat.reduceBEq, itsOf, gdA, byteI, opid, lenQ, ixQ, ldH, readAt, readCells, asCell, faQ, exQ, fldQ, partA, buildQ, slQ, stH, bslH, appH, dcells, convI, elemsOf, D.one, nilS, fillD, convN, cvH, tySealB1, u64D, bI]) | (with_reducible refine ⟨?_, ?_⟩; (· first | (obtain ⟨rfl⟩ := ‹Hq _ _›; with_reducible refine chk_ok ?_; kernel_rfl) | kernel_rfl)) | (with_reducible intro ops hops)))
  (first | refine Call_flat [1261] [] (hn) (by simp [cvAs, cvA, cvRL, cvR, cvBox, cv1, cvL, cv0, bI, byteI, u64D, bbI, elemsOf, upd, frz, bbI]) rfl ?_ | refine CallF_flat [1261] [] [1261] (hn) (fun G hG => by (have hG1261 := hG 1261 (by simp); simp [cvAs, cvA, cvRL, cvR, cvBox, cv1, cvL, cv0, bI, byteI, u64D, bbI, elemsOf, upd, frz, bbI, hG1261])) rfl ?_)
  (repeat (first | (simp -implicitDefEqProofs only [ev, mixed, Nat.reduceLT, Nat.reduceAdd, Nat.reduceMul, reduceIte, Nat.reduceEqDiff, reduceCtorEq, Nat.reducePow, Nat.reduceLeDiff, Int.reduceLE, Int.reduceLT, Int.reduceToNat, Int.reduceEq, Nat.reduceBEq, itsOf, gdA, byteI, opid, lenQ, ixQ, ldH, readAt, readCells, asCell, faQ, exQ, fldQ, partA, buildQ, slQ, stH, bslH, appH, dcells, convI, elemsOf, D.one, nilS, fillD, convN, cvH, tySealB1, u64D, w1]) | (with_reducible refine ⟨?_, ?_⟩; (· first | (obtain ⟨rfl⟩ := ‹Hq _ _›; with_reducible refine chk_ok ?_; kernel_rfl) | kernel_rfl)) | (with_reducible intro ops hops)))
  refine fin_ret [] rfl ?_
  simp [cv, cv1, cv0, upd, u64D]

theorem key_A (seed : List UInt8) (hb : seed.length ≤ 1099511627776) : PureD Try.prog 65 [.i (bI seed)] (u64D (keyF seed)) := by
  have hs := (secret_lt seed).2
  have hp := power_A 4 (secretF seed) pN (by decide) (Nat.lt_trans hs (by decide)) (by decide) (by decide)
  rw [show 4 ^ secretF seed % pN = keyF seed from rfl] at hp
  simp only [pN] at hp
  generalize hk : keyF seed = K at hp
  generalize hss : secretF seed = S at hp
  refine callD_W 6 Try.func65 rfl rfl rfl (fun _ _ => rfl) ?_
  (repeat (first | (simp -implicitDefEqProofs only [ev, mixed, Nat.reduceLT, Nat.reduceAdd, Nat.reduceMul, reduceIte, Nat.reduceEqDiff, reduceCtorEq, Nat.reducePow, Nat.reduceLeDiff, Int.reduceLE, Int.reduceLT, Int.reduceToNat, Int.reduceEq, Nat.reduceBEq, itsOf, gdA, byteI, opid, lenQ, ixQ, ldH, readAt, readCells, asCell, faQ, exQ, fldQ, partA, buildQ, slQ, stH, bslH, appH, dcells, convI, elemsOf, D.one, nilS, fillD, convN, cvH, tySealB2, bI]) | (with_reducible refine ⟨?_, ?_⟩; (· first | (obtain ⟨rfl⟩ := ‹Hq _ _›; with_reducible refine chk_ok ?_; kernel_rfl) | kernel_rfl)) | (with_reducible intro ops hops)))
  (first | refine Call_flat [] [] (secret_A seed hb) (by simp [cvAs, cvA, cvRL, cvR, cvBox, cv1, cvL, cv0, bI, byteI, u64D, bbI, elemsOf, upd]) rfl ?_ | refine CallF_flat [] [] [] (secret_A seed hb) (fun G _ => by simp [cvAs, cvA, cvRL, cvR, cvBox, cv1, cvL, cv0, bI, byteI, u64D, bbI, elemsOf, upd]) rfl ?_)
  rw [hss]
  (repeat (first | (simp -implicitDefEqProofs only [ev, mixed, Nat.reduceLT, Nat.reduceAdd, Nat.reduceMul, reduceIte, Nat.reduceEqDiff, reduceCtorEq, Nat.reducePow, Nat.reduceLeDiff, Int.reduceLE, Int.reduceLT, Int.reduceToNat, Int.reduceEq, Nat.reduceBEq, itsOf, gdA, byteI, opid, lenQ, ixQ, ldH, readAt, readCells, asCell, faQ, exQ, fldQ, partA, buildQ, slQ, stH, bslH, appH, dcells, convI, elemsOf, D.one, nilS, fillD, convN, cvH, tySealB2, u64D]) | (with_reducible refine ⟨?_, ?_⟩; (· first | (obtain ⟨rfl⟩ := ‹Hq _ _›; with_reducible refine chk_ok ?_; kernel_rfl) | kernel_rfl)) | (with_reducible intro ops hops)))
  (first | refine Call_flat [] [] (hp) (by simp [cvAs, cvA, cvRL, cvR, cvBox, cv1, cvL, cv0, bI, byteI, u64D, bbI, elemsOf, upd]) rfl ?_ | refine CallF_flat [] [] [] (hp) (fun G _ => by simp [cvAs, cvA, cvRL, cvR, cvBox, cv1, cvL, cv0, bI, byteI, u64D, bbI, elemsOf, upd]) rfl ?_)
  (repeat (first | (simp -implicitDefEqProofs only [ev, mixed, Nat.reduceLT, Nat.reduceAdd, Nat.reduceMul, reduceIte, Nat.reduceEqDiff, reduceCtorEq, Nat.reducePow, Nat.reduceLeDiff, Int.reduceLE, Int.reduceLT, Int.reduceToNat, Int.reduceEq, Nat.reduceBEq, itsOf, gdA, byteI, opid, lenQ, ixQ, ldH, readAt, readCells, asCell, faQ, exQ, fldQ, partA, buildQ, slQ, stH, bslH, appH, dcells, convI, elemsOf, D.one, nilS, fillD, convN, cvH, tySealB2, u64D]) | (with_reducible refine ⟨?_, ?_⟩; (· first | (obtain ⟨rfl⟩ := ‹Hq _ _›; with_reducible refine chk_ok ?_; kernel_rfl) | kernel_rfl)) | (with_reducible intro ops hops)))
  refine fin_ret [] rfl ?_
  simp [cv, cv1, cv0, upd, u64D]
end Go.Proofs.Ytdpfjmkilbepgaa
