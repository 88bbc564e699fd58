/- seal.Sign, Good: by value. -/
import Derived.Test.YtdpfjmkilbepgaaSealB
set_option linter.all false
namespace Go.Proofs.Ytdpfjmkilbepgaa
open Go Go.Abs Go.RowKit Go.Proofs.Ytdpfjmkilbepgaa.Ty
theorem tySealC0 : (type_of% @Ty.T3) ∧ (type_of% @Ty.T4) ∧ (type_of% @Ty.T5) ∧ (type_of% @Ty.T25) ∧ (type_of% @Ty.T26) ∧ (type_of% @Ty.T44) ∧ (type_of% @Ty.T53) := ⟨@Ty.T3, @Ty.T4, @Ty.T5, @Ty.T25, @Ty.T26, @Ty.T44, @Ty.T53⟩
theorem tySealC1 : (type_of% @Ty.T5) ∧ (type_of% @Ty.T25) ∧ (type_of% @Ty.T44) ∧ (type_of% @Ty.T53) := ⟨@Ty.T5, @Ty.T25, @Ty.T44, @Ty.T53⟩

def sealD (r s : Nat) : D := .agg [u64D r, u64D s]
theorem pow_lt (b e : Nat) : b ^ e % pN < pN := Nat.mod_lt _ (by decide)

set_option maxHeartbeats 2000000
theorem sign_A (seed m : List UInt8) (hb : seed.length ≤ 1099511627776) (hm : m.length ≤ 1099511627776) : PureD Try.prog 66 [.i (bI seed), .i (bI m)] (sealD (sigR seed m) (sigS seed m)) := by
  have hx := (secret_lt seed).2
  have hn := number_S [onceB, be64 (secretF seed), m] (by simp) (by intro b hb'; simp at hb'; rcases hb' with rfl | rfl | rfl; decide; (rw [be64_len]; decide); omega)
  have hf : [onceB, be64 (secretF seed), m].flatten = onceB ++ (be64 (secretF seed) ++ m) := by simp
  rw [hf] at hn
  have hk : onceF seed m = numF (sha (onceB ++ (be64 (secretF seed) ++ m))) % 576460752303424852 + 1 := rfl
  have hR : sigR seed m = 4 ^ onceF seed m % pN := rfl
  have hS : sigS seed m = (onceF seed m + askF (sigR seed m) (keyF seed) m * secretF seed % qN) % qN := rfl
  have hkl : onceF seed m < 576460752303424853 := by rw [hk]; omega
  have hp := power_A 4 (onceF seed m) pN (by decide) (by omega) (by decide) (by decide)
  rw [← hR] at hp
  have he : askF (sigR seed m) (keyF seed) m < 576460752303424853 := Nat.mod_lt _ (by decide)
  have ht := times_A (askF (sigR seed m) (keyF seed) m) (secretF seed) qN (by omega) (Nat.lt_trans hx (by decide)) (by decide) (by decide)
  have htl : askF (sigR seed m) (keyF seed) m * secretF seed % qN < qN := Nat.mod_lt _ (by decide)
  generalize hN : numF (sha (onceB ++ (be64 (secretF seed) ++ m))) = N at hn hk
  have w1 : (N : Int).tmod 576460752303424852 = ((N % 576460752303424852 : Nat) : Int) := tmodN N 576460752303424852
  have w2 : IntKind.u64.wrap (((N % 576460752303424852 : Nat) : Int) + 1) = ((onceF seed m : Nat) : Int) := by rw [hk, IntKind.wrap_u64]; omega
  generalize onceF seed m = K at *
  generalize hss : secretF seed = X at *
  have ha := ask_A (sigR seed m) (keyF seed) m hm
  generalize askF (sigR seed m) (keyF seed) m = E at *
  generalize sigR seed m = R at *
  generalize hkk : keyF seed = KK at *
  simp only [qN, pN] at ht htl hp hS
  generalize E * X % 576460752303424853 = T at *
  have w3 : IntKind.u64.wrap ((K : Int) + (T : Int)) = ((K + T : Nat) : Int) := by rw [IntKind.wrap_u64]; omega
  have w4 : ((K + T : Nat) : Int).tmod 576460752303424853 = ((sigS seed m : Nat) : Int) := by rw [hS]; exact tmodN (K + T) 576460752303424853
  clear hR hf hk hS
  refine callD_W 35 Try.func66 rfl rfl rfl (fun _ _ => rfl) ?_
  (repeat (first | (simp -implicitDefEqProofs only [ev, mixed, Nat.reduceLT, Nat.reduceAdd, Nat.reduceMul, reduceIte, Nat.reduceEqDiff, reduceCtorEq, Nat.reducePow, Nat.reduceLeDiff, Int.reduceLE, Int.reduceLT, Int.reduceToNat, Int.reduceEq, Nat.reduceBEq, itsOf, gdA, byteI, opid, lenQ, ixQ, ldH, readAt, readCells, asCell, faQ, exQ, fldQ, partA, buildQ, slQ, stH, bslH, appH, dcells, convI, elemsOf, D.one, nilS, fillD, convN, cvH, tySealC0, bI]) | (with_reducible refine ⟨?_, ?_⟩; (· first | (obtain ⟨rfl⟩ := ‹Hq _ _›; with_reducible refine chk_ok ?_; kernel_rfl) | kernel_rfl)) | (with_reducible intro ops hops)))
  (first | refine Call_flat [] [] (secret_A seed hb) (by simp [cvAs, cvA, cvRL, cvR, cvBox, cv1, cvL, cv0, bI, byteI, u64D, bbI, sealD, elemsOf, upd]) rfl ?_ | refine CallF_flat [] [] [] (secret_A seed hb) (fun G _ => by simp [cvAs, cvA, cvRL, cvR, cvBox, cv1, cvL, cv0, bI, byteI, u64D, bbI, sealD, elemsOf, upd]) rfl ?_)
  rw [hss]
  (repeat (first | (simp -implicitDefEqProofs only [ev, mixed, Nat.reduceLT, Nat.reduceAdd, Nat.reduceMul, reduceIte, Nat.reduceEqDiff, reduceCtorEq, Nat.reducePow, Nat.reduceLeDiff, Int.reduceLE, Int.reduceLT, Int.reduceToNat, Int.reduceEq, Nat.reduceBEq, itsOf, gdA, byteI, opid, lenQ, ixQ, ldH, readAt, readCells, asCell, faQ, exQ, fldQ, partA, buildQ, slQ, stH, bslH, appH, dcells, convI, elemsOf, D.one, nilS, fillD, convN, cvH, tySealC0, u64D, bI, convQ_none]) | (with_reducible refine ⟨?_, ?_⟩; (· first | (obtain ⟨rfl⟩ := ‹Hq _ _›; with_reducible refine chk_ok ?_; kernel_rfl) | kernel_rfl)) | (with_reducible intro ops hops)))
  (first | refine Call_frz [] (eight_S X) (by simp [cvAs, cvA, cvRL, cvR, cvBox, cv1, cvL, cv0, bI, byteI, u64D, bbI, sealD, elemsOf, upd]) ?_ | refine CallF_frz [] [] (eight_S X) (fun G _ => by simp [cvAs, cvA, cvRL, cvR, cvBox, cv1, cvL, cv0, bI, byteI, u64D, bbI, sealD, elemsOf, upd]) (by simp) ?_)
  (repeat (first | (simp -implicitDefEqProofs only [ev, mixed, Nat.reduceLT, Nat.reduceAdd, Nat.reduceMul, reduceIte, Nat.reduceEqDiff, reduceCtorEq, Nat.reducePow, Nat.reduceLeDiff, Int.reduceLE, Int.reduceLT, Int.reduceToNat, Int.reduceEq, Nat.reduceBEq, itsOf, gdA, byteI, opid, lenQ, ixQ, ldH, readAt, readCells, asCell, faQ, exQ, fldQ, partA, buildQ, slQ, stH, bslH, appH, dcells, convI, elemsOf, D.one, nilS, fillD, convN, cvH, tySealC0, u64D, bI]) | (with_reducible refine ⟨?_, ?_⟩; (· first | (obtain ⟨rfl⟩ := ‹Hq _ _›; with_reducible refine chk_ok ?_; kernel_rfl) | kernel_rfl)) | (with_reducible intro ops hops)))
  (first | refine Call_flat [1517] [] (hn) (by simp [cvAs, cvA, cvRL, cvR, cvBox, cv1, cvL, cv0, bI, byteI, u64D, bbI, sealD, elemsOf, upd, onceB, byteI, frz, bbI]) rfl ?_ | refine CallF_flat [1517] [] [1517] (hn) (fun G hG => by (have hG1517 := hG 1517 (by simp); simp [cvAs, cvA, cvRL, cvR, cvBox, cv1, cvL, cv0, bI, byteI, u64D, bbI, sealD, elemsOf, upd, onceB, byteI, frz, bbI, hG1517])) rfl ?_)
  (repeat (first | (simp -implicitDefEqProofs only [ev, mixed, Nat.reduceLT, Nat.reduceAdd, Nat.reduceMul, reduceIte, Nat.reduceEqDiff, reduceCtorEq, Nat.reducePow, Nat.reduceLeDiff, Int.reduceLE, Int.reduceLT, Int.reduceToNat, Int.reduceEq, Nat.reduceBEq, itsOf, gdA, byteI, opid, lenQ, ixQ, ldH, readAt, readCells, asCell, faQ, exQ, fldQ, partA, buildQ, slQ, stH, bslH, appH, dcells, convI, elemsOf, D.one, nilS, fillD, convN, cvH, tySealC0, u64D, w1, w2]) | (with_reducible refine ⟨?_, ?_⟩; (· first | (obtain ⟨rfl⟩ := ‹Hq _ _›; with_reducible refine chk_ok ?_; kernel_rfl) | kernel_rfl)) | (with_reducible intro ops hops)))
  (first | refine Call_flat [] [] (hp) (by simp [cvAs, cvA, cvRL, cvR, cvBox, cv1, cvL, cv0, bI, byteI, u64D, bbI, sealD, elemsOf, upd]) rfl ?_ | refine CallF_flat [] [] [] (hp) (fun G _ => by simp [cvAs, cvA, cvRL, cvR, cvBox, cv1, cvL, cv0, bI, byteI, u64D, bbI, sealD, elemsOf, upd]) rfl ?_)
  (repeat (first | (simp -implicitDefEqProofs only [ev, mixed, Nat.reduceLT, Nat.reduceAdd, Nat.reduceMul, reduceIte, Nat.reduceEqDiff, reduceCtorEq, Nat.reducePow, Nat.reduceLeDiff, Int.reduceLE, Int.reduceLT, Int.reduceToNat, Int.reduceEq, Nat.reduceBEq, itsOf, gdA, byteI, opid, lenQ, ixQ, ldH, readAt, readCells, asCell, faQ, exQ, fldQ, partA, buildQ, slQ, stH, bslH, appH, dcells, convI, elemsOf, D.one, nilS, fillD, convN, cvH, tySealC0, u64D]) | (with_reducible refine ⟨?_, ?_⟩; (· first | (obtain ⟨rfl⟩ := ‹Hq _ _›; with_reducible refine chk_ok ?_; kernel_rfl) | kernel_rfl)) | (with_reducible intro ops hops)))
  (first | refine Call_flat [] [] (key_A seed hb) (by simp [cvAs, cvA, cvRL, cvR, cvBox, cv1, cvL, cv0, bI, byteI, u64D, bbI, sealD, elemsOf, upd]) rfl ?_ | refine CallF_flat [] [] [] (key_A seed hb) (fun G _ => by simp [cvAs, cvA, cvRL, cvR, cvBox, cv1, cvL, cv0, bI, byteI, u64D, bbI, sealD, elemsOf, upd]) rfl ?_)
  rw [hkk]
  (repeat (first | (simp -implicitDefEqProofs only [ev, mixed, Nat.reduceLT, Nat.reduceAdd, Nat.reduceMul, reduceIte, Nat.reduceEqDiff, reduceCtorEq, Nat.reducePow, Nat.reduceLeDiff, Int.reduceLE, Int.reduceLT, Int.reduceToNat, Int.reduceEq, Nat.reduceBEq, itsOf, gdA, byteI, opid, lenQ, ixQ, ldH, readAt, readCells, asCell, faQ, exQ, fldQ, partA, buildQ, slQ, stH, bslH, appH, dcells, convI, elemsOf, D.one, nilS, fillD, convN, cvH, tySealC0, u64D]) | (with_reducible refine ⟨?_, ?_⟩; (· first | (obtain ⟨rfl⟩ := ‹Hq _ _›; with_reducible refine chk_ok ?_; kernel_rfl) | kernel_rfl)) | (with_reducible intro ops hops)))
  (first | refine Call_flat [] [] (ha) (by simp [cvAs, cvA, cvRL, cvR, cvBox, cv1, cvL, cv0, bI, byteI, u64D, bbI, sealD, elemsOf, upd]) rfl ?_ | refine CallF_flat [] [] [] (ha) (fun G _ => by simp [cvAs, cvA, cvRL, cvR, cvBox, cv1, cvL, cv0, bI, byteI, u64D, bbI, sealD, elemsOf, upd]) rfl ?_)
  (repeat (first | (simp -implicitDefEqProofs only [ev, mixed, Nat.reduceLT, Nat.reduceAdd, Nat.reduceMul, reduceIte, Nat.reduceEqDiff, reduceCtorEq, Nat.reducePow, Nat.reduceLeDiff, Int.reduceLE, Int.reduceLT, Int.reduceToNat, Int.reduceEq, Nat.reduceBEq, itsOf, gdA, byteI, opid, lenQ, ixQ, ldH, readAt, readCells, asCell, faQ, exQ, fldQ, partA, buildQ, slQ, stH, bslH, appH, dcells, convI, elemsOf, D.one, nilS, fillD, convN, cvH, tySealC0, u64D]) | (with_reducible refine ⟨?_, ?_⟩; (· first | (obtain ⟨rfl⟩ := ‹Hq _ _›; with_reducible refine chk_ok ?_; kernel_rfl) | kernel_rfl)) | (with_reducible intro ops hops)))
  (first | refine Call_flat [] [] (ht) (by simp [cvAs, cvA, cvRL, cvR, cvBox, cv1, cvL, cv0, bI, byteI, u64D, bbI, sealD, elemsOf, upd]) rfl ?_ | refine CallF_flat [] [] [] (ht) (fun G _ => by simp [cvAs, cvA, cvRL, cvR, cvBox, cv1, cvL, cv0, bI, byteI, u64D, bbI, sealD, elemsOf, upd]) rfl ?_)
  (repeat (first | (simp -implicitDefEqProofs only [ev, mixed, Nat.reduceLT, Nat.reduceAdd, Nat.reduceMul, reduceIte, Nat.reduceEqDiff, reduceCtorEq, Nat.reducePow, Nat.reduceLeDiff, Int.reduceLE, Int.reduceLT, Int.reduceToNat, Int.reduceEq, Nat.reduceBEq, itsOf, gdA, byteI, opid, lenQ, ixQ, ldH, readAt, readCells, asCell, faQ, exQ, fldQ, partA, buildQ, slQ, stH, bslH, appH, dcells, convI, elemsOf, D.one, nilS, fillD, convN, cvH, tySealC0, u64D, w3, w4]) | (with_reducible refine ⟨?_, ?_⟩; (· first | (obtain ⟨rfl⟩ := ‹Hq _ _›; with_reducible refine chk_ok ?_; kernel_rfl) | kernel_rfl)) | (with_reducible intro ops hops)))
  refine fin_c [] rfl ag53 sz53 (by simp [upd, readAt, readCells]; rfl) ?_
  simp [cv, cv1, cvL, cv0, upd, u64D, sealD]

theorem good_A (key : Nat) (m : List UInt8) (r s : Nat) (hk : key < 18446744073709551616) (hr : r < 18446744073709551616) (hs : s < 18446744073709551616) (hm : m.length ≤ 1099511627776) :
    PureD Try.prog 117 [u64D key, .i (bI m), sealD r s] (.i (.s (.bool (goodF key m r s)))) := by
  generalize hg : goodF key m r s = g
  unfold goodF at hg
  refine callD_W 47 Try.func117 rfl rfl rfl (fun _ _ => rfl) ?_
  cases g1 : decide ((key : Int) < 1)
  rotate_left
  · have h1 : ¬ 1 ≤ key := by simp at g1; omega
    (repeat (first | (simp -implicitDefEqProofs only [ev, mixed, Nat.reduceLT, Nat.reduceAdd, Nat.reduceMul, reduceIte, Nat.reduceEqDiff, reduceCtorEq, Nat.reducePow, Nat.reduceLeDiff, Int.reduceLE, Int.reduceLT, Int.reduceToNat, Int.reduceEq, Nat.reduceBEq, itsOf, gdA, byteI, opid, lenQ, ixQ, ldH, readAt, readCells, asCell, faQ, exQ, fldQ, partA, buildQ, slQ, stH, bslH, appH, dcells, convI, elemsOf, D.one, nilS, fillD, convN, cvH, tySealC1, u64D, sealD, bI, g1]) | (with_reducible refine ⟨?_, ?_⟩; (· first | (obtain ⟨rfl⟩ := ‹Hq _ _›; with_reducible refine chk_ok ?_; kernel_rfl) | kernel_rfl)) | (with_reducible intro ops hops)))
    refine fin_ret [] rfl ?_
    simp [cv, cv1, cv0, upd, ← hg, h1]
  have h1 : 1 ≤ key := by simp at g1; omega
  cases g2 : decide ((1152921504606849707 : Int) ≤ (key : Int))
  rotate_left
  · have h2 : ¬ key < pN := by simp [pN] at g2 ⊢; omega
    (repeat (first | (simp -implicitDefEqProofs only [ev, mixed, Nat.reduceLT, Nat.reduceAdd, Nat.reduceMul, reduceIte, Nat.reduceEqDiff, reduceCtorEq, Nat.reducePow, Nat.reduceLeDiff, Int.reduceLE, Int.reduceLT, Int.reduceToNat, Int.reduceEq, Nat.reduceBEq, itsOf, gdA, byteI, opid, lenQ, ixQ, ldH, readAt, readCells, asCell, faQ, exQ, fldQ, partA, buildQ, slQ, stH, bslH, appH, dcells, convI, elemsOf, D.one, nilS, fillD, convN, cvH, tySealC1, u64D, sealD, bI, g1, g2]) | (with_reducible refine ⟨?_, ?_⟩; (· first | (obtain ⟨rfl⟩ := ‹Hq _ _›; with_reducible refine chk_ok ?_; kernel_rfl) | kernel_rfl)) | (with_reducible intro ops hops)))
    refine fin_ret [] rfl ?_
    simp [cv, cv1, cv0, upd, ← hg, h2]
  have h2 : key < pN := by simp [pN] at g2 ⊢; omega
  cases g3 : decide ((r : Int) < 1)
  rotate_left
  · have h3 : ¬ 1 ≤ r := by simp at g3; omega
    (repeat (first | (simp -implicitDefEqProofs only [ev, mixed, Nat.reduceLT, Nat.reduceAdd, Nat.reduceMul, reduceIte, Nat.reduceEqDiff, reduceCtorEq, Nat.reducePow, Nat.reduceLeDiff, Int.reduceLE, Int.reduceLT, Int.reduceToNat, Int.reduceEq, Nat.reduceBEq, itsOf, gdA, byteI, opid, lenQ, ixQ, ldH, readAt, readCells, asCell, faQ, exQ, fldQ, partA, buildQ, slQ, stH, bslH, appH, dcells, convI, elemsOf, D.one, nilS, fillD, convN, cvH, tySealC1, u64D, sealD, bI, g1, g2, g3]) | (with_reducible refine ⟨?_, ?_⟩; (· first | (obtain ⟨rfl⟩ := ‹Hq _ _›; with_reducible refine chk_ok ?_; kernel_rfl) | kernel_rfl)) | (with_reducible intro ops hops)))
    refine fin_ret [] rfl ?_
    simp [cv, cv1, cv0, upd, ← hg, h3]
  have h3 : 1 ≤ r := by simp at g3; omega
  cases g4 : decide ((1152921504606849707 : Int) ≤ (r : Int))
  rotate_left
  · have h4 : ¬ r < pN := by simp [pN] at g4 ⊢; omega
    (repeat (first | (simp -implicitDefEqProofs only [ev, mixed, Nat.reduceLT, Nat.reduceAdd, Nat.reduceMul, reduceIte, Nat.reduceEqDiff, reduceCtorEq, Nat.reducePow, Nat.reduceLeDiff, Int.reduceLE, Int.reduceLT, Int.reduceToNat, Int.reduceEq, Nat.reduceBEq, itsOf, gdA, byteI, opid, lenQ, ixQ, ldH, readAt, readCells, asCell, faQ, exQ, fldQ, partA, buildQ, slQ, stH, bslH, appH, dcells, convI, elemsOf, D.one, nilS, fillD, convN, cvH, tySealC1, u64D, sealD, bI, g1, g2, g3, g4]) | (with_reducible refine ⟨?_, ?_⟩; (· first | (obtain ⟨rfl⟩ := ‹Hq _ _›; with_reducible refine chk_ok ?_; kernel_rfl) | kernel_rfl)) | (with_reducible intro ops hops)))
    refine fin_ret [] rfl ?_
    simp [cv, cv1, cv0, upd, ← hg, h4]
  have h4 : r < pN := by simp [pN] at g4 ⊢; omega
  cases g5 : decide ((576460752303424853 : Int) ≤ (s : Int))
  rotate_left
  · have h5 : ¬ s < qN := by simp [qN] at g5 ⊢; omega
    (repeat (first | (simp -implicitDefEqProofs only [ev, mixed, Nat.reduceLT, Nat.reduceAdd, Nat.reduceMul, reduceIte, Nat.reduceEqDiff, reduceCtorEq, Nat.reducePow, Nat.reduceLeDiff, Int.reduceLE, Int.reduceLT, Int.reduceToNat, Int.reduceEq, Nat.reduceBEq, itsOf, gdA, byteI, opid, lenQ, ixQ, ldH, readAt, readCells, asCell, faQ, exQ, fldQ, partA, buildQ, slQ, stH, bslH, appH, dcells, convI, elemsOf, D.one, nilS, fillD, convN, cvH, tySealC1, u64D, sealD, bI, g1, g2, g3, g4, g5]) | (with_reducible refine ⟨?_, ?_⟩; (· first | (obtain ⟨rfl⟩ := ‹Hq _ _›; with_reducible refine chk_ok ?_; kernel_rfl) | kernel_rfl)) | (with_reducible intro ops hops)))
    refine fin_ret [] rfl ?_
    simp [cv, cv1, cv0, upd, ← hg, h5]
  have h5 : s < qN := by simp [qN] at g5 ⊢; omega
  have hp := power_A key qN pN hk (by decide) (by decide) (by decide)
  (repeat (first | (simp -implicitDefEqProofs only [ev, mixed, Nat.reduceLT, Nat.reduceAdd, Nat.reduceMul, reduceIte, Nat.reduceEqDiff, reduceCtorEq, Nat.reducePow, Nat.reduceLeDiff, Int.reduceLE, Int.reduceLT, Int.reduceToNat, Int.reduceEq, Nat.reduceBEq, itsOf, gdA, byteI, opid, lenQ, ixQ, ldH, readAt, readCells, asCell, faQ, exQ, fldQ, partA, buildQ, slQ, stH, bslH, appH, dcells, convI, elemsOf, D.one, nilS, fillD, convN, cvH, tySealC1, u64D, sealD, bI, g1, g2, g3, g4, g5]) | (with_reducible refine ⟨?_, ?_⟩; (· first | (obtain ⟨rfl⟩ := ‹Hq _ _›; with_reducible refine chk_ok ?_; kernel_rfl) | kernel_rfl)) | (with_reducible intro ops hops)))
  have hps : 4 ^ s % pN < 18446744073709551616 := Nat.lt_trans (pow_lt _ _) (by decide)
  have hp2 := power_A 4 s pN (by decide) hs (by decide) (by decide)
  have ha := ask_A r key m hm
  have hal : askF r key m < 18446744073709551616 := Nat.lt_trans (Nat.mod_lt _ (show 0 < qN by decide)) (by decide)
  have hp3 := power_A key (askF r key m) pN hk hal (by decide) (by decide)
  have ht := times_A r (key ^ askF r key m % pN) pN hr (Nat.lt_trans (pow_lt _ _) (by decide)) (by decide) (by decide)
  simp only [h1, h2, h3, h4, h5, true_and] at hg
  generalize key ^ qN % pN = A at hp hg
  generalize 4 ^ s % pN = B at hp2 hg
  generalize askF r key m = E at ha hp3 ht hg
  generalize key ^ E % pN = C at hp3 ht hg
  generalize r * C % pN = T at ht hg
  simp only [qN, pN] at hp hp2 hp3 ht
  (first | refine Call_flat [] [] (hp) (by simp [cvAs, cvA, cvRL, cvR, cvBox, cv1, cvL, cv0, bI, byteI, u64D, bbI, sealD, elemsOf, upd]) rfl ?_ | refine CallF_flat [] [] [] (hp) (fun G _ => by simp [cvAs, cvA, cvRL, cvR, cvBox, cv1, cvL, cv0, bI, byteI, u64D, bbI, sealD, elemsOf, upd]) rfl ?_)
  cases g6 : decide ((A : Int) = 1)
  · have h6 : ¬ A = 1 := by simp at g6; omega
    (repeat (first | (simp -implicitDefEqProofs only [ev, mixed, Nat.reduceLT, Nat.reduceAdd, Nat.reduceMul, reduceIte, Nat.reduceEqDiff, reduceCtorEq, Nat.reducePow, Nat.reduceLeDiff, Int.reduceLE, Int.reduceLT, Int.reduceToNat, Int.reduceEq, Nat.reduceBEq, itsOf, gdA, byteI, opid, lenQ, ixQ, ldH, readAt, readCells, asCell, faQ, exQ, fldQ, partA, buildQ, slQ, stH, bslH, appH, dcells, convI, elemsOf, D.one, nilS, fillD, convN, cvH, tySealC1, u64D, g6]) | (with_reducible refine ⟨?_, ?_⟩; (· first | (obtain ⟨rfl⟩ := ‹Hq _ _›; with_reducible refine chk_ok ?_; kernel_rfl) | kernel_rfl)) | (with_reducible intro ops hops)))
    refine fin_ret [] rfl ?_
    simp [cv, cv1, cv0, upd, ← hg, h6]
  · have h6 : A = 1 := by simp at g6; omega
    (repeat (first | (simp -implicitDefEqProofs only [ev, mixed, Nat.reduceLT, Nat.reduceAdd, Nat.reduceMul, reduceIte, Nat.reduceEqDiff, reduceCtorEq, Nat.reducePow, Nat.reduceLeDiff, Int.reduceLE, Int.reduceLT, Int.reduceToNat, Int.reduceEq, Nat.reduceBEq, itsOf, gdA, byteI, opid, lenQ, ixQ, ldH, readAt, readCells, asCell, faQ, exQ, fldQ, partA, buildQ, slQ, stH, bslH, appH, dcells, convI, elemsOf, D.one, nilS, fillD, convN, cvH, tySealC1, u64D, g6]) | (with_reducible refine ⟨?_, ?_⟩; (· first | (obtain ⟨rfl⟩ := ‹Hq _ _›; with_reducible refine chk_ok ?_; kernel_rfl) | kernel_rfl)) | (with_reducible intro ops hops)))
    (first | refine Call_flat [] [] (hp2) (by simp [cvAs, cvA, cvRL, cvR, cvBox, cv1, cvL, cv0, bI, byteI, u64D, bbI, sealD, elemsOf, upd]) rfl ?_ | refine CallF_flat [] [] [] (hp2) (fun G _ => by simp [cvAs, cvA, cvRL, cvR, cvBox, cv1, cvL, cv0, bI, byteI, u64D, bbI, sealD, elemsOf, upd]) rfl ?_)
    (repeat (first | (simp -implicitDefEqProofs only [ev, mixed, Nat.reduceLT, Nat.reduceAdd, Nat.reduceMul, reduceIte, Nat.reduceEqDiff, reduceCtorEq, Nat.reducePow, Nat.reduceLeDiff, Int.reduceLE, Int.reduceLT, Int.reduceToNat, Int.reduceEq, Nat.reduceBEq, itsOf, gdA, byteI, opid, lenQ, ixQ, ldH, readAt, readCells, asCell, faQ, exQ, fldQ, partA, buildQ, slQ, stH, bslH, appH, dcells, convI, elemsOf, D.one, nilS, fillD, convN, cvH, tySealC1, u64D]) | (with_reducible refine ⟨?_, ?_⟩; (· first | (obtain ⟨rfl⟩ := ‹Hq _ _›; with_reducible refine chk_ok ?_; kernel_rfl) | kernel_rfl)) | (with_reducible intro ops hops)))
    (first | refine Call_flat [] [] (ha) (by simp [cvAs, cvA, cvRL, cvR, cvBox, cv1, cvL, cv0, bI, byteI, u64D, bbI, sealD, elemsOf, upd]) rfl ?_ | refine CallF_flat [] [] [] (ha) (fun G _ => by simp [cvAs, cvA, cvRL, cvR, cvBox, cv1, cvL, cv0, bI, byteI, u64D, bbI, sealD, elemsOf, upd]) rfl ?_)
    (repeat (first | (simp -implicitDefEqProofs only [ev, mixed, Nat.reduceLT, Nat.reduceAdd, Nat.reduceMul, reduceIte, Nat.reduceEqDiff, reduceCtorEq, Nat.reducePow, Nat.reduceLeDiff, Int.reduceLE, Int.reduceLT, Int.reduceToNat, Int.reduceEq, Nat.reduceBEq, itsOf, gdA, byteI, opid, lenQ, ixQ, ldH, readAt, readCells, asCell, faQ, exQ, fldQ, partA, buildQ, slQ, stH, bslH, appH, dcells, convI, elemsOf, D.one, nilS, fillD, convN, cvH, tySealC1, u64D]) | (with_reducible refine ⟨?_, ?_⟩; (· first | (obtain ⟨rfl⟩ := ‹Hq _ _›; with_reducible refine chk_ok ?_; kernel_rfl) | kernel_rfl)) | (with_reducible intro ops hops)))
    (first | refine Call_flat [] [] (hp3) (by simp [cvAs, cvA, cvRL, cvR, cvBox, cv1, cvL, cv0, bI, byteI, u64D, bbI, sealD, elemsOf, upd]) rfl ?_ | refine CallF_flat [] [] [] (hp3) (fun G _ => by simp [cvAs, cvA, cvRL, cvR, cvBox, cv1, cvL, cv0, bI, byteI, u64D, bbI, sealD, elemsOf, upd]) rfl ?_)
    (repeat (first | (simp -implicitDefEqProofs only [ev, mixed, Nat.reduceLT, Nat.reduceAdd, Nat.reduceMul, reduceIte, Nat.reduceEqDiff, reduceCtorEq, Nat.reducePow, Nat.reduceLeDiff, Int.reduceLE, Int.reduceLT, Int.reduceToNat, Int.reduceEq, Nat.reduceBEq, itsOf, gdA, byteI, opid, lenQ, ixQ, ldH, readAt, readCells, asCell, faQ, exQ, fldQ, partA, buildQ, slQ, stH, bslH, appH, dcells, convI, elemsOf, D.one, nilS, fillD, convN, cvH, tySealC1, u64D]) | (with_reducible refine ⟨?_, ?_⟩; (· first | (obtain ⟨rfl⟩ := ‹Hq _ _›; with_reducible refine chk_ok ?_; kernel_rfl) | kernel_rfl)) | (with_reducible intro ops hops)))
    (first | refine Call_flat [] [] (ht) (by simp [cvAs, cvA, cvRL, cvR, cvBox, cv1, cvL, cv0, bI, byteI, u64D, bbI, sealD, elemsOf, upd]) rfl ?_ | refine CallF_flat [] [] [] (ht) (fun G _ => by simp [cvAs, cvA, cvRL, cvR, cvBox, cv1, cvL, cv0, bI, byteI, u64D, bbI, sealD, elemsOf, upd]) rfl ?_)
    (repeat (first | (simp -implicitDefEqProofs only [ev, mixed, Nat.reduceLT, Nat.reduceAdd, Nat.reduceMul, reduceIte, Nat.reduceEqDiff, reduceCtorEq, Nat.reducePow, Nat.reduceLeDiff, Int.reduceLE, Int.reduceLT, Int.reduceToNat, Int.reduceEq, Nat.reduceBEq, itsOf, gdA, byteI, opid, lenQ, ixQ, ldH, readAt, readCells, asCell, faQ, exQ, fldQ, partA, buildQ, slQ, stH, bslH, appH, dcells, convI, elemsOf, D.one, nilS, fillD, convN, cvH, tySealC1, u64D]) | (with_reducible refine ⟨?_, ?_⟩; (· first | (obtain ⟨rfl⟩ := ‹Hq _ _›; with_reducible refine chk_ok ?_; kernel_rfl) | kernel_rfl)) | (with_reducible intro ops hops)))
    refine fin_ret [] rfl ?_
    simp [cv, cv1, cv0, upd, ← hg, h6, Int.natCast_inj]
end Go.Proofs.Ytdpfjmkilbepgaa
