/- landlaw6.four, block, alive: by value. (hdrD signedD) -/
import Derived.Test.YtdpfjmkilbepgaaHdD
import Derived.Test.YtdpfjmkilbepgaaRHdA
import Derived.Test.YtdpfjmkilbepgaaR2C
import Derived.Test.YtdpfjmkilbepgaaSealP
set_option linter.all false
namespace Go.Proofs.Ytdpfjmkilbepgaa
open Go Go.Abs Go.RowKit Go.Proofs.Ytdpfjmkilbepgaa.Ty

/-- a validator's place among some -/
def plV (l : List ValD) (v : ValD) : Nat := (l.takeWhile fun x => decide (x.k < v.k)).length
def insV (l : List ValD) (v : ValD) : List ValD := l.take (plV l v) ++ v :: l.drop (plV l v)
theorem plV_le (l : List ValD) (v : ValD) : plV l v ≤ l.length := (List.takeWhile_prefix _).length_le
theorem plV_cons (a : ValD) (t : List ValD) (v : ValD) : plV (a :: t) v = if a.k < v.k then 1 + plV t v else 0 := by
  unfold plV
  rw [List.takeWhile_cons]
  by_cases h : a.k < v.k
  · rw [if_pos h, decide_eq_true h]; simp; omega
  · rw [if_neg h, decide_eq_false h]; simp
def seedK (i : Nat) : List UInt8 := [UInt8.ofNat i]
def fourV (p : Nat) : Nat → List ValD
  | 0 => []
  | i + 1 => insV (fourV p i) ⟨keyF (seedK i), p⟩
def seedsK (i : Nat) : List (List UInt8) := (List.range i).map seedK
theorem insV_len (l : List ValD) (v : ValD) : (insV l v).length = l.length + 1 := by
  unfold insV; have := plV_le l v; simp; omega
theorem fourV_len (p : Nat) : ∀ i, (fourV p i).length = i
  | 0 => rfl
  | i + 1 => by rw [fourV, insV_len, fourV_len p i]
theorem byte8 (i : Nat) (h : i < 256) : ((UInt8.ofNat i).toNat : Int) = (i : Int) := by rw [UInt8.toNat_ofNat']; omega
set_option maxHeartbeats 4000000
theorem four_A (p : Nat) : PureD Try.prog 62 [u64D p] (.tup [.i (valsI (fourV p 4)), .i (bbI (seedsK 4))]) := by
  refine hide_r fun R hR => ?_
  refine callD_W 54 Try.func62 rfl rfl rfl (fun _ _ => rfl) ?_
  (repeat' (first | (simp -implicitDefEqProofs only [go_sem, Nat.reduceLT, Nat.reduceAdd, Nat.reduceMul, reduceIte, Nat.reduceEqDiff, reduceCtorEq, Nat.reducePow, Nat.reduceLeDiff, Int.reduceLE, Int.reduceLT, Int.reduceToNat, Int.reduceEq, Nat.reduceBEq, u64D, *]) | (with_reducible refine ⟨?_, ?_⟩; (· first | (obtain ⟨rfl⟩ := ‹Hq _ _›; with_reducible refine chk_ok ?_; kernel_rfl) | kernel_rfl)) | (with_reducible intro ops hops) | (simp -implicitDefEqProofs (disch := omega) only [wr64, wru64, get_lt]) | ((first | refine Wc_split (fun hg => ?_) (fun hg => ?_) | refine RoG_split (fun hg => ?_) (fun hg => ?_) | refine RdG_split (fun hg => ?_) (fun hg => ?_)) <;> (try simp only [nrm] at hg) <;> (try simp only [hg, lgc, reduceIte, reduceCtorEq] at hR) <;> (try (exfalso; omega))) | ((try simp only [*, lgc, reduceIte, reduceCtorEq] at hR); obtain ⟨rfl⟩ := hR; refine fin_q (rs := [.tmp 2, .tmp 3]) rfl ?_; (try simp only [go_sem, Nat.reduceLT, Nat.reduceAdd, Nat.reduceMul, reduceIte, Nat.reduceEqDiff, reduceCtorEq, Nat.reducePow, Nat.reduceLeDiff, Int.reduceLE, Int.reduceLT, Int.reduceToNat, Int.reduceEq, Nat.reduceBEq, u64D]); (simp [u64D]; done))))
  refine W_loopR (ι := Nat) (fun i => i ≤ 4)
    (fun i => stOf [(0, u64D p), (6, .i (.s (.int .u8 (i : Int)))), (4, .os 100 2 0 i), (5, .os 101 1 0 i)] [(100, .arr 2 ((fourV p i).map encV)), (101, .arr 1 ((seedsK i).map fun b => [bI b]))]) (fun i => 4 - i) 0 (Nat.zero_le _) ?_ ?_
  · (refine le_stOf _ _ [] [] ?_ ?_ rfl rfl <;> (simp [Int.natCast_add, Int.natCast_zero, Int.natCast_one, u64D, fourV, seedsK]; done))
  · rintro i hi RL hL
    rw [stOf_eq]
    by_cases h : i < 4
    · have c1 := rkey_A (seedK i) (by simp [seedK])
      have hb := byte8 i (by omega)
      have g1 : (i : Int) < 4 := by omega
      have hl := fourV_len p i
      have hnx : fourV p (i + 1) = insV (fourV p i) ⟨keyF (seedK i), p⟩ := rfl
      have hsd : seedsK (i + 1) = seedsK i ++ [seedK i] := by unfold seedsK; rw [List.range_succ, List.map_append]; rfl
      have hsl : (seedsK i).length = i := by simp [seedsK]
      generalize keyF (seedK i) = K at *
      simp only [seedK, bI, List.map_cons, List.map_nil, byteI, hb] at c1
      generalize fourV p i = L at *
      generalize seedsK i = S at *
      have hpl := plV_le L ⟨K, p⟩
      (repeat' (first | (simp -implicitDefEqProofs only [go_sem, Nat.reduceLT, Nat.reduceAdd, Nat.reduceMul, reduceIte, Nat.reduceEqDiff, reduceCtorEq, Nat.reducePow, Nat.reduceLeDiff, Int.reduceLE, Int.reduceLT, Int.reduceToNat, Int.reduceEq, Nat.reduceBEq, u64D, seedK, bI, *]) | (with_reducible refine ⟨?_, ?_⟩; (· first | (obtain ⟨rfl⟩ := ‹Hq _ _›; with_reducible refine chk_ok ?_; kernel_rfl) | kernel_rfl)) | (with_reducible intro ops hops) | (simp -implicitDefEqProofs (disch := omega) only [wr64, wru64, get_lt]) | ((with_reducible refine call_id ?_); (first | ((with_reducible refine Call_fl (c1) ?_ ?_ ?_); (· (simp [u64D, seedK, bI]; done)); (· (simp [u64D, seedK, bI, and_assoc]; done))))) | ((with_reducible refine callF_id ?_); (first | ((with_reducible refine CallF_fl (c1) ?_ ?_ ?_); (· (simp [u64D, seedK, bI]; done)); (· (intro G hG; simp [u64D, seedK, bI] at hG; simp [u64D, seedK, bI, hG, and_assoc]; done))))) | ((first | refine Wc_split (fun hg => ?_) (fun hg => ?_) | refine RoG_split (fun hg => ?_) (fun hg => ?_) | refine RdG_split (fun hg => ?_) (fun hg => ?_)) <;> (try simp only [nrm] at hg) <;> (try simp only [hg, lgc, reduceIte, reduceCtorEq] at hR) <;> (try (exfalso; omega))) | ((try simp only [*, lgc, reduceIte, reduceCtorEq] at hR); obtain ⟨rfl⟩ := hR; refine fin_q (rs := [.tmp 2, .tmp 3]) rfl ?_; (try simp only [go_sem, Nat.reduceLT, Nat.reduceAdd, Nat.reduceMul, reduceIte, Nat.reduceEqDiff, reduceCtorEq, Nat.reducePow, Nat.reduceLeDiff, Int.reduceLE, Int.reduceLT, Int.reduceToNat, Int.reduceEq, Nat.reduceBEq, u64D, seedK, bI]); (simp [u64D, seedK, bI]; done))))
      refine W_loopR (ι := Nat) (fun k => k ≤ L.length ∧ plV L ⟨K, p⟩ = k + plV (L.drop k) ⟨K, p⟩)
        (fun k => stOf [(0, u64D p), (6, .i (.s (.int .u8 (i : Int)))), (4, .os 100 2 0 i), (5, .os 101 1 0 i), (7, .os 102 1 0 1), (8, .pt 103 0 0 0), (9, intD k)]
          [(100, .arr 2 (L.map encV)), (101, .arr 1 (S.map fun b => [bI b])), (102, .arr 1 [[.s (.int .u8 (i : Int))]]), (103, .box [.i (.s (.int .u64 K)), .i (.s (.int .u64 p))])]) (fun k => L.length - k) 0 ⟨Nat.zero_le _, by simp⟩ ?_ ?_
      · (refine le_stOf _ _ [] [(100, 100), (101, 101), (102, 2537), (103, 2796)] ?_ ?_ rfl rfl <;> (simp [Int.natCast_add, Int.natCast_zero, Int.natCast_one, u64D, bI]; done))
      · rintro k ⟨hk, hp⟩ RL2 hL2
        rw [stOf_eq]
        by_cases h2 : k < L.length
        · have e2 := get_lt (f := encV) h2
          rw [List.drop_eq_getElem_cons h2, plV_cons] at hp
          have g2 : (k : Int) < (i : Int) := by omega
          have k1 : ((L[k].k : Int) < (K : Int)) = (L[k].k < K) := propext (by omega)
          generalize L[k] = v at *
          by_cases hv : v.k < K
          · rw [if_pos hv] at hp
            clear hR c1 hnx hsd hpl
            (repeat' (first | (simp -implicitDefEqProofs only [go_sem, Nat.reduceLT, Nat.reduceAdd, Nat.reduceMul, reduceIte, Nat.reduceEqDiff, reduceCtorEq, Nat.reducePow, Nat.reduceLeDiff, Int.reduceLE, Int.reduceLT, Int.reduceToNat, Int.reduceEq, Nat.reduceBEq, u64D, encV, intD, boolD, *]) | (with_reducible refine ⟨?_, ?_⟩; (· first | (obtain ⟨rfl⟩ := ‹Hq _ _›; with_reducible refine chk_ok ?_; kernel_rfl) | kernel_rfl)) | (with_reducible intro ops hops) | (simp -implicitDefEqProofs (disch := omega) only [wr64, wru64, get_lt]) | ((first | refine Wc_split (fun hg => ?_) (fun hg => ?_) | refine RoG_split (fun hg => ?_) (fun hg => ?_) | refine RdG_split (fun hg => ?_) (fun hg => ?_)) <;> (try simp only [nrm] at hg) <;> (try simp only [hg, lgc, reduceIte, reduceCtorEq] at hR) <;> (try (exfalso; omega))) | (refine hL2 (k + 1) _ (⟨h2, by omega⟩) ?_ ?_; (· (refine le_stOf _ _ [] [(100, 100), (101, 101), (102, 102), (103, 103)] ?_ ?_ rfl rfl <;> (simp [Int.natCast_add, Int.natCast_zero, Int.natCast_one, u64D, bI]; done))); (· (first | omega | (simp only; omega)))) | ((try simp only [*, lgc, reduceIte, reduceCtorEq] at hR); obtain ⟨rfl⟩ := hR; refine fin_q (rs := [.tmp 2, .tmp 3]) rfl ?_; (try simp only [go_sem, Nat.reduceLT, Nat.reduceAdd, Nat.reduceMul, reduceIte, Nat.reduceEqDiff, reduceCtorEq, Nat.reducePow, Nat.reduceLeDiff, Int.reduceLE, Int.reduceLT, Int.reduceToNat, Int.reduceEq, Nat.reduceBEq, u64D, encV, intD, boolD]); (simp [u64D, encV, intD, boolD]; done))))
          · rw [if_neg hv] at hp
            simp only [Nat.add_zero] at hp
            have hin : insV L ⟨K, p⟩ = L.take k ++ ⟨K, p⟩ :: L.drop k := by unfold insV; rw [hp]
            rw [hin] at hnx
            have a1 : k + (1 + (i - k)) = i + 1 := by omega
            have a2 : (L.map encV).take i = L.map encV := List.take_of_length_le (by simp [hl])
            have a3 : ((L.map encV).drop k).take (i - k) = (L.map encV).drop k := List.take_of_length_le (by simp [hl])
            have a4 : k ≤ i := by omega
            have a6 : (k : Int) ≤ (i : Int) := by omega
            have a5 : ((k : Int)).toNat = k := by omega
            have d1 : ((L.map encV).take k).length = k := by simp [hl]; omega
            have d2 : ((L.map encV).drop k).length = i - k := by simp [hl]
            have f1 : k * 16 ≤ 140737488355328 := by omega
            have f2 : k ≤ 140737488355328 := by omega
            have f3 : (k + 1) * 16 ≤ 140737488355328 := by omega
            have f4 : k ≤ 140737488355327 := by omega
            have f5 : (k + 1 + (i - k)) * 16 ≤ 140737488355328 := by omega
            have f6 : k + 1 + (i - k) ≤ 140737488355328 := by omega
            have f7 : k + 1 + (i - k) = i + 1 := by omega
            have f11 : (i + 1) * 16 ≤ 140737488355328 := by omega
            have h256 : (i : Int) % 256 = (i : Int) := by omega
            have f8 : k + (i - k) ≤ i := by omega
            have u1 : uni 2 ((L.map encV).take k) = true := by rw [← List.map_take]; exact uni_map (s := 2) (f := encV) (fun _ => rfl) _
            have u2 : uni 2 ((L.map encV).drop k) = true := by rw [← List.map_drop]; exact uni_map (s := 2) (f := encV) (fun _ => rfl) _
            clear hR c1 hin hp hk hi hpl
            have w8 : IntKind.u8.wrap ((i : Int) + 1) = (i : Int) + 1 := by rw [IntKind.wrap_u8]; omega
            have us : uni 1 (S.map fun b => [bI b]) = true := uni_map (s := 1) (f := fun b => [bI b]) (fun _ => rfl) _
            have f9 : (i + 1) * 24 ≤ 140737488355328 := by omega
            have f10 : i ≤ 140737488355327 := by omega
            simp only [bI] at us
            (repeat' (first | (simp -implicitDefEqProofs only [go_sem, Nat.reduceLT, Nat.reduceAdd, Nat.reduceMul, reduceIte, Nat.reduceEqDiff, reduceCtorEq, Nat.reducePow, Nat.reduceLeDiff, Int.reduceLE, Int.reduceLT, Int.reduceToNat, Int.reduceEq, Nat.reduceBEq, u64D, encV, intD, boolD, bI, *]) | (with_reducible refine ⟨?_, ?_⟩; (· first | (obtain ⟨rfl⟩ := ‹Hq _ _›; with_reducible refine chk_ok ?_; kernel_rfl) | kernel_rfl)) | (with_reducible intro ops hops) | (simp -implicitDefEqProofs (disch := omega) only [wr64, wru64, get_lt]) | ((first | refine Wc_split (fun hg => ?_) (fun hg => ?_) | refine RoG_split (fun hg => ?_) (fun hg => ?_) | refine RdG_split (fun hg => ?_) (fun hg => ?_)) <;> (try simp only [nrm] at hg) <;> (try simp only [hg, lgc, reduceIte, reduceCtorEq] at hR) <;> (try (exfalso; omega))) | (refine hL (i + 1) _ (by omega) ?_ ?_; (· (refine le_stOf _ _ [] [(100, 3827), (101, 4075)] ?_ ?_ rfl rfl <;> (simp [Int.natCast_add, Int.natCast_zero, Int.natCast_one, u64D, bI, hnx, hsd, h256, seedK, encV, f7]; done))); (· (first | omega | (simp only; omega)))) | ((try simp only [*, lgc, reduceIte, reduceCtorEq] at hR); obtain ⟨rfl⟩ := hR; refine fin_q (rs := [.tmp 2, .tmp 3]) rfl ?_; (try simp only [go_sem, Nat.reduceLT, Nat.reduceAdd, Nat.reduceMul, reduceIte, Nat.reduceEqDiff, reduceCtorEq, Nat.reducePow, Nat.reduceLeDiff, Int.reduceLE, Int.reduceLT, Int.reduceToNat, Int.reduceEq, Nat.reduceBEq, u64D, encV, intD, boolD, bI]); (simp [u64D, encV, intD, boolD, bI]; done))))
        · have hki : k = L.length := by omega
          rw [List.drop_eq_nil_of_le (by omega)] at hp
          simp only [show plV [] ⟨K, p⟩ = 0 from rfl, Nat.add_zero] at hp
          have g2 : ¬ (k : Int) < (i : Int) := by omega
          clear hki
          have hin : insV L ⟨K, p⟩ = L.take k ++ ⟨K, p⟩ :: L.drop k := by unfold insV; rw [hp]
          rw [hin] at hnx
          have a1 : k + (1 + (i - k)) = i + 1 := by omega
          have a2 : (L.map encV).take i = L.map encV := List.take_of_length_le (by simp [hl])
          have a3 : ((L.map encV).drop k).take (i - k) = (L.map encV).drop k := List.take_of_length_le (by simp [hl])
          have a4 : k ≤ i := by omega
          have a6 : (k : Int) ≤ (i : Int) := by omega
          have a5 : ((k : Int)).toNat = k := by omega
          have d1 : ((L.map encV).take k).length = k := by simp [hl]; omega
          have d2 : ((L.map encV).drop k).length = i - k := by simp [hl]
          have f1 : k * 16 ≤ 140737488355328 := by omega
          have f2 : k ≤ 140737488355328 := by omega
          have f3 : (k + 1) * 16 ≤ 140737488355328 := by omega
          have f4 : k ≤ 140737488355327 := by omega
          have f5 : (k + 1 + (i - k)) * 16 ≤ 140737488355328 := by omega
          have f6 : k + 1 + (i - k) ≤ 140737488355328 := by omega
          have f7 : k + 1 + (i - k) = i + 1 := by omega
          have f11 : (i + 1) * 16 ≤ 140737488355328 := by omega
          have h256 : (i : Int) % 256 = (i : Int) := by omega
          have f8 : k + (i - k) ≤ i := by omega
          have u1 : uni 2 ((L.map encV).take k) = true := by rw [← List.map_take]; exact uni_map (s := 2) (f := encV) (fun _ => rfl) _
          have u2 : uni 2 ((L.map encV).drop k) = true := by rw [← List.map_drop]; exact uni_map (s := 2) (f := encV) (fun _ => rfl) _
          clear hR c1 hin hp hk hi hpl
          have w8 : IntKind.u8.wrap ((i : Int) + 1) = (i : Int) + 1 := by rw [IntKind.wrap_u8]; omega
          have us : uni 1 (S.map fun b => [bI b]) = true := uni_map (s := 1) (f := fun b => [bI b]) (fun _ => rfl) _
          have f9 : (i + 1) * 24 ≤ 140737488355328 := by omega
          have f10 : i ≤ 140737488355327 := by omega
          simp only [bI] at us
          (repeat' (first | (simp -implicitDefEqProofs only [go_sem, Nat.reduceLT, Nat.reduceAdd, Nat.reduceMul, reduceIte, Nat.reduceEqDiff, reduceCtorEq, Nat.reducePow, Nat.reduceLeDiff, Int.reduceLE, Int.reduceLT, Int.reduceToNat, Int.reduceEq, Nat.reduceBEq, u64D, encV, intD, boolD, bI, *]) | (with_reducible refine ⟨?_, ?_⟩; (· first | (obtain ⟨rfl⟩ := ‹Hq _ _›; with_reducible refine chk_ok ?_; kernel_rfl) | kernel_rfl)) | (with_reducible intro ops hops) | (simp -implicitDefEqProofs (disch := omega) only [wr64, wru64, get_lt]) | ((first | refine Wc_split (fun hg => ?_) (fun hg => ?_) | refine RoG_split (fun hg => ?_) (fun hg => ?_) | refine RdG_split (fun hg => ?_) (fun hg => ?_)) <;> (try simp only [nrm] at hg) <;> (try simp only [hg, lgc, reduceIte, reduceCtorEq] at hR) <;> (try (exfalso; omega))) | (refine hL (i + 1) _ (by omega) ?_ ?_; (· (refine le_stOf _ _ [] [(100, 3827), (101, 4075)] ?_ ?_ rfl rfl <;> (simp [Int.natCast_add, Int.natCast_zero, Int.natCast_one, u64D, bI, hnx, hsd, h256, seedK, encV, f7]; done))); (· (first | omega | (simp only; omega)))) | ((try simp only [*, lgc, reduceIte, reduceCtorEq] at hR); obtain ⟨rfl⟩ := hR; refine fin_q (rs := [.tmp 2, .tmp 3]) rfl ?_; (try simp only [go_sem, Nat.reduceLT, Nat.reduceAdd, Nat.reduceMul, reduceIte, Nat.reduceEqDiff, reduceCtorEq, Nat.reducePow, Nat.reduceLeDiff, Int.reduceLE, Int.reduceLT, Int.reduceToNat, Int.reduceEq, Nat.reduceBEq, u64D, encV, intD, boolD, bI]); (simp [u64D, encV, intD, boolD, bI]; done))))
    · have g1 : ¬ (i : Int) < 4 := by omega
      obtain rfl : i = 4 := by omega
      have hf := fourV_len p 4
      have hs : (seedsK 4).length = 4 := rfl
      have t1 : ((fourV p 4).map encV).take 4 = (fourV p 4).map encV := List.take_of_length_le (by simp [hf])
      have t2 : ((seedsK 4).map fun b => [bI b]).take 4 = (seedsK 4).map fun b => [bI b] := List.take_of_length_le (by simp [hs])
      generalize fourV p 4 = L at *
      generalize seedsK 4 = S at *
      simp only [bI] at t2
      (repeat' (first | (simp -implicitDefEqProofs only [go_sem, Nat.reduceLT, Nat.reduceAdd, Nat.reduceMul, reduceIte, Nat.reduceEqDiff, reduceCtorEq, Nat.reducePow, Nat.reduceLeDiff, Int.reduceLE, Int.reduceLT, Int.reduceToNat, Int.reduceEq, Nat.reduceBEq, u64D, valsI, bbI, bI, t1, t2, hf, hs, *]) | (with_reducible refine ⟨?_, ?_⟩; (· first | (obtain ⟨rfl⟩ := ‹Hq _ _›; with_reducible refine chk_ok ?_; kernel_rfl) | kernel_rfl)) | (with_reducible intro ops hops) | (simp -implicitDefEqProofs (disch := omega) only [wr64, wru64, get_lt]) | ((first | refine Wc_split (fun hg => ?_) (fun hg => ?_) | refine RoG_split (fun hg => ?_) (fun hg => ?_) | refine RdG_split (fun hg => ?_) (fun hg => ?_)) <;> (try simp only [nrm] at hg) <;> (try simp only [hg, lgc, reduceIte, reduceCtorEq] at hR) <;> (try (exfalso; omega))) | ((try simp only [*, lgc, reduceIte, reduceCtorEq] at hR); obtain ⟨rfl⟩ := hR; refine fin_q (rs := [.tmp 2, .tmp 3]) rfl ?_; (try simp only [go_sem, Nat.reduceLT, Nat.reduceAdd, Nat.reduceMul, reduceIte, Nat.reduceEqDiff, reduceCtorEq, Nat.reducePow, Nat.reduceLeDiff, Int.reduceLE, Int.reduceLT, Int.reduceToNat, Int.reduceEq, Nat.reduceBEq, u64D, valsI, bbI, bI, t1, t2, hf, hs]); (simp [u64D, valsI, bbI, bI, t1, t2, hf, hs]; done))))
end Go.Proofs.Ytdpfjmkilbepgaa
