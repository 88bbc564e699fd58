/- HeaderVoted, HeaderMeet: by value. (hdrD signedD) -/
import Derived.Test.YtdpfjmkilbepgaaLaw6M
set_option linter.all false
namespace Go.Proofs.Ytdpfjmkilbepgaa
open Go Go.Abs Go.RowKit Go.Proofs.Ytdpfjmkilbepgaa.Ty

theorem hasK_take {s : List (List UInt8)} {j k : Nat} (h : j < s.length) : hasK (s.take (j + 1)) k = (hasK (s.take j) k || decide (k = keyF s[j])) := any_take h
theorem voted_take {s : List (List UInt8)} {l : List ValD} {i : Nat} (h : i < l.length) : votedP s (l.take (i + 1)) = votedP s (l.take i) + votedOf s l[i] := sum_take h
theorem both_take {s t : List (List UInt8)} {l : List ValD} {i : Nat} (h : i < l.length) : bothP s t (l.take (i + 1)) = bothP s t (l.take i) + bothOf s t l[i] := sum_take h
theorem both_le (s t : List (List UInt8)) (l : List ValD) : bothP s t l ≤ sumP l := sum_mono fun v _ => by unfold bothOf; split <;> omega
set_option maxHeartbeats 4000000
theorem walk_HeaderVoted (y0 : I) (l : List ValD) (e0 : y0 = valsI l ∧ ∀ v ∈ l, Val64 v) (y1 : List I) (h : HdrD) (e1 : y1 = encH h) (y2 : I) (s : List (List UInt8)) (e2 : y2 = bbI s)
    (hb : bkI y0 + bkL y1 + bkI y2 ≤ 1048576) :
    ∃ Ds, PureD Try.prog 4 Ds (.i (.s (.bool true))) ∧ Ds = [.i y0, .agg (y1.map .i), .i y2] := by
  obtain ⟨rfl, hk⟩ := e0
  subst e1
  subst e2
  refine ⟨_, ?_, rfl⟩
  rw [hdr_agg]
  have hs := hdr_sm (h := h) (n := 1048576) (by omega) (by omega)
  have hl := vals_len (l := l) (n := 1048576) (by omega) (by omega)
  have d1 := seeds_of (l := s) (n := 1048576) (by omega) (by omega)
  have c0 := alive6_A
  have c1 := hsign_A h l s hs hl hk d1
  clear hb
  refine hide_r fun R hR => ?_
  by_cases hok : SignOk h l
  rotate_left
  · have hne : ¬ (signF h l s).2 = 0 := fun e => hok (sign_iff.1 e)
    rw [sign_no hne] at c1
    clear hok hs hl d1 hk
    generalize (signF h l s).2 = E at *
    refine callD_W 66 Try.func4 rfl rfl rfl (fun _ _ => rfl) ?_
    (repeat' (first | (simp -implicitDefEqProofs only [go_sem, Nat.reduceLT, Nat.reduceAdd, Nat.reduceMul, reduceIte, Nat.reduceEqDiff, reduceCtorEq, Nat.reducePow, Nat.reduceLeDiff, Int.reduceLE, Int.reduceLT, Int.reduceToNat, Int.reduceEq, Nat.reduceBEq, valsI, hdrD, bbI, signedD, votesI, zeroS, zeroH, *]) | (with_reducible refine ⟨?_, ?_⟩; (· first | (obtain ⟨rfl⟩ := ‹Hq _ _›; with_reducible refine chk_ok ?_; kernel_rfl) | kernel_rfl)) | (with_reducible intro ops hops) | (simp -implicitDefEqProofs (disch := omega) only [wr64, wru64, get_lt]) | ((with_reducible refine call_id ?_); (first | ((with_reducible refine Call_fl (c0) ?_ ?_ ?_); (· (simp [valsI, hdrD, bbI, signedD, votesI, zeroS, zeroH]; done)); (· (simp [valsI, hdrD, bbI, signedD, votesI, zeroS, zeroH, and_assoc]; done))) | ((with_reducible refine Call_fz (c1) ?_ ?_); (· (simp [valsI, hdrD, bbI, signedD, votesI, zeroS, zeroH, and_assoc]; done))))) | ((with_reducible refine callF_id ?_); (first | ((with_reducible refine CallF_fl (c0) ?_ ?_ ?_); (· (simp [valsI, hdrD, bbI, signedD, votesI, zeroS, zeroH]; done)); (· (intro G hG; simp [valsI, hdrD, bbI, signedD, votesI, zeroS, zeroH] at hG; simp [valsI, hdrD, bbI, signedD, votesI, zeroS, zeroH, hG, and_assoc]; done))) | ((with_reducible refine CallF_fz (c1) ?_ ?_); (· (intro G hG; simp [valsI, hdrD, bbI, signedD, votesI, zeroS, zeroH] at hG; simp [valsI, hdrD, bbI, signedD, votesI, zeroS, zeroH, hG, and_assoc]; done))))) | ((first | refine Wc_split (fun hg => ?_) (fun hg => ?_) | refine RoG_split (fun hg => ?_) (fun hg => ?_) | refine RdG_split (fun hg => ?_) (fun hg => ?_)) <;> (try simp only [nrm] at hg) <;> (try simp only [hg, lgc, reduceIte, reduceCtorEq] at hR) <;> (try (exfalso; omega))) | ((try simp only [*, lgc, reduceIte, reduceCtorEq] at hR); obtain ⟨rfl⟩ := hR; refine fin_q (rs := [.tmp 6]) rfl ?_; (try simp only [go_sem, Nat.reduceLT, Nat.reduceAdd, Nat.reduceMul, reduceIte, Nat.reduceEqDiff, reduceCtorEq, Nat.reducePow, Nat.reduceLeDiff, Int.reduceLE, Int.reduceLT, Int.reduceToNat, Int.reduceEq, Nat.reduceBEq, valsI, hdrD, bbI, signedD, votesI, zeroS, zeroH]); (simp [valsI, hdrD, bbI, signedD, votesI, zeroS, zeroH]; done))))
  have c2 := hcheck_A _ (sgn_sm s hs hl hk)
  have hX := check_voted hok s
  rw [sign_ok hok] at c1
  simp only at c1
  generalize (⟨h, l, l.map (voteF h s)⟩ : SignedD) = A at *
  have ok := hok.v
  have hlen := ok.len
  have hsl := d1.len
  generalize checkS A = X at *
  refine callD_W 66 Try.func4 rfl rfl rfl (fun _ _ => rfl) ?_
  (repeat' (first | (simp -implicitDefEqProofs only [go_sem, Nat.reduceLT, Nat.reduceAdd, Nat.reduceMul, reduceIte, Nat.reduceEqDiff, reduceCtorEq, Nat.reducePow, Nat.reduceLeDiff, Int.reduceLE, Int.reduceLT, Int.reduceToNat, Int.reduceEq, Nat.reduceBEq, valsI, hdrD, bbI, signedD, votesI, *]) | (with_reducible refine ⟨?_, ?_⟩; (· first | (obtain ⟨rfl⟩ := ‹Hq _ _›; with_reducible refine chk_ok ?_; kernel_rfl) | kernel_rfl)) | (with_reducible intro ops hops) | (simp -implicitDefEqProofs (disch := omega) only [wr64, wru64, get_lt]) | ((with_reducible refine call_id ?_); (first | ((with_reducible refine Call_fl (c0) ?_ ?_ ?_); (· (simp [valsI, hdrD, bbI, signedD, votesI]; done)); (· (simp [valsI, hdrD, bbI, signedD, votesI, and_assoc]; done))) | ((with_reducible refine Call_fz (c1) ?_ ?_); (· (simp [valsI, hdrD, bbI, signedD, votesI, and_assoc]; done))))) | ((with_reducible refine callF_id ?_); (first | ((with_reducible refine CallF_fl (c0) ?_ ?_ ?_); (· (simp [valsI, hdrD, bbI, signedD, votesI]; done)); (· (intro G hG; simp [valsI, hdrD, bbI, signedD, votesI] at hG; simp [valsI, hdrD, bbI, signedD, votesI, hG, and_assoc]; done))) | ((with_reducible refine CallF_fz (c1) ?_ ?_); (· (intro G hG; simp [valsI, hdrD, bbI, signedD, votesI] at hG; simp [valsI, hdrD, bbI, signedD, votesI, hG, and_assoc]; done))))) | ((first | refine Wc_split (fun hg => ?_) (fun hg => ?_) | refine RoG_split (fun hg => ?_) (fun hg => ?_) | refine RdG_split (fun hg => ?_) (fun hg => ?_)) <;> (try simp only [nrm] at hg) <;> (try simp only [hg, lgc, reduceIte, reduceCtorEq] at hR) <;> (try (exfalso; omega))) | ((try simp only [*, lgc, reduceIte, reduceCtorEq] at hR); obtain ⟨rfl⟩ := hR; refine fin_q (rs := [.tmp 6]) rfl ?_; (try simp only [go_sem, Nat.reduceLT, Nat.reduceAdd, Nat.reduceMul, reduceIte, Nat.reduceEqDiff, reduceCtorEq, Nat.reducePow, Nat.reduceLeDiff, Int.reduceLE, Int.reduceLT, Int.reduceToNat, Int.reduceEq, Nat.reduceBEq, valsI, hdrD, bbI, signedD, votesI]); (simp [valsI, hdrD, bbI, signedD, votesI]; done))))
  refine W_loopR (ι := Nat) (fun i => i ≤ l.length)
    (fun i => stOf [(2, .i (bbI s)), (7, .pt 100 0 0 0), (9, u64D (sumP (l.take i))), (10, u64D (votedP s (l.take i))), (30, .i (valsI l)), (31, intD l.length), (32, intD i)] [(100, .box ((encS A).map .i))]) (fun i => l.length - i) 0 (Nat.zero_le _) ?_ ?_
  · (refine le_stOf _ _ [] [(100, 1775)] ?_ ?_ rfl rfl <;> (simp [Int.natCast_add, Int.natCast_zero, Int.natCast_one, encS, valsI, votesI, bbI, u64D, sumP, votedP]; done))
  · rintro i hi RL hL
    rw [stOf_eq]
    by_cases h1 : i < l.length
    · have e1 := get_lt (f := encV) h1
      have b1 := sumP_le ok i
      have b2 := Nat.le_trans (voted_le s (l.take i)) b1
      have b3 := ok.pow l[i] (List.getElem_mem h1)
      have t1 : sumP (l.take (i + 1)) = sumP (l.take i) + l[i].p := sum_take h1
      have t2 := voted_take (s := s) h1
      generalize l[i] = v at *
      generalize sumP (l.take i) = S at *
      generalize votedP s (l.take i) = V at *
      have w1 : IntKind.u64.wrap ((S : Int) + (v.p : Int)) = ((S + v.p : Nat) : Int) := by rw [IntKind.wrap_u64]; omega
      have w2 : IntKind.u64.wrap ((V : Int) + (v.p : Int)) = ((V + v.p : Nat) : Int) := by rw [IntKind.wrap_u64]; omega
      clear b1 b2 b3 c0 c1 c2 hok hX hR
      (repeat' (first | (simp -implicitDefEqProofs only [go_sem, Nat.reduceLT, Nat.reduceAdd, Nat.reduceMul, reduceIte, Nat.reduceEqDiff, reduceCtorEq, Nat.reducePow, Nat.reduceLeDiff, Int.reduceLE, Int.reduceLT, Int.reduceToNat, Int.reduceEq, Nat.reduceBEq, valsI, encS, bbI, votesI, u64D, encV, *]) | (with_reducible refine ⟨?_, ?_⟩; (· first | (obtain ⟨rfl⟩ := ‹Hq _ _›; with_reducible refine chk_ok ?_; kernel_rfl) | kernel_rfl)) | (with_reducible intro ops hops) | (simp -implicitDefEqProofs (disch := omega) only [wr64, wru64, get_lt]) | ((first | refine Wc_split (fun hg => ?_) (fun hg => ?_) | refine RoG_split (fun hg => ?_) (fun hg => ?_) | refine RdG_split (fun hg => ?_) (fun hg => ?_)) <;> (try simp only [nrm] at hg) <;> (try simp only [hg, lgc, reduceIte, reduceCtorEq] at hR) <;> (try (exfalso; omega))) | ((try simp only [*, lgc, reduceIte, reduceCtorEq] at hR); obtain ⟨rfl⟩ := hR; refine fin_q (rs := [.tmp 6]) rfl ?_; (try simp only [go_sem, Nat.reduceLT, Nat.reduceAdd, Nat.reduceMul, reduceIte, Nat.reduceEqDiff, reduceCtorEq, Nat.reducePow, Nat.reduceLeDiff, Int.reduceLE, Int.reduceLT, Int.reduceToNat, Int.reduceEq, Nat.reduceBEq, valsI, encS, bbI, votesI, u64D, encV]); (simp [valsI, encS, bbI, votesI, u64D, encV]; done))))
      refine W_loopR (ι := Nat) (fun j => j ≤ s.length ∧ hasK (s.take j) v.k = false)
        (fun j => stOf [(2, .i (bbI s)), (7, .pt 100 0 0 0), (9, u64D (S + v.p)), (10, u64D V), (30, .i (valsI l)), (31, intD l.length), (32, intD i), (12, .pt 101 0 0 0), (40, .i (bbI s)), (41, intD s.length), (42, intD j)]
          [(100, .box ((encS A).map .i)), (101, .box [.i (.s (.int .u64 v.k)), .i (.s (.int .u64 v.p))])]) (fun j => s.length - j) 0 ⟨Nat.zero_le _, rfl⟩ ?_ ?_
      · (refine le_stOf _ _ [] [(100, 100), (101, 3306)] ?_ ?_ rfl rfl <;> (simp [Int.natCast_add, Int.natCast_zero, Int.natCast_one, encS, valsI, votesI, bbI, u64D]; done))
      · rintro j ⟨hj, hn⟩ RL2 hL2
        rw [stOf_eq]
        by_cases h2 : j < s.length
        · have e2 : (s.map fun b => [bI b])[j]? = some [bI s[j]] := get_lt (f := fun b => [bI b]) h2
          have c3 := rkey_A s[j] (d1.b _ (List.getElem_mem h2))
          have hh := hasK_take (k := v.k) h2
          have hin : keyF s[j] = v.k → hasK s v.k = true := fun e => by
            unfold hasK; rw [List.any_eq_true]; exact ⟨s[j], List.getElem_mem h2, decide_eq_true e.symm⟩
          have k1 : ((keyF s[j] : Int) = (v.k : Int)) = (keyF s[j] = v.k) := propext (by omega)
          rw [hn, Bool.false_or] at hh
          generalize hxe : s[j] = x at *
          by_cases hx : keyF x = v.k
          · have t3 : votedOf s v = v.p := by unfold votedOf; rw [if_pos (hin hx)]
            rw [t3] at t2
            clear hh hn hin d1 hs hk
            (repeat' (first | (simp -implicitDefEqProofs only [go_sem, Nat.reduceLT, Nat.reduceAdd, Nat.reduceMul, reduceIte, Nat.reduceEqDiff, reduceCtorEq, Nat.reducePow, Nat.reduceLeDiff, Int.reduceLE, Int.reduceLT, Int.reduceToNat, Int.reduceEq, Nat.reduceBEq, valsI, encS, bbI, votesI, u64D, *]) | (with_reducible refine ⟨?_, ?_⟩; (· first | (obtain ⟨rfl⟩ := ‹Hq _ _›; with_reducible refine chk_ok ?_; kernel_rfl) | kernel_rfl)) | (with_reducible intro ops hops) | (simp -implicitDefEqProofs (disch := omega) only [wr64, wru64, get_lt]) | ((with_reducible refine call_id ?_); (first | ((with_reducible refine Call_fl (c3) ?_ ?_ ?_); (· (simp [valsI, encS, bbI, votesI, u64D]; done)); (· (simp [valsI, encS, bbI, votesI, u64D, and_assoc]; done))))) | ((with_reducible refine callF_id ?_); (first | ((with_reducible refine CallF_fl (c3) ?_ ?_ ?_); (· (simp [valsI, encS, bbI, votesI, u64D]; done)); (· (intro G hG; simp [valsI, encS, bbI, votesI, u64D] at hG; simp [valsI, encS, bbI, votesI, u64D, hG, and_assoc]; done))))) | ((first | refine Wc_split (fun hg => ?_) (fun hg => ?_) | refine RoG_split (fun hg => ?_) (fun hg => ?_) | refine RdG_split (fun hg => ?_) (fun hg => ?_)) <;> (try simp only [nrm] at hg) <;> (try simp only [hg, lgc, reduceIte, reduceCtorEq] at hR) <;> (try (exfalso; omega))) | (refine hL (i + 1) _ (h1) ?_ ?_; (· (refine le_stOf _ _ [] [(100, 100)] ?_ ?_ rfl rfl <;> (simp [Int.natCast_add, Int.natCast_zero, Int.natCast_one, encS, valsI, votesI, bbI, u64D, t1, t2]; done))); (· (first | omega | (simp only; omega)))) | ((try simp only [*, lgc, reduceIte, reduceCtorEq] at hR); obtain ⟨rfl⟩ := hR; refine fin_q (rs := [.tmp 6]) rfl ?_; (try simp only [go_sem, Nat.reduceLT, Nat.reduceAdd, Nat.reduceMul, reduceIte, Nat.reduceEqDiff, reduceCtorEq, Nat.reducePow, Nat.reduceLeDiff, Int.reduceLE, Int.reduceLT, Int.reduceToNat, Int.reduceEq, Nat.reduceBEq, valsI, encS, bbI, votesI, u64D]); (simp [valsI, encS, bbI, votesI, u64D]; done))))
          · have hn' : hasK (s.take (j + 1)) v.k = false := by rw [hh]; exact decide_eq_false (fun e => hx e.symm)
            clear hh hn hin d1 hs hk t1 t2
            (repeat' (first | (simp -implicitDefEqProofs only [go_sem, Nat.reduceLT, Nat.reduceAdd, Nat.reduceMul, reduceIte, Nat.reduceEqDiff, reduceCtorEq, Nat.reducePow, Nat.reduceLeDiff, Int.reduceLE, Int.reduceLT, Int.reduceToNat, Int.reduceEq, Nat.reduceBEq, valsI, encS, bbI, votesI, u64D, *]) | (with_reducible refine ⟨?_, ?_⟩; (· first | (obtain ⟨rfl⟩ := ‹Hq _ _›; with_reducible refine chk_ok ?_; kernel_rfl) | kernel_rfl)) | (with_reducible intro ops hops) | (simp -implicitDefEqProofs (disch := omega) only [wr64, wru64, get_lt]) | ((with_reducible refine call_id ?_); (first | ((with_reducible refine Call_fl (c3) ?_ ?_ ?_); (· (simp [valsI, encS, bbI, votesI, u64D]; done)); (· (simp [valsI, encS, bbI, votesI, u64D, and_assoc]; done))))) | ((with_reducible refine callF_id ?_); (first | ((with_reducible refine CallF_fl (c3) ?_ ?_ ?_); (· (simp [valsI, encS, bbI, votesI, u64D]; done)); (· (intro G hG; simp [valsI, encS, bbI, votesI, u64D] at hG; simp [valsI, encS, bbI, votesI, u64D, hG, and_assoc]; done))))) | ((first | refine Wc_split (fun hg => ?_) (fun hg => ?_) | refine RoG_split (fun hg => ?_) (fun hg => ?_) | refine RdG_split (fun hg => ?_) (fun hg => ?_)) <;> (try simp only [nrm] at hg) <;> (try simp only [hg, lgc, reduceIte, reduceCtorEq] at hR) <;> (try (exfalso; omega))) | (refine hL2 (j + 1) _ (⟨h2, hn'⟩) ?_ ?_; (· (refine le_stOf _ _ [] [(100, 100), (101, 101)] ?_ ?_ rfl rfl <;> (simp [Int.natCast_add, Int.natCast_zero, Int.natCast_one, encS, valsI, votesI, bbI, u64D]; done))); (· (first | omega | (simp only; omega)))) | ((try simp only [*, lgc, reduceIte, reduceCtorEq] at hR); obtain ⟨rfl⟩ := hR; refine fin_q (rs := [.tmp 6]) rfl ?_; (try simp only [go_sem, Nat.reduceLT, Nat.reduceAdd, Nat.reduceMul, reduceIte, Nat.reduceEqDiff, reduceCtorEq, Nat.reducePow, Nat.reduceLeDiff, Int.reduceLE, Int.reduceLT, Int.reduceToNat, Int.reduceEq, Nat.reduceBEq, valsI, encS, bbI, votesI, u64D]); (simp [valsI, encS, bbI, votesI, u64D]; done))))
        · have hj' : s.take j = s := List.take_of_length_le (by omega)
          rw [hj'] at hn
          have t3 : votedOf s v = 0 := by unfold votedOf; rw [hn]; rfl
          rw [t3, Nat.add_zero] at t2
          clear hn d1 hs hk
          (repeat' (first | (simp -implicitDefEqProofs only [go_sem, Nat.reduceLT, Nat.reduceAdd, Nat.reduceMul, reduceIte, Nat.reduceEqDiff, reduceCtorEq, Nat.reducePow, Nat.reduceLeDiff, Int.reduceLE, Int.reduceLT, Int.reduceToNat, Int.reduceEq, Nat.reduceBEq, valsI, encS, bbI, votesI, u64D, *]) | (with_reducible refine ⟨?_, ?_⟩; (· first | (obtain ⟨rfl⟩ := ‹Hq _ _›; with_reducible refine chk_ok ?_; kernel_rfl) | kernel_rfl)) | (with_reducible intro ops hops) | (simp -implicitDefEqProofs (disch := omega) only [wr64, wru64, get_lt]) | ((first | refine Wc_split (fun hg => ?_) (fun hg => ?_) | refine RoG_split (fun hg => ?_) (fun hg => ?_) | refine RdG_split (fun hg => ?_) (fun hg => ?_)) <;> (try simp only [nrm] at hg) <;> (try simp only [hg, lgc, reduceIte, reduceCtorEq] at hR) <;> (try (exfalso; omega))) | (refine hL (i + 1) _ (h1) ?_ ?_; (· (refine le_stOf _ _ [] [(100, 100)] ?_ ?_ rfl rfl <;> (simp [Int.natCast_add, Int.natCast_zero, Int.natCast_one, encS, valsI, votesI, bbI, u64D, t1, t2]; done))); (· (first | omega | (simp only; omega)))) | ((try simp only [*, lgc, reduceIte, reduceCtorEq] at hR); obtain ⟨rfl⟩ := hR; refine fin_q (rs := [.tmp 6]) rfl ?_; (try simp only [go_sem, Nat.reduceLT, Nat.reduceAdd, Nat.reduceMul, reduceIte, Nat.reduceEqDiff, reduceCtorEq, Nat.reducePow, Nat.reduceLeDiff, Int.reduceLE, Int.reduceLT, Int.reduceToNat, Int.reduceEq, Nat.reduceBEq, valsI, encS, bbI, votesI, u64D]); (simp [valsI, encS, bbI, votesI, u64D]; done))))
    · have hi' : l.take i = l := List.take_of_length_le (by omega)
      have b1 := sumP_le ok i
      have b2 := voted_le s l
      rw [hi'] at b1 ⊢
      have hX' : decide (X = 0) = decide (2 * (sumP l : Int) < 3 * (votedP s l : Int)) := decide_eq_decide.2 (hX.trans (by omega))
      generalize sumP l = S at *
      generalize votedP s l = V at *
      have w1 : IntKind.u64.wrap (3 * (V : Int)) = 3 * (V : Int) := by rw [IntKind.wrap_u64]; omega
      have w2 : IntKind.u64.wrap (2 * (S : Int)) = 2 * (S : Int) := by rw [IntKind.wrap_u64]; omega
      clear b1 b2 hX hok ok d1 hs hk c0 c1
      (repeat' (first | (simp -implicitDefEqProofs only [go_sem, Nat.reduceLT, Nat.reduceAdd, Nat.reduceMul, reduceIte, Nat.reduceEqDiff, reduceCtorEq, Nat.reducePow, Nat.reduceLeDiff, Int.reduceLE, Int.reduceLT, Int.reduceToNat, Int.reduceEq, Nat.reduceBEq, valsI, encS, bbI, votesI, u64D, signedD, *]) | (with_reducible refine ⟨?_, ?_⟩; (· first | (obtain ⟨rfl⟩ := ‹Hq _ _›; with_reducible refine chk_ok ?_; kernel_rfl) | kernel_rfl)) | (with_reducible intro ops hops) | (simp -implicitDefEqProofs (disch := omega) only [wr64, wru64, get_lt]) | ((with_reducible refine call_id ?_); (first | ((with_reducible refine Call_fl (c2) ?_ ?_ ?_); (· (simp [valsI, encS, bbI, votesI, u64D, signedD]; done)); (· (simp [valsI, encS, bbI, votesI, u64D, signedD, and_assoc]; done))))) | ((with_reducible refine callF_id ?_); (first | ((with_reducible refine CallF_fl (c2) ?_ ?_ ?_); (· (simp [valsI, encS, bbI, votesI, u64D, signedD]; done)); (· (intro G hG; simp [valsI, encS, bbI, votesI, u64D, signedD] at hG; simp [valsI, encS, bbI, votesI, u64D, signedD, hG, and_assoc]; done))))) | ((first | refine Wc_split (fun hg => ?_) (fun hg => ?_) | refine RoG_split (fun hg => ?_) (fun hg => ?_) | refine RdG_split (fun hg => ?_) (fun hg => ?_)) <;> (try simp only [nrm] at hg) <;> (try simp only [hg, lgc, reduceIte, reduceCtorEq] at hR) <;> (try (exfalso; omega))) | ((try simp only [*, lgc, reduceIte, reduceCtorEq] at hR); obtain ⟨rfl⟩ := hR; refine fin_q (rs := [.tmp 6]) rfl ?_; (try simp only [go_sem, Nat.reduceLT, Nat.reduceAdd, Nat.reduceMul, reduceIte, Nat.reduceEqDiff, reduceCtorEq, Nat.reducePow, Nat.reduceLeDiff, Int.reduceLE, Int.reduceLT, Int.reduceToNat, Int.reduceEq, Nat.reduceBEq, valsI, encS, bbI, votesI, u64D, signedD]); (simp [valsI, encS, bbI, votesI, u64D, signedD]; done))))
end Go.Proofs.Ytdpfjmkilbepgaa
