/- HeaderMore: by value. (hdrD signedD) -/
import Derived.Test.YtdpfjmkilbepgaaLaw6B
import Derived.Test.YtdpfjmkilbepgaaDecHd
set_option linter.all false
namespace Go.Proofs.Ytdpfjmkilbepgaa
open Go Go.Abs Go.RowKit Go.Proofs.Ytdpfjmkilbepgaa.Ty

theorem seeds_of {l : List (List UInt8)} {n : Nat} (h : bkI (bbI l) ≤ n) (hn : n ≤ 1048576) : SeedsSm l := by
  have := bb_small h
  exact ⟨by omega, fun s hs => by have := this.2 s hs; omega⟩
theorem vals_len {l : List ValD} {n : Nat} (h : bkI (valsI l) ≤ n) (hn : n ≤ 1048576) : l.length ≤ 1048576 := by
  have := bk_len encV l
  unfold valsI at h; omega
theorem uni_bb (l : List (List UInt8)) : uni 1 (l.map fun b => [bI b]) = true := uni_map (s := 1) (f := fun b => [bI b]) (fun _ => rfl) _
theorem more_bb {a b : List (List UInt8)} (ha : SeedsSm a) (hb : SeedsSm b) (h : a.length + b.length ≤ 1048576) : SeedsSm (a ++ b) := ⟨by simp; omega, fun s hs => by
  rcases List.mem_append.1 hs with h | h
  · exact ha.b s h
  · exact hb.b s h⟩
theorem take_app2 (s t : List (List UInt8)) (f : List UInt8 → List I) : List.take (s.length + t.length) (s.map f ++ t.map f) = s.map f ++ t.map f := List.take_of_length_le (by simp)
set_option maxHeartbeats 4000000
theorem walk_HeaderMore (y0 : I) (l : List ValD) (e0 : y0 = valsI l ∧ ∀ v ∈ l, Val64 v) (y1 : List I) (h : HdrD) (e1 : y1 = encH h) (y2 : I) (s : List (List UInt8)) (e2 : y2 = bbI s) (y3 : I) (t : List (List UInt8)) (e3 : y3 = bbI t)
    (hb : bkI y0 + bkL y1 + bkI y2 + bkI y3 ≤ 1048576) :
    ∃ Ds, PureD Try.prog 6 Ds (.i (.s (.bool true))) ∧ Ds = [.i y0, .agg (y1.map .i), .i y2, .i y3] := by
  obtain ⟨rfl, hk⟩ := e0
  subst e1
  subst e2
  subst e3
  refine ⟨_, ?_, rfl⟩
  rw [hdr_agg]
  have hs := hdr_sm (h := h) (n := 1048576) (by omega) (by omega)
  have hl := vals_len (l := l) (n := 1048576) (by omega) (by omega)
  have d1 := seeds_of (l := s) (n := 1048576) (by omega) (by omega)
  have d2 := seeds_of (l := t) (n := 1048576) (by omega) (by omega)
  have hst : s.length + t.length ≤ 1048576 := by
    have h1 := bk_len (fun b => [bI b]) s
    have h2 := bk_len (fun b => [bI b]) t
    unfold bbI at hb; omega
  have d3 := more_bb d1 d2 hst
  have c0 := alive6_A
  have c1 := hsign_A h l s hs hl hk d1
  have c2 := hsign_A h l (s ++ t) hs hl hk d3
  have u1 := uni_bb s
  have u2 := uni_bb t
  simp only [bI] at u1 u2
  have f1 : s.length * 24 ≤ 140737488355328 := by omega
  have f2 : s.length ≤ 140737488355328 := by omega
  have f3 : (s.length + t.length) * 24 ≤ 140737488355328 := by omega
  have f4 : s.length + t.length ≤ 140737488355328 := by omega
  clear hb
  refine hide_r fun R hR => ?_
  by_cases hok : SignOk h l
  · have c3 := hcheck_A _ (sgn_sm s hs hl hk)
    have c4 := hcheck_A _ (sgn_sm (s ++ t) hs hl hk)
    have himp : checkS ⟨h, l, l.map (voteF h s)⟩ = 0 → checkS ⟨h, l, l.map (voteF h (s ++ t))⟩ = 0 := by
      rw [check_voted hok, check_voted hok]
      have := voted_more s t l
      omega
    rw [sign_ok hok] at c1 c2
    simp only at c1 c2
    generalize (⟨h, l, l.map (voteF h s)⟩ : SignedD) = A at *
    generalize (⟨h, l, l.map (voteF h (s ++ t))⟩ : SignedD) = B at *
    clear hok hs hl d1 d2 d3 hk hst
    by_cases hA : checkS A = 0
    · have hB := himp hA
      rw [hA] at c3
      rw [hB] at c4
      clear himp hA hB
      refine callD_W 50 Try.func6 rfl rfl rfl (fun _ _ => rfl) ?_
      (repeat' (first | (simp -implicitDefEqProofs only [go_sem, Nat.reduceLT, Nat.reduceAdd, Nat.reduceMul, reduceIte, Nat.reduceEqDiff, reduceCtorEq, Nat.reducePow, Nat.reduceLeDiff, Int.reduceLE, Int.reduceLT, Int.reduceToNat, Int.reduceEq, Nat.reduceBEq, valsI, bI, hdrD, bbI, signedD, votesI, intD, boolD, List.map_append, take_app2, *]) | (with_reducible refine ⟨?_, ?_⟩; (· first | (obtain ⟨rfl⟩ := ‹Hq _ _›; with_reducible refine chk_ok ?_; kernel_rfl) | kernel_rfl)) | (with_reducible intro ops hops) | (simp -implicitDefEqProofs (disch := omega) only [wr64, wru64, get_lt]) | ((with_reducible refine call_id ?_); (first | ((with_reducible refine Call_fl (c0) ?_ ?_ ?_); (· (simp [valsI, bI, hdrD, bbI, signedD, votesI, intD, boolD, List.map_append, take_app2]; done)); (· (simp [valsI, bI, hdrD, bbI, signedD, votesI, intD, boolD, List.map_append, take_app2, and_assoc]; done))) | ((with_reducible refine Call_fz (c1) ?_ ?_); (· (simp [valsI, bI, hdrD, bbI, signedD, votesI, intD, boolD, List.map_append, take_app2, and_assoc]; done))) | ((with_reducible refine Call_fz (c2) ?_ ?_); (· (simp [valsI, bI, hdrD, bbI, signedD, votesI, intD, boolD, List.map_append, take_app2, and_assoc]; done))) | ((with_reducible refine Call_fl (c3) ?_ ?_ ?_); (· (simp [valsI, bI, hdrD, bbI, signedD, votesI, intD, boolD, List.map_append, take_app2]; done)); (· (simp [valsI, bI, hdrD, bbI, signedD, votesI, intD, boolD, List.map_append, take_app2, and_assoc]; done))) | ((with_reducible refine Call_fl (c4) ?_ ?_ ?_); (· (simp [valsI, bI, hdrD, bbI, signedD, votesI, intD, boolD, List.map_append, take_app2]; done)); (· (simp [valsI, bI, hdrD, bbI, signedD, votesI, intD, boolD, List.map_append, take_app2, and_assoc]; done))))) | ((with_reducible refine callF_id ?_); (first | ((with_reducible refine CallF_fl (c0) ?_ ?_ ?_); (· (simp [valsI, bI, hdrD, bbI, signedD, votesI, intD, boolD, List.map_append, take_app2]; done)); (· (intro G hG; simp [valsI, bI, hdrD, bbI, signedD, votesI, intD, boolD, List.map_append, take_app2] at hG; simp [valsI, bI, hdrD, bbI, signedD, votesI, intD, boolD, List.map_append, take_app2, hG, and_assoc]; done))) | ((with_reducible refine CallF_fz (c1) ?_ ?_); (· (intro G hG; simp [valsI, bI, hdrD, bbI, signedD, votesI, intD, boolD, List.map_append, take_app2] at hG; simp [valsI, bI, hdrD, bbI, signedD, votesI, intD, boolD, List.map_append, take_app2, hG, and_assoc]; done))) | ((with_reducible refine CallF_fz (c2) ?_ ?_); (· (intro G hG; simp [valsI, bI, hdrD, bbI, signedD, votesI, intD, boolD, List.map_append, take_app2] at hG; simp [valsI, bI, hdrD, bbI, signedD, votesI, intD, boolD, List.map_append, take_app2, hG, and_assoc]; done))) | ((with_reducible refine CallF_fl (c3) ?_ ?_ ?_); (· (simp [valsI, bI, hdrD, bbI, signedD, votesI, intD, boolD, List.map_append, take_app2]; done)); (· (intro G hG; simp [valsI, bI, hdrD, bbI, signedD, votesI, intD, boolD, List.map_append, take_app2] at hG; simp [valsI, bI, hdrD, bbI, signedD, votesI, intD, boolD, List.map_append, take_app2, hG, and_assoc]; done))) | ((with_reducible refine CallF_fl (c4) ?_ ?_ ?_); (· (simp [valsI, bI, hdrD, bbI, signedD, votesI, intD, boolD, List.map_append, take_app2]; done)); (· (intro G hG; simp [valsI, bI, hdrD, bbI, signedD, votesI, intD, boolD, List.map_append, take_app2] at hG; simp [valsI, bI, hdrD, bbI, signedD, votesI, intD, boolD, List.map_append, take_app2, hG, and_assoc]; done))))) | ((first | refine Wc_split (fun hg => ?_) (fun hg => ?_) | refine RoG_split (fun hg => ?_) (fun hg => ?_) | refine RdG_split (fun hg => ?_) (fun hg => ?_)) <;> (try simp only [nrm] at hg) <;> (try simp only [hg, lgc, reduceIte, reduceCtorEq] at hR) <;> (try (exfalso; omega))) | ((try simp only [*, lgc, reduceIte, reduceCtorEq] at hR); obtain ⟨rfl⟩ := hR; refine fin_q (rs := [.tmp 8]) rfl ?_; (try simp only [go_sem, Nat.reduceLT, Nat.reduceAdd, Nat.reduceMul, reduceIte, Nat.reduceEqDiff, reduceCtorEq, Nat.reducePow, Nat.reduceLeDiff, Int.reduceLE, Int.reduceLT, Int.reduceToNat, Int.reduceEq, Nat.reduceBEq, valsI, bI, hdrD, bbI, signedD, votesI, intD, boolD, List.map_append, take_app2]); (simp [valsI, bI, hdrD, bbI, signedD, votesI, intD, boolD, List.map_append, take_app2]; done))))
    · generalize checkS A = X at *
      generalize checkS B = Y at *
      clear himp
      refine callD_W 50 Try.func6 rfl rfl rfl (fun _ _ => rfl) ?_
      (repeat' (first | (simp -implicitDefEqProofs only [go_sem, Nat.reduceLT, Nat.reduceAdd, Nat.reduceMul, reduceIte, Nat.reduceEqDiff, reduceCtorEq, Nat.reducePow, Nat.reduceLeDiff, Int.reduceLE, Int.reduceLT, Int.reduceToNat, Int.reduceEq, Nat.reduceBEq, valsI, bI, hdrD, bbI, signedD, votesI, intD, boolD, List.map_append, take_app2, *]) | (with_reducible refine ⟨?_, ?_⟩; (· first | (obtain ⟨rfl⟩ := ‹Hq _ _›; with_reducible refine chk_ok ?_; kernel_rfl) | kernel_rfl)) | (with_reducible intro ops hops) | (simp -implicitDefEqProofs (disch := omega) only [wr64, wru64, get_lt]) | ((with_reducible refine call_id ?_); (first | ((with_reducible refine Call_fl (c0) ?_ ?_ ?_); (· (simp [valsI, bI, hdrD, bbI, signedD, votesI, intD, boolD, List.map_append, take_app2]; done)); (· (simp [valsI, bI, hdrD, bbI, signedD, votesI, intD, boolD, List.map_append, take_app2, and_assoc]; done))) | ((with_reducible refine Call_fz (c1) ?_ ?_); (· (simp [valsI, bI, hdrD, bbI, signedD, votesI, intD, boolD, List.map_append, take_app2, and_assoc]; done))) | ((with_reducible refine Call_fz (c2) ?_ ?_); (· (simp [valsI, bI, hdrD, bbI, signedD, votesI, intD, boolD, List.map_append, take_app2, and_assoc]; done))) | ((with_reducible refine Call_fl (c3) ?_ ?_ ?_); (· (simp [valsI, bI, hdrD, bbI, signedD, votesI, intD, boolD, List.map_append, take_app2]; done)); (· (simp [valsI, bI, hdrD, bbI, signedD, votesI, intD, boolD, List.map_append, take_app2, and_assoc]; done))) | ((with_reducible refine Call_fl (c4) ?_ ?_ ?_); (· (simp [valsI, bI, hdrD, bbI, signedD, votesI, intD, boolD, List.map_append, take_app2]; done)); (· (simp [valsI, bI, hdrD, bbI, signedD, votesI, intD, boolD, List.map_append, take_app2, and_assoc]; done))))) | ((with_reducible refine callF_id ?_); (first | ((with_reducible refine CallF_fl (c0) ?_ ?_ ?_); (· (simp [valsI, bI, hdrD, bbI, signedD, votesI, intD, boolD, List.map_append, take_app2]; done)); (· (intro G hG; simp [valsI, bI, hdrD, bbI, signedD, votesI, intD, boolD, List.map_append, take_app2] at hG; simp [valsI, bI, hdrD, bbI, signedD, votesI, intD, boolD, List.map_append, take_app2, hG, and_assoc]; done))) | ((with_reducible refine CallF_fz (c1) ?_ ?_); (· (intro G hG; simp [valsI, bI, hdrD, bbI, signedD, votesI, intD, boolD, List.map_append, take_app2] at hG; simp [valsI, bI, hdrD, bbI, signedD, votesI, intD, boolD, List.map_append, take_app2, hG, and_assoc]; done))) | ((with_reducible refine CallF_fz (c2) ?_ ?_); (· (intro G hG; simp [valsI, bI, hdrD, bbI, signedD, votesI, intD, boolD, List.map_append, take_app2] at hG; simp [valsI, bI, hdrD, bbI, signedD, votesI, intD, boolD, List.map_append, take_app2, hG, and_assoc]; done))) | ((with_reducible refine CallF_fl (c3) ?_ ?_ ?_); (· (simp [valsI, bI, hdrD, bbI, signedD, votesI, intD, boolD, List.map_append, take_app2]; done)); (· (intro G hG; simp [valsI, bI, hdrD, bbI, signedD, votesI, intD, boolD, List.map_append, take_app2] at hG; simp [valsI, bI, hdrD, bbI, signedD, votesI, intD, boolD, List.map_append, take_app2, hG, and_assoc]; done))) | ((with_reducible refine CallF_fl (c4) ?_ ?_ ?_); (· (simp [valsI, bI, hdrD, bbI, signedD, votesI, intD, boolD, List.map_append, take_app2]; done)); (· (intro G hG; simp [valsI, bI, hdrD, bbI, signedD, votesI, intD, boolD, List.map_append, take_app2] at hG; simp [valsI, bI, hdrD, bbI, signedD, votesI, intD, boolD, List.map_append, take_app2, hG, and_assoc]; done))))) | ((first | refine Wc_split (fun hg => ?_) (fun hg => ?_) | refine RoG_split (fun hg => ?_) (fun hg => ?_) | refine RdG_split (fun hg => ?_) (fun hg => ?_)) <;> (try simp only [nrm] at hg) <;> (try simp only [hg, lgc, reduceIte, reduceCtorEq] at hR) <;> (try (exfalso; omega))) | ((try simp only [*, lgc, reduceIte, reduceCtorEq] at hR); obtain ⟨rfl⟩ := hR; refine fin_q (rs := [.tmp 8]) rfl ?_; (try simp only [go_sem, Nat.reduceLT, Nat.reduceAdd, Nat.reduceMul, reduceIte, Nat.reduceEqDiff, reduceCtorEq, Nat.reducePow, Nat.reduceLeDiff, Int.reduceLE, Int.reduceLT, Int.reduceToNat, Int.reduceEq, Nat.reduceBEq, valsI, bI, hdrD, bbI, signedD, votesI, intD, boolD, List.map_append, take_app2]); (simp [valsI, bI, hdrD, bbI, signedD, votesI, intD, boolD, List.map_append, take_app2]; done))))
  · have he := sign_err h l s (s ++ t)
    have hne : ¬ (signF h l s).2 = 0 := fun e => hok (sign_iff.1 e)
    rw [he] at c1 hne
    clear hok hs hl d1 d2 d3 hk hst he
    generalize (signF h l (s ++ t)).2 = E at *
    generalize (signF h l (s ++ t)).1 = A at *
    generalize (signF h l s).1 = B at *
    refine callD_W 50 Try.func6 rfl rfl rfl (fun _ _ => rfl) ?_
    (repeat' (first | (simp -implicitDefEqProofs only [go_sem, Nat.reduceLT, Nat.reduceAdd, Nat.reduceMul, reduceIte, Nat.reduceEqDiff, reduceCtorEq, Nat.reducePow, Nat.reduceLeDiff, Int.reduceLE, Int.reduceLT, Int.reduceToNat, Int.reduceEq, Nat.reduceBEq, valsI, bI, hdrD, bbI, signedD, votesI, intD, boolD, List.map_append, take_app2, *]) | (with_reducible refine ⟨?_, ?_⟩; (· first | (obtain ⟨rfl⟩ := ‹Hq _ _›; with_reducible refine chk_ok ?_; kernel_rfl) | kernel_rfl)) | (with_reducible intro ops hops) | (simp -implicitDefEqProofs (disch := omega) only [wr64, wru64, get_lt]) | ((with_reducible refine call_id ?_); (first | ((with_reducible refine Call_fl (c0) ?_ ?_ ?_); (· (simp [valsI, bI, hdrD, bbI, signedD, votesI, intD, boolD, List.map_append, take_app2]; done)); (· (simp [valsI, bI, hdrD, bbI, signedD, votesI, intD, boolD, List.map_append, take_app2, and_assoc]; done))) | ((with_reducible refine Call_fz (c1) ?_ ?_); (· (simp [valsI, bI, hdrD, bbI, signedD, votesI, intD, boolD, List.map_append, take_app2, and_assoc]; done))) | ((with_reducible refine Call_fz (c2) ?_ ?_); (· (simp [valsI, bI, hdrD, bbI, signedD, votesI, intD, boolD, List.map_append, take_app2, and_assoc]; done))))) | ((with_reducible refine callF_id ?_); (first | ((with_reducible refine CallF_fl (c0) ?_ ?_ ?_); (· (simp [valsI, bI, hdrD, bbI, signedD, votesI, intD, boolD, List.map_append, take_app2]; done)); (· (intro G hG; simp [valsI, bI, hdrD, bbI, signedD, votesI, intD, boolD, List.map_append, take_app2] at hG; simp [valsI, bI, hdrD, bbI, signedD, votesI, intD, boolD, List.map_append, take_app2, hG, and_assoc]; done))) | ((with_reducible refine CallF_fz (c1) ?_ ?_); (· (intro G hG; simp [valsI, bI, hdrD, bbI, signedD, votesI, intD, boolD, List.map_append, take_app2] at hG; simp [valsI, bI, hdrD, bbI, signedD, votesI, intD, boolD, List.map_append, take_app2, hG, and_assoc]; done))) | ((with_reducible refine CallF_fz (c2) ?_ ?_); (· (intro G hG; simp [valsI, bI, hdrD, bbI, signedD, votesI, intD, boolD, List.map_append, take_app2] at hG; simp [valsI, bI, hdrD, bbI, signedD, votesI, intD, boolD, List.map_append, take_app2, hG, and_assoc]; done))))) | ((first | refine Wc_split (fun hg => ?_) (fun hg => ?_) | refine RoG_split (fun hg => ?_) (fun hg => ?_) | refine RdG_split (fun hg => ?_) (fun hg => ?_)) <;> (try simp only [nrm] at hg) <;> (try simp only [hg, lgc, reduceIte, reduceCtorEq] at hR) <;> (try (exfalso; omega))) | ((try simp only [*, lgc, reduceIte, reduceCtorEq] at hR); obtain ⟨rfl⟩ := hR; refine fin_q (rs := [.tmp 8]) rfl ?_; (try simp only [go_sem, Nat.reduceLT, Nat.reduceAdd, Nat.reduceMul, reduceIte, Nat.reduceEqDiff, reduceCtorEq, Nat.reducePow, Nat.reduceLeDiff, Int.reduceLE, Int.reduceLT, Int.reduceToNat, Int.reduceEq, Nat.reduceBEq, valsI, bI, hdrD, bbI, signedD, votesI, intD, boolD, List.map_append, take_app2]); (simp [valsI, bI, hdrD, bbI, signedD, votesI, intD, boolD, List.map_append, take_app2]; done))))
end Go.Proofs.Ytdpfjmkilbepgaa
