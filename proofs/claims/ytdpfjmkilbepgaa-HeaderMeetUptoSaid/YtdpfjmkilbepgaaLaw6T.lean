/- HeaderMeet: by value. (hdrD signedD) -/
import Derived.Test.YtdpfjmkilbepgaaLaw6V
set_option linter.all false
namespace Go.Proofs.Ytdpfjmkilbepgaa
open Go Go.Abs Go.RowKit Go.Proofs.Ytdpfjmkilbepgaa.Ty

set_option maxHeartbeats 8000000
theorem walk_HeaderMeet (y0 : I) (l : List ValD) (e0 : y0 = valsI l ∧ ∀ v ∈ l, Val64 v) (y1 : List I) (a : HdrD) (e1 : y1 = encH a) (y2 : List I) (b : HdrD) (e2 : y2 = encH b) (y3 : I) (s : List (List UInt8)) (e3 : y3 = bbI s) (y4 : I) (t : List (List UInt8)) (e4 : y4 = bbI t)
    (hb : bkI y0 + bkL y1 + bkL y2 + bkI y3 + bkI y4 ≤ 1048576) :
    ∃ Ds, PureD Try.prog 9 Ds (.i (.s (.bool true))) ∧ Ds = [.i y0, .agg (y1.map .i), .agg (y2.map .i), .i y3, .i y4] := by
  obtain ⟨rfl, hk⟩ := e0
  subst e1
  subst e2
  subst e3
  subst e4
  refine ⟨_, ?_, rfl⟩
  rw [hdr_agg, hdr_agg]
  have hsa := hdr_sm (h := a) (n := 1048576) (by omega) (by omega)
  have hsb := hdr_sm (h := b) (n := 1048576) (by omega) (by omega)
  have hl := vals_len (l := l) (n := 1048576) (by omega) (by omega)
  have d1 := seeds_of (l := s) (n := 1048576) (by omega) (by omega)
  have d2 := seeds_of (l := t) (n := 1048576) (by omega) (by omega)
  have c0 := alive6_A
  have c1 := hsign_A a l s hsa hl hk d1
  have c2 := hsign_A b l t hsb hl hk d2
  clear hb
  refine hide_r fun R hR => ?_
  by_cases hoka : SignOk a l
  rotate_left
  · have hne : ¬ (signF a l s).2 = 0 := fun e => hoka (sign_iff.1 e)
    clear hoka hsa hsb hl d1 d2 hk
    generalize (signF a l s).2 = E at *
    generalize (signF a l s).1 = A at *
    generalize (signF b l t).2 = E2 at *
    generalize (signF b l t).1 = B at *
    refine callD_W 95 Try.func9 rfl rfl rfl (fun _ _ => rfl) ?_
    (repeat' (first | (simp -implicitDefEqProofs only [go_sem, Nat.reduceLT, Nat.reduceAdd, Nat.reduceMul, reduceIte, Nat.reduceEqDiff, reduceCtorEq, Nat.reducePow, Nat.reduceLeDiff, Int.reduceLE, Int.reduceLT, Int.reduceToNat, Int.reduceEq, Nat.reduceBEq, valsI, hdrD, bbI, signedD, votesI, *]) | (with_reducible refine ⟨?_, ?_⟩; (· first | (obtain ⟨rfl⟩ := ‹Hq _ _›; with_reducible refine chk_ok ?_; kernel_rfl) | kernel_rfl)) | (with_reducible intro ops hops) | (simp -implicitDefEqProofs (disch := omega) only [wr64, wru64, get_lt]) | ((with_reducible refine call_id ?_); (first | ((with_reducible refine Call_fl (c0) ?_ ?_ ?_); (· (simp [valsI, hdrD, bbI, signedD, votesI]; done)); (· (simp [valsI, hdrD, bbI, signedD, votesI, and_assoc]; done))) | ((with_reducible refine Call_fz (c1) ?_ ?_); (· (simp [valsI, hdrD, bbI, signedD, votesI, and_assoc]; done))) | ((with_reducible refine Call_fz (c2) ?_ ?_); (· (simp [valsI, hdrD, bbI, signedD, votesI, and_assoc]; done))))) | ((with_reducible refine callF_id ?_); (first | ((with_reducible refine CallF_fl (c0) ?_ ?_ ?_); (· (simp [valsI, hdrD, bbI, signedD, votesI]; done)); (· (intro G hG; simp [valsI, hdrD, bbI, signedD, votesI] at hG; simp [valsI, hdrD, bbI, signedD, votesI, hG, and_assoc]; done))) | ((with_reducible refine CallF_fz (c1) ?_ ?_); (· (intro G hG; simp [valsI, hdrD, bbI, signedD, votesI] at hG; simp [valsI, hdrD, bbI, signedD, votesI, hG, and_assoc]; done))) | ((with_reducible refine CallF_fz (c2) ?_ ?_); (· (intro G hG; simp [valsI, hdrD, bbI, signedD, votesI] at hG; simp [valsI, hdrD, bbI, signedD, votesI, hG, and_assoc]; done))))) | ((first | refine Wc_split (fun hg => ?_) (fun hg => ?_) | refine RoG_split (fun hg => ?_) (fun hg => ?_) | refine RdG_split (fun hg => ?_) (fun hg => ?_)) <;> (try simp only [nrm] at hg) <;> (try simp only [hg, lgc, reduceIte, reduceCtorEq] at hR) <;> (try (exfalso; omega))) | ((try simp only [*, lgc, reduceIte, reduceCtorEq] at hR); obtain ⟨rfl⟩ := hR; refine fin_q (rs := [.tmp 10]) rfl ?_; (try simp only [go_sem, Nat.reduceLT, Nat.reduceAdd, Nat.reduceMul, reduceIte, Nat.reduceEqDiff, reduceCtorEq, Nat.reducePow, Nat.reduceLeDiff, Int.reduceLE, Int.reduceLT, Int.reduceToNat, Int.reduceEq, Nat.reduceBEq, valsI, hdrD, bbI, signedD, votesI]); (simp [valsI, hdrD, bbI, signedD, votesI]; done))))
  rw [sign_ok hoka] at c1
  by_cases hokb : SignOk b l
  rotate_left
  · have hne : ¬ (signF b l t).2 = 0 := fun e => hokb (sign_iff.1 e)
    clear hoka hokb hsa hsb hl d1 d2 hk
    generalize (⟨a, l, l.map (voteF a s)⟩ : SignedD) = A at *
    generalize (signF b l t).2 = E2 at *
    generalize (signF b l t).1 = B at *
    simp only at c1
    refine callD_W 95 Try.func9 rfl rfl rfl (fun _ _ => rfl) ?_
    (repeat' (first | (simp -implicitDefEqProofs only [go_sem, Nat.reduceLT, Nat.reduceAdd, Nat.reduceMul, reduceIte, Nat.reduceEqDiff, reduceCtorEq, Nat.reducePow, Nat.reduceLeDiff, Int.reduceLE, Int.reduceLT, Int.reduceToNat, Int.reduceEq, Nat.reduceBEq, valsI, hdrD, bbI, signedD, votesI, *]) | (with_reducible refine ⟨?_, ?_⟩; (· first | (obtain ⟨rfl⟩ := ‹Hq _ _›; with_reducible refine chk_ok ?_; kernel_rfl) | kernel_rfl)) | (with_reducible intro ops hops) | (simp -implicitDefEqProofs (disch := omega) only [wr64, wru64, get_lt]) | ((with_reducible refine call_id ?_); (first | ((with_reducible refine Call_fl (c0) ?_ ?_ ?_); (· (simp [valsI, hdrD, bbI, signedD, votesI]; done)); (· (simp [valsI, hdrD, bbI, signedD, votesI, and_assoc]; done))) | ((with_reducible refine Call_fz (c1) ?_ ?_); (· (simp [valsI, hdrD, bbI, signedD, votesI, and_assoc]; done))) | ((with_reducible refine Call_fz (c2) ?_ ?_); (· (simp [valsI, hdrD, bbI, signedD, votesI, and_assoc]; done))))) | ((with_reducible refine callF_id ?_); (first | ((with_reducible refine CallF_fl (c0) ?_ ?_ ?_); (· (simp [valsI, hdrD, bbI, signedD, votesI]; done)); (· (intro G hG; simp [valsI, hdrD, bbI, signedD, votesI] at hG; simp [valsI, hdrD, bbI, signedD, votesI, hG, and_assoc]; done))) | ((with_reducible refine CallF_fz (c1) ?_ ?_); (· (intro G hG; simp [valsI, hdrD, bbI, signedD, votesI] at hG; simp [valsI, hdrD, bbI, signedD, votesI, hG, and_assoc]; done))) | ((with_reducible refine CallF_fz (c2) ?_ ?_); (· (intro G hG; simp [valsI, hdrD, bbI, signedD, votesI] at hG; simp [valsI, hdrD, bbI, signedD, votesI, hG, and_assoc]; done))))) | ((first | refine Wc_split (fun hg => ?_) (fun hg => ?_) | refine RoG_split (fun hg => ?_) (fun hg => ?_) | refine RdG_split (fun hg => ?_) (fun hg => ?_)) <;> (try simp only [nrm] at hg) <;> (try simp only [hg, lgc, reduceIte, reduceCtorEq] at hR) <;> (try (exfalso; omega))) | ((try simp only [*, lgc, reduceIte, reduceCtorEq] at hR); obtain ⟨rfl⟩ := hR; refine fin_q (rs := [.tmp 10]) rfl ?_; (try simp only [go_sem, Nat.reduceLT, Nat.reduceAdd, Nat.reduceMul, reduceIte, Nat.reduceEqDiff, reduceCtorEq, Nat.reducePow, Nat.reduceLeDiff, Int.reduceLE, Int.reduceLT, Int.reduceToNat, Int.reduceEq, Nat.reduceBEq, valsI, hdrD, bbI, signedD, votesI]); (simp [valsI, hdrD, bbI, signedD, votesI]; done))))
  rw [sign_ok hokb] at c2
  simp only at c1 c2
  have c3 := hcheck_A _ (sgn_sm s hsa hl hk)
  have c4 := hcheck_A _ (sgn_sm t hsb hl hk)
  by_cases hca : checkS ⟨a, l, l.map (voteF a s)⟩ = 0
  rotate_left
  · generalize (⟨a, l, l.map (voteF a s)⟩ : SignedD) = A at *
    generalize (⟨b, l, l.map (voteF b t)⟩ : SignedD) = B at *
    clear hoka hokb hsa hsb hl d1 d2 hk
    generalize checkS A = X at *
    generalize checkS B = Y at *
    refine callD_W 95 Try.func9 rfl rfl rfl (fun _ _ => rfl) ?_
    (repeat' (first | (simp -implicitDefEqProofs only [go_sem, Nat.reduceLT, Nat.reduceAdd, Nat.reduceMul, reduceIte, Nat.reduceEqDiff, reduceCtorEq, Nat.reducePow, Nat.reduceLeDiff, Int.reduceLE, Int.reduceLT, Int.reduceToNat, Int.reduceEq, Nat.reduceBEq, valsI, hdrD, bbI, signedD, votesI, *]) | (with_reducible refine ⟨?_, ?_⟩; (· first | (obtain ⟨rfl⟩ := ‹Hq _ _›; with_reducible refine chk_ok ?_; kernel_rfl) | kernel_rfl)) | (with_reducible intro ops hops) | (simp -implicitDefEqProofs (disch := omega) only [wr64, wru64, get_lt]) | ((with_reducible refine call_id ?_); (first | ((with_reducible refine Call_fl (c0) ?_ ?_ ?_); (· (simp [valsI, hdrD, bbI, signedD, votesI]; done)); (· (simp [valsI, hdrD, bbI, signedD, votesI, and_assoc]; done))) | ((with_reducible refine Call_fz (c1) ?_ ?_); (· (simp [valsI, hdrD, bbI, signedD, votesI, and_assoc]; done))) | ((with_reducible refine Call_fz (c2) ?_ ?_); (· (simp [valsI, hdrD, bbI, signedD, votesI, and_assoc]; done))) | ((with_reducible refine Call_fl (c3) ?_ ?_ ?_); (· (simp [valsI, hdrD, bbI, signedD, votesI]; done)); (· (simp [valsI, hdrD, bbI, signedD, votesI, and_assoc]; done))) | ((with_reducible refine Call_fl (c4) ?_ ?_ ?_); (· (simp [valsI, hdrD, bbI, signedD, votesI]; done)); (· (simp [valsI, hdrD, bbI, signedD, votesI, and_assoc]; done))))) | ((with_reducible refine callF_id ?_); (first | ((with_reducible refine CallF_fl (c0) ?_ ?_ ?_); (· (simp [valsI, hdrD, bbI, signedD, votesI]; done)); (· (intro G hG; simp [valsI, hdrD, bbI, signedD, votesI] at hG; simp [valsI, hdrD, bbI, signedD, votesI, hG, and_assoc]; done))) | ((with_reducible refine CallF_fz (c1) ?_ ?_); (· (intro G hG; simp [valsI, hdrD, bbI, signedD, votesI] at hG; simp [valsI, hdrD, bbI, signedD, votesI, hG, and_assoc]; done))) | ((with_reducible refine CallF_fz (c2) ?_ ?_); (· (intro G hG; simp [valsI, hdrD, bbI, signedD, votesI] at hG; simp [valsI, hdrD, bbI, signedD, votesI, hG, and_assoc]; done))) | ((with_reducible refine CallF_fl (c3) ?_ ?_ ?_); (· (simp [valsI, hdrD, bbI, signedD, votesI]; done)); (· (intro G hG; simp [valsI, hdrD, bbI, signedD, votesI] at hG; simp [valsI, hdrD, bbI, signedD, votesI, hG, and_assoc]; done))) | ((with_reducible refine CallF_fl (c4) ?_ ?_ ?_); (· (simp [valsI, hdrD, bbI, signedD, votesI]; done)); (· (intro G hG; simp [valsI, hdrD, bbI, signedD, votesI] at hG; simp [valsI, hdrD, bbI, signedD, votesI, hG, and_assoc]; done))))) | ((first | refine Wc_split (fun hg => ?_) (fun hg => ?_) | refine RoG_split (fun hg => ?_) (fun hg => ?_) | refine RdG_split (fun hg => ?_) (fun hg => ?_)) <;> (try simp only [nrm] at hg) <;> (try simp only [hg, lgc, reduceIte, reduceCtorEq] at hR) <;> (try (exfalso; omega))) | ((try simp only [*, lgc, reduceIte, reduceCtorEq] at hR); obtain ⟨rfl⟩ := hR; refine fin_q (rs := [.tmp 10]) rfl ?_; (try simp only [go_sem, Nat.reduceLT, Nat.reduceAdd, Nat.reduceMul, reduceIte, Nat.reduceEqDiff, reduceCtorEq, Nat.reducePow, Nat.reduceLeDiff, Int.reduceLE, Int.reduceLT, Int.reduceToNat, Int.reduceEq, Nat.reduceBEq, valsI, hdrD, bbI, signedD, votesI]); (simp [valsI, hdrD, bbI, signedD, votesI]; done))))
  rw [hca] at c3
  by_cases hcb : checkS ⟨b, l, l.map (voteF b t)⟩ = 0
  rotate_left
  · generalize (⟨a, l, l.map (voteF a s)⟩ : SignedD) = A at *
    generalize (⟨b, l, l.map (voteF b t)⟩ : SignedD) = B at *
    clear hoka hokb hsa hsb hl d1 d2 hk hca
    generalize checkS B = Y at *
    refine callD_W 95 Try.func9 rfl rfl rfl (fun _ _ => rfl) ?_
    (repeat' (first | (simp -implicitDefEqProofs only [go_sem, Nat.reduceLT, Nat.reduceAdd, Nat.reduceMul, reduceIte, Nat.reduceEqDiff, reduceCtorEq, Nat.reducePow, Nat.reduceLeDiff, Int.reduceLE, Int.reduceLT, Int.reduceToNat, Int.reduceEq, Nat.reduceBEq, valsI, hdrD, bbI, signedD, votesI, *]) | (with_reducible refine ⟨?_, ?_⟩; (· first | (obtain ⟨rfl⟩ := ‹Hq _ _›; with_reducible refine chk_ok ?_; kernel_rfl) | kernel_rfl)) | (with_reducible intro ops hops) | (simp -implicitDefEqProofs (disch := omega) only [wr64, wru64, get_lt]) | ((with_reducible refine call_id ?_); (first | ((with_reducible refine Call_fl (c0) ?_ ?_ ?_); (· (simp [valsI, hdrD, bbI, signedD, votesI]; done)); (· (simp [valsI, hdrD, bbI, signedD, votesI, and_assoc]; done))) | ((with_reducible refine Call_fz (c1) ?_ ?_); (· (simp [valsI, hdrD, bbI, signedD, votesI, and_assoc]; done))) | ((with_reducible refine Call_fz (c2) ?_ ?_); (· (simp [valsI, hdrD, bbI, signedD, votesI, and_assoc]; done))) | ((with_reducible refine Call_fl (c3) ?_ ?_ ?_); (· (simp [valsI, hdrD, bbI, signedD, votesI]; done)); (· (simp [valsI, hdrD, bbI, signedD, votesI, and_assoc]; done))) | ((with_reducible refine Call_fl (c4) ?_ ?_ ?_); (· (simp [valsI, hdrD, bbI, signedD, votesI]; done)); (· (simp [valsI, hdrD, bbI, signedD, votesI, and_assoc]; done))))) | ((with_reducible refine callF_id ?_); (first | ((with_reducible refine CallF_fl (c0) ?_ ?_ ?_); (· (simp [valsI, hdrD, bbI, signedD, votesI]; done)); (· (intro G hG; simp [valsI, hdrD, bbI, signedD, votesI] at hG; simp [valsI, hdrD, bbI, signedD, votesI, hG, and_assoc]; done))) | ((with_reducible refine CallF_fz (c1) ?_ ?_); (· (intro G hG; simp [valsI, hdrD, bbI, signedD, votesI] at hG; simp [valsI, hdrD, bbI, signedD, votesI, hG, and_assoc]; done))) | ((with_reducible refine CallF_fz (c2) ?_ ?_); (· (intro G hG; simp [valsI, hdrD, bbI, signedD, votesI] at hG; simp [valsI, hdrD, bbI, signedD, votesI, hG, and_assoc]; done))) | ((with_reducible refine CallF_fl (c3) ?_ ?_ ?_); (· (simp [valsI, hdrD, bbI, signedD, votesI]; done)); (· (intro G hG; simp [valsI, hdrD, bbI, signedD, votesI] at hG; simp [valsI, hdrD, bbI, signedD, votesI, hG, and_assoc]; done))) | ((with_reducible refine CallF_fl (c4) ?_ ?_ ?_); (· (simp [valsI, hdrD, bbI, signedD, votesI]; done)); (· (intro G hG; simp [valsI, hdrD, bbI, signedD, votesI] at hG; simp [valsI, hdrD, bbI, signedD, votesI, hG, and_assoc]; done))))) | ((first | refine Wc_split (fun hg => ?_) (fun hg => ?_) | refine RoG_split (fun hg => ?_) (fun hg => ?_) | refine RdG_split (fun hg => ?_) (fun hg => ?_)) <;> (try simp only [nrm] at hg) <;> (try simp only [hg, lgc, reduceIte, reduceCtorEq] at hR) <;> (try (exfalso; omega))) | ((try simp only [*, lgc, reduceIte, reduceCtorEq] at hR); obtain ⟨rfl⟩ := hR; refine fin_q (rs := [.tmp 10]) rfl ?_; (try simp only [go_sem, Nat.reduceLT, Nat.reduceAdd, Nat.reduceMul, reduceIte, Nat.reduceEqDiff, reduceCtorEq, Nat.reducePow, Nat.reduceLeDiff, Int.reduceLE, Int.reduceLT, Int.reduceToNat, Int.reduceEq, Nat.reduceBEq, valsI, hdrD, bbI, signedD, votesI]); (simp [valsI, hdrD, bbI, signedD, votesI]; done))))
  rw [hcb] at c4
  have ok := hoka.v
  have m1 := (check_voted hoka s).1 hca
  have m2 := (check_voted hokb t).1 hcb
  have o1 := over_self (h := a) ok m1
  have o2 := over_self (h := b) ok m2
  have c5 := hover_A l ⟨a, l, l.map (voteF a s)⟩ ok ok (by simp)
  have c6 := hover_A l ⟨b, l, l.map (voteF b t)⟩ ok ok (by simp)
  rw [o1] at c5
  rw [o2] at c6
  have hbo := both_ge s t l
  have hmx : ∀ i (h : i < l.length), ((l.map (voteF a s)).map encX)[i]? = some (encX (voteF a s l[i])) := fun i h => by
    rw [List.getElem?_map, List.getElem?_map, List.getElem?_eq_getElem h]; rfl
  have hmy : ∀ i (h : i < l.length), ((l.map (voteF b t)).map encX)[i]? = some (encX (voteF b t l[i])) := fun i h => by
    rw [List.getElem?_map, List.getElem?_map, List.getElem?_eq_getElem h]; rfl
  clear hca hcb hoka hokb hsa hsb d1 d2 hk o1 o2
  generalize l.map (voteF a s) = mx at *
  generalize l.map (voteF b t) = my at *
  have hlen := ok.len
  simp only [signedD] at c3 c4 c5 c6 c1 c2
  refine callD_W 95 Try.func9 rfl rfl rfl (fun _ _ => rfl) ?_
  (repeat' (first | (simp -implicitDefEqProofs only [go_sem, Nat.reduceLT, Nat.reduceAdd, Nat.reduceMul, reduceIte, Nat.reduceEqDiff, reduceCtorEq, Nat.reducePow, Nat.reduceLeDiff, Int.reduceLE, Int.reduceLT, Int.reduceToNat, Int.reduceEq, Nat.reduceBEq, valsI, hdrD, bbI, signedD, votesI, *]) | (with_reducible refine ⟨?_, ?_⟩; (· first | (obtain ⟨rfl⟩ := ‹Hq _ _›; with_reducible refine chk_ok ?_; kernel_rfl) | kernel_rfl)) | (with_reducible intro ops hops) | (simp -implicitDefEqProofs (disch := omega) only [wr64, wru64, get_lt]) | ((with_reducible refine call_id ?_); (first | ((with_reducible refine Call_fl (c0) ?_ ?_ ?_); (· (simp [valsI, hdrD, bbI, signedD, votesI]; done)); (· (simp [valsI, hdrD, bbI, signedD, votesI, and_assoc]; done))) | ((with_reducible refine Call_fz (c1) ?_ ?_); (· (simp [valsI, hdrD, bbI, signedD, votesI, and_assoc]; done))) | ((with_reducible refine Call_fz (c2) ?_ ?_); (· (simp [valsI, hdrD, bbI, signedD, votesI, and_assoc]; done))) | ((with_reducible refine Call_fl (c3) ?_ ?_ ?_); (· (simp [valsI, hdrD, bbI, signedD, votesI]; done)); (· (simp [valsI, hdrD, bbI, signedD, votesI, and_assoc]; done))) | ((with_reducible refine Call_fl (c4) ?_ ?_ ?_); (· (simp [valsI, hdrD, bbI, signedD, votesI]; done)); (· (simp [valsI, hdrD, bbI, signedD, votesI, and_assoc]; done))))) | ((with_reducible refine callF_id ?_); (first | ((with_reducible refine CallF_fl (c0) ?_ ?_ ?_); (· (simp [valsI, hdrD, bbI, signedD, votesI]; done)); (· (intro G hG; simp [valsI, hdrD, bbI, signedD, votesI] at hG; simp [valsI, hdrD, bbI, signedD, votesI, hG, and_assoc]; done))) | ((with_reducible refine CallF_fz (c1) ?_ ?_); (· (intro G hG; simp [valsI, hdrD, bbI, signedD, votesI] at hG; simp [valsI, hdrD, bbI, signedD, votesI, hG, and_assoc]; done))) | ((with_reducible refine CallF_fz (c2) ?_ ?_); (· (intro G hG; simp [valsI, hdrD, bbI, signedD, votesI] at hG; simp [valsI, hdrD, bbI, signedD, votesI, hG, and_assoc]; done))) | ((with_reducible refine CallF_fl (c3) ?_ ?_ ?_); (· (simp [valsI, hdrD, bbI, signedD, votesI]; done)); (· (intro G hG; simp [valsI, hdrD, bbI, signedD, votesI] at hG; simp [valsI, hdrD, bbI, signedD, votesI, hG, and_assoc]; done))) | ((with_reducible refine CallF_fl (c4) ?_ ?_ ?_); (· (simp [valsI, hdrD, bbI, signedD, votesI]; done)); (· (intro G hG; simp [valsI, hdrD, bbI, signedD, votesI] at hG; simp [valsI, hdrD, bbI, signedD, votesI, hG, and_assoc]; done))))) | ((first | refine Wc_split (fun hg => ?_) (fun hg => ?_) | refine RoG_split (fun hg => ?_) (fun hg => ?_) | refine RdG_split (fun hg => ?_) (fun hg => ?_)) <;> (try simp only [nrm] at hg) <;> (try simp only [hg, lgc, reduceIte, reduceCtorEq] at hR) <;> (try (exfalso; omega))) | ((try simp only [*, lgc, reduceIte, reduceCtorEq] at hR); obtain ⟨rfl⟩ := hR; refine fin_q (rs := [.tmp 10]) rfl ?_; (try simp only [go_sem, Nat.reduceLT, Nat.reduceAdd, Nat.reduceMul, reduceIte, Nat.reduceEqDiff, reduceCtorEq, Nat.reducePow, Nat.reduceLeDiff, Int.reduceLE, Int.reduceLT, Int.reduceToNat, Int.reduceEq, Nat.reduceBEq, valsI, hdrD, bbI, signedD, votesI]); (simp [valsI, hdrD, bbI, signedD, votesI]; done))))
  refine W_loopR (ι := Nat) (fun i => i ≤ l.length)
    (fun i => stOf [(0, .i (valsI l)), (11, .pt 100 0 0 0), (13, .pt 101 0 0 0), (15, u64D (sumP (l.take i))), (16, u64D (bothP s t (l.take i))), (51, .i (valsI l)), (52, intD l.length), (53, intD i)] [(100, .box ((encS ⟨a, l, mx⟩).map .i)), (101, .box ((encS ⟨b, l, my⟩).map .i))]) (fun i => l.length - i) 0 (Nat.zero_le _) ?_ ?_
  · (refine le_stOf _ _ [] [(100, 1775), (101, 2031)] ?_ ?_ rfl rfl <;> (simp [Int.natCast_add, Int.natCast_zero, Int.natCast_one, encS, valsI, votesI, u64D, sumP, bothP]; done))
  · rintro i hi RL hL
    rw [stOf_eq]
    by_cases h1 : i < l.length
    · have e1 := get_lt (f := encV) h1
      have b1 := sumP_le ok i
      have b2 := Nat.le_trans (both_le s t (l.take i)) b1
      have b3 := ok.pow l[i] (List.getElem_mem h1)
      have t1 : sumP (l.take (i + 1)) = sumP (l.take i) + l[i].p := sum_take h1
      have t2 := both_take (s := s) (t := t) h1
      have e2 := hmx i h1
      have e3 := hmy i h1
      have v1 := (voteF_is a l[i] s).1
      have v2 := (voteF_is b l[i] t).1
      generalize voteF a s l[i] = p at *
      generalize voteF b t l[i] = q at *
      generalize l[i] = v at *
      generalize sumP (l.take i) = S at *
      generalize bothP s t (l.take i) = V at *
      have w1 : IntKind.u64.wrap ((S : Int) + (v.p : Int)) = ((S + v.p : Nat) : Int) := by rw [IntKind.wrap_u64]; omega
      have w2 : IntKind.u64.wrap ((V : Int) + (v.p : Int)) = ((V + v.p : Nat) : Int) := by rw [IntKind.wrap_u64]; omega
      rw [show bothOf s t v = if hasK s v.k = true ∧ hasK t v.k = true then v.p else 0 from rfl, ← v1, ← v2] at t2
      clear b1 b2 b3 c0 c1 c2 c3 c4 c5 c6 hR m1 m2 hbo hmx hmy v1 v2
      obtain ⟨p1, p2, p3⟩ := p
      obtain ⟨q1, q2, q3⟩ := q
      cases p1 <;> cases q1 <;> simp only [Bool.false_eq_true, false_and, and_false, and_self, if_true, if_false, Nat.add_zero] at t2
      all_goals
        (repeat' (first | (simp -implicitDefEqProofs only [go_sem, Nat.reduceLT, Nat.reduceAdd, Nat.reduceMul, reduceIte, Nat.reduceEqDiff, reduceCtorEq, Nat.reducePow, Nat.reduceLeDiff, Int.reduceLE, Int.reduceLT, Int.reduceToNat, Int.reduceEq, Nat.reduceBEq, valsI, encS, votesI, u64D, encV, encX, *]) | (with_reducible refine ⟨?_, ?_⟩; (· first | (obtain ⟨rfl⟩ := ‹Hq _ _›; with_reducible refine chk_ok ?_; kernel_rfl) | kernel_rfl)) | (with_reducible intro ops hops) | (simp -implicitDefEqProofs (disch := omega) only [wr64, wru64, get_lt]) | ((first | refine Wc_split (fun hg => ?_) (fun hg => ?_) | refine RoG_split (fun hg => ?_) (fun hg => ?_) | refine RdG_split (fun hg => ?_) (fun hg => ?_)) <;> (try simp only [nrm] at hg) <;> (try simp only [hg, lgc, reduceIte, reduceCtorEq] at hR) <;> (try (exfalso; omega))) | (refine hL (i + 1) _ (h1) ?_ ?_; (· (refine le_stOf _ _ [] [(100, 100), (101, 101)] ?_ ?_ rfl rfl <;> (simp [Int.natCast_add, Int.natCast_zero, Int.natCast_one, encS, valsI, votesI, u64D, t1, t2]; done))); (· (first | omega | (simp only; omega)))) | ((try simp only [*, lgc, reduceIte, reduceCtorEq] at hR); obtain ⟨rfl⟩ := hR; refine fin_q (rs := [.tmp 10]) rfl ?_; (try simp only [go_sem, Nat.reduceLT, Nat.reduceAdd, Nat.reduceMul, reduceIte, Nat.reduceEqDiff, reduceCtorEq, Nat.reducePow, Nat.reduceLeDiff, Int.reduceLE, Int.reduceLT, Int.reduceToNat, Int.reduceEq, Nat.reduceBEq, valsI, encS, votesI, u64D, encV, encX]); (simp [valsI, encS, votesI, u64D, encV, encX]; done))))
    · have hi' : l.take i = l := List.take_of_length_le (by omega)
      have b1 := sumP_le ok i
      have b2 := both_le s t l
      rw [hi'] at b1 ⊢
      generalize sumP l = S at *
      generalize bothP s t l = V at *
      have w1 : IntKind.u64.wrap (3 * (V : Int)) = 3 * (V : Int) := by rw [IntKind.wrap_u64]; omega
      have hgt : (S : Int) < 3 * (V : Int) := by omega
      clear b1 b2 m1 m2 hbo hmx hmy ok c0 c1 c2 c3 c4
      (repeat' (first | (simp -implicitDefEqProofs only [go_sem, Nat.reduceLT, Nat.reduceAdd, Nat.reduceMul, reduceIte, Nat.reduceEqDiff, reduceCtorEq, Nat.reducePow, Nat.reduceLeDiff, Int.reduceLE, Int.reduceLT, Int.reduceToNat, Int.reduceEq, Nat.reduceBEq, valsI, encS, votesI, u64D, signedD, *]) | (with_reducible refine ⟨?_, ?_⟩; (· first | (obtain ⟨rfl⟩ := ‹Hq _ _›; with_reducible refine chk_ok ?_; kernel_rfl) | kernel_rfl)) | (with_reducible intro ops hops) | (simp -implicitDefEqProofs (disch := omega) only [wr64, wru64, get_lt]) | ((with_reducible refine call_id ?_); (first | ((with_reducible refine Call_fl (c5) ?_ ?_ ?_); (· (simp [valsI, encS, votesI, u64D, signedD]; done)); (· (simp [valsI, encS, votesI, u64D, signedD, and_assoc]; done))) | ((with_reducible refine Call_fl (c6) ?_ ?_ ?_); (· (simp [valsI, encS, votesI, u64D, signedD]; done)); (· (simp [valsI, encS, votesI, u64D, signedD, and_assoc]; done))))) | ((with_reducible refine callF_id ?_); (first | ((with_reducible refine CallF_fl (c5) ?_ ?_ ?_); (· (simp [valsI, encS, votesI, u64D, signedD]; done)); (· (intro G hG; simp [valsI, encS, votesI, u64D, signedD] at hG; simp [valsI, encS, votesI, u64D, signedD, hG, and_assoc]; done))) | ((with_reducible refine CallF_fl (c6) ?_ ?_ ?_); (· (simp [valsI, encS, votesI, u64D, signedD]; done)); (· (intro G hG; simp [valsI, encS, votesI, u64D, signedD] at hG; simp [valsI, encS, votesI, u64D, signedD, hG, and_assoc]; done))))) | ((first | refine Wc_split (fun hg => ?_) (fun hg => ?_) | refine RoG_split (fun hg => ?_) (fun hg => ?_) | refine RdG_split (fun hg => ?_) (fun hg => ?_)) <;> (try simp only [nrm] at hg) <;> (try simp only [hg, lgc, reduceIte, reduceCtorEq] at hR) <;> (try (exfalso; omega))) | ((try simp only [*, lgc, reduceIte, reduceCtorEq] at hR); obtain ⟨rfl⟩ := hR; refine fin_q (rs := [.tmp 10]) rfl ?_; (try simp only [go_sem, Nat.reduceLT, Nat.reduceAdd, Nat.reduceMul, reduceIte, Nat.reduceEqDiff, reduceCtorEq, Nat.reducePow, Nat.reduceLeDiff, Int.reduceLE, Int.reduceLT, Int.reduceToNat, Int.reduceEq, Nat.reduceBEq, valsI, encS, votesI, u64D, signedD]); (simp [valsI, encS, votesI, u64D, signedD]; done))))
end Go.Proofs.Ytdpfjmkilbepgaa
