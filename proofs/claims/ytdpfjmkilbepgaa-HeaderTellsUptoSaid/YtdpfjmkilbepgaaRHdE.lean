/- landref6.Overlap, SameSigned, Sign: by value. (hdrD signedD) -/
import Derived.Test.YtdpfjmkilbepgaaRHdD
import Derived.Test.YtdpfjmkilbepgaaHdL
set_option linter.all false
namespace Go.Proofs.Ytdpfjmkilbepgaa
open Go Go.Abs Go.RowKit Go.Proofs.Ytdpfjmkilbepgaa.Ty

def voteB (t : ValD) (q : ValD × VoteD) : Bool := decide (q.1.k = t.k) && q.2.is
def votB (z : List (ValD × VoteD)) (t : ValD) : Bool := z.any (voteB t)
theorem votB_take {z : List (ValD × VoteD)} {t : ValD} {i : Nat} (h : i < z.length) : votB (z.take (i + 1)) t = (votB (z.take i) t || voteB t z[i]) := any_take h
theorem hit_no {t : ValD} : ∀ {z : List (ValD × VoteD)}, (∀ q ∈ z, q.1.k ≠ t.k) → hitF z t = 0 ∧ votB z t = false
  | [], _ => ⟨rfl, rfl⟩
  | a :: r, h => by
    obtain ⟨h1, h2⟩ := hit_no (z := r) (fun q hq => h q (List.mem_cons_of_mem _ hq))
    have ha := h a (List.mem_cons_self ..)
    unfold hitF votB at *
    rw [List.map_cons, List.sum_cons, h1, List.any_cons, h2]
    unfold hitOf voteB
    rw [if_neg (fun e => ha e.1), decide_eq_false ha]
    exact ⟨rfl, rfl⟩
theorem hit_vot {t : ValD} : ∀ {l : List ValD} {m : List VoteD}, l.Pairwise (fun a b => a.k < b.k) → hitF (l.zip m) t = if votB (l.zip m) t = true then t.p else 0
  | [], m, _ => by simp [hitF, votB]
  | a :: l, [], _ => by simp [hitF, votB]
  | a :: l, x :: m, hp => by
    have hp' := List.pairwise_cons.1 hp
    by_cases ha : a.k = t.k
    · obtain ⟨h1, h2⟩ := hit_no (t := t) (z := l.zip m) (fun q hq => by
        obtain ⟨v, y⟩ := q
        have := hp'.1 v (List.of_mem_zip hq).1
        simp only; omega)
      rw [List.zip_cons_cons]
      unfold hitF votB at *
      rw [List.map_cons, List.sum_cons, h1, List.any_cons, h2]
      unfold hitOf voteB
      simp [ha]
    · have ih := hit_vot (t := t) (m := m) hp'.2
      rw [List.zip_cons_cons]
      unfold hitF votB at *
      have z1 : hitOf t (a, x) = 0 := by unfold hitOf; rw [if_neg (fun e => ha e.1)]
      have z2 : voteB t (a, x) = false := by unfold voteB; rw [decide_eq_false ha]; rfl
      rw [List.map_cons, List.sum_cons, ih, List.any_cons, z1, z2, Bool.false_or, Nat.zero_add]
theorem hits_le2 (z : List (ValD × VoteD)) {l : List ValD} {m : List VoteD} (hz : z = l.zip m) (hr : l.Pairwise fun a b => a.k < b.k) (tr : List ValD) : hitsF z tr ≤ sumP tr := by
  subst hz
  exact sum_mono fun t _ => by rw [hit_vot hr]; split <;> omega
theorem hits_take {z : List (ValD × VoteD)} {tr : List ValD} {j : Nat} (h : j < tr.length) : hitsF z (tr.take (j + 1)) = hitsF z (tr.take j) + hitF z tr[j] := sum_take h
set_option maxHeartbeats 8000000
theorem rover_A (tr : List ValD) (s : SignedD) (ht : ValsOk tr) (hv : ValsOk s.vals) (hl : s.votes.length = s.vals.length) : PureD Try.prog 39 [.i (valsI tr), signedD s] (boolD (overF tr s)) := by
  refine hide_r fun R hR => ?_
  have hlen := ht.len
  have hsl := hv.len
  have hrise := hv.rise
  have hlz : (s.vals.zip s.votes).length = s.vals.length := by rw [List.length_zip]; omega
  unfold overF at hR
  refine callD_W 57 Try.func39 rfl rfl rfl (fun _ _ => rfl) ?_
  (repeat' (first | (simp -implicitDefEqProofs only [go_sem, Nat.reduceLT, Nat.reduceAdd, Nat.reduceMul, reduceIte, Nat.reduceEqDiff, reduceCtorEq, Nat.reducePow, Nat.reduceLeDiff, Int.reduceLE, Int.reduceLT, Int.reduceToNat, Int.reduceEq, Nat.reduceBEq, signedD, valsI, votesI, u64D, *]) | (with_reducible refine ⟨?_, ?_⟩; (· first | (obtain ⟨rfl⟩ := ‹Hq _ _›; with_reducible refine chk_ok ?_; kernel_rfl) | kernel_rfl)) | (with_reducible intro ops hops) | (simp -implicitDefEqProofs (disch := omega) only [wr64, wru64, get_lt]) | ((first | refine Wc_split (fun hg => ?_) (fun hg => ?_) | refine RoG_split (fun hg => ?_) (fun hg => ?_) | refine RdG_split (fun hg => ?_) (fun hg => ?_)) <;> (try simp only [nrm] at hg) <;> (try simp only [hg, lgc, reduceIte, reduceCtorEq] at hR) <;> (try (exfalso; omega))) | ((try simp only [*, lgc, reduceIte, reduceCtorEq] at hR); obtain ⟨rfl⟩ := hR; refine fin_q (rs := [.tmp 4]) rfl ?_; (try simp only [go_sem, Nat.reduceLT, Nat.reduceAdd, Nat.reduceMul, reduceIte, Nat.reduceEqDiff, reduceCtorEq, Nat.reducePow, Nat.reduceLeDiff, Int.reduceLE, Int.reduceLT, Int.reduceToNat, Int.reduceEq, Nat.reduceBEq, signedD, valsI, votesI, u64D]); (simp [signedD, valsI, votesI, u64D]; done))))
  refine W_loopR (ι := Nat) (fun j => j ≤ tr.length)
    (fun j => stOf [(3, .pt 100 0 0 0), (5, u64D (hitsF (s.vals.zip s.votes) (tr.take j))), (6, u64D (sumP (tr.take j) - hitsF (s.vals.zip s.votes) (tr.take j))), (12, .i (valsI tr)), (13, intD tr.length), (14, intD j)] [(100, .box ((encS s).map .i))]) (fun j => tr.length - j) 0 (Nat.zero_le _) ?_ ?_
  · (refine le_stOf _ _ [] [(100, 1000)] ?_ ?_ rfl rfl <;> (simp [Int.natCast_add, Int.natCast_zero, Int.natCast_one, encS, valsI, votesI, u64D, sumP, hitsF]; done))
  · rintro j hj RL hL
    rw [stOf_eq]
    by_cases h : j < tr.length
    · have e1 := get_lt (f := encV) h
      have b1 := sumP_le ht j
      have b2 := hits_le2 _ rfl hrise (m := s.votes) (tr.take j)
      have b3 := ht.pow tr[j] (List.getElem_mem h)
      have t1 : sumP (tr.take (j + 1)) = sumP (tr.take j) + tr[j].p := sum_take h
      have t2 := hits_take (z := s.vals.zip s.votes) h
      rw [hit_vot hrise] at t2
      generalize tr[j] = t at *
      generalize sumP (tr.take j) = A at *
      generalize hitsF (s.vals.zip s.votes) (tr.take j) = B at *
      have w1 : IntKind.u64.wrap ((B : Int) + (t.p : Int)) = ((B + t.p : Nat) : Int) := by rw [IntKind.wrap_u64]; omega
      have w2 : IntKind.u64.wrap (((A - B : Nat) : Int) + (t.p : Int)) = ((A - B + t.p : Nat) : Int) := by rw [IntKind.wrap_u64]; omega
      clear hR
      (repeat' (first | (simp -implicitDefEqProofs only [go_sem, Nat.reduceLT, Nat.reduceAdd, Nat.reduceMul, reduceIte, Nat.reduceEqDiff, reduceCtorEq, Nat.reducePow, Nat.reduceLeDiff, Int.reduceLE, Int.reduceLT, Int.reduceToNat, Int.reduceEq, Nat.reduceBEq, encS, valsI, votesI, u64D, encV, *]) | (with_reducible refine ⟨?_, ?_⟩; (· first | (obtain ⟨rfl⟩ := ‹Hq _ _›; with_reducible refine chk_ok ?_; kernel_rfl) | kernel_rfl)) | (with_reducible intro ops hops) | (simp -implicitDefEqProofs (disch := omega) only [wr64, wru64, get_lt]) | ((first | refine Wc_split (fun hg => ?_) (fun hg => ?_) | refine RoG_split (fun hg => ?_) (fun hg => ?_) | refine RdG_split (fun hg => ?_) (fun hg => ?_)) <;> (try simp only [nrm] at hg) <;> (try simp only [hg, lgc, reduceIte, reduceCtorEq] at hR) <;> (try (exfalso; omega))) | ((try simp only [*, lgc, reduceIte, reduceCtorEq] at hR); obtain ⟨rfl⟩ := hR; refine fin_q (rs := [.tmp 4]) rfl ?_; (try simp only [go_sem, Nat.reduceLT, Nat.reduceAdd, Nat.reduceMul, reduceIte, Nat.reduceEqDiff, reduceCtorEq, Nat.reducePow, Nat.reduceLeDiff, Int.reduceLE, Int.reduceLT, Int.reduceToNat, Int.reduceEq, Nat.reduceBEq, encS, valsI, votesI, u64D, encV]); (simp [encS, valsI, votesI, u64D, encV]; done))))
      refine W_loopR (ι := Nat) (fun i => i ≤ s.vals.length)
        (fun i => stOf [(3, .pt 100 0 0 0), (8, .pt 101 0 0 0), (5, u64D B), (6, u64D (A - B)), (9, boolD (votB ((s.vals.zip s.votes).take i) t)), (12, .i (valsI tr)), (13, intD tr.length), (14, intD j), (19, .i (valsI s.vals)), (20, intD s.vals.length), (21, intD i)] [(100, .box ((encS s).map .i)), (101, .box [.i (.s (.int .u64 t.k)), .i (.s (.int .u64 t.p))])]) (fun i => s.vals.length - i) 0 (Nat.zero_le _) ?_ ?_
      · (refine le_stOf _ _ [] [(100, 100), (101, 2026)] ?_ ?_ rfl rfl <;> (simp [Int.natCast_add, Int.natCast_zero, Int.natCast_one, encS, valsI, votesI, u64D, votB]; done))
      · rintro i hi RL2 hL2
        rw [stOf_eq]
        by_cases h' : i < s.vals.length
        · have h2 : i < s.votes.length := by omega
          have e1 := get_lt (f := encV) h'
          have e2 := get_lt (f := encX) h2
          have t3 := votB_take (z := s.vals.zip s.votes) (t := t) (i := i) (by omega)
          rw [zip_get h' h2] at t3
          generalize s.vals[i] = v at *
          generalize s.votes[i] = x at *
          generalize votB ((s.vals.zip s.votes).take i) t = C at *
          rw [show voteB t (v, x) = (decide (v.k = t.k) && x.is) from rfl] at t3
          have k1 : ((v.k : Int) = (t.k : Int)) = (v.k = t.k) := propext (by omega)
          clear b1 b2 b3 t1 t2 w1 w2 ht hv hlz hrise
          obtain ⟨xi, xr, xs⟩ := x
          cases C
          · by_cases hk : v.k = t.k <;> cases xi <;> simp [hk] at t3
            all_goals
              (repeat' (first | (simp -implicitDefEqProofs only [go_sem, Nat.reduceLT, Nat.reduceAdd, Nat.reduceMul, reduceIte, Nat.reduceEqDiff, reduceCtorEq, Nat.reducePow, Nat.reduceLeDiff, Int.reduceLE, Int.reduceLT, Int.reduceToNat, Int.reduceEq, Nat.reduceBEq, encS, valsI, votesI, u64D, encV, encX, *]) | (with_reducible refine ⟨?_, ?_⟩; (· first | (obtain ⟨rfl⟩ := ‹Hq _ _›; with_reducible refine chk_ok ?_; kernel_rfl) | kernel_rfl)) | (with_reducible intro ops hops) | (simp -implicitDefEqProofs (disch := omega) only [wr64, wru64, get_lt]) | ((first | refine Wc_split (fun hg => ?_) (fun hg => ?_) | refine RoG_split (fun hg => ?_) (fun hg => ?_) | refine RdG_split (fun hg => ?_) (fun hg => ?_)) <;> (try simp only [nrm] at hg) <;> (try simp only [hg, lgc, reduceIte, reduceCtorEq] at hR) <;> (try (exfalso; omega))) | (refine hL2 (i + 1) _ (h') ?_ ?_; (· (refine le_stOf _ _ [] [(100, 100), (101, 101)] ?_ ?_ rfl rfl <;> (simp [Int.natCast_add, Int.natCast_zero, Int.natCast_one, encS, valsI, votesI, u64D, t3]; done))); (· (first | omega | (simp only; omega)))) | ((try simp only [*, lgc, reduceIte, reduceCtorEq] at hR); obtain ⟨rfl⟩ := hR; refine fin_q (rs := [.tmp 4]) rfl ?_; (try simp only [go_sem, Nat.reduceLT, Nat.reduceAdd, Nat.reduceMul, reduceIte, Nat.reduceEqDiff, reduceCtorEq, Nat.reducePow, Nat.reduceLeDiff, Int.reduceLE, Int.reduceLT, Int.reduceToNat, Int.reduceEq, Nat.reduceBEq, encS, valsI, votesI, u64D, encV, encX]); (simp [encS, valsI, votesI, u64D, encV, encX]; done))))
          · simp only [Bool.true_or] at t3
            (repeat' (first | (simp -implicitDefEqProofs only [go_sem, Nat.reduceLT, Nat.reduceAdd, Nat.reduceMul, reduceIte, Nat.reduceEqDiff, reduceCtorEq, Nat.reducePow, Nat.reduceLeDiff, Int.reduceLE, Int.reduceLT, Int.reduceToNat, Int.reduceEq, Nat.reduceBEq, encS, valsI, votesI, u64D, encV, encX, *]) | (with_reducible refine ⟨?_, ?_⟩; (· first | (obtain ⟨rfl⟩ := ‹Hq _ _›; with_reducible refine chk_ok ?_; kernel_rfl) | kernel_rfl)) | (with_reducible intro ops hops) | (simp -implicitDefEqProofs (disch := omega) only [wr64, wru64, get_lt]) | ((first | refine Wc_split (fun hg => ?_) (fun hg => ?_) | refine RoG_split (fun hg => ?_) (fun hg => ?_) | refine RdG_split (fun hg => ?_) (fun hg => ?_)) <;> (try simp only [nrm] at hg) <;> (try simp only [hg, lgc, reduceIte, reduceCtorEq] at hR) <;> (try (exfalso; omega))) | (refine hL2 (i + 1) _ (h') ?_ ?_; (· (refine le_stOf _ _ [] [(100, 100), (101, 101)] ?_ ?_ rfl rfl <;> (simp [Int.natCast_add, Int.natCast_zero, Int.natCast_one, encS, valsI, votesI, u64D, t3]; done))); (· (first | omega | (simp only; omega)))) | ((try simp only [*, lgc, reduceIte, reduceCtorEq] at hR); obtain ⟨rfl⟩ := hR; refine fin_q (rs := [.tmp 4]) rfl ?_; (try simp only [go_sem, Nat.reduceLT, Nat.reduceAdd, Nat.reduceMul, reduceIte, Nat.reduceEqDiff, reduceCtorEq, Nat.reducePow, Nat.reduceLeDiff, Int.reduceLE, Int.reduceLT, Int.reduceToNat, Int.reduceEq, Nat.reduceBEq, encS, valsI, votesI, u64D, encV, encX]); (simp [encS, valsI, votesI, u64D, encV, encX]; done))))
        · have hti : (s.vals.zip s.votes).take i = s.vals.zip s.votes := List.take_of_length_le (by omega)
          rw [hti]
          generalize votB (s.vals.zip s.votes) t = C at *
          cases C
          · simp only [Bool.false_eq_true, if_false, Nat.add_zero] at t2
            have q1 : A + t.p - B = A - B + t.p := by omega
            clear b1 b2 b3 w1 ht hv hlz hti hrise
            (repeat' (first | (simp -implicitDefEqProofs only [go_sem, Nat.reduceLT, Nat.reduceAdd, Nat.reduceMul, reduceIte, Nat.reduceEqDiff, reduceCtorEq, Nat.reducePow, Nat.reduceLeDiff, Int.reduceLE, Int.reduceLT, Int.reduceToNat, Int.reduceEq, Nat.reduceBEq, encS, valsI, votesI, u64D, *]) | (with_reducible refine ⟨?_, ?_⟩; (· first | (obtain ⟨rfl⟩ := ‹Hq _ _›; with_reducible refine chk_ok ?_; kernel_rfl) | kernel_rfl)) | (with_reducible intro ops hops) | (simp -implicitDefEqProofs (disch := omega) only [wr64, wru64, get_lt]) | ((first | refine Wc_split (fun hg => ?_) (fun hg => ?_) | refine RoG_split (fun hg => ?_) (fun hg => ?_) | refine RdG_split (fun hg => ?_) (fun hg => ?_)) <;> (try simp only [nrm] at hg) <;> (try simp only [hg, lgc, reduceIte, reduceCtorEq] at hR) <;> (try (exfalso; omega))) | (refine hL (j + 1) _ (h) ?_ ?_; (· (refine le_stOf _ _ [] [(100, 100)] ?_ ?_ rfl rfl <;> (simp [Int.natCast_add, Int.natCast_zero, Int.natCast_one, encS, valsI, votesI, u64D, t1, t2, q1]; done))); (· (first | omega | (simp only; omega)))) | ((try simp only [*, lgc, reduceIte, reduceCtorEq] at hR); obtain ⟨rfl⟩ := hR; refine fin_q (rs := [.tmp 4]) rfl ?_; (try simp only [go_sem, Nat.reduceLT, Nat.reduceAdd, Nat.reduceMul, reduceIte, Nat.reduceEqDiff, reduceCtorEq, Nat.reducePow, Nat.reduceLeDiff, Int.reduceLE, Int.reduceLT, Int.reduceToNat, Int.reduceEq, Nat.reduceBEq, encS, valsI, votesI, u64D]); (simp [encS, valsI, votesI, u64D]; done))))
          · simp only [if_true] at t2
            have q1 : A + t.p - (B + t.p) = A - B := by omega
            clear b1 b2 b3 w2 ht hv hlz hti hrise
            (repeat' (first | (simp -implicitDefEqProofs only [go_sem, Nat.reduceLT, Nat.reduceAdd, Nat.reduceMul, reduceIte, Nat.reduceEqDiff, reduceCtorEq, Nat.reducePow, Nat.reduceLeDiff, Int.reduceLE, Int.reduceLT, Int.reduceToNat, Int.reduceEq, Nat.reduceBEq, encS, valsI, votesI, u64D, *]) | (with_reducible refine ⟨?_, ?_⟩; (· first | (obtain ⟨rfl⟩ := ‹Hq _ _›; with_reducible refine chk_ok ?_; kernel_rfl) | kernel_rfl)) | (with_reducible intro ops hops) | (simp -implicitDefEqProofs (disch := omega) only [wr64, wru64, get_lt]) | ((first | refine Wc_split (fun hg => ?_) (fun hg => ?_) | refine RoG_split (fun hg => ?_) (fun hg => ?_) | refine RdG_split (fun hg => ?_) (fun hg => ?_)) <;> (try simp only [nrm] at hg) <;> (try simp only [hg, lgc, reduceIte, reduceCtorEq] at hR) <;> (try (exfalso; omega))) | (refine hL (j + 1) _ (h) ?_ ?_; (· (refine le_stOf _ _ [] [(100, 100)] ?_ ?_ rfl rfl <;> (simp [Int.natCast_add, Int.natCast_zero, Int.natCast_one, encS, valsI, votesI, u64D, t1, t2, q1]; done))); (· (first | omega | (simp only; omega)))) | ((try simp only [*, lgc, reduceIte, reduceCtorEq] at hR); obtain ⟨rfl⟩ := hR; refine fin_q (rs := [.tmp 4]) rfl ?_; (try simp only [go_sem, Nat.reduceLT, Nat.reduceAdd, Nat.reduceMul, reduceIte, Nat.reduceEqDiff, reduceCtorEq, Nat.reducePow, Nat.reduceLeDiff, Int.reduceLE, Int.reduceLT, Int.reduceToNat, Int.reduceEq, Nat.reduceBEq, encS, valsI, votesI, u64D]); (simp [encS, valsI, votesI, u64D]; done))))
    · have htj : tr.take j = tr := List.take_of_length_le (by omega)
      have b1 := sumP_le ht j
      have b2 := hits_le2 _ rfl hrise (m := s.votes) tr
      rw [htj] at b1 ⊢
      generalize sumP tr = A at *
      generalize hitsF (s.vals.zip s.votes) tr = B at *
      have w1 : IntKind.u64.wrap (2 * (B : Int)) = ((2 * B : Nat) : Int) := by rw [IntKind.wrap_u64]; omega
      have k1 : decide (((A - B : Nat) : Int) < ((2 * B : Nat) : Int)) = decide (A < 3 * B) := by congr 1; exact propext (by omega)
      clear b1 b2 ht hv hlz htj hrise
      (repeat' (first | (simp -implicitDefEqProofs only [go_sem, Nat.reduceLT, Nat.reduceAdd, Nat.reduceMul, reduceIte, Nat.reduceEqDiff, reduceCtorEq, Nat.reducePow, Nat.reduceLeDiff, Int.reduceLE, Int.reduceLT, Int.reduceToNat, Int.reduceEq, Nat.reduceBEq, encS, valsI, votesI, u64D, *]) | (with_reducible refine ⟨?_, ?_⟩; (· first | (obtain ⟨rfl⟩ := ‹Hq _ _›; with_reducible refine chk_ok ?_; kernel_rfl) | kernel_rfl)) | (with_reducible intro ops hops) | (simp -implicitDefEqProofs (disch := omega) only [wr64, wru64, get_lt]) | ((first | refine Wc_split (fun hg => ?_) (fun hg => ?_) | refine RoG_split (fun hg => ?_) (fun hg => ?_) | refine RdG_split (fun hg => ?_) (fun hg => ?_)) <;> (try simp only [nrm] at hg) <;> (try simp only [hg, lgc, reduceIte, reduceCtorEq] at hR) <;> (try (exfalso; omega))) | ((try simp only [*, lgc, reduceIte, reduceCtorEq] at hR); obtain ⟨rfl⟩ := hR; refine fin_q (rs := [.tmp 4]) rfl ?_; (try simp only [go_sem, Nat.reduceLT, Nat.reduceAdd, Nat.reduceMul, reduceIte, Nat.reduceEqDiff, reduceCtorEq, Nat.reducePow, Nat.reduceLeDiff, Int.reduceLE, Int.reduceLT, Int.reduceToNat, Int.reduceEq, Nat.reduceBEq, encS, valsI, votesI, u64D]); (simp [encS, valsI, votesI, u64D]; done))))
def samV : List ValD → List ValD → Bool
  | [], [] => true
  | a :: x, b :: y => (decide (a.k = b.k) && decide (a.p = b.p)) && samV x y
  | _, _ => false
def samX : List VoteD → List VoteD → Bool
  | [], [] => true
  | a :: x, b :: y => (decide (a.is = b.is) && (decide (a.r = b.r) && decide (a.s = b.s))) && samX x y
  | _, _ => false
theorem samV_self : ∀ (x : List ValD), samV x x = true
  | [] => rfl
  | a :: x => by rw [samV, samV_self x]; simp
theorem samX_self : ∀ (x : List VoteD), samX x x = true
  | [] => rfl
  | a :: x => by rw [samX, samX_self x]; simp
/-- what is signed is the same as itself -/
theorem rsame_self (s : SignedD) (hs : HdrSm s.hdr) (hv : s.vals.length ≤ 1048576) (hx : s.votes.length ≤ 1048576) : PureD Try.prog 35 [signedD s, signedD s] (boolD true) := by
  refine hide_r fun R hR => ?_
  have c1 := rsameH_A s.hdr s.hdr hs
  rw [sameH_iff.2 rfl] at c1
  refine callD_W 67 Try.func35 rfl rfl rfl (fun _ _ => rfl) ?_
  (repeat' (first | (simp -implicitDefEqProofs only [go_sem, Nat.reduceLT, Nat.reduceAdd, Nat.reduceMul, reduceIte, Nat.reduceEqDiff, reduceCtorEq, Nat.reducePow, Nat.reduceLeDiff, Int.reduceLE, Int.reduceLT, Int.reduceToNat, Int.reduceEq, Nat.reduceBEq, signedD, hdrD, valsI, votesI, *]) | (with_reducible refine ⟨?_, ?_⟩; (· first | (obtain ⟨rfl⟩ := ‹Hq _ _›; with_reducible refine chk_ok ?_; kernel_rfl) | kernel_rfl)) | (with_reducible intro ops hops) | (simp -implicitDefEqProofs (disch := omega) only [wr64, wru64, get_lt]) | ((with_reducible refine call_id ?_); (first | ((with_reducible refine Call_fl (c1) ?_ ?_ ?_); (· (simp [signedD, hdrD, valsI, votesI]; done)); (· (simp [signedD, hdrD, valsI, votesI, and_assoc]; done))))) | ((with_reducible refine callF_id ?_); (first | ((with_reducible refine CallF_fl (c1) ?_ ?_ ?_); (· (simp [signedD, hdrD, valsI, votesI]; done)); (· (intro G hG; simp [signedD, hdrD, valsI, votesI] at hG; simp [signedD, hdrD, valsI, votesI, hG, and_assoc]; done))))) | ((first | refine Wc_split (fun hg => ?_) (fun hg => ?_) | refine RoG_split (fun hg => ?_) (fun hg => ?_) | refine RdG_split (fun hg => ?_) (fun hg => ?_)) <;> (try simp only [nrm] at hg) <;> (try simp only [hg, lgc, reduceIte, reduceCtorEq] at hR) <;> (try (exfalso; omega))) | ((try simp only [*, lgc, reduceIte, reduceCtorEq] at hR); obtain ⟨rfl⟩ := hR; refine fin_q (rs := [.tmp 4]) rfl ?_; (try simp only [go_sem, Nat.reduceLT, Nat.reduceAdd, Nat.reduceMul, reduceIte, Nat.reduceEqDiff, reduceCtorEq, Nat.reducePow, Nat.reduceLeDiff, Int.reduceLE, Int.reduceLT, Int.reduceToNat, Int.reduceEq, Nat.reduceBEq, signedD, hdrD, valsI, votesI]); (simp [signedD, hdrD, valsI, votesI]; done))))
  refine W_loopR (ι := Nat) (fun i => i ≤ s.vals.length)
    (fun i => stOf [(2, .pt 100 0 0 0), (3, .pt 101 0 0 0), (33, intD s.vals.length), (34, intD i)] [(100, .box ((encS s).map .i)), (101, .box ((encS s).map .i))]) (fun i => s.vals.length - i) 0 (Nat.zero_le _) ?_ ?_
  · (refine le_stOf _ _ [] [(100, 1000), (101, 1001)] ?_ ?_ rfl rfl <;> (simp [Int.natCast_add, Int.natCast_zero, Int.natCast_one, encS, valsI, votesI]; done))
  · rintro i hi RL hL
    rw [stOf_eq]
    by_cases h : i < s.vals.length
    · have e1 := get_lt (f := encV) h
      generalize hv0 : s.vals[i] = v at *
      clear hR
      (repeat' (first | (simp -implicitDefEqProofs only [go_sem, Nat.reduceLT, Nat.reduceAdd, Nat.reduceMul, reduceIte, Nat.reduceEqDiff, reduceCtorEq, Nat.reducePow, Nat.reduceLeDiff, Int.reduceLE, Int.reduceLT, Int.reduceToNat, Int.reduceEq, Nat.reduceBEq, encS, valsI, votesI, encV, *]) | (with_reducible refine ⟨?_, ?_⟩; (· first | (obtain ⟨rfl⟩ := ‹Hq _ _›; with_reducible refine chk_ok ?_; kernel_rfl) | kernel_rfl)) | (with_reducible intro ops hops) | (simp -implicitDefEqProofs (disch := omega) only [wr64, wru64, get_lt]) | ((first | refine Wc_split (fun hg => ?_) (fun hg => ?_) | refine RoG_split (fun hg => ?_) (fun hg => ?_) | refine RdG_split (fun hg => ?_) (fun hg => ?_)) <;> (try simp only [nrm] at hg) <;> (try simp only [hg, lgc, reduceIte, reduceCtorEq] at hR) <;> (try (exfalso; omega))) | (refine hL (i + 1) _ (h) ?_ ?_; (· (refine le_stOf _ _ [] [(100, 100), (101, 101)] ?_ ?_ rfl rfl <;> (simp [Int.natCast_add, Int.natCast_zero, Int.natCast_one, encS, valsI, votesI]; done))); (· (first | omega | (simp only; omega)))) | ((try simp only [*, lgc, reduceIte, reduceCtorEq] at hR); obtain ⟨rfl⟩ := hR; refine fin_q (rs := [.tmp 4]) rfl ?_; (try simp only [go_sem, Nat.reduceLT, Nat.reduceAdd, Nat.reduceMul, reduceIte, Nat.reduceEqDiff, reduceCtorEq, Nat.reducePow, Nat.reduceLeDiff, Int.reduceLE, Int.reduceLT, Int.reduceToNat, Int.reduceEq, Nat.reduceBEq, encS, valsI, votesI, encV]); (simp [encS, valsI, votesI, encV]; done))))
    · (repeat' (first | (simp -implicitDefEqProofs only [go_sem, Nat.reduceLT, Nat.reduceAdd, Nat.reduceMul, reduceIte, Nat.reduceEqDiff, reduceCtorEq, Nat.reducePow, Nat.reduceLeDiff, Int.reduceLE, Int.reduceLT, Int.reduceToNat, Int.reduceEq, Nat.reduceBEq, encS, valsI, votesI, *]) | (with_reducible refine ⟨?_, ?_⟩; (· first | (obtain ⟨rfl⟩ := ‹Hq _ _›; with_reducible refine chk_ok ?_; kernel_rfl) | kernel_rfl)) | (with_reducible intro ops hops) | (simp -implicitDefEqProofs (disch := omega) only [wr64, wru64, get_lt]) | ((first | refine Wc_split (fun hg => ?_) (fun hg => ?_) | refine RoG_split (fun hg => ?_) (fun hg => ?_) | refine RdG_split (fun hg => ?_) (fun hg => ?_)) <;> (try simp only [nrm] at hg) <;> (try simp only [hg, lgc, reduceIte, reduceCtorEq] at hR) <;> (try (exfalso; omega))) | ((try simp only [*, lgc, reduceIte, reduceCtorEq] at hR); obtain ⟨rfl⟩ := hR; refine fin_q (rs := [.tmp 4]) rfl ?_; (try simp only [go_sem, Nat.reduceLT, Nat.reduceAdd, Nat.reduceMul, reduceIte, Nat.reduceEqDiff, reduceCtorEq, Nat.reducePow, Nat.reduceLeDiff, Int.reduceLE, Int.reduceLT, Int.reduceToNat, Int.reduceEq, Nat.reduceBEq, encS, valsI, votesI]); (simp [encS, valsI, votesI]; done))))
      refine W_loopR (ι := Nat) (fun i => i ≤ s.votes.length)
        (fun i => stOf [(2, .pt 100 0 0 0), (3, .pt 101 0 0 0), (51, intD s.votes.length), (52, intD i)] [(100, .box ((encS s).map .i)), (101, .box ((encS s).map .i))]) (fun i => s.votes.length - i) 0 (Nat.zero_le _) ?_ ?_
      · (refine le_stOf _ _ [] [(100, 100), (101, 101)] ?_ ?_ rfl rfl <;> (simp [Int.natCast_add, Int.natCast_zero, Int.natCast_one, encS, valsI, votesI]; done))
      · rintro i hi RL2 hL2
        rw [stOf_eq]
        by_cases h : i < s.votes.length
        · have e1 := get_lt (f := encX) h
          generalize hv0 : s.votes[i] = x at *
          clear hR
          obtain ⟨xi, xr, xs⟩ := x
          cases xi
          all_goals
            (repeat' (first | (simp -implicitDefEqProofs only [go_sem, Nat.reduceLT, Nat.reduceAdd, Nat.reduceMul, reduceIte, Nat.reduceEqDiff, reduceCtorEq, Nat.reducePow, Nat.reduceLeDiff, Int.reduceLE, Int.reduceLT, Int.reduceToNat, Int.reduceEq, Nat.reduceBEq, encS, valsI, votesI, encX, *]) | (with_reducible refine ⟨?_, ?_⟩; (· first | (obtain ⟨rfl⟩ := ‹Hq _ _›; with_reducible refine chk_ok ?_; kernel_rfl) | kernel_rfl)) | (with_reducible intro ops hops) | (simp -implicitDefEqProofs (disch := omega) only [wr64, wru64, get_lt]) | ((first | refine Wc_split (fun hg => ?_) (fun hg => ?_) | refine RoG_split (fun hg => ?_) (fun hg => ?_) | refine RdG_split (fun hg => ?_) (fun hg => ?_)) <;> (try simp only [nrm] at hg) <;> (try simp only [hg, lgc, reduceIte, reduceCtorEq] at hR) <;> (try (exfalso; omega))) | (refine hL2 (i + 1) _ (h) ?_ ?_; (· (refine le_stOf _ _ [] [(100, 100), (101, 101)] ?_ ?_ rfl rfl <;> (simp [Int.natCast_add, Int.natCast_zero, Int.natCast_one, encS, valsI, votesI]; done))); (· (first | omega | (simp only; omega)))) | ((try simp only [*, lgc, reduceIte, reduceCtorEq] at hR); obtain ⟨rfl⟩ := hR; refine fin_q (rs := [.tmp 4]) rfl ?_; (try simp only [go_sem, Nat.reduceLT, Nat.reduceAdd, Nat.reduceMul, reduceIte, Nat.reduceEqDiff, reduceCtorEq, Nat.reducePow, Nat.reduceLeDiff, Int.reduceLE, Int.reduceLT, Int.reduceToNat, Int.reduceEq, Nat.reduceBEq, encS, valsI, votesI, encX]); (simp [encS, valsI, votesI, encX]; done))))
        · (repeat' (first | (simp -implicitDefEqProofs only [go_sem, Nat.reduceLT, Nat.reduceAdd, Nat.reduceMul, reduceIte, Nat.reduceEqDiff, reduceCtorEq, Nat.reducePow, Nat.reduceLeDiff, Int.reduceLE, Int.reduceLT, Int.reduceToNat, Int.reduceEq, Nat.reduceBEq, encS, valsI, votesI, *]) | (with_reducible refine ⟨?_, ?_⟩; (· first | (obtain ⟨rfl⟩ := ‹Hq _ _›; with_reducible refine chk_ok ?_; kernel_rfl) | kernel_rfl)) | (with_reducible intro ops hops) | (simp -implicitDefEqProofs (disch := omega) only [wr64, wru64, get_lt]) | ((first | refine Wc_split (fun hg => ?_) (fun hg => ?_) | refine RoG_split (fun hg => ?_) (fun hg => ?_) | refine RdG_split (fun hg => ?_) (fun hg => ?_)) <;> (try simp only [nrm] at hg) <;> (try simp only [hg, lgc, reduceIte, reduceCtorEq] at hR) <;> (try (exfalso; omega))) | ((try simp only [*, lgc, reduceIte, reduceCtorEq] at hR); obtain ⟨rfl⟩ := hR; refine fin_q (rs := [.tmp 4]) rfl ?_; (try simp only [go_sem, Nat.reduceLT, Nat.reduceAdd, Nat.reduceMul, reduceIte, Nat.reduceEqDiff, reduceCtorEq, Nat.reducePow, Nat.reduceLeDiff, Int.reduceLE, Int.reduceLT, Int.reduceToNat, Int.reduceEq, Nat.reduceBEq, encS, valsI, votesI]); (simp [encS, valsI, votesI]; done))))
theorem rsign_A (h : HdrD) (vals : List ValD) (seeds : List (List UInt8)) (hs : HdrSm h) (hl : vals.length ≤ 1048576) (hk : ∀ v ∈ vals, v.k < 18446744073709551616 ∧ v.p < 18446744073709551616) (hd : SeedsSm seeds) :
    PureD Try.prog 34 [hdrD h, .i (valsI vals), .i (bbI seeds)] (.tup [signedD (signF h vals seeds).1, intD (signF h vals seeds).2]) := by
  refine hide_r fun R hR => ?_
  have c1 := rwrongH_A h
  have c2 := rvals_A vals (by omega)
  have c4 := same_A (digestV vals) h.vals (by have : (digestV vals).length = 32 := sha_length _; omega)
  unfold signF at hR
  by_cases hw : wrongH h = 0
  rotate_left
  · rw [if_neg hw] at hR
    generalize wrongH h = X at *
    clear c2 c4 hs
    refine callD_W 69 Try.func34 rfl rfl rfl (fun _ _ => rfl) ?_
    (repeat' (first | (simp -implicitDefEqProofs only [go_sem, Nat.reduceLT, Nat.reduceAdd, Nat.reduceMul, reduceIte, Nat.reduceEqDiff, reduceCtorEq, Nat.reducePow, Nat.reduceLeDiff, Int.reduceLE, Int.reduceLT, Int.reduceToNat, Int.reduceEq, Nat.reduceBEq, hdrD, valsI, signedD, zeroS, zeroH, votesI, *]) | (with_reducible refine ⟨?_, ?_⟩; (· first | (obtain ⟨rfl⟩ := ‹Hq _ _›; with_reducible refine chk_ok ?_; kernel_rfl) | kernel_rfl)) | (with_reducible intro ops hops) | (simp -implicitDefEqProofs (disch := omega) only [wr64, wru64, get_lt]) | ((with_reducible refine call_id ?_); (first | ((with_reducible refine Call_fl (c1) ?_ ?_ ?_); (· (simp [hdrD, valsI, signedD, zeroS, zeroH, votesI]; done)); (· (simp [hdrD, valsI, signedD, zeroS, zeroH, votesI, and_assoc]; done))))) | ((with_reducible refine callF_id ?_); (first | ((with_reducible refine CallF_fl (c1) ?_ ?_ ?_); (· (simp [hdrD, valsI, signedD, zeroS, zeroH, votesI]; done)); (· (intro G hG; simp [hdrD, valsI, signedD, zeroS, zeroH, votesI] at hG; simp [hdrD, valsI, signedD, zeroS, zeroH, votesI, hG, and_assoc]; done))))) | ((first | refine Wc_split (fun hg => ?_) (fun hg => ?_) | refine RoG_split (fun hg => ?_) (fun hg => ?_) | refine RdG_split (fun hg => ?_) (fun hg => ?_)) <;> (try simp only [nrm] at hg) <;> (try simp only [hg, lgc, reduceIte, reduceCtorEq] at hR) <;> (try (exfalso; omega))) | ((try simp only [*, lgc, reduceIte, reduceCtorEq] at hR); obtain ⟨rfl⟩ := hR; refine fin_q (rs := [.cell 6 41, .tmp 7]) rfl ?_; (try simp only [go_sem, Nat.reduceLT, Nat.reduceAdd, Nat.reduceMul, reduceIte, Nat.reduceEqDiff, reduceCtorEq, Nat.reducePow, Nat.reduceLeDiff, Int.reduceLE, Int.reduceLT, Int.reduceToNat, Int.reduceEq, Nat.reduceBEq, hdrD, valsI, signedD, zeroS, zeroH, votesI]); (simp [hdrD, valsI, signedD, zeroS, zeroH, votesI]; done))))
  rw [if_pos hw] at hR
  rw [hw] at c1
  by_cases hv : valsW vals = 0
  rotate_left
  · rw [if_neg hv] at hR
    generalize valsW vals = X at *
    clear c4 hs hw
    refine callD_W 69 Try.func34 rfl rfl rfl (fun _ _ => rfl) ?_
    (repeat' (first | (simp -implicitDefEqProofs only [go_sem, Nat.reduceLT, Nat.reduceAdd, Nat.reduceMul, reduceIte, Nat.reduceEqDiff, reduceCtorEq, Nat.reducePow, Nat.reduceLeDiff, Int.reduceLE, Int.reduceLT, Int.reduceToNat, Int.reduceEq, Nat.reduceBEq, hdrD, valsI, signedD, zeroS, zeroH, votesI, *]) | (with_reducible refine ⟨?_, ?_⟩; (· first | (obtain ⟨rfl⟩ := ‹Hq _ _›; with_reducible refine chk_ok ?_; kernel_rfl) | kernel_rfl)) | (with_reducible intro ops hops) | (simp -implicitDefEqProofs (disch := omega) only [wr64, wru64, get_lt]) | ((with_reducible refine call_id ?_); (first | ((with_reducible refine Call_fl (c1) ?_ ?_ ?_); (· (simp [hdrD, valsI, signedD, zeroS, zeroH, votesI]; done)); (· (simp [hdrD, valsI, signedD, zeroS, zeroH, votesI, and_assoc]; done))) | ((with_reducible refine Call_fl (c2) ?_ ?_ ?_); (· (simp [hdrD, valsI, signedD, zeroS, zeroH, votesI]; done)); (· (simp [hdrD, valsI, signedD, zeroS, zeroH, votesI, and_assoc]; done))))) | ((with_reducible refine callF_id ?_); (first | ((with_reducible refine CallF_fl (c1) ?_ ?_ ?_); (· (simp [hdrD, valsI, signedD, zeroS, zeroH, votesI]; done)); (· (intro G hG; simp [hdrD, valsI, signedD, zeroS, zeroH, votesI] at hG; simp [hdrD, valsI, signedD, zeroS, zeroH, votesI, hG, and_assoc]; done))) | ((with_reducible refine CallF_fl (c2) ?_ ?_ ?_); (· (simp [hdrD, valsI, signedD, zeroS, zeroH, votesI]; done)); (· (intro G hG; simp [hdrD, valsI, signedD, zeroS, zeroH, votesI] at hG; simp [hdrD, valsI, signedD, zeroS, zeroH, votesI, hG, and_assoc]; done))))) | ((first | refine Wc_split (fun hg => ?_) (fun hg => ?_) | refine RoG_split (fun hg => ?_) (fun hg => ?_) | refine RdG_split (fun hg => ?_) (fun hg => ?_)) <;> (try simp only [nrm] at hg) <;> (try simp only [hg, lgc, reduceIte, reduceCtorEq] at hR) <;> (try (exfalso; omega))) | ((try simp only [*, lgc, reduceIte, reduceCtorEq] at hR); obtain ⟨rfl⟩ := hR; refine fin_q (rs := [.cell 6 41, .tmp 7]) rfl ?_; (try simp only [go_sem, Nat.reduceLT, Nat.reduceAdd, Nat.reduceMul, reduceIte, Nat.reduceEqDiff, reduceCtorEq, Nat.reducePow, Nat.reduceLeDiff, Int.reduceLE, Int.reduceLT, Int.reduceToNat, Int.reduceEq, Nat.reduceBEq, hdrD, valsI, signedD, zeroS, zeroH, votesI]); (simp [hdrD, valsI, signedD, zeroS, zeroH, votesI]; done))))
  rw [if_pos hv] at hR
  rw [hv] at c2
  have ok := valsW_zero.1 hv
  have hvl := ok.len
  have c3 := rdigest_A vals (by omega) hk
  by_cases hdg : digestV vals = h.vals
  rotate_left
  · rw [if_neg hdg] at hR
    rw [decide_eq_false hdg] at c4
    generalize digestV vals = X at *
    clear hs hw hdg
    refine callD_W 69 Try.func34 rfl rfl rfl (fun _ _ => rfl) ?_
    (repeat' (first | (simp -implicitDefEqProofs only [go_sem, Nat.reduceLT, Nat.reduceAdd, Nat.reduceMul, reduceIte, Nat.reduceEqDiff, reduceCtorEq, Nat.reducePow, Nat.reduceLeDiff, Int.reduceLE, Int.reduceLT, Int.reduceToNat, Int.reduceEq, Nat.reduceBEq, hdrD, valsI, signedD, zeroS, zeroH, votesI, *]) | (with_reducible refine ⟨?_, ?_⟩; (· first | (obtain ⟨rfl⟩ := ‹Hq _ _›; with_reducible refine chk_ok ?_; kernel_rfl) | kernel_rfl)) | (with_reducible intro ops hops) | (simp -implicitDefEqProofs (disch := omega) only [wr64, wru64, get_lt]) | ((with_reducible refine call_id ?_); (first | ((with_reducible refine Call_fl (c1) ?_ ?_ ?_); (· (simp [hdrD, valsI, signedD, zeroS, zeroH, votesI]; done)); (· (simp [hdrD, valsI, signedD, zeroS, zeroH, votesI, and_assoc]; done))) | ((with_reducible refine Call_fl (c2) ?_ ?_ ?_); (· (simp [hdrD, valsI, signedD, zeroS, zeroH, votesI]; done)); (· (simp [hdrD, valsI, signedD, zeroS, zeroH, votesI, and_assoc]; done))) | ((with_reducible refine Call_fz (c3) ?_ ?_); (· (simp [hdrD, valsI, signedD, zeroS, zeroH, votesI, and_assoc]; done))) | ((with_reducible refine Call_fl (c4) ?_ ?_ ?_); (· (simp [hdrD, valsI, signedD, zeroS, zeroH, votesI]; done)); (· (simp [hdrD, valsI, signedD, zeroS, zeroH, votesI, and_assoc]; done))))) | ((with_reducible refine callF_id ?_); (first | ((with_reducible refine CallF_fl (c1) ?_ ?_ ?_); (· (simp [hdrD, valsI, signedD, zeroS, zeroH, votesI]; done)); (· (intro G hG; simp [hdrD, valsI, signedD, zeroS, zeroH, votesI] at hG; simp [hdrD, valsI, signedD, zeroS, zeroH, votesI, hG, and_assoc]; done))) | ((with_reducible refine CallF_fl (c2) ?_ ?_ ?_); (· (simp [hdrD, valsI, signedD, zeroS, zeroH, votesI]; done)); (· (intro G hG; simp [hdrD, valsI, signedD, zeroS, zeroH, votesI] at hG; simp [hdrD, valsI, signedD, zeroS, zeroH, votesI, hG, and_assoc]; done))) | ((with_reducible refine CallF_fz (c3) ?_ ?_); (· (intro G hG; simp [hdrD, valsI, signedD, zeroS, zeroH, votesI] at hG; simp [hdrD, valsI, signedD, zeroS, zeroH, votesI, hG, and_assoc]; done))) | ((with_reducible refine CallF_fl (c4) ?_ ?_ ?_); (· (simp [hdrD, valsI, signedD, zeroS, zeroH, votesI]; done)); (· (intro G hG; simp [hdrD, valsI, signedD, zeroS, zeroH, votesI] at hG; simp [hdrD, valsI, signedD, zeroS, zeroH, votesI, hG, and_assoc]; done))))) | ((first | refine Wc_split (fun hg => ?_) (fun hg => ?_) | refine RoG_split (fun hg => ?_) (fun hg => ?_) | refine RdG_split (fun hg => ?_) (fun hg => ?_)) <;> (try simp only [nrm] at hg) <;> (try simp only [hg, lgc, reduceIte, reduceCtorEq] at hR) <;> (try (exfalso; omega))) | ((try simp only [*, lgc, reduceIte, reduceCtorEq] at hR); obtain ⟨rfl⟩ := hR; refine fin_q (rs := [.cell 6 41, .tmp 7]) rfl ?_; (try simp only [go_sem, Nat.reduceLT, Nat.reduceAdd, Nat.reduceMul, reduceIte, Nat.reduceEqDiff, reduceCtorEq, Nat.reducePow, Nat.reduceLeDiff, Int.reduceLE, Int.reduceLT, Int.reduceToNat, Int.reduceEq, Nat.reduceBEq, hdrD, valsI, signedD, zeroS, zeroH, votesI]); (simp [hdrD, valsI, signedD, zeroS, zeroH, votesI]; done))))
  rw [if_pos hdg] at hR
  rw [decide_eq_true hdg] at c4
  have hsl := hd.len
  generalize digestV vals = X at *
  clear hw hv hdg
  simp only at hR
  refine callD_W 69 Try.func34 rfl rfl rfl (fun _ _ => rfl) ?_
  (repeat' (first | (simp -implicitDefEqProofs only [go_sem, Nat.reduceLT, Nat.reduceAdd, Nat.reduceMul, reduceIte, Nat.reduceEqDiff, reduceCtorEq, Nat.reducePow, Nat.reduceLeDiff, Int.reduceLE, Int.reduceLT, Int.reduceToNat, Int.reduceEq, Nat.reduceBEq, hdrD, valsI, votesI, bbI, *]) | (with_reducible refine ⟨?_, ?_⟩; (· first | (obtain ⟨rfl⟩ := ‹Hq _ _›; with_reducible refine chk_ok ?_; kernel_rfl) | kernel_rfl)) | (with_reducible intro ops hops) | (simp -implicitDefEqProofs (disch := omega) only [wr64, wru64, get_lt]) | ((with_reducible refine call_id ?_); (first | ((with_reducible refine Call_fl (c1) ?_ ?_ ?_); (· (simp [hdrD, valsI, votesI, bbI]; done)); (· (simp [hdrD, valsI, votesI, bbI, and_assoc]; done))) | ((with_reducible refine Call_fl (c2) ?_ ?_ ?_); (· (simp [hdrD, valsI, votesI, bbI]; done)); (· (simp [hdrD, valsI, votesI, bbI, and_assoc]; done))) | ((with_reducible refine Call_fz (c3) ?_ ?_); (· (simp [hdrD, valsI, votesI, bbI, and_assoc]; done))) | ((with_reducible refine Call_fl (c4) ?_ ?_ ?_); (· (simp [hdrD, valsI, votesI, bbI]; done)); (· (simp [hdrD, valsI, votesI, bbI, and_assoc]; done))))) | ((with_reducible refine callF_id ?_); (first | ((with_reducible refine CallF_fl (c1) ?_ ?_ ?_); (· (simp [hdrD, valsI, votesI, bbI]; done)); (· (intro G hG; simp [hdrD, valsI, votesI, bbI] at hG; simp [hdrD, valsI, votesI, bbI, hG, and_assoc]; done))) | ((with_reducible refine CallF_fl (c2) ?_ ?_ ?_); (· (simp [hdrD, valsI, votesI, bbI]; done)); (· (intro G hG; simp [hdrD, valsI, votesI, bbI] at hG; simp [hdrD, valsI, votesI, bbI, hG, and_assoc]; done))) | ((with_reducible refine CallF_fz (c3) ?_ ?_); (· (intro G hG; simp [hdrD, valsI, votesI, bbI] at hG; simp [hdrD, valsI, votesI, bbI, hG, and_assoc]; done))) | ((with_reducible refine CallF_fl (c4) ?_ ?_ ?_); (· (simp [hdrD, valsI, votesI, bbI]; done)); (· (intro G hG; simp [hdrD, valsI, votesI, bbI] at hG; simp [hdrD, valsI, votesI, bbI, hG, and_assoc]; done))))) | ((first | refine Wc_split (fun hg => ?_) (fun hg => ?_) | refine RoG_split (fun hg => ?_) (fun hg => ?_) | refine RdG_split (fun hg => ?_) (fun hg => ?_)) <;> (try simp only [nrm] at hg) <;> (try simp only [hg, lgc, reduceIte, reduceCtorEq] at hR) <;> (try (exfalso; omega))) | ((try simp only [*, lgc, reduceIte, reduceCtorEq] at hR); obtain ⟨rfl⟩ := hR; refine fin_q (rs := [.cell 6 41, .tmp 7]) rfl ?_; (try simp only [go_sem, Nat.reduceLT, Nat.reduceAdd, Nat.reduceMul, reduceIte, Nat.reduceEqDiff, reduceCtorEq, Nat.reducePow, Nat.reduceLeDiff, Int.reduceLE, Int.reduceLT, Int.reduceToNat, Int.reduceEq, Nat.reduceBEq, hdrD, valsI, votesI, bbI]); (simp [hdrD, valsI, votesI, bbI]; done))))
  clear c1 c2 c3 c4
  refine W_loopR (ι := Nat) (fun i => i ≤ vals.length)
    (fun i => stOf [(2, .i (bbI seeds)), (3, .pt 100 0 0 0), (6, .pt 101 0 0 0), (10, .pt 102 0 0 0), (38, .i (valsI vals)), (39, intD vals.length), (40, intD i)]
      [(100, .box ((encH h).map .i)), (101, .box [.i (.s (.string ⟨#[]⟩)), .i (.s (.int .i64 0)), .i (.s (.int .i64 0)), .i (.s (.slice none 0 0)), .i (.s (.slice none 0 0)), .i (.s (.slice none 0 0)), .i (.s (.slice none 0 0)), .i (.s (.slice none 0 0))]),
       (102, .box ((encH h).map .i ++ [.i (valsI vals), .os 103 3 0 i])), (103, .arr 3 (((vals.take i).map (voteF h seeds)).map encX))]) (fun i => vals.length - i) 0 (Nat.zero_le _) ?_ ?_
  · (refine le_stOf _ _ [] [(100, 1000), (101, 1001), (102, 3307)] ?_ ?_ rfl rfl <;> (simp [Int.natCast_add, Int.natCast_zero, Int.natCast_one, encH, valsI, bbI]; done))
  · rintro i hi RL hL
    rw [stOf_eq]
    by_cases h1 : i < vals.length
    · have e1 := get_lt (f := encV) h1
      have hst : (vals.take (i + 1)).map (voteF h seeds) = (vals.take i).map (voteF h seeds) ++ [voteF h seeds vals[i]] := by rw [List.take_succ_eq_append_getElem h1, List.map_append]; rfl
      have hml : ((vals.take i).map (voteF h seeds)).length = i := by simp; omega
      generalize vals[i] = v at *
      generalize (vals.take i).map (voteF h seeds) = P at *
      clear hR
      (repeat' (first | (simp -implicitDefEqProofs only [go_sem, Nat.reduceLT, Nat.reduceAdd, Nat.reduceMul, reduceIte, Nat.reduceEqDiff, reduceCtorEq, Nat.reducePow, Nat.reduceLeDiff, Int.reduceLE, Int.reduceLT, Int.reduceToNat, Int.reduceEq, Nat.reduceBEq, encH, valsI, bbI, u64D, encV, *]) | (with_reducible refine ⟨?_, ?_⟩; (· first | (obtain ⟨rfl⟩ := ‹Hq _ _›; with_reducible refine chk_ok ?_; kernel_rfl) | kernel_rfl)) | (with_reducible intro ops hops) | (simp -implicitDefEqProofs (disch := omega) only [wr64, wru64, get_lt]) | ((first | refine Wc_split (fun hg => ?_) (fun hg => ?_) | refine RoG_split (fun hg => ?_) (fun hg => ?_) | refine RdG_split (fun hg => ?_) (fun hg => ?_)) <;> (try simp only [nrm] at hg) <;> (try simp only [hg, lgc, reduceIte, reduceCtorEq] at hR) <;> (try (exfalso; omega))) | ((try simp only [*, lgc, reduceIte, reduceCtorEq] at hR); obtain ⟨rfl⟩ := hR; refine fin_q (rs := [.cell 6 41, .tmp 7]) rfl ?_; (try simp only [go_sem, Nat.reduceLT, Nat.reduceAdd, Nat.reduceMul, reduceIte, Nat.reduceEqDiff, reduceCtorEq, Nat.reducePow, Nat.reduceLeDiff, Int.reduceLE, Int.reduceLT, Int.reduceToNat, Int.reduceEq, Nat.reduceBEq, encH, valsI, bbI, u64D, encV]); (simp [encH, valsI, bbI, u64D, encV]; done))))
      refine W_loopR (ι := Nat) (fun j => j ≤ seeds.length)
        (fun j => stOf [(2, .i (bbI seeds)), (3, .pt 100 0 0 0), (6, .pt 101 0 0 0), (10, .pt 102 0 0 0), (38, .i (valsI vals)), (39, intD vals.length), (40, intD i), (12, .pt 104 0 0 0), (13, .pt 105 0 0 0), (44, .i (bbI seeds)), (45, intD seeds.length), (46, intD j)]
          [(100, .box ((encH h).map .i)), (101, .box [.i (.s (.string ⟨#[]⟩)), .i (.s (.int .i64 0)), .i (.s (.int .i64 0)), .i (.s (.slice none 0 0)), .i (.s (.slice none 0 0)), .i (.s (.slice none 0 0)), .i (.s (.slice none 0 0)), .i (.s (.slice none 0 0))]),
           (102, .box ((encH h).map .i ++ [.i (valsI vals), .os 103 3 0 i])), (103, .arr 3 (P.map encX)), (104, .box [.i (.s (.int .u64 v.k)), .i (.s (.int .u64 v.p))]), (105, .box ((encX (voteF h (seeds.take j) v)).map .i))]) (fun j => seeds.length - j) 0 (Nat.zero_le _) ?_ ?_
      · (refine le_stOf _ _ [] [(100, 100), (101, 101), (102, 102), (103, 103), (104, 4074), (105, 4328)] ?_ ?_ rfl rfl <;> (simp [Int.natCast_add, Int.natCast_zero, Int.natCast_one, encH, valsI, bbI, u64D, encX, voteF]; done))
      · rintro j hj RL2 hL2
        rw [stOf_eq]
        by_cases h2 : j < seeds.length
        · have e2 : (seeds.map fun b => [bI b])[j]? = some [bI seeds[j]] := get_lt (f := fun b => [bI b]) h2
          have hsm := hd.b _ (List.getElem_mem h2)
          have c1 := rkey_A seeds[j] hsm
          have c2 := rbytes_A h hs.c hs.root hs.vals hs.next
          have c3 := rsignS_A seeds[j] (bytesH h) hsm (by have := bytesH_len h; omega)
          have hvs := voteF_succ (h := h) (v := v) h2
          have k1 : ((keyF seeds[j] : Int) = (v.k : Int)) = (keyF seeds[j] = v.k) := propext (by omega)
          generalize hsd : seeds[j] = sd at *
          generalize voteF h (seeds.take j) v = x0 at *
          by_cases hk1 : keyF sd = v.k
          · rw [if_pos hk1.symm] at hvs
            clear hst hml hs hd hk ok hsm
            (repeat' (first | (simp -implicitDefEqProofs only [go_sem, Nat.reduceLT, Nat.reduceAdd, Nat.reduceMul, reduceIte, Nat.reduceEqDiff, reduceCtorEq, Nat.reducePow, Nat.reduceLeDiff, Int.reduceLE, Int.reduceLT, Int.reduceToNat, Int.reduceEq, Nat.reduceBEq, encH, valsI, bbI, u64D, encX, hdrD, sealD, *]) | (with_reducible refine ⟨?_, ?_⟩; (· first | (obtain ⟨rfl⟩ := ‹Hq _ _›; with_reducible refine chk_ok ?_; kernel_rfl) | kernel_rfl)) | (with_reducible intro ops hops) | (simp -implicitDefEqProofs (disch := omega) only [wr64, wru64, get_lt]) | ((with_reducible refine call_id ?_); (first | ((with_reducible refine Call_fl (c1) ?_ ?_ ?_); (· (simp [encH, valsI, bbI, u64D, encX, hdrD, sealD]; done)); (· (simp [encH, valsI, bbI, u64D, encX, hdrD, sealD, and_assoc]; done))) | ((with_reducible refine Call_fz (c2) ?_ ?_); (· (simp [encH, valsI, bbI, u64D, encX, hdrD, sealD, and_assoc]; done))) | ((with_reducible refine Call_fl (c3) ?_ ?_ ?_); (· (simp [encH, valsI, bbI, u64D, encX, hdrD, sealD]; done)); (· (simp [encH, valsI, bbI, u64D, encX, hdrD, sealD, and_assoc]; done))))) | ((with_reducible refine callF_id ?_); (first | ((with_reducible refine CallF_fl (c1) ?_ ?_ ?_); (· (simp [encH, valsI, bbI, u64D, encX, hdrD, sealD]; done)); (· (intro G hG; simp [encH, valsI, bbI, u64D, encX, hdrD, sealD] at hG; simp [encH, valsI, bbI, u64D, encX, hdrD, sealD, hG, and_assoc]; done))) | ((with_reducible refine CallF_fz (c2) ?_ ?_); (· (intro G hG; simp [encH, valsI, bbI, u64D, encX, hdrD, sealD] at hG; simp [encH, valsI, bbI, u64D, encX, hdrD, sealD, hG, and_assoc]; done))) | ((with_reducible refine CallF_fl (c3) ?_ ?_ ?_); (· (simp [encH, valsI, bbI, u64D, encX, hdrD, sealD]; done)); (· (intro G hG; simp [encH, valsI, bbI, u64D, encX, hdrD, sealD] at hG; simp [encH, valsI, bbI, u64D, encX, hdrD, sealD, hG, and_assoc]; done))))) | ((first | refine Wc_split (fun hg => ?_) (fun hg => ?_) | refine RoG_split (fun hg => ?_) (fun hg => ?_) | refine RdG_split (fun hg => ?_) (fun hg => ?_)) <;> (try simp only [nrm] at hg) <;> (try simp only [hg, lgc, reduceIte, reduceCtorEq] at hR) <;> (try (exfalso; omega))) | (refine hL2 (j + 1) _ (h2) ?_ ?_; (· (refine le_stOf _ _ [] [(100, 100), (101, 101), (102, 102), (103, 103), (104, 104), (105, 105)] ?_ ?_ rfl rfl <;> (simp [Int.natCast_add, Int.natCast_zero, Int.natCast_one, encH, valsI, bbI, u64D, encX, hvs]; done))); (· (first | omega | (simp only; omega)))) | ((try simp only [*, lgc, reduceIte, reduceCtorEq] at hR); obtain ⟨rfl⟩ := hR; refine fin_q (rs := [.cell 6 41, .tmp 7]) rfl ?_; (try simp only [go_sem, Nat.reduceLT, Nat.reduceAdd, Nat.reduceMul, reduceIte, Nat.reduceEqDiff, reduceCtorEq, Nat.reducePow, Nat.reduceLeDiff, Int.reduceLE, Int.reduceLT, Int.reduceToNat, Int.reduceEq, Nat.reduceBEq, encH, valsI, bbI, u64D, encX, hdrD, sealD]); (simp [encH, valsI, bbI, u64D, encX, hdrD, sealD]; done))))
          · rw [if_neg (fun e => hk1 e.symm)] at hvs
            clear hst hml hs hd hk ok hsm c2 c3
            (repeat' (first | (simp -implicitDefEqProofs only [go_sem, Nat.reduceLT, Nat.reduceAdd, Nat.reduceMul, reduceIte, Nat.reduceEqDiff, reduceCtorEq, Nat.reducePow, Nat.reduceLeDiff, Int.reduceLE, Int.reduceLT, Int.reduceToNat, Int.reduceEq, Nat.reduceBEq, encH, valsI, bbI, u64D, encX, hdrD, sealD, *]) | (with_reducible refine ⟨?_, ?_⟩; (· first | (obtain ⟨rfl⟩ := ‹Hq _ _›; with_reducible refine chk_ok ?_; kernel_rfl) | kernel_rfl)) | (with_reducible intro ops hops) | (simp -implicitDefEqProofs (disch := omega) only [wr64, wru64, get_lt]) | ((with_reducible refine call_id ?_); (first | ((with_reducible refine Call_fl (c1) ?_ ?_ ?_); (· (simp [encH, valsI, bbI, u64D, encX, hdrD, sealD]; done)); (· (simp [encH, valsI, bbI, u64D, encX, hdrD, sealD, and_assoc]; done))))) | ((with_reducible refine callF_id ?_); (first | ((with_reducible refine CallF_fl (c1) ?_ ?_ ?_); (· (simp [encH, valsI, bbI, u64D, encX, hdrD, sealD]; done)); (· (intro G hG; simp [encH, valsI, bbI, u64D, encX, hdrD, sealD] at hG; simp [encH, valsI, bbI, u64D, encX, hdrD, sealD, hG, and_assoc]; done))))) | ((first | refine Wc_split (fun hg => ?_) (fun hg => ?_) | refine RoG_split (fun hg => ?_) (fun hg => ?_) | refine RdG_split (fun hg => ?_) (fun hg => ?_)) <;> (try simp only [nrm] at hg) <;> (try simp only [hg, lgc, reduceIte, reduceCtorEq] at hR) <;> (try (exfalso; omega))) | (refine hL2 (j + 1) _ (h2) ?_ ?_; (· (refine le_stOf _ _ [] [(100, 100), (101, 101), (102, 102), (103, 103), (104, 104), (105, 105)] ?_ ?_ rfl rfl <;> (simp [Int.natCast_add, Int.natCast_zero, Int.natCast_one, encH, valsI, bbI, u64D, encX, hvs]; done))); (· (first | omega | (simp only; omega)))) | ((try simp only [*, lgc, reduceIte, reduceCtorEq] at hR); obtain ⟨rfl⟩ := hR; refine fin_q (rs := [.cell 6 41, .tmp 7]) rfl ?_; (try simp only [go_sem, Nat.reduceLT, Nat.reduceAdd, Nat.reduceMul, reduceIte, Nat.reduceEqDiff, reduceCtorEq, Nat.reducePow, Nat.reduceLeDiff, Int.reduceLE, Int.reduceLT, Int.reduceToNat, Int.reduceEq, Nat.reduceBEq, encH, valsI, bbI, u64D, encX, hdrD, sealD]); (simp [encH, valsI, bbI, u64D, encX, hdrD, sealD]; done))))
        · obtain rfl : j = seeds.length := by omega
          have htk : seeds.take seeds.length = seeds := List.take_length
          rw [htk]
          generalize voteF h seeds v = x0 at *
          have u1 : uni 3 (P.map encX) = true := uni_map (s := 3) (f := encX) (fun _ => rfl) P
          have f1 : (i + 1) * 24 ≤ 140737488355328 := by omega
          have f2 : i ≤ 140737488355327 := by omega
          clear hs hd hk ok htk
          (repeat' (first | (simp -implicitDefEqProofs only [go_sem, Nat.reduceLT, Nat.reduceAdd, Nat.reduceMul, reduceIte, Nat.reduceEqDiff, reduceCtorEq, Nat.reducePow, Nat.reduceLeDiff, Int.reduceLE, Int.reduceLT, Int.reduceToNat, Int.reduceEq, Nat.reduceBEq, encH, valsI, bbI, u64D, encX, *]) | (with_reducible refine ⟨?_, ?_⟩; (· first | (obtain ⟨rfl⟩ := ‹Hq _ _›; with_reducible refine chk_ok ?_; kernel_rfl) | kernel_rfl)) | (with_reducible intro ops hops) | (simp -implicitDefEqProofs (disch := omega) only [wr64, wru64, get_lt]) | ((first | refine Wc_split (fun hg => ?_) (fun hg => ?_) | refine RoG_split (fun hg => ?_) (fun hg => ?_) | refine RdG_split (fun hg => ?_) (fun hg => ?_)) <;> (try simp only [nrm] at hg) <;> (try simp only [hg, lgc, reduceIte, reduceCtorEq] at hR) <;> (try (exfalso; omega))) | (refine hL (i + 1) _ (h1) ?_ ?_; (· (refine le_stOf _ _ [] [(100, 100), (101, 101), (102, 102), (103, 6124)] ?_ ?_ rfl rfl <;> (simp [Int.natCast_add, Int.natCast_zero, Int.natCast_one, encH, valsI, bbI, u64D, encX, hst]; done))); (· (first | omega | (simp only; omega)))) | ((try simp only [*, lgc, reduceIte, reduceCtorEq] at hR); obtain ⟨rfl⟩ := hR; refine fin_q (rs := [.cell 6 41, .tmp 7]) rfl ?_; (try simp only [go_sem, Nat.reduceLT, Nat.reduceAdd, Nat.reduceMul, reduceIte, Nat.reduceEqDiff, reduceCtorEq, Nat.reducePow, Nat.reduceLeDiff, Int.reduceLE, Int.reduceLT, Int.reduceToNat, Int.reduceEq, Nat.reduceBEq, encH, valsI, bbI, u64D, encX]); (simp [encH, valsI, bbI, u64D, encX]; done))))
    · obtain rfl : i = vals.length := by omega
      have ht : vals.take vals.length = vals := List.take_length
      rw [ht]
      clear hs hd hk ok ht
      (repeat' (first | (simp -implicitDefEqProofs only [go_sem, Nat.reduceLT, Nat.reduceAdd, Nat.reduceMul, reduceIte, Nat.reduceEqDiff, reduceCtorEq, Nat.reducePow, Nat.reduceLeDiff, Int.reduceLE, Int.reduceLT, Int.reduceToNat, Int.reduceEq, Nat.reduceBEq, encH, valsI, bbI, signedD, votesI, *]) | (with_reducible refine ⟨?_, ?_⟩; (· first | (obtain ⟨rfl⟩ := ‹Hq _ _›; with_reducible refine chk_ok ?_; kernel_rfl) | kernel_rfl)) | (with_reducible intro ops hops) | (simp -implicitDefEqProofs (disch := omega) only [wr64, wru64, get_lt]) | ((first | refine Wc_split (fun hg => ?_) (fun hg => ?_) | refine RoG_split (fun hg => ?_) (fun hg => ?_) | refine RdG_split (fun hg => ?_) (fun hg => ?_)) <;> (try simp only [nrm] at hg) <;> (try simp only [hg, lgc, reduceIte, reduceCtorEq] at hR) <;> (try (exfalso; omega))) | ((try simp only [*, lgc, reduceIte, reduceCtorEq] at hR); obtain ⟨rfl⟩ := hR; refine fin_q (rs := [.cell 6 41, .tmp 7]) rfl ?_; (try simp only [go_sem, Nat.reduceLT, Nat.reduceAdd, Nat.reduceMul, reduceIte, Nat.reduceEqDiff, reduceCtorEq, Nat.reducePow, Nat.reduceLeDiff, Int.reduceLE, Int.reduceLT, Int.reduceToNat, Int.reduceEq, Nat.reduceBEq, encH, valsI, bbI, signedD, votesI]); (simp [encH, valsI, bbI, signedD, votesI]; done))))
end Go.Proofs.Ytdpfjmkilbepgaa
