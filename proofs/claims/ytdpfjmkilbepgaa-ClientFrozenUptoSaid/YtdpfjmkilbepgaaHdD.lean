/- header.Overlap, Sign: by value. (hdrD signedD) -/
import Derived.Test.YtdpfjmkilbepgaaHdC
set_option linter.all false
namespace Go.Proofs.Ytdpfjmkilbepgaa
open Go Go.Abs Go.RowKit Go.Proofs.Ytdpfjmkilbepgaa.Ty

set_option maxHeartbeats 4000000
theorem hit_le {z : List (ValD × VoteD)} {t : ValD} (ht : t.p ≤ 1000000) (hz : z.length ≤ 10) (i : Nat) : hitF (z.take i) t ≤ 10000000 := by
  have h1 := sum_le (f := hitOf t) (k := 1000000) (l := z.take i) (fun q _ => by unfold hitOf; split <;> omega)
  have h3 : (z.take i).length ≤ 10 := by rw [List.length_take]; omega
  unfold hitF
  have : (z.take i).length * 1000000 ≤ 10 * 1000000 := Nat.mul_le_mul_right _ h3
  omega
theorem hits_le {z : List (ValD × VoteD)} {tr : List ValD} (ht : ValsOk tr) (hz : z.length ≤ 10) (j : Nat) : hitsF z (tr.take j) ≤ 100000000 := by
  have h1 := sum_le (f := hitF z) (k := 10000000) (l := tr.take j) (take_mem fun t h => by
    have := hit_le (t := t) (ht.pow t h).2 hz z.length
    rw [List.take_length] at this; exact this)
  have h2 := ht.len
  have h3 : (tr.take j).length ≤ 10 := by rw [List.length_take]; omega
  unfold hitsF
  have : (tr.take j).length * 10000000 ≤ 10 * 10000000 := Nat.mul_le_mul_right _ h3
  omega
theorem hover_A (tr : List ValD) (s : SignedD) (ht : ValsOk tr) (hv : ValsOk s.vals) (hl : s.votes.length = s.vals.length) : PureD Try.prog 38 [.i (valsI tr), signedD s] (boolD (overF tr s)) := by
  refine hide_r fun R hR => ?_
  have hlen := ht.len
  have hlz : (s.vals.zip s.votes).length = s.vals.length := by rw [List.length_zip]; omega
  have hz10 : (s.vals.zip s.votes).length ≤ 10 := by have := hv.len; omega
  have hsl := hv.len
  unfold overF at hR
  generalize hz : s.vals.zip s.votes = z at *
  refine callD_W 52 Try.func38 rfl rfl rfl (fun _ _ => rfl) ?_
  (repeat' (first | (simp -implicitDefEqProofs only [go_sem, Nat.reduceLT, Nat.reduceAdd, Nat.reduceMul, reduceIte, Nat.reduceEqDiff, reduceCtorEq, Nat.reducePow, Nat.reduceLeDiff, Int.reduceLE, Int.reduceLT, Int.reduceToNat, Int.reduceEq, Nat.reduceBEq, signedD, bI, valsI, votesI, u64D, boolD, intD, *]) | (with_reducible refine ⟨?_, ?_⟩; (· first | (obtain ⟨rfl⟩ := ‹Hq _ _›; with_reducible refine chk_ok ?_; kernel_rfl) | kernel_rfl)) | (with_reducible intro ops hops) | (simp -implicitDefEqProofs (disch := omega) only [wr64, wru64, get_lt]) | ((first | refine Wc_split (fun hg => ?_) (fun hg => ?_) | refine RoG_split (fun hg => ?_) (fun hg => ?_) | refine RdG_split (fun hg => ?_) (fun hg => ?_)) <;> (try simp only [nrm] at hg) <;> (try simp only [hg, lgc, reduceIte, reduceCtorEq] at hR) <;> (try (exfalso; omega))) | ((try simp only [*, lgc, reduceIte, reduceCtorEq] at hR); obtain ⟨rfl⟩ := hR; refine fin_q (rs := [.tmp 4]) rfl ?_; (try simp only [go_sem, Nat.reduceLT, Nat.reduceAdd, Nat.reduceMul, reduceIte, Nat.reduceEqDiff, reduceCtorEq, Nat.reducePow, Nat.reduceLeDiff, Int.reduceLE, Int.reduceLT, Int.reduceToNat, Int.reduceEq, Nat.reduceBEq, signedD, bI, valsI, votesI, u64D, boolD, intD]); (simp [signedD, bI, valsI, votesI, u64D, boolD, intD]; done))))
  refine W_loopI (ι := Nat) (fun j => j ≤ tr.length)
    (fun j => stOf [(3, .pt 100 0 0 0), (5, u64D (sumP (tr.take j))), (6, u64D (hitsF z (tr.take j))), (11, .i (valsI tr)), (12, intD tr.length), (13, intD j)] [(100, .box ((encS s).map .i))]) (fun j => tr.length - j) 0 (Nat.zero_le _) ?_ ?_
  · (refine le_stOf _ _ [] [(100, 1000)] ?_ ?_ rfl rfl <;> (simp [Int.natCast_add, Int.natCast_zero, Int.natCast_one, encS, valsI, votesI, u64D, sumP, hitsF]; done))
  · rintro j hj
    rw [stOf_eq]
    by_cases h : j < tr.length
    · have e1 := get_lt (f := encV) h
      have b1 := sumP_le ht j
      have b2 := hits_le ht hz10 j
      have b3 := ht.pow tr[j] (List.getElem_mem h)
      have t1 : sumP (tr.take (j + 1)) = sumP (tr.take j) + tr[j].p := sum_take h
      have t2 : hitsF z (tr.take (j + 1)) = hitsF z (tr.take j) + hitF z tr[j] := sum_take h
      generalize tr[j] = t at *
      generalize sumP (tr.take j) = A at *
      generalize hitsF z (tr.take j) = B at *
      have w1 : IntKind.u64.wrap ((A : Int) + (t.p : Int)) = ((A + t.p : Nat) : Int) := by rw [IntKind.wrap_u64]; omega
      (repeat' (first | (simp -implicitDefEqProofs only [go_sem, Nat.reduceLT, Nat.reduceAdd, Nat.reduceMul, reduceIte, Nat.reduceEqDiff, reduceCtorEq, Nat.reducePow, Nat.reduceLeDiff, Int.reduceLE, Int.reduceLT, Int.reduceToNat, Int.reduceEq, Nat.reduceBEq, encS, bI, valsI, votesI, u64D, boolD, intD, encV, *]) | (with_reducible refine ⟨?_, ?_⟩; (· first | (obtain ⟨rfl⟩ := ‹Hq _ _›; with_reducible refine chk_ok ?_; kernel_rfl) | kernel_rfl)) | (with_reducible intro ops hops) | (simp -implicitDefEqProofs (disch := omega) only [wr64, wru64, get_lt]) | ((first | refine Wc_split (fun hg => ?_) (fun hg => ?_) | refine RoG_split (fun hg => ?_) (fun hg => ?_) | refine RdG_split (fun hg => ?_) (fun hg => ?_)) <;> (try simp only [nrm] at hg) <;> (try simp only [hg, lgc, reduceIte, reduceCtorEq] at hR) <;> (try (exfalso; omega))) | ((try simp only [*, lgc, reduceIte, reduceCtorEq] at hR); obtain ⟨rfl⟩ := hR; refine fin_q (rs := [.tmp 4]) rfl ?_; (try simp only [go_sem, Nat.reduceLT, Nat.reduceAdd, Nat.reduceMul, reduceIte, Nat.reduceEqDiff, reduceCtorEq, Nat.reducePow, Nat.reduceLeDiff, Int.reduceLE, Int.reduceLT, Int.reduceToNat, Int.reduceEq, Nat.reduceBEq, encS, bI, valsI, votesI, u64D, boolD, intD, encV]); (simp [encS, bI, valsI, votesI, u64D, boolD, intD, encV]; done))))
      refine W_loopI (ι := Nat) (fun i => i ≤ s.vals.length)
        (fun i => stOf [(3, .pt 100 0 0 0), (8, .pt 101 0 0 0), (5, u64D (A + t.p)), (6, u64D (B + hitF (z.take i) t)), (11, .i (valsI tr)), (12, intD tr.length), (13, intD j), (22, .i (valsI s.vals)), (23, intD s.vals.length), (24, intD i)] [(100, .box ((encS s).map .i)), (101, .box [.i (.s (.int .u64 t.k)), .i (.s (.int .u64 t.p))])]) (fun i => s.vals.length - i) 0 (Nat.zero_le _) ?_ ?_
      · (refine le_stOf _ _ [] [(100, 100), (101, 2026)] ?_ ?_ rfl rfl <;> (simp [Int.natCast_add, Int.natCast_zero, Int.natCast_one, encS, valsI, votesI, u64D, hitF]; done))
      · rintro i hi
        rw [stOf_eq]
        by_cases h' : i < s.vals.length
        · have h2 : i < s.votes.length := by omega
          have e1 := get_lt (f := encV) h'
          have e2 := get_lt (f := encX) h2
          have b4 := hit_le (t := t) b3.2 hz10 i
          have t3 : hitF (z.take (i + 1)) t = hitF (z.take i) t + hitOf t (z[i]'(by omega)) := sum_take (by omega)
          have hzi : z[i]'(by omega) = (s.vals[i], s.votes[i]) := by subst hz; exact zip_get h' h2
          rw [hzi] at t3
          clear hzi
          generalize s.vals[i] = v at *
          generalize s.votes[i] = x at *
          generalize hitF (z.take i) t = C at *
          rw [show hitOf t (v, x) = if v.k = t.k ∧ x.is = true then t.p else 0 from rfl] at t3
          have w2 : IntKind.u64.wrap (((B + C : Nat) : Int) + (t.p : Int)) = ((B + C + t.p : Nat) : Int) := by rw [IntKind.wrap_u64]; omega
          have k1 : ((v.k : Int) = (t.k : Int)) = (v.k = t.k) := propext (by omega)
          clear hR b1 b2 b3 b4 hlz hlen ht hv t1 t2 w1 hz hz10
          obtain ⟨xi, xr, xs⟩ := x
          by_cases hk : v.k = t.k <;> cases xi <;> simp only [hk, true_and, Bool.false_eq_true, if_false, if_true, and_self, false_and, and_false, Nat.add_zero] at t3
          all_goals
            (repeat' (first | (simp -implicitDefEqProofs only [go_sem, Nat.reduceLT, Nat.reduceAdd, Nat.reduceMul, reduceIte, Nat.reduceEqDiff, reduceCtorEq, Nat.reducePow, Nat.reduceLeDiff, Int.reduceLE, Int.reduceLT, Int.reduceToNat, Int.reduceEq, Nat.reduceBEq, encS, bI, valsI, votesI, u64D, boolD, intD, encV, encX, *]) | (with_reducible refine ⟨?_, ?_⟩; (· first | (obtain ⟨rfl⟩ := ‹Hq _ _›; with_reducible refine chk_ok ?_; kernel_rfl) | kernel_rfl)) | (with_reducible intro ops hops) | (simp -implicitDefEqProofs (disch := omega) only [wr64, wru64, get_lt]) | ((first | refine Wc_split (fun hg => ?_) (fun hg => ?_) | refine RoG_split (fun hg => ?_) (fun hg => ?_) | refine RdG_split (fun hg => ?_) (fun hg => ?_)) <;> (try simp only [nrm] at hg) <;> (try simp only [hg, lgc, reduceIte, reduceCtorEq] at hR) <;> (try (exfalso; omega))) | (refine ⟨i + 1, h', ?_, ?_⟩; (· (refine le_stOf _ _ [] [(100, 100), (101, 101)] ?_ ?_ rfl rfl <;> (simp [Int.natCast_add, Int.natCast_zero, Int.natCast_one, encS, valsI, votesI, u64D, t3, Nat.add_assoc, Int.add_assoc]; done))); (· (simp only; omega))) | ((try simp only [*, lgc, reduceIte, reduceCtorEq] at hR); obtain ⟨rfl⟩ := hR; refine fin_q (rs := [.tmp 4]) rfl ?_; (try simp only [go_sem, Nat.reduceLT, Nat.reduceAdd, Nat.reduceMul, reduceIte, Nat.reduceEqDiff, reduceCtorEq, Nat.reducePow, Nat.reduceLeDiff, Int.reduceLE, Int.reduceLT, Int.reduceToNat, Int.reduceEq, Nat.reduceBEq, encS, bI, valsI, votesI, u64D, boolD, intD, encV, encX]); (simp [encS, bI, valsI, votesI, u64D, boolD, intD, encV, encX]; done))))
        · have hti : z.take i = z := List.take_of_length_le (by omega)
          rw [hti]
          clear hR b1 b2 b3 ht hv hlz hz10 hti w1
          (repeat' (first | (simp -implicitDefEqProofs only [go_sem, Nat.reduceLT, Nat.reduceAdd, Nat.reduceMul, reduceIte, Nat.reduceEqDiff, reduceCtorEq, Nat.reducePow, Nat.reduceLeDiff, Int.reduceLE, Int.reduceLT, Int.reduceToNat, Int.reduceEq, Nat.reduceBEq, encS, bI, valsI, votesI, u64D, boolD, intD, *]) | (with_reducible refine ⟨?_, ?_⟩; (· first | (obtain ⟨rfl⟩ := ‹Hq _ _›; with_reducible refine chk_ok ?_; kernel_rfl) | kernel_rfl)) | (with_reducible intro ops hops) | (simp -implicitDefEqProofs (disch := omega) only [wr64, wru64, get_lt]) | ((first | refine Wc_split (fun hg => ?_) (fun hg => ?_) | refine RoG_split (fun hg => ?_) (fun hg => ?_) | refine RdG_split (fun hg => ?_) (fun hg => ?_)) <;> (try simp only [nrm] at hg) <;> (try simp only [hg, lgc, reduceIte, reduceCtorEq] at hR) <;> (try (exfalso; omega))) | (refine ⟨j + 1, h, ?_, ?_⟩; (· (refine le_stOf _ _ [] [(100, 100)] ?_ ?_ rfl rfl <;> (simp [Int.natCast_add, Int.natCast_zero, Int.natCast_one, encS, valsI, votesI, u64D, t1, t2]; done))); (· (simp only; omega))) | ((try simp only [*, lgc, reduceIte, reduceCtorEq] at hR); obtain ⟨rfl⟩ := hR; refine fin_q (rs := [.tmp 4]) rfl ?_; (try simp only [go_sem, Nat.reduceLT, Nat.reduceAdd, Nat.reduceMul, reduceIte, Nat.reduceEqDiff, reduceCtorEq, Nat.reducePow, Nat.reduceLeDiff, Int.reduceLE, Int.reduceLT, Int.reduceToNat, Int.reduceEq, Nat.reduceBEq, encS, bI, valsI, votesI, u64D, boolD, intD]); (simp [encS, bI, valsI, votesI, u64D, boolD, intD]; done))))
    · have htj : tr.take j = tr := List.take_of_length_le (by omega)
      have b1 := sumP_le ht j
      have b2 := hits_le ht hz10 j
      rw [htj] at b1 b2 ⊢
      generalize sumP tr = A at *
      generalize hitsF z tr = B at *
      have w1 : IntKind.u64.wrap (3 * (B : Int)) = ((3 * B : Nat) : Int) := by rw [IntKind.wrap_u64]; omega
      have k1 : decide ((A : Int) < ((3 * B : Nat) : Int)) = decide (A < 3 * B) := by congr 1; exact propext (by omega)
      clear b1 b2 ht hv hlz hz10 htj
      (repeat' (first | (simp -implicitDefEqProofs only [go_sem, Nat.reduceLT, Nat.reduceAdd, Nat.reduceMul, reduceIte, Nat.reduceEqDiff, reduceCtorEq, Nat.reducePow, Nat.reduceLeDiff, Int.reduceLE, Int.reduceLT, Int.reduceToNat, Int.reduceEq, Nat.reduceBEq, encS, bI, valsI, votesI, u64D, boolD, intD, *]) | (with_reducible refine ⟨?_, ?_⟩; (· first | (obtain ⟨rfl⟩ := ‹Hq _ _›; with_reducible refine chk_ok ?_; kernel_rfl) | kernel_rfl)) | (with_reducible intro ops hops) | (simp -implicitDefEqProofs (disch := omega) only [wr64, wru64, get_lt]) | ((first | refine Wc_split (fun hg => ?_) (fun hg => ?_) | refine RoG_split (fun hg => ?_) (fun hg => ?_) | refine RdG_split (fun hg => ?_) (fun hg => ?_)) <;> (try simp only [nrm] at hg) <;> (try simp only [hg, lgc, reduceIte, reduceCtorEq] at hR) <;> (try (exfalso; omega))) | ((try simp only [*, lgc, reduceIte, reduceCtorEq] at hR); obtain ⟨rfl⟩ := hR; refine fin_q (rs := [.tmp 4]) rfl ?_; (try simp only [go_sem, Nat.reduceLT, Nat.reduceAdd, Nat.reduceMul, reduceIte, Nat.reduceEqDiff, reduceCtorEq, Nat.reducePow, Nat.reduceLeDiff, Int.reduceLE, Int.reduceLT, Int.reduceToNat, Int.reduceEq, Nat.reduceBEq, encS, bI, valsI, votesI, u64D, boolD, intD]); (simp [encS, bI, valsI, votesI, u64D, boolD, intD]; done))))
/-- votes, when so many seeds were gone through, and the next one up to a place -/
def votesAt (h : HdrD) (seeds : List (List UInt8)) (vals : List ValD) (j i : Nat) : List VoteD := (vals.take i).map (voteF h (seeds.take (j + 1))) ++ (vals.drop i).map (voteF h (seeds.take j))
theorem voteF_succ {h : HdrD} {seeds : List (List UInt8)} {v : ValD} {j : Nat} (hj : j < seeds.length) : voteF h (seeds.take (j + 1)) v = if v.k = keyF seeds[j] then ⟨true, sigR seeds[j] (bytesH h), sigS seeds[j] (bytesH h)⟩ else voteF h (seeds.take j) v := by
  unfold voteF
  rw [List.take_succ_eq_append_getElem hj, List.foldl_append]; rfl
theorem votesAt_len (h : HdrD) (seeds : List (List UInt8)) (vals : List ValD) (j i : Nat) : (votesAt h seeds vals j i).length = vals.length := by
  simp [votesAt]; omega
theorem votesAt_end (h : HdrD) (seeds : List (List UInt8)) (vals : List ValD) (j : Nat) : votesAt h seeds vals j vals.length = votesAt h seeds vals (j + 1) 0 := by
  simp [votesAt]
theorem votesAt_set {h : HdrD} {seeds : List (List UInt8)} {vals : List ValD} {j i : Nat} (hi : i < vals.length) : votesAt h seeds vals j (i + 1) = (votesAt h seeds vals j i).set i (voteF h (seeds.take (j + 1)) vals[i]) := by
  unfold votesAt
  have hl : ((vals.take i).map (voteF h (seeds.take (j + 1)))).length = i := by simp; omega
  rw [List.set_append_right _ _ (by omega), hl, Nat.sub_self, List.take_succ_eq_append_getElem hi, List.map_append, List.drop_eq_getElem_cons hi, List.map_cons, List.map_cons, List.map_nil, List.set_cons_zero, List.append_assoc]
  rfl
theorem votesAt_get {h : HdrD} {seeds : List (List UInt8)} {vals : List ValD} {j i : Nat} (hi : i < vals.length) : (votesAt h seeds vals j i)[i]? = some (voteF h (seeds.take j) vals[i]) := by
  unfold votesAt
  have hl : ((vals.take i).map (voteF h (seeds.take (j + 1)))).length = i := by simp; omega
  rw [List.getElem?_append_right (by omega), hl, Nat.sub_self, List.drop_eq_getElem_cons hi]
  rfl
theorem votesAt_zero (h : HdrD) (seeds : List (List UInt8)) (vals : List ValD) : votesAt h seeds vals 0 0 = List.replicate vals.length ⟨false, 0, 0⟩ := by
  unfold votesAt voteF
  simp only [List.take_zero, List.map_nil, List.drop_zero, List.nil_append, List.foldl_nil]
  induction vals with
  | nil => rfl
  | cons a t ih => rw [List.map_cons, ih, List.length_cons, List.replicate_succ]
theorem votesAt_all (h : HdrD) (seeds : List (List UInt8)) (vals : List ValD) : votesAt h seeds vals seeds.length 0 = vals.map (voteF h seeds) := by
  unfold votesAt
  simp
theorem set_same {α : Type} {l : List α} {i : Nat} {x : α} (h : l[i]? = some x) : l.set i x = l := by
  apply List.ext_getElem?
  intro k
  rw [List.getElem?_set]
  split
  · rename_i e; subst e; rw [h]; simp
    have := (List.getElem?_eq_some_iff.1 h).1
    exact this
  · rfl
structure SeedsSm (l : List (List UInt8)) : Prop where
  len : l.length ≤ 1048576
  b : ∀ s ∈ l, s.length ≤ 1048576
theorem hsign_A (h : HdrD) (vals : List ValD) (seeds : List (List UInt8)) (hs : HdrSm h) (hl : vals.length ≤ 1048576) (hk : ∀ v ∈ vals, v.k < 18446744073709551616 ∧ v.p < 18446744073709551616) (hd : SeedsSm seeds) :
    PureD Try.prog 21 [hdrD h, .i (valsI vals), .i (bbI seeds)] (.tup [signedD (signF h vals seeds).1, intD (signF h vals seeds).2]) := by
  refine hide_r fun R hR => ?_
  have c1 := hwrong_A h
  have c2 := hvals_A vals (by omega)
  have c4 := equal_A (digestV vals) h.vals
  have c5 := hown_A h hs.root hs.vals hs.next
  unfold signF at hR
  by_cases hok : valsW vals = 0 ∧ digestV vals = h.vals ∧ wrongH h = 0
  rotate_left
  · clear c5
    by_cases h1 : wrongH h = 0
    · by_cases h2 : valsW vals = 0
      · have c3 := hdigest_A vals (by have := (valsW_zero.1 h2).len; omega) hk
        generalize wrongH h = Wr at *
        generalize valsW vals = V at *
        generalize digestV vals = X at *
        clear hs hl hk hd
        have h3 : ¬ X = h.vals := fun e => hok ⟨h2, e, h1⟩
        clear hok
        refine callD_W 74 Try.func21 rfl rfl rfl (fun _ _ => rfl) ?_
        (repeat' (first | (simp -implicitDefEqProofs only [go_sem, Nat.reduceLT, Nat.reduceAdd, Nat.reduceMul, reduceIte, Nat.reduceEqDiff, reduceCtorEq, Nat.reducePow, Nat.reduceLeDiff, Int.reduceLE, Int.reduceLT, Int.reduceToNat, Int.reduceEq, Nat.reduceBEq, hdrD, bI, valsI, intD, signedD, zeroS, zeroH, votesI, *]) | (with_reducible refine ⟨?_, ?_⟩; (· first | (obtain ⟨rfl⟩ := ‹Hq _ _›; with_reducible refine chk_ok ?_; kernel_rfl) | kernel_rfl)) | (with_reducible intro ops hops) | (simp -implicitDefEqProofs (disch := omega) only [wr64, wru64, get_lt]) | ((with_reducible refine call_id ?_); (first | ((with_reducible refine Call_fl (c1) ?_ ?_ ?_); (· (simp [hdrD, bI, valsI, intD, signedD, zeroS, zeroH, votesI]; done)); (· (simp [hdrD, bI, valsI, intD, signedD, zeroS, zeroH, votesI, and_assoc]; done))) | ((with_reducible refine Call_fl (c2) ?_ ?_ ?_); (· (simp [hdrD, bI, valsI, intD, signedD, zeroS, zeroH, votesI]; done)); (· (simp [hdrD, bI, valsI, intD, signedD, zeroS, zeroH, votesI, and_assoc]; done))) | ((with_reducible refine Call_fz (c3) ?_ ?_); (· (simp [hdrD, bI, valsI, intD, signedD, zeroS, zeroH, votesI, and_assoc]; done))) | ((with_reducible refine Call_fl (c4) ?_ ?_ ?_); (· (simp [hdrD, bI, valsI, intD, signedD, zeroS, zeroH, votesI]; done)); (· (simp [hdrD, bI, valsI, intD, signedD, zeroS, zeroH, votesI, and_assoc]; done))))) | ((with_reducible refine callF_id ?_); (first | ((with_reducible refine CallF_fl (c1) ?_ ?_ ?_); (· (simp [hdrD, bI, valsI, intD, signedD, zeroS, zeroH, votesI]; done)); (· (intro G hG; simp [hdrD, bI, valsI, intD, signedD, zeroS, zeroH, votesI] at hG; simp [hdrD, bI, valsI, intD, signedD, zeroS, zeroH, votesI, hG, and_assoc]; done))) | ((with_reducible refine CallF_fl (c2) ?_ ?_ ?_); (· (simp [hdrD, bI, valsI, intD, signedD, zeroS, zeroH, votesI]; done)); (· (intro G hG; simp [hdrD, bI, valsI, intD, signedD, zeroS, zeroH, votesI] at hG; simp [hdrD, bI, valsI, intD, signedD, zeroS, zeroH, votesI, hG, and_assoc]; done))) | ((with_reducible refine CallF_fz (c3) ?_ ?_); (· (intro G hG; simp [hdrD, bI, valsI, intD, signedD, zeroS, zeroH, votesI] at hG; simp [hdrD, bI, valsI, intD, signedD, zeroS, zeroH, votesI, hG, and_assoc]; done))) | ((with_reducible refine CallF_fl (c4) ?_ ?_ ?_); (· (simp [hdrD, bI, valsI, intD, signedD, zeroS, zeroH, votesI]; done)); (· (intro G hG; simp [hdrD, bI, valsI, intD, signedD, zeroS, zeroH, votesI] at hG; simp [hdrD, bI, valsI, intD, signedD, zeroS, zeroH, votesI, hG, and_assoc]; done))))) | ((first | refine Wc_split (fun hg => ?_) (fun hg => ?_) | refine RoG_split (fun hg => ?_) (fun hg => ?_) | refine RdG_split (fun hg => ?_) (fun hg => ?_)) <;> (try simp only [nrm] at hg) <;> (try simp only [hg, lgc, reduceIte, reduceCtorEq] at hR) <;> (try (exfalso; omega))) | ((try simp only [*, lgc, reduceIte, reduceCtorEq] at hR); obtain ⟨rfl⟩ := hR; refine fin_q (rs := [.cell 6 41, .tmp 7]) rfl ?_; (try simp only [go_sem, Nat.reduceLT, Nat.reduceAdd, Nat.reduceMul, reduceIte, Nat.reduceEqDiff, reduceCtorEq, Nat.reducePow, Nat.reduceLeDiff, Int.reduceLE, Int.reduceLT, Int.reduceToNat, Int.reduceEq, Nat.reduceBEq, hdrD, bI, valsI, intD, signedD, zeroS, zeroH, votesI]); (simp [hdrD, bI, valsI, intD, signedD, zeroS, zeroH, votesI]; done))))
      · clear hok hs hl hk hd c4
        generalize wrongH h = Wr at *
        generalize valsW vals = V at *
        refine callD_W 74 Try.func21 rfl rfl rfl (fun _ _ => rfl) ?_
        (repeat' (first | (simp -implicitDefEqProofs only [go_sem, Nat.reduceLT, Nat.reduceAdd, Nat.reduceMul, reduceIte, Nat.reduceEqDiff, reduceCtorEq, Nat.reducePow, Nat.reduceLeDiff, Int.reduceLE, Int.reduceLT, Int.reduceToNat, Int.reduceEq, Nat.reduceBEq, hdrD, bI, valsI, intD, signedD, zeroS, zeroH, votesI, *]) | (with_reducible refine ⟨?_, ?_⟩; (· first | (obtain ⟨rfl⟩ := ‹Hq _ _›; with_reducible refine chk_ok ?_; kernel_rfl) | kernel_rfl)) | (with_reducible intro ops hops) | (simp -implicitDefEqProofs (disch := omega) only [wr64, wru64, get_lt]) | ((with_reducible refine call_id ?_); (first | ((with_reducible refine Call_fl (c1) ?_ ?_ ?_); (· (simp [hdrD, bI, valsI, intD, signedD, zeroS, zeroH, votesI]; done)); (· (simp [hdrD, bI, valsI, intD, signedD, zeroS, zeroH, votesI, and_assoc]; done))) | ((with_reducible refine Call_fl (c2) ?_ ?_ ?_); (· (simp [hdrD, bI, valsI, intD, signedD, zeroS, zeroH, votesI]; done)); (· (simp [hdrD, bI, valsI, intD, signedD, zeroS, zeroH, votesI, and_assoc]; done))))) | ((with_reducible refine callF_id ?_); (first | ((with_reducible refine CallF_fl (c1) ?_ ?_ ?_); (· (simp [hdrD, bI, valsI, intD, signedD, zeroS, zeroH, votesI]; done)); (· (intro G hG; simp [hdrD, bI, valsI, intD, signedD, zeroS, zeroH, votesI] at hG; simp [hdrD, bI, valsI, intD, signedD, zeroS, zeroH, votesI, hG, and_assoc]; done))) | ((with_reducible refine CallF_fl (c2) ?_ ?_ ?_); (· (simp [hdrD, bI, valsI, intD, signedD, zeroS, zeroH, votesI]; done)); (· (intro G hG; simp [hdrD, bI, valsI, intD, signedD, zeroS, zeroH, votesI] at hG; simp [hdrD, bI, valsI, intD, signedD, zeroS, zeroH, votesI, hG, and_assoc]; done))))) | ((first | refine Wc_split (fun hg => ?_) (fun hg => ?_) | refine RoG_split (fun hg => ?_) (fun hg => ?_) | refine RdG_split (fun hg => ?_) (fun hg => ?_)) <;> (try simp only [nrm] at hg) <;> (try simp only [hg, lgc, reduceIte, reduceCtorEq] at hR) <;> (try (exfalso; omega))) | ((try simp only [*, lgc, reduceIte, reduceCtorEq] at hR); obtain ⟨rfl⟩ := hR; refine fin_q (rs := [.cell 6 41, .tmp 7]) rfl ?_; (try simp only [go_sem, Nat.reduceLT, Nat.reduceAdd, Nat.reduceMul, reduceIte, Nat.reduceEqDiff, reduceCtorEq, Nat.reducePow, Nat.reduceLeDiff, Int.reduceLE, Int.reduceLT, Int.reduceToNat, Int.reduceEq, Nat.reduceBEq, hdrD, bI, valsI, intD, signedD, zeroS, zeroH, votesI]); (simp [hdrD, bI, valsI, intD, signedD, zeroS, zeroH, votesI]; done))))
    · clear hok hs hl hk hd c4 c2
      generalize wrongH h = Wr at *
      refine callD_W 74 Try.func21 rfl rfl rfl (fun _ _ => rfl) ?_
      (repeat' (first | (simp -implicitDefEqProofs only [go_sem, Nat.reduceLT, Nat.reduceAdd, Nat.reduceMul, reduceIte, Nat.reduceEqDiff, reduceCtorEq, Nat.reducePow, Nat.reduceLeDiff, Int.reduceLE, Int.reduceLT, Int.reduceToNat, Int.reduceEq, Nat.reduceBEq, hdrD, bI, valsI, intD, signedD, zeroS, zeroH, votesI, *]) | (with_reducible refine ⟨?_, ?_⟩; (· first | (obtain ⟨rfl⟩ := ‹Hq _ _›; with_reducible refine chk_ok ?_; kernel_rfl) | kernel_rfl)) | (with_reducible intro ops hops) | (simp -implicitDefEqProofs (disch := omega) only [wr64, wru64, get_lt]) | ((with_reducible refine call_id ?_); (first | ((with_reducible refine Call_fl (c1) ?_ ?_ ?_); (· (simp [hdrD, bI, valsI, intD, signedD, zeroS, zeroH, votesI]; done)); (· (simp [hdrD, bI, valsI, intD, signedD, zeroS, zeroH, votesI, and_assoc]; done))))) | ((with_reducible refine callF_id ?_); (first | ((with_reducible refine CallF_fl (c1) ?_ ?_ ?_); (· (simp [hdrD, bI, valsI, intD, signedD, zeroS, zeroH, votesI]; done)); (· (intro G hG; simp [hdrD, bI, valsI, intD, signedD, zeroS, zeroH, votesI] at hG; simp [hdrD, bI, valsI, intD, signedD, zeroS, zeroH, votesI, hG, and_assoc]; done))))) | ((first | refine Wc_split (fun hg => ?_) (fun hg => ?_) | refine RoG_split (fun hg => ?_) (fun hg => ?_) | refine RdG_split (fun hg => ?_) (fun hg => ?_)) <;> (try simp only [nrm] at hg) <;> (try simp only [hg, lgc, reduceIte, reduceCtorEq] at hR) <;> (try (exfalso; omega))) | ((try simp only [*, lgc, reduceIte, reduceCtorEq] at hR); obtain ⟨rfl⟩ := hR; refine fin_q (rs := [.cell 6 41, .tmp 7]) rfl ?_; (try simp only [go_sem, Nat.reduceLT, Nat.reduceAdd, Nat.reduceMul, reduceIte, Nat.reduceEqDiff, reduceCtorEq, Nat.reducePow, Nat.reduceLeDiff, Int.reduceLE, Int.reduceLT, Int.reduceToNat, Int.reduceEq, Nat.reduceBEq, hdrD, bI, valsI, intD, signedD, zeroS, zeroH, votesI]); (simp [hdrD, bI, valsI, intD, signedD, zeroS, zeroH, votesI]; done))))
  obtain ⟨h1, h2, h3⟩ := hok
  have ok := valsW_zero.1 h1
  have hvl := ok.len
  have c3 := hdigest_A vals (by omega) hk
  rw [if_pos h3, if_pos h1, if_pos h2] at hR
  rw [h3] at c1
  rw [h1] at c2
  simp only at hR
  have b1 : vals.length ≤ 140737488355328 := by omega
  have b2 : vals.length * 16 ≤ 140737488355328 := by omega
  have b3 : vals.length * 24 ≤ 140737488355328 := by omega
  have b4 : (vals.length : Int) < 140737488355328 := by omega
  have b5 : (vals.length : Int) * 24 ≤ 140737488355328 := by omega
  have hu : uni 2 (vals.map encV) = true := uni_map (s := 2) (f := encV) (fun _ => rfl) vals
  have hsl := hd.len
  rw [h2] at c3 c4
  rw [decide_eq_true (rfl : h.vals = h.vals)] at c4
  clear h1 h2 h3
  have hmk := fun {H : Nat → Ob} {id : Nat} => mkS_ok (H := H) (id := id) (s := 2) (by_ := 24) (z := [.i (.s (.bool false)), .i (.s (.int .u64 0)), .i (.s (.int .u64 0))]) (xs := [.s (.bool false), .s (.int .u64 0), .s (.int .u64 0)]) (l := vals.length) (by omega) (by omega) rfl rfl
  refine callD_W 74 Try.func21 rfl rfl rfl (fun _ _ => rfl) ?_
  (repeat' (first | (simp -implicitDefEqProofs only [go_sem, Nat.reduceLT, Nat.reduceAdd, Nat.reduceMul, reduceIte, Nat.reduceEqDiff, reduceCtorEq, Nat.reducePow, Nat.reduceLeDiff, Int.reduceLE, Int.reduceLT, Int.reduceToNat, Int.reduceEq, Nat.reduceBEq, hdrD, bI, valsI, intD, boolD, votesI, bbI, oH_mk, mk_fresh, hmk, Int.reduceMul, *]) | (with_reducible refine ⟨?_, ?_⟩; (· first | (obtain ⟨rfl⟩ := ‹Hq _ _›; with_reducible refine chk_ok ?_; kernel_rfl) | kernel_rfl)) | (with_reducible intro ops hops) | (simp -implicitDefEqProofs (disch := omega) only [wr64, wru64, get_lt]) | ((with_reducible refine call_id ?_); (first | ((with_reducible refine Call_fl (c1) ?_ ?_ ?_); (· (simp [hdrD, bI, valsI, intD, boolD, votesI, bbI, oH_mk, mk_fresh, hmk, Int.reduceMul]; done)); (· (simp [hdrD, bI, valsI, intD, boolD, votesI, bbI, oH_mk, mk_fresh, hmk, Int.reduceMul, and_assoc]; done))) | ((with_reducible refine Call_fl (c2) ?_ ?_ ?_); (· (simp [hdrD, bI, valsI, intD, boolD, votesI, bbI, oH_mk, mk_fresh, hmk, Int.reduceMul]; done)); (· (simp [hdrD, bI, valsI, intD, boolD, votesI, bbI, oH_mk, mk_fresh, hmk, Int.reduceMul, and_assoc]; done))) | ((with_reducible refine Call_fz (c3) ?_ ?_); (· (simp [hdrD, bI, valsI, intD, boolD, votesI, bbI, oH_mk, mk_fresh, hmk, Int.reduceMul, and_assoc]; done))) | ((with_reducible refine Call_fl (c4) ?_ ?_ ?_); (· (simp [hdrD, bI, valsI, intD, boolD, votesI, bbI, oH_mk, mk_fresh, hmk, Int.reduceMul]; done)); (· (simp [hdrD, bI, valsI, intD, boolD, votesI, bbI, oH_mk, mk_fresh, hmk, Int.reduceMul, and_assoc]; done))) | ((with_reducible refine Call_fz (c5) ?_ ?_); (· (simp [hdrD, bI, valsI, intD, boolD, votesI, bbI, oH_mk, mk_fresh, hmk, Int.reduceMul, and_assoc]; done))))) | ((with_reducible refine callF_id ?_); (first | ((with_reducible refine CallF_fl (c1) ?_ ?_ ?_); (· (simp [hdrD, bI, valsI, intD, boolD, votesI, bbI, oH_mk, mk_fresh, hmk, Int.reduceMul]; done)); (· (intro G hG; simp [hdrD, bI, valsI, intD, boolD, votesI, bbI, oH_mk, mk_fresh, hmk, Int.reduceMul] at hG; simp [hdrD, bI, valsI, intD, boolD, votesI, bbI, oH_mk, mk_fresh, hmk, Int.reduceMul, hG, and_assoc]; done))) | ((with_reducible refine CallF_fl (c2) ?_ ?_ ?_); (· (simp [hdrD, bI, valsI, intD, boolD, votesI, bbI, oH_mk, mk_fresh, hmk, Int.reduceMul]; done)); (· (intro G hG; simp [hdrD, bI, valsI, intD, boolD, votesI, bbI, oH_mk, mk_fresh, hmk, Int.reduceMul] at hG; simp [hdrD, bI, valsI, intD, boolD, votesI, bbI, oH_mk, mk_fresh, hmk, Int.reduceMul, hG, and_assoc]; done))) | ((with_reducible refine CallF_fz (c3) ?_ ?_); (· (intro G hG; simp [hdrD, bI, valsI, intD, boolD, votesI, bbI, oH_mk, mk_fresh, hmk, Int.reduceMul] at hG; simp [hdrD, bI, valsI, intD, boolD, votesI, bbI, oH_mk, mk_fresh, hmk, Int.reduceMul, hG, and_assoc]; done))) | ((with_reducible refine CallF_fl (c4) ?_ ?_ ?_); (· (simp [hdrD, bI, valsI, intD, boolD, votesI, bbI, oH_mk, mk_fresh, hmk, Int.reduceMul]; done)); (· (intro G hG; simp [hdrD, bI, valsI, intD, boolD, votesI, bbI, oH_mk, mk_fresh, hmk, Int.reduceMul] at hG; simp [hdrD, bI, valsI, intD, boolD, votesI, bbI, oH_mk, mk_fresh, hmk, Int.reduceMul, hG, and_assoc]; done))) | ((with_reducible refine CallF_fz (c5) ?_ ?_); (· (intro G hG; simp [hdrD, bI, valsI, intD, boolD, votesI, bbI, oH_mk, mk_fresh, hmk, Int.reduceMul] at hG; simp [hdrD, bI, valsI, intD, boolD, votesI, bbI, oH_mk, mk_fresh, hmk, Int.reduceMul, hG, and_assoc]; done))))) | ((first | refine Wc_split (fun hg => ?_) (fun hg => ?_) | refine RoG_split (fun hg => ?_) (fun hg => ?_) | refine RdG_split (fun hg => ?_) (fun hg => ?_)) <;> (try simp only [nrm] at hg) <;> (try simp only [hg, lgc, reduceIte, reduceCtorEq] at hR) <;> (try (exfalso; omega))) | ((try simp only [*, lgc, reduceIte, reduceCtorEq] at hR); obtain ⟨rfl⟩ := hR; refine fin_q (rs := [.cell 6 41, .tmp 7]) rfl ?_; (try simp only [go_sem, Nat.reduceLT, Nat.reduceAdd, Nat.reduceMul, reduceIte, Nat.reduceEqDiff, reduceCtorEq, Nat.reducePow, Nat.reduceLeDiff, Int.reduceLE, Int.reduceLT, Int.reduceToNat, Int.reduceEq, Nat.reduceBEq, hdrD, bI, valsI, intD, boolD, votesI, bbI, oH_mk, mk_fresh, hmk, Int.reduceMul]); (simp [hdrD, bI, valsI, intD, boolD, votesI, bbI, oH_mk, mk_fresh, hmk, Int.reduceMul]; done))))
  clear hmk c1 c2 c3 c4 c5 b1 b2 b3 b4 b5 hu
  have hz0 : List.replicate vals.length [I.s (.bool false), I.s (.int .u64 0), I.s (.int .u64 0)] = (votesAt h seeds vals 0 0).map encX := by
    rw [votesAt_zero, List.map_replicate]; rfl
  refine W_loopI (ι := Nat) (fun j => j ≤ seeds.length)
    (fun j => stOf [(1, .i (valsI vals)), (3, .pt 100 0 0 0), (6, .pt 101 0 0 0), (10, .pt 104 0 0 0), (43, .i (bbI seeds)), (44, intD seeds.length), (45, intD j)]
      [(100, .box ((encH h).map .i)), (101, .box [.i (.s (.string ⟨#[]⟩)), .i (.s (.int .i64 0)), .i (.s (.int .i64 0)), .i (.s (.slice none 0 0)), .i (.s (.slice none 0 0)), .i (.s (.slice none 0 0)), .i (.s (.slice none 0 0)), .i (.s (.slice none 0 0))]), (102, .arr 2 (vals.map encV)), (103, .arr 3 ((votesAt h seeds vals j 0).map encX)),
       (104, .box ((encH h).map .i ++ [.os 102 2 0 vals.length, .os 103 3 0 vals.length]))]) (fun j => seeds.length - j) 0 (Nat.zero_le _) ?_ ?_
  · (refine le_stOf _ _ [] [(100, 1000), (101, 1001), (102, 3307), (103, 3310), (104, 3312)] ?_ ?_ rfl rfl <;> (simp [Int.natCast_add, Int.natCast_zero, Int.natCast_one, encH, valsI, bbI, hz0]; done))
  · rintro j hj
    rw [stOf_eq]
    by_cases h1 : j < seeds.length
    · have e1 : (seeds.map fun b => [bI b])[j]? = some [bI seeds[j]] := get_lt (f := fun b => [bI b]) h1
      have hsm := hd.b _ (List.getElem_mem h1)
      have c1 := key_A seeds[j] (by omega)
      have c2 := hbytes_A h hs.c hs.root hs.vals hs.next
      have c3 := sign_A seeds[j] (bytesH h) (by omega) (by have := bytesH_len h; omega)
      have hvs := fun (v : ValD) => voteF_succ (h := h) (v := v) h1
      generalize hsd : seeds[j] = sd at *
      (repeat' (first | (simp -implicitDefEqProofs only [go_sem, Nat.reduceLT, Nat.reduceAdd, Nat.reduceMul, reduceIte, Nat.reduceEqDiff, reduceCtorEq, Nat.reducePow, Nat.reduceLeDiff, Int.reduceLE, Int.reduceLT, Int.reduceToNat, Int.reduceEq, Nat.reduceBEq, encH, bI, valsI, intD, boolD, bbI, u64D, *]) | (with_reducible refine ⟨?_, ?_⟩; (· first | (obtain ⟨rfl⟩ := ‹Hq _ _›; with_reducible refine chk_ok ?_; kernel_rfl) | kernel_rfl)) | (with_reducible intro ops hops) | (simp -implicitDefEqProofs (disch := omega) only [wr64, wru64, get_lt]) | ((with_reducible refine call_id ?_); (first | ((with_reducible refine Call_fl (c1) ?_ ?_ ?_); (· (simp [encH, bI, valsI, intD, boolD, bbI, u64D]; done)); (· (simp [encH, bI, valsI, intD, boolD, bbI, u64D, and_assoc]; done))))) | ((with_reducible refine callF_id ?_); (first | ((with_reducible refine CallF_fl (c1) ?_ ?_ ?_); (· (simp [encH, bI, valsI, intD, boolD, bbI, u64D]; done)); (· (intro G hG; simp [encH, bI, valsI, intD, boolD, bbI, u64D] at hG; simp [encH, bI, valsI, intD, boolD, bbI, u64D, hG, and_assoc]; done))))) | ((first | refine Wc_split (fun hg => ?_) (fun hg => ?_) | refine RoG_split (fun hg => ?_) (fun hg => ?_) | refine RdG_split (fun hg => ?_) (fun hg => ?_)) <;> (try simp only [nrm] at hg) <;> (try simp only [hg, lgc, reduceIte, reduceCtorEq] at hR) <;> (try (exfalso; omega))) | ((try simp only [*, lgc, reduceIte, reduceCtorEq] at hR); obtain ⟨rfl⟩ := hR; refine fin_q (rs := [.cell 6 41, .tmp 7]) rfl ?_; (try simp only [go_sem, Nat.reduceLT, Nat.reduceAdd, Nat.reduceMul, reduceIte, Nat.reduceEqDiff, reduceCtorEq, Nat.reducePow, Nat.reduceLeDiff, Int.reduceLE, Int.reduceLT, Int.reduceToNat, Int.reduceEq, Nat.reduceBEq, encH, bI, valsI, intD, boolD, bbI, u64D]); (simp [encH, bI, valsI, intD, boolD, bbI, u64D]; done))))
      refine W_loopI (ι := Nat) (fun i => i ≤ vals.length)
        (fun i => stOf [(1, .i (valsI vals)), (3, .pt 100 0 0 0), (6, .pt 101 0 0 0), (10, .pt 104 0 0 0), (43, .i (bbI seeds)), (44, intD seeds.length), (45, intD j), (12, .i (bI sd)), (13, u64D (keyF sd)), (51, .i (valsI vals)), (52, intD vals.length), (53, intD i)]
          [(100, .box ((encH h).map .i)), (101, .box [.i (.s (.string ⟨#[]⟩)), .i (.s (.int .i64 0)), .i (.s (.int .i64 0)), .i (.s (.slice none 0 0)), .i (.s (.slice none 0 0)), .i (.s (.slice none 0 0)), .i (.s (.slice none 0 0)), .i (.s (.slice none 0 0))]), (102, .arr 2 (vals.map encV)), (103, .arr 3 ((votesAt h seeds vals j i).map encX)),
           (104, .box ((encH h).map .i ++ [.os 102 2 0 vals.length, .os 103 3 0 vals.length]))]) (fun i => vals.length - i) 0 (Nat.zero_le _) ?_ ?_
      · (refine le_stOf _ _ [] [(100, 100), (101, 101), (102, 102), (103, 103), (104, 104)] ?_ ?_ rfl rfl <;> (simp [Int.natCast_add, Int.natCast_zero, Int.natCast_one, encH, valsI, bbI, u64D]; done))
      · rintro i hi
        rw [stOf_eq]
        by_cases h2 : i < vals.length
        · have e2 := get_lt (f := encV) h2
          have hst := votesAt_set (h := h) (seeds := seeds) (j := j) h2
          have hge := votesAt_get (h := h) (seeds := seeds) (j := j) h2
          rw [hvs] at hst
          have e3 : ((votesAt h seeds vals j i).map encX)[i]? = some (encX (voteF h (seeds.take j) vals[i])) := by rw [List.getElem?_map, hge]; rfl
          have k1 : ((vals[i].k : Int) = (keyF sd : Int)) = (vals[i].k = keyF sd) := propext (by omega)
          generalize vals[i] = v at *
          generalize voteF h (seeds.take j) v = x0 at *
          by_cases hk1 : v.k = keyF sd
          · rw [if_pos hk1] at hst
            have hst' : ((votesAt h seeds vals j i).map encX).set i [.s (.bool true), .s (.int .u64 (sigR sd (bytesH h))), .s (.int .u64 (sigS sd (bytesH h)))] = (votesAt h seeds vals j (i + 1)).map encX := by rw [hst, List.map_set]; rfl
            generalize votesAt h seeds vals j i = V at *
            clear hst hge hR hs hl hk hd ok hvs c1
            (repeat' (first | (simp -implicitDefEqProofs only [go_sem, Nat.reduceLT, Nat.reduceAdd, Nat.reduceMul, reduceIte, Nat.reduceEqDiff, reduceCtorEq, Nat.reducePow, Nat.reduceLeDiff, Int.reduceLE, Int.reduceLT, Int.reduceToNat, Int.reduceEq, Nat.reduceBEq, encH, bI, valsI, intD, boolD, bbI, u64D, encV, encX, hdrD, sealD, *]) | (with_reducible refine ⟨?_, ?_⟩; (· first | (obtain ⟨rfl⟩ := ‹Hq _ _›; with_reducible refine chk_ok ?_; kernel_rfl) | kernel_rfl)) | (with_reducible intro ops hops) | (simp -implicitDefEqProofs (disch := omega) only [wr64, wru64, get_lt]) | ((with_reducible refine call_id ?_); (first | ((with_reducible refine Call_fz (c2) ?_ ?_); (· (simp [encH, bI, valsI, intD, boolD, bbI, u64D, encV, encX, hdrD, sealD, and_assoc]; done))) | ((with_reducible refine Call_fl (c3) ?_ ?_ ?_); (· (simp [encH, bI, valsI, intD, boolD, bbI, u64D, encV, encX, hdrD, sealD]; done)); (· (simp [encH, bI, valsI, intD, boolD, bbI, u64D, encV, encX, hdrD, sealD, and_assoc]; done))))) | ((with_reducible refine callF_id ?_); (first | ((with_reducible refine CallF_fz (c2) ?_ ?_); (· (intro G hG; simp [encH, bI, valsI, intD, boolD, bbI, u64D, encV, encX, hdrD, sealD] at hG; simp [encH, bI, valsI, intD, boolD, bbI, u64D, encV, encX, hdrD, sealD, hG, and_assoc]; done))) | ((with_reducible refine CallF_fl (c3) ?_ ?_ ?_); (· (simp [encH, bI, valsI, intD, boolD, bbI, u64D, encV, encX, hdrD, sealD]; done)); (· (intro G hG; simp [encH, bI, valsI, intD, boolD, bbI, u64D, encV, encX, hdrD, sealD] at hG; simp [encH, bI, valsI, intD, boolD, bbI, u64D, encV, encX, hdrD, sealD, hG, and_assoc]; done))))) | ((first | refine Wc_split (fun hg => ?_) (fun hg => ?_) | refine RoG_split (fun hg => ?_) (fun hg => ?_) | refine RdG_split (fun hg => ?_) (fun hg => ?_)) <;> (try simp only [nrm] at hg) <;> (try simp only [hg, lgc, reduceIte, reduceCtorEq] at hR) <;> (try (exfalso; omega))) | (refine ⟨i + 1, h2, ?_, ?_⟩; (· (refine le_stOf _ _ [] [(100, 100), (101, 101), (102, 102), (103, 103), (104, 104)] ?_ ?_ rfl rfl <;> (simp [Int.natCast_add, Int.natCast_zero, Int.natCast_one, encH, valsI, bbI, u64D, hst']; done))); (· (simp only; omega))) | ((try simp only [*, lgc, reduceIte, reduceCtorEq] at hR); obtain ⟨rfl⟩ := hR; refine fin_q (rs := [.cell 6 41, .tmp 7]) rfl ?_; (try simp only [go_sem, Nat.reduceLT, Nat.reduceAdd, Nat.reduceMul, reduceIte, Nat.reduceEqDiff, reduceCtorEq, Nat.reducePow, Nat.reduceLeDiff, Int.reduceLE, Int.reduceLT, Int.reduceToNat, Int.reduceEq, Nat.reduceBEq, encH, bI, valsI, intD, boolD, bbI, u64D, encV, encX, hdrD, sealD]); (simp [encH, bI, valsI, intD, boolD, bbI, u64D, encV, encX, hdrD, sealD]; done))))
          · rw [if_neg hk1, set_same hge] at hst
            clear hge hR hs hl hk hd ok hvs c1 e3 c2 c3
            (repeat' (first | (simp -implicitDefEqProofs only [go_sem, Nat.reduceLT, Nat.reduceAdd, Nat.reduceMul, reduceIte, Nat.reduceEqDiff, reduceCtorEq, Nat.reducePow, Nat.reduceLeDiff, Int.reduceLE, Int.reduceLT, Int.reduceToNat, Int.reduceEq, Nat.reduceBEq, encH, bI, valsI, intD, boolD, bbI, u64D, encV, *]) | (with_reducible refine ⟨?_, ?_⟩; (· first | (obtain ⟨rfl⟩ := ‹Hq _ _›; with_reducible refine chk_ok ?_; kernel_rfl) | kernel_rfl)) | (with_reducible intro ops hops) | (simp -implicitDefEqProofs (disch := omega) only [wr64, wru64, get_lt]) | ((first | refine Wc_split (fun hg => ?_) (fun hg => ?_) | refine RoG_split (fun hg => ?_) (fun hg => ?_) | refine RdG_split (fun hg => ?_) (fun hg => ?_)) <;> (try simp only [nrm] at hg) <;> (try simp only [hg, lgc, reduceIte, reduceCtorEq] at hR) <;> (try (exfalso; omega))) | (refine ⟨i + 1, h2, ?_, ?_⟩; (· (refine le_stOf _ _ [] [(100, 100), (101, 101), (102, 102), (103, 103), (104, 104)] ?_ ?_ rfl rfl <;> (simp [Int.natCast_add, Int.natCast_zero, Int.natCast_one, encH, valsI, bbI, u64D, hst]; done))); (· (simp only; omega))) | ((try simp only [*, lgc, reduceIte, reduceCtorEq] at hR); obtain ⟨rfl⟩ := hR; refine fin_q (rs := [.cell 6 41, .tmp 7]) rfl ?_; (try simp only [go_sem, Nat.reduceLT, Nat.reduceAdd, Nat.reduceMul, reduceIte, Nat.reduceEqDiff, reduceCtorEq, Nat.reducePow, Nat.reduceLeDiff, Int.reduceLE, Int.reduceLT, Int.reduceToNat, Int.reduceEq, Nat.reduceBEq, encH, bI, valsI, intD, boolD, bbI, u64D, encV]); (simp [encH, bI, valsI, intD, boolD, bbI, u64D, encV]; done))))
        · obtain rfl : i = vals.length := by omega
          rw [votesAt_end]
          clear hR hs hl hk hd ok hvs c1 c2 c3
          (repeat' (first | (simp -implicitDefEqProofs only [go_sem, Nat.reduceLT, Nat.reduceAdd, Nat.reduceMul, reduceIte, Nat.reduceEqDiff, reduceCtorEq, Nat.reducePow, Nat.reduceLeDiff, Int.reduceLE, Int.reduceLT, Int.reduceToNat, Int.reduceEq, Nat.reduceBEq, encH, bI, valsI, intD, boolD, bbI, u64D, *]) | (with_reducible refine ⟨?_, ?_⟩; (· first | (obtain ⟨rfl⟩ := ‹Hq _ _›; with_reducible refine chk_ok ?_; kernel_rfl) | kernel_rfl)) | (with_reducible intro ops hops) | (simp -implicitDefEqProofs (disch := omega) only [wr64, wru64, get_lt]) | ((first | refine Wc_split (fun hg => ?_) (fun hg => ?_) | refine RoG_split (fun hg => ?_) (fun hg => ?_) | refine RdG_split (fun hg => ?_) (fun hg => ?_)) <;> (try simp only [nrm] at hg) <;> (try simp only [hg, lgc, reduceIte, reduceCtorEq] at hR) <;> (try (exfalso; omega))) | (refine ⟨j + 1, h1, ?_, ?_⟩; (· (refine le_stOf _ _ [] [(100, 100), (101, 101), (102, 102), (103, 103), (104, 104)] ?_ ?_ rfl rfl <;> (simp [Int.natCast_add, Int.natCast_zero, Int.natCast_one, encH, valsI, bbI, u64D]; done))); (· (simp only; omega))) | ((try simp only [*, lgc, reduceIte, reduceCtorEq] at hR); obtain ⟨rfl⟩ := hR; refine fin_q (rs := [.cell 6 41, .tmp 7]) rfl ?_; (try simp only [go_sem, Nat.reduceLT, Nat.reduceAdd, Nat.reduceMul, reduceIte, Nat.reduceEqDiff, reduceCtorEq, Nat.reducePow, Nat.reduceLeDiff, Int.reduceLE, Int.reduceLT, Int.reduceToNat, Int.reduceEq, Nat.reduceBEq, encH, bI, valsI, intD, boolD, bbI, u64D]); (simp [encH, bI, valsI, intD, boolD, bbI, u64D]; done))))
    · obtain rfl : j = seeds.length := by omega
      rw [votesAt_all]
      clear hs hl hk hd ok
      (repeat' (first | (simp -implicitDefEqProofs only [go_sem, Nat.reduceLT, Nat.reduceAdd, Nat.reduceMul, reduceIte, Nat.reduceEqDiff, reduceCtorEq, Nat.reducePow, Nat.reduceLeDiff, Int.reduceLE, Int.reduceLT, Int.reduceToNat, Int.reduceEq, Nat.reduceBEq, encH, bI, valsI, intD, boolD, bbI, signedD, votesI, *]) | (with_reducible refine ⟨?_, ?_⟩; (· first | (obtain ⟨rfl⟩ := ‹Hq _ _›; with_reducible refine chk_ok ?_; kernel_rfl) | kernel_rfl)) | (with_reducible intro ops hops) | (simp -implicitDefEqProofs (disch := omega) only [wr64, wru64, get_lt]) | ((first | refine Wc_split (fun hg => ?_) (fun hg => ?_) | refine RoG_split (fun hg => ?_) (fun hg => ?_) | refine RdG_split (fun hg => ?_) (fun hg => ?_)) <;> (try simp only [nrm] at hg) <;> (try simp only [hg, lgc, reduceIte, reduceCtorEq] at hR) <;> (try (exfalso; omega))) | ((try simp only [*, lgc, reduceIte, reduceCtorEq] at hR); obtain ⟨rfl⟩ := hR; refine fin_q (rs := [.cell 6 41, .tmp 7]) rfl ?_; (try simp only [go_sem, Nat.reduceLT, Nat.reduceAdd, Nat.reduceMul, reduceIte, Nat.reduceEqDiff, reduceCtorEq, Nat.reducePow, Nat.reduceLeDiff, Int.reduceLE, Int.reduceLT, Int.reduceToNat, Int.reduceEq, Nat.reduceBEq, encH, bI, valsI, intD, boolD, bbI, signedD, votesI]); (simp [encH, bI, valsI, intD, boolD, bbI, signedD, votesI]; done))))
end Go.Proofs.Ytdpfjmkilbepgaa
