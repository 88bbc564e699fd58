/- HeaderUnlike: by value. (hdrD signedD) -/
import Derived.Test.YtdpfjmkilbepgaaLaw6M
import Derived.Test.YtdpfjmkilbepgaaR1Same
set_option linter.all false
namespace Go.Proofs.Ytdpfjmkilbepgaa
open Go Go.Abs Go.RowKit Go.Proofs.Ytdpfjmkilbepgaa.Ty

def sameH (a b : HdrD) : Bool := decide (a.c = b.c ∧ a.h = b.h ∧ a.t = b.t ∧ a.root = b.root ∧ a.vals = b.vals ∧ a.next = b.next)
theorem sameH_iff {a b : HdrD} : sameH a b = true ↔ a = b := by
  unfold sameH
  rw [decide_eq_true_eq]
  constructor
  · rintro ⟨h1, h2, h3, h4, h5, h6⟩
    cases a; cases b; simp_all
  · rintro rfl; simp
set_option maxHeartbeats 4000000
theorem rsameH_A (a b : HdrD) (ha : HdrSm a) : PureD Try.prog 30 [hdrD a, hdrD b] (boolD (sameH a b)) := by
  refine hide_r fun R hR => ?_
  have c1 := same_A a.root b.root (by have := ha.root; omega)
  have c2 := same_A a.vals b.vals (by have := ha.vals; omega)
  have c3 := same_A a.next b.next (by have := ha.next; omega)
  unfold sameH at hR
  have k := beqS' a.c b.c
  by_cases hc : a.c = b.c
  · have k1 : (a.c == b.c) = true := k.mpr hc
    simp only [hc, true_and] at hR
    clear hc k
    refine callD_W 45 Try.func30 rfl rfl rfl (fun _ _ => rfl) ?_
    (repeat' (first | (simp -implicitDefEqProofs only [go_sem, Nat.reduceLT, Nat.reduceAdd, Nat.reduceMul, reduceIte, Nat.reduceEqDiff, reduceCtorEq, Nat.reducePow, Nat.reduceLeDiff, Int.reduceLE, Int.reduceLT, Int.reduceToNat, Int.reduceEq, Nat.reduceBEq, hdrD, *]) | (with_reducible refine ⟨?_, ?_⟩; (· first | (obtain ⟨rfl⟩ := ‹Hq _ _›; with_reducible refine chk_ok ?_; kernel_rfl) | kernel_rfl)) | (with_reducible intro ops hops) | (simp -implicitDefEqProofs (disch := omega) only [wr64, wru64, get_lt]) | ((with_reducible refine call_id ?_); (first | ((with_reducible refine Call_fl (c1) ?_ ?_ ?_); (· (simp [hdrD]; done)); (· (simp [hdrD, and_assoc]; done))) | ((with_reducible refine Call_fl (c2) ?_ ?_ ?_); (· (simp [hdrD]; done)); (· (simp [hdrD, and_assoc]; done))) | ((with_reducible refine Call_fl (c3) ?_ ?_ ?_); (· (simp [hdrD]; done)); (· (simp [hdrD, and_assoc]; done))))) | ((with_reducible refine callF_id ?_); (first | ((with_reducible refine CallF_fl (c1) ?_ ?_ ?_); (· (simp [hdrD]; done)); (· (intro G hG; simp [hdrD] at hG; simp [hdrD, hG, and_assoc]; done))) | ((with_reducible refine CallF_fl (c2) ?_ ?_ ?_); (· (simp [hdrD]; done)); (· (intro G hG; simp [hdrD] at hG; simp [hdrD, hG, and_assoc]; done))) | ((with_reducible refine CallF_fl (c3) ?_ ?_ ?_); (· (simp [hdrD]; done)); (· (intro G hG; simp [hdrD] at hG; simp [hdrD, hG, and_assoc]; done))))) | ((first | refine Wc_split (fun hg => ?_) (fun hg => ?_) | refine RoG_split (fun hg => ?_) (fun hg => ?_) | refine RdG_split (fun hg => ?_) (fun hg => ?_)) <;> (try simp only [nrm] at hg) <;> (try simp only [hg, lgc, reduceIte, reduceCtorEq] at hR) <;> (try (exfalso; omega))) | ((try simp only [*, lgc, reduceIte, reduceCtorEq] at hR); obtain ⟨rfl⟩ := hR; refine fin_q (rs := [.tmp 4]) rfl ?_; (try simp only [go_sem, Nat.reduceLT, Nat.reduceAdd, Nat.reduceMul, reduceIte, Nat.reduceEqDiff, reduceCtorEq, Nat.reducePow, Nat.reduceLeDiff, Int.reduceLE, Int.reduceLT, Int.reduceToNat, Int.reduceEq, Nat.reduceBEq, hdrD]); (simp [hdrD]; done))))
  · have k1 : (a.c == b.c) = false := by rw [beqS'']; exact hc
    simp only [hc, false_and, decide_false] at hR
    clear hc k
    refine callD_W 45 Try.func30 rfl rfl rfl (fun _ _ => rfl) ?_
    (repeat' (first | (simp -implicitDefEqProofs only [go_sem, Nat.reduceLT, Nat.reduceAdd, Nat.reduceMul, reduceIte, Nat.reduceEqDiff, reduceCtorEq, Nat.reducePow, Nat.reduceLeDiff, Int.reduceLE, Int.reduceLT, Int.reduceToNat, Int.reduceEq, Nat.reduceBEq, hdrD, *]) | (with_reducible refine ⟨?_, ?_⟩; (· first | (obtain ⟨rfl⟩ := ‹Hq _ _›; with_reducible refine chk_ok ?_; kernel_rfl) | kernel_rfl)) | (with_reducible intro ops hops) | (simp -implicitDefEqProofs (disch := omega) only [wr64, wru64, get_lt]) | ((with_reducible refine call_id ?_); (first | ((with_reducible refine Call_fl (c1) ?_ ?_ ?_); (· (simp [hdrD]; done)); (· (simp [hdrD, and_assoc]; done))) | ((with_reducible refine Call_fl (c2) ?_ ?_ ?_); (· (simp [hdrD]; done)); (· (simp [hdrD, and_assoc]; done))) | ((with_reducible refine Call_fl (c3) ?_ ?_ ?_); (· (simp [hdrD]; done)); (· (simp [hdrD, and_assoc]; done))))) | ((with_reducible refine callF_id ?_); (first | ((with_reducible refine CallF_fl (c1) ?_ ?_ ?_); (· (simp [hdrD]; done)); (· (intro G hG; simp [hdrD] at hG; simp [hdrD, hG, and_assoc]; done))) | ((with_reducible refine CallF_fl (c2) ?_ ?_ ?_); (· (simp [hdrD]; done)); (· (intro G hG; simp [hdrD] at hG; simp [hdrD, hG, and_assoc]; done))) | ((with_reducible refine CallF_fl (c3) ?_ ?_ ?_); (· (simp [hdrD]; done)); (· (intro G hG; simp [hdrD] at hG; simp [hdrD, hG, and_assoc]; done))))) | ((first | refine Wc_split (fun hg => ?_) (fun hg => ?_) | refine RoG_split (fun hg => ?_) (fun hg => ?_) | refine RdG_split (fun hg => ?_) (fun hg => ?_)) <;> (try simp only [nrm] at hg) <;> (try simp only [hg, lgc, reduceIte, reduceCtorEq] at hR) <;> (try (exfalso; omega))) | ((try simp only [*, lgc, reduceIte, reduceCtorEq] at hR); obtain ⟨rfl⟩ := hR; refine fin_q (rs := [.tmp 4]) rfl ?_; (try simp only [go_sem, Nat.reduceLT, Nat.reduceAdd, Nat.reduceMul, reduceIte, Nat.reduceEqDiff, reduceCtorEq, Nat.reducePow, Nat.reduceLeDiff, Int.reduceLE, Int.reduceLT, Int.reduceToNat, Int.reduceEq, Nat.reduceBEq, hdrD]); (simp [hdrD]; done))))
/-- what is short is written -/
theorem wpiece_len {p : PieceD} (h : p.kind = 1 ∨ p.kind = 2) : ∃ x, wpiece p = some x ∧ x.length ≤ 21 + p.b.length := by
  unfold wpiece
  rcases h with h | h
  · have := vnum_len_le p.n
    exact ⟨0 :: vnum p.n, by rw [if_pos h], by simp; omega⟩
  · have := vnum_len_le p.b.length
    exact ⟨1 :: (vnum p.b.length ++ p.b), by rw [if_neg (by omega), if_pos h], by simp; omega⟩
theorem writeGo_ok : ∀ (l : List PieceD) (acc : List UInt8) (i : Nat), (∀ p ∈ l, p.kind = 1 ∨ p.kind = 2) → acc.length + (l.map fun p => 21 + p.b.length).sum ≤ 20000 → (writeGo acc i l).2.1 = 0
  | [], _, _, _, _ => rfl
  | p :: r, acc, i, hk, hs => by
    obtain ⟨x, hx, hl⟩ := wpiece_len (hk p (List.mem_cons_self ..))
    simp only [List.map_cons, List.sum_cons] at hs
    simp only [writeGo, hx]
    rw [if_neg (by rw [List.length_append]; omega)]
    exact writeGo_ok r _ _ (fun q hq => hk q (List.mem_cons_of_mem _ hq)) (by rw [List.length_append]; omega)
theorem writeF_ok {l : List PieceD} (hl : l.length ≤ 200) (hk : ∀ p ∈ l, p.kind = 1 ∨ p.kind = 2) (hs : (l.map fun p => 21 + p.b.length).sum ≤ 19990) : (writeF l).2.1 = 0 := by
  unfold writeF
  rw [if_neg (by omega)]
  exact writeGo_ok l _ _ hk (by have := vnum_len_le l.length; omega)
structure HdrOk (x : HdrD) : Prop where
  c : x.c.size ≤ 20
  h : 1 ≤ x.h ∧ x.h ≤ 1000000000000
  t : 0 ≤ x.t ∧ x.t ≤ 1000000000000
  root : x.root.length = 32
  vals : x.vals.length = 32
  next : x.next.length = 32
theorem wrongH_ok {h : HdrD} (e : wrongH h = 0) : HdrOk h := by
  unfold wrongH numB at e
  split at e
  · rename_i h1
    split at e
    · cases e
    · rename_i h2
      split at e
      · cases e
      · rename_i h3
        simp only [decide_eq_true_eq] at h2
        have hn : h.c.size ≤ 20 := by
          unfold nameOk at h1
          simp only [Bool.and_eq_true, decide_eq_true_eq] at h1
          exact h1.1.2
        exact ⟨hn, by omega, by omega, by omega, by omega, by omega⟩
  · cases e
theorem pcsH_64 (h : HdrD) : n64s (pcsH h) := by
  intro p hp
  simp only [pcsH, rawB, numP, List.mem_cons, List.not_mem_nil, or_false] at hp
  rcases hp with rfl | rfl | rfl | rfl | rfl | rfl <;> first | exact u64_lt _ | (simp only; omega)
theorem bytesH_ok {h : HdrD} (r : HdrOk h) : ∃ a, writeF (pcsH h) = (bytesH h, 0, a) := by
  have h0 : (writeF (pcsH h)).2.1 = 0 := writeF_ok (by simp [pcsH]) (fun p hp => by
      simp only [pcsH, rawB, numP, List.mem_cons, List.not_mem_nil, or_false] at hp
      rcases hp with rfl | rfl | rfl | rfl | rfl | rfl <;> simp) (by
      have := r.c; have := r.root; have := r.vals; have := r.next
      simp only [pcsH, rawB, numP, List.map_cons, List.map_nil, List.sum_cons, List.sum_nil, unB_len, List.length_nil]; omega)
  exact ⟨(writeF (pcsH h)).2.2, by unfold bytesH; rw [← h0]⟩
theorem unB_inj {a b : ByteArray} (h : unB a = unB b) : a = b := by rw [← strB_un a, ← strB_un b, h]
theorem bytesH_same {a b : HdrD} (ra : HdrOk a) (rb : HdrOk b) : decide (bytesH a = bytesH b) = sameH a b := by
  obtain ⟨i, hi⟩ := bytesH_ok ra
  obtain ⟨j, hj⟩ := bytesH_ok rb
  rw [write_unlike hi hj (pcsH_64 a) (pcsH_64 b), Bool.eq_iff_iff, sameH_iff]
  have a1 := ra.h; have a2 := ra.t; have b1 := rb.h; have b2 := rb.t
  simp only [pcsH, rawB, numP, piecesSame, pieceSame]
  constructor
  · intro h
    simp at h
    obtain ⟨h1, h2, h3, h4, h5, h6⟩ := h
    unfold u64 at h2 h3
    have e1 := unB_inj (of_decide_eq_true (by simpa using h1))
    have e2 : a.h = b.h := by omega
    have e3 : a.t = b.t := by omega
    obtain ⟨ac, ah, at', ar, av, an⟩ := a
    obtain ⟨bc, bh, bt, br, bv, bn⟩ := b
    simp only at *
    subst e1; subst e2; subst e3
    have e4 : ar = br := by simpa using h4
    have e5 : av = bv := by simpa using h5
    have e6 : an = bn := by simpa using h6
    rw [e4, e5, e6]
  · rintro rfl
    simp
set_option maxHeartbeats 4000000
theorem walk_HeaderUnlike (y0 : List I) (a : HdrD) (e0 : y0 = encH a) (y1 : List I) (b : HdrD) (e1 : y1 = encH b) (hb : bkL y0 + bkL y1 ≤ 1048576) :
    ∃ Ds, PureD Try.prog 7 Ds (.i (.s (.bool true))) ∧ Ds = [.agg (y0.map .i), .agg (y1.map .i)] := by
  subst e0
  subst e1
  refine ⟨_, ?_, rfl⟩
  rw [hdr_agg, hdr_agg]
  have hsa := hdr_sm (h := a) (n := 1048576) (by omega) (by omega)
  have hsb := hdr_sm (h := b) (n := 1048576) (by omega) (by omega)
  have c0 := alive6_A
  have c1 := hwrong_A a
  have c2 := hwrong_A b
  have c3 := hbytes_A a hsa.c hsa.root hsa.vals hsa.next
  have c4 := hbytes_A b hsb.c hsb.root hsb.vals hsb.next
  have c5 := same_A (bytesH a) (bytesH b) (by have := bytesH_len a; omega)
  have c6 := rsameH_A a b hsa
  clear hb hsa hsb
  refine hide_r fun R hR => ?_
  by_cases h1 : wrongH a = 0
  · by_cases h2 : wrongH b = 0
    · have hs := bytesH_same (wrongH_ok h1) (wrongH_ok h2)
      rw [h1] at c1
      rw [h2] at c2
      rw [hs] at c5
      generalize sameH a b = S at *
      generalize bytesH a = X at *
      generalize bytesH b = Y at *
      clear h1 h2 hs
      refine callD_W 24 Try.func7 rfl rfl rfl (fun _ _ => rfl) ?_
      (repeat' (first | (simp -implicitDefEqProofs only [go_sem, Nat.reduceLT, Nat.reduceAdd, Nat.reduceMul, reduceIte, Nat.reduceEqDiff, reduceCtorEq, Nat.reducePow, Nat.reduceLeDiff, Int.reduceLE, Int.reduceLT, Int.reduceToNat, Int.reduceEq, Nat.reduceBEq, hdrD, *]) | (with_reducible refine ⟨?_, ?_⟩; (· first | (obtain ⟨rfl⟩ := ‹Hq _ _›; with_reducible refine chk_ok ?_; kernel_rfl) | kernel_rfl)) | (with_reducible intro ops hops) | (simp -implicitDefEqProofs (disch := omega) only [wr64, wru64, get_lt]) | ((with_reducible refine call_id ?_); (first | ((with_reducible refine Call_fl (c0) ?_ ?_ ?_); (· (simp [hdrD]; done)); (· (simp [hdrD, and_assoc]; done))) | ((with_reducible refine Call_fl (c1) ?_ ?_ ?_); (· (simp [hdrD]; done)); (· (simp [hdrD, and_assoc]; done))) | ((with_reducible refine Call_fl (c2) ?_ ?_ ?_); (· (simp [hdrD]; done)); (· (simp [hdrD, and_assoc]; done))) | ((with_reducible refine Call_fz (c3) ?_ ?_); (· (simp [hdrD, and_assoc]; done))) | ((with_reducible refine Call_fz (c4) ?_ ?_); (· (simp [hdrD, and_assoc]; done))) | ((with_reducible refine Call_fl (c5) ?_ ?_ ?_); (· (simp [hdrD]; done)); (· (simp [hdrD, and_assoc]; done))) | ((with_reducible refine Call_fl (c6) ?_ ?_ ?_); (· (simp [hdrD]; done)); (· (simp [hdrD, and_assoc]; done))))) | ((with_reducible refine callF_id ?_); (first | ((with_reducible refine CallF_fl (c0) ?_ ?_ ?_); (· (simp [hdrD]; done)); (· (intro G hG; simp [hdrD] at hG; simp [hdrD, hG, and_assoc]; done))) | ((with_reducible refine CallF_fl (c1) ?_ ?_ ?_); (· (simp [hdrD]; done)); (· (intro G hG; simp [hdrD] at hG; simp [hdrD, hG, and_assoc]; done))) | ((with_reducible refine CallF_fl (c2) ?_ ?_ ?_); (· (simp [hdrD]; done)); (· (intro G hG; simp [hdrD] at hG; simp [hdrD, hG, and_assoc]; done))) | ((with_reducible refine CallF_fz (c3) ?_ ?_); (· (intro G hG; simp [hdrD] at hG; simp [hdrD, hG, and_assoc]; done))) | ((with_reducible refine CallF_fz (c4) ?_ ?_); (· (intro G hG; simp [hdrD] at hG; simp [hdrD, hG, and_assoc]; done))) | ((with_reducible refine CallF_fl (c5) ?_ ?_ ?_); (· (simp [hdrD]; done)); (· (intro G hG; simp [hdrD] at hG; simp [hdrD, hG, and_assoc]; done))) | ((with_reducible refine CallF_fl (c6) ?_ ?_ ?_); (· (simp [hdrD]; done)); (· (intro G hG; simp [hdrD] at hG; simp [hdrD, hG, and_assoc]; done))))) | ((first | refine Wc_split (fun hg => ?_) (fun hg => ?_) | refine RoG_split (fun hg => ?_) (fun hg => ?_) | refine RdG_split (fun hg => ?_) (fun hg => ?_)) <;> (try simp only [nrm] at hg) <;> (try simp only [hg, lgc, reduceIte, reduceCtorEq] at hR) <;> (try (exfalso; omega))) | ((try simp only [*, lgc, reduceIte, reduceCtorEq] at hR); obtain ⟨rfl⟩ := hR; refine fin_q (rs := [.tmp 4]) rfl ?_; (try simp only [go_sem, Nat.reduceLT, Nat.reduceAdd, Nat.reduceMul, reduceIte, Nat.reduceEqDiff, reduceCtorEq, Nat.reducePow, Nat.reduceLeDiff, Int.reduceLE, Int.reduceLT, Int.reduceToNat, Int.reduceEq, Nat.reduceBEq, hdrD]); (simp [hdrD]; done))))
    · rw [h1] at c1
      generalize wrongH b = Y at *
      clear h1 c3 c4 c5 c6
      refine callD_W 24 Try.func7 rfl rfl rfl (fun _ _ => rfl) ?_
      (repeat' (first | (simp -implicitDefEqProofs only [go_sem, Nat.reduceLT, Nat.reduceAdd, Nat.reduceMul, reduceIte, Nat.reduceEqDiff, reduceCtorEq, Nat.reducePow, Nat.reduceLeDiff, Int.reduceLE, Int.reduceLT, Int.reduceToNat, Int.reduceEq, Nat.reduceBEq, hdrD, *]) | (with_reducible refine ⟨?_, ?_⟩; (· first | (obtain ⟨rfl⟩ := ‹Hq _ _›; with_reducible refine chk_ok ?_; kernel_rfl) | kernel_rfl)) | (with_reducible intro ops hops) | (simp -implicitDefEqProofs (disch := omega) only [wr64, wru64, get_lt]) | ((with_reducible refine call_id ?_); (first | ((with_reducible refine Call_fl (c0) ?_ ?_ ?_); (· (simp [hdrD]; done)); (· (simp [hdrD, and_assoc]; done))) | ((with_reducible refine Call_fl (c1) ?_ ?_ ?_); (· (simp [hdrD]; done)); (· (simp [hdrD, and_assoc]; done))) | ((with_reducible refine Call_fl (c2) ?_ ?_ ?_); (· (simp [hdrD]; done)); (· (simp [hdrD, and_assoc]; done))))) | ((with_reducible refine callF_id ?_); (first | ((with_reducible refine CallF_fl (c0) ?_ ?_ ?_); (· (simp [hdrD]; done)); (· (intro G hG; simp [hdrD] at hG; simp [hdrD, hG, and_assoc]; done))) | ((with_reducible refine CallF_fl (c1) ?_ ?_ ?_); (· (simp [hdrD]; done)); (· (intro G hG; simp [hdrD] at hG; simp [hdrD, hG, and_assoc]; done))) | ((with_reducible refine CallF_fl (c2) ?_ ?_ ?_); (· (simp [hdrD]; done)); (· (intro G hG; simp [hdrD] at hG; simp [hdrD, hG, and_assoc]; done))))) | ((first | refine Wc_split (fun hg => ?_) (fun hg => ?_) | refine RoG_split (fun hg => ?_) (fun hg => ?_) | refine RdG_split (fun hg => ?_) (fun hg => ?_)) <;> (try simp only [nrm] at hg) <;> (try simp only [hg, lgc, reduceIte, reduceCtorEq] at hR) <;> (try (exfalso; omega))) | ((try simp only [*, lgc, reduceIte, reduceCtorEq] at hR); obtain ⟨rfl⟩ := hR; refine fin_q (rs := [.tmp 4]) rfl ?_; (try simp only [go_sem, Nat.reduceLT, Nat.reduceAdd, Nat.reduceMul, reduceIte, Nat.reduceEqDiff, reduceCtorEq, Nat.reducePow, Nat.reduceLeDiff, Int.reduceLE, Int.reduceLT, Int.reduceToNat, Int.reduceEq, Nat.reduceBEq, hdrD]); (simp [hdrD]; done))))
  · generalize wrongH a = X at *
    generalize wrongH b = Y at *
    clear c3 c4 c5 c6
    refine callD_W 24 Try.func7 rfl rfl rfl (fun _ _ => rfl) ?_
    (repeat' (first | (simp -implicitDefEqProofs only [go_sem, Nat.reduceLT, Nat.reduceAdd, Nat.reduceMul, reduceIte, Nat.reduceEqDiff, reduceCtorEq, Nat.reducePow, Nat.reduceLeDiff, Int.reduceLE, Int.reduceLT, Int.reduceToNat, Int.reduceEq, Nat.reduceBEq, hdrD, *]) | (with_reducible refine ⟨?_, ?_⟩; (· first | (obtain ⟨rfl⟩ := ‹Hq _ _›; with_reducible refine chk_ok ?_; kernel_rfl) | kernel_rfl)) | (with_reducible intro ops hops) | (simp -implicitDefEqProofs (disch := omega) only [wr64, wru64, get_lt]) | ((with_reducible refine call_id ?_); (first | ((with_reducible refine Call_fl (c0) ?_ ?_ ?_); (· (simp [hdrD]; done)); (· (simp [hdrD, and_assoc]; done))) | ((with_reducible refine Call_fl (c1) ?_ ?_ ?_); (· (simp [hdrD]; done)); (· (simp [hdrD, and_assoc]; done))) | ((with_reducible refine Call_fl (c2) ?_ ?_ ?_); (· (simp [hdrD]; done)); (· (simp [hdrD, and_assoc]; done))))) | ((with_reducible refine callF_id ?_); (first | ((with_reducible refine CallF_fl (c0) ?_ ?_ ?_); (· (simp [hdrD]; done)); (· (intro G hG; simp [hdrD] at hG; simp [hdrD, hG, and_assoc]; done))) | ((with_reducible refine CallF_fl (c1) ?_ ?_ ?_); (· (simp [hdrD]; done)); (· (intro G hG; simp [hdrD] at hG; simp [hdrD, hG, and_assoc]; done))) | ((with_reducible refine CallF_fl (c2) ?_ ?_ ?_); (· (simp [hdrD]; done)); (· (intro G hG; simp [hdrD] at hG; simp [hdrD, hG, and_assoc]; done))))) | ((first | refine Wc_split (fun hg => ?_) (fun hg => ?_) | refine RoG_split (fun hg => ?_) (fun hg => ?_) | refine RdG_split (fun hg => ?_) (fun hg => ?_)) <;> (try simp only [nrm] at hg) <;> (try simp only [hg, lgc, reduceIte, reduceCtorEq] at hR) <;> (try (exfalso; omega))) | ((try simp only [*, lgc, reduceIte, reduceCtorEq] at hR); obtain ⟨rfl⟩ := hR; refine fin_q (rs := [.tmp 4]) rfl ?_; (try simp only [go_sem, Nat.reduceLT, Nat.reduceAdd, Nat.reduceMul, reduceIte, Nat.reduceEqDiff, reduceCtorEq, Nat.reducePow, Nat.reduceLeDiff, Int.reduceLE, Int.reduceLT, Int.reduceToNat, Int.reduceEq, Nat.reduceBEq, hdrD]); (simp [hdrD]; done))))
end Go.Proofs.Ytdpfjmkilbepgaa
