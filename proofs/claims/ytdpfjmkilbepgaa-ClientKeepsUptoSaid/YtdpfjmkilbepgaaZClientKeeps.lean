/- The statement on ClientKeeps, with the last texts of its proof: for every input of bounded bulk the law answers true and leaves its arguments as they were. -/
import Derived.Test.YtdpfjmkilbepgaaClQ
import Derived.Test.YtdpfjmkilbepgaaInsL
import Derived.Test.YtdpfjmkilbepgaaClL
import Derived.Test.YtdpfjmkilbepgaaShaD
import Derived.Test.YtdpfjmkilbepgaaAbs4
import Derived.Test.YtdpfjmkilbepgaaHdD
import Derived.Test.YtdpfjmkilbepgaaTy
import Derived.Test.YtdpfjmkilbepgaaRow2
/- slices.Insert at api.Known: contract over own slices. -/
set_option linter.all false
namespace Go.Proofs.Ytdpfjmkilbepgaa
open Go Go.Abs Go.RowKit Go.Proofs.Ytdpfjmkilbepgaa.Ty
theorem tyInsKn0 : (type_of% @Ty.T3) ∧ (type_of% @Ty.T4) ∧ (type_of% @Ty.T5) ∧ (type_of% @Ty.T22) ∧ (type_of% @Ty.T25) ∧ (type_of% @Ty.T73) := ⟨@Ty.T3, @Ty.T4, @Ty.T5, @Ty.T22, @Ty.T25, @Ty.T73⟩

theorem overlaps_Kn {G : Nat → Ob} {o o2 off off2 len len2 cap : Nat} {es es2 : List (List I)} (ho : G o = .arr 4 es) (ho2 : G o2 = .arr 4 es2) (hne : o ≠ o2) (h1 : 0 < len) (h2 : 0 < len2) :
    DirD Try.prog 126 [.os o2 4 off2 len2, .oc o 4 off len cap] G (boolD false) G := by
  intro K0 T K vs hr hrd
  obtain ⟨hs, hg⟩ := hrd
  have e : vs = #[vs.getD 0 undef, vs.getD 1 undef] := by
    apply Array.ext
    · simpa using hs
    · intro i h1 h2
      simp at hs
      have : i = 0 ∨ i = 1 := by omega
      rcases this with rfl | rfl <;> simp [Array.getD, hs]
  have hrun := overlaps_run (P := Try.prog) (t := 22) (tR := 4) (s := 4) Try.underlying22 (sz_run (by kernel_rfl)) hr (hg 0 _ rfl) (hg 1 _ rfl) ho ho2 hne h1 h2
  rw [e]
  refine ⟨.bool false, K, ?_, Ext.refl K, hr, .i (.s _ rfl)⟩
  rw [run_callFunc_extern Try.func126 (by kernel_rfl) (by kernel_rfl) (by kernel_rfl) (e := Extern.SlicesOverlaps.overlaps #[22, 22] #[4]) (by kernel_rfl), hrun]
  rfl

set_option maxHeartbeats 4000000
theorem insert_Kn (es : List (List I)) (p : List I) (i : Nat) (hi : i ≤ es.length) (hl : es.length ≤ 1048576) (hu : ∀ e ∈ es, e.length = 4) (hp : p.length = 4) :
    CallD Try.prog 91 [.os 0 4 0 es.length, intD i, .os 2 4 0 1] (hF [(0, .arr 4 es), (2, .arr 4 [p])]) (.os 1 4 0 (es.length + 1))
      (hOf (hF [(0, .arr 4 es), (2, .arr 4 [p])]) [(1, .arr 4 (es.take i ++ p :: es.drop i))]) := by
  have hu2 := uN hu
  by_cases hin : i = es.length
  · subst hin
    have e3 : es.length + 1 ≤ 140737488355328 := by omega
    have e4 : (es.length + 1) * 64 ≤ 140737488355328 := by omega
    refine callD_W 95 Try.func91 rfl rfl rfl (fun o ho => by simp [hF, lk, show o ≠ 0 by omega, show o ≠ 1 by omega, show o ≠ 2 by omega, show o ≠ 3 by omega, show o ≠ 4 by omega, show o ≠ 5 by omega]) ?_
    (repeat (first | (simp -implicitDefEqProofs only [ev, mixed, Nat.reduceLT, Nat.reduceAdd, Nat.reduceMul, reduceIte, Nat.reduceEqDiff, reduceCtorEq, Nat.reducePow, Nat.reduceLeDiff, Int.reduceLE, Int.reduceLT, Int.reduceToNat, Int.reduceEq, Nat.reduceBEq, itsOf, gdA, byteI, opid, lenQ, ixQ, ldH, readAt, readCells, asCell, faQ, exQ, fldQ, partA, buildQ, slQ, stH, bslH, appH, dcells, convI, elemsOf, D.one, nilS, fillD, convN, cvH, tyInsKn0, intD, e3, e4, hp, hu2, Int.le_refl, Nat.sub_self]) | (with_reducible refine ⟨?_, ?_⟩; (· first | (obtain ⟨rfl⟩ := ‹Hq _ _›; with_reducible refine chk_ok ?_; kernel_rfl) | kernel_rfl)) | (with_reducible intro ops hops)))
    refine fin_retD [(1, .arr 4 (es ++ [p]))] [] [(1, 2794)] rfl ?_ ?_ rfl ?_ rfl
    · simp [cv, cv1, cv0, upd, srcR, hF, lk]
    · simp [objOk, srcR, lk, cvO, frz, upd, hF]
    · simp [hF, lk]
  · have hlt : i < es.length := by omega
    refine oc_case (by omega) fun c hc => ?_
    have g1 : decide ((i : Int) = (es.length : Int)) = false := decide_eq_false (by omega)
    have w1 : IntKind.i64.wrap ((es.length : Int) + 1) = ((es.length + 1 : Nat) : Int) := by rw [wrap64 (by omega) (by omega)]; omega
    have w2 : IntKind.i64.wrap ((i : Int) + 1) = ((i + 1 : Nat) : Int) := by rw [wrap64 (by omega) (by omega)]; omega
    have l1 : (i ≤ es.length) = True := eq_true (by omega)
    have l2 : (es.length ≤ c) = True := eq_true (by omega)
    have l3 : (i ≤ es.length + 1) = True := eq_true (by omega)
    have l6 : (i ≤ c) = True := eq_true (by omega)
    have l4 : (i + 1 ≤ es.length + 1) = True := eq_true (by omega)
    have m2 : i + (es.length - i) = es.length := by omega
    have m4 : min 1 (es.length + 1 - i) = 1 := by omega
    have l7 : (es.length - i ≤ es.length + 1 - i) = True := eq_true (by omega)
    have l8 : (i + 1 ≤ es.length) = True := eq_true (by omega)
    have tk : (es.drop i).take (es.length - i) = es.drop i := List.take_of_length_le (by simp)
    have hu3 : uni 4 (es.drop i) = true := uN fun e he => hu e (List.mem_of_mem_drop he)
    by_cases hroom : es.length + 1 ≤ c
    · have g2 : decide ((c : Int) < ((es.length + 1 : Nat) : Int)) = false := decide_eq_false (by omega)
      have l5 : (es.length + 1 ≤ c) = True := eq_true (by omega)
      have m1 : min (es.length + 1 - i) (es.length + 1 - (i + 1)) = es.length - i := by omega
      have l9 : (i ≤ (over es (i + 1) (es.drop i)).length) = True := eq_true (by unfold over; simp; omega)
      have hos := ins_shift (p := p) hlt
      refine callD_W 95 Try.func91 rfl rfl rfl (fun o ho => by simp [hF, lk, show o ≠ 0 by omega, show o ≠ 1 by omega, show o ≠ 2 by omega, show o ≠ 3 by omega, show o ≠ 4 by omega, show o ≠ 5 by omega]) ?_
      (repeat (first | (simp -implicitDefEqProofs only [ev, mixed, Nat.reduceLT, Nat.reduceAdd, Nat.reduceMul, reduceIte, Nat.reduceEqDiff, reduceCtorEq, Nat.reducePow, Nat.reduceLeDiff, Int.reduceLE, Int.reduceLT, Int.reduceToNat, Int.reduceEq, Nat.reduceBEq, itsOf, gdA, byteI, opid, lenQ, ixQ, ldH, readAt, readCells, asCell, faQ, exQ, fldQ, partA, buildQ, slQ, stH, bslH, appH, dcells, convI, elemsOf, D.one, nilS, fillD, convN, cvH, tyInsKn0, intD, slX, capX, lenX, g1, g2, w1, w2, l1, l2, l3, l4, l5, true_or, Nat.sub_zero, Nat.zero_le, l6, hp, hu2]) | (with_reducible refine ⟨?_, ?_⟩; (· first | (obtain ⟨rfl⟩ := ‹Hq _ _›; with_reducible refine chk_ok ?_; kernel_rfl) | kernel_rfl)) | (with_reducible intro ops hops)))
      refine ⟨_, _, .inr (overlaps_Kn (len := es.length + 1 - (i + 1)) (len2 := 1) (by simp [hF, lk]; rfl) (by simp [hF, lk]; rfl) (by decide) (by omega) (by omega)), ?_⟩
      (repeat (first | (simp -implicitDefEqProofs only [ev, mixed, Nat.reduceLT, Nat.reduceAdd, Nat.reduceMul, reduceIte, Nat.reduceEqDiff, reduceCtorEq, Nat.reducePow, Nat.reduceLeDiff, Int.reduceLE, Int.reduceLT, Int.reduceToNat, Int.reduceEq, Nat.reduceBEq, itsOf, gdA, byteI, opid, lenQ, ixQ, ldH, readAt, readCells, asCell, faQ, exQ, fldQ, partA, buildQ, slQ, stH, bslH, appH, dcells, convI, elemsOf, D.one, nilS, fillD, convN, cvH, tyInsKn0, boolD, intD, slX, capX, lenX, cpX, dstX, lenS, srcX, w1, w2, l1, l2, l3, l4, l5, true_or, Nat.sub_zero, Nat.zero_le, l6, hp, hu2, m1, m2, m4, l7, l8, l9, tk, hu3]) | (with_reducible refine ⟨?_, ?_⟩; (· first | (obtain ⟨rfl⟩ := ‹Hq _ _›; with_reducible refine chk_ok ?_; kernel_rfl) | kernel_rfl)) | (with_reducible intro ops hops)))
      have hos2 : (over (over es (i + 1) (es.drop i)) i [p]).take (es.length + 1) = es.take i ++ p :: es.drop i := by rw [hos]; exact List.take_of_length_le (by simp; omega)
      rw [← hos2]
      exact fin_oc (o := 0) (cap := c) rfl (by simp [upd]) (by simp [upd, hF, lk]) (by simp [upd, hF, lk]) (by simp [hF, lk]) (by simp [hF, lk])
    · have g2 : decide ((c : Int) < ((es.length + 1 : Nat) : Int)) = true := decide_eq_true (by omega)
      have l5 : (c < es.length + 1) = True := eq_true (by omega)
      have s1 : i + (es.length + 1 - i) = es.length + 1 := by omega
      have e3 : es.length + 1 ≤ 140737488355328 := by omega
      have e4 : (es.length + 1) * 64 ≤ 140737488355328 := by omega
      have m1 : min (es.length - i) (es.length + 1 - (i + 1)) = es.length - i := by omega
      have L1 : ((i : Int) ≤ ((es.length + 1 : Nat) : Int)) = True := eq_true (by omega)
      have L2 : (((i + 1 : Nat) : Int) ≤ ((es.length + 1 : Nat) : Int)) = True := eq_true (by omega)
      have hti : (es.take i).length = i := by simp; omega
      have l9 : (i + 1 ≤ (over (es.take i ++ List.replicate (es.length + 1 - i) [I.s (.int .i64 0), I.s (.int .i64 0), I.sl [], I.sl []]) i [p]).length) = True := eq_true (by rw [over_len (by simp; omega)]; simp; omega)
      have hos := ins_grow (es := es) (R := List.replicate (es.length + 1 - i) [I.s (.int .i64 0), I.s (.int .i64 0), I.sl [], I.sl []]) (p := p) hlt (by simp)
      have w3 : IntKind.i64.wrap (((es.length + 1 : Nat) : Int) - (i : Int)) = ((es.length + 1 - i : Nat) : Int) := by rw [wrap64 (by omega) (by omega)]; omega
      refine callD_W 95 Try.func91 rfl rfl rfl (fun o ho => by simp [hF, lk, show o ≠ 0 by omega, show o ≠ 1 by omega, show o ≠ 2 by omega, show o ≠ 3 by omega, show o ≠ 4 by omega, show o ≠ 5 by omega]) ?_
      (repeat (first | (simp -implicitDefEqProofs only [ev, mixed, Nat.reduceLT, Nat.reduceAdd, Nat.reduceMul, reduceIte, Nat.reduceEqDiff, reduceCtorEq, Nat.reducePow, Nat.reduceLeDiff, Int.reduceLE, Int.reduceLT, Int.reduceToNat, Int.reduceEq, Nat.reduceBEq, itsOf, gdA, byteI, opid, lenQ, ixQ, ldH, readAt, readCells, asCell, faQ, exQ, fldQ, partA, buildQ, slQ, stH, bslH, appH, dcells, convI, elemsOf, D.one, nilS, fillD, convN, cvH, tyInsKn0, intD, slX, capX, lenX, apX, cpX, dstX, lenS, srcX, g1, g2, w1, w2, w3, l1, l2, l3, l4, l5, true_or, Nat.sub_zero, Nat.zero_le, l6, hp, hu2, s1, e3, e4, L1, L2, m4, m1, m2, hti, l7, l8, l9, tk, hu3]) | (with_reducible refine ⟨?_, ?_⟩; (· first | (obtain ⟨rfl⟩ := ‹Hq _ _›; with_reducible refine chk_ok ?_; kernel_rfl) | kernel_rfl)) | (with_reducible intro ops hops)))
      refine fin_retD [(1, .arr 4 (es.take i ++ p :: es.drop i))] [] [(1, 3312)] rfl ?_ ?_ rfl ?_ rfl
      · simp [cv, cv1, cv0, upd, srcR, hF, lk]
      · simp [objOk, srcR, lk, cvO, frz, upd, hF, hos]
      · simp [hF, lk]
end Go.Proofs.Ytdpfjmkilbepgaa
/- client.Follow: by value. -/
set_option linter.all false
namespace Go.Proofs.Ytdpfjmkilbepgaa
open Go Go.Abs Go.RowKit Go.Proofs.Ytdpfjmkilbepgaa.Ty

set_option maxHeartbeats 4000000
set_option maxRecDepth 20000
theorem cdiff_A (k : KnownD) (h : Int) (hk : KnOk k) (hh : 1 ≤ h ∧ h ≤ 1000000000000) : PureD Try.prog 90 [knownD k, intD h] (intD (k.h - h)) := by
  refine hide_r fun R hR => ?_
  have k1 := hk.h
  have w1 : IntKind.i64.wrap (k.h - h) = k.h - h := wrap64 (by omega) (by omega)
  refine callD_W 9 Try.func90 rfl rfl rfl (fun _ _ => rfl) ?_
  exact wkl trivial
theorem csearch_A (l : List KnownD) (h : Int) (p : Nat) (hl : l.length ≤ 1048576) (hp : p ≤ l.length) (hk : ∀ k ∈ l, KnOk k) (hh : 1 ≤ h ∧ h ≤ 1000000000000) (hm : ∀ a (ha : a < l.length), l[a].h < h ↔ a < p) :
    PureD Try.prog 89 [.i (knownI l), intD h, .fn 90 []]
      (.tup [intD p, boolD (if ha : p < l.length then decide (l[p].h = h) else false)]) := by
  refine hide_r fun R hR => ?_
  refine callD_W 49 Try.func89 rfl rfl rfl (fun _ _ => rfl) ?_
  refine wkl ?_
  clear hR; intro hR
  refine W_loopR (ι := Nat × Nat) (fun q => q.1 ≤ p ∧ p ≤ q.2 ∧ q.2 ≤ l.length)
    (fun q => stOf [(0, .i (knownI l)), (1, intD h), (2, .fn 90 []), (8, intD l.length), (9, intD q.1), (10, intD q.2)] []) (fun q => q.2 - q.1) (0, l.length) ⟨Nat.zero_le _, hp, Nat.le_refl _⟩ ?_ ?_
  · exact le_ok [] []
  · rintro ⟨i, j⟩ ⟨h1, h2, h3⟩ RL hL
    simp only at h1 h2 h3
    rw [stOf_eq]
    by_cases hij : i < j
    · have hml : (i + j) / 2 < l.length := by omega
      have s0 := get_lt (f := encK) hml
      have hmm := hm _ hml
      have c1 := cdiff_A _ h (hk _ (List.getElem_mem hml)) hh
      have w1 : IntKind.i64.wrap ((i : Int) + (j : Int)) = ((i + j : Nat) : Int) := by rw [wrap64 (by omega) (by omega)]; omega
      have w2 : IntKind.u64.wrap ((i + j : Nat) : Int) = ((i + j : Nat) : Int) := by rw [IntKind.wrap_u64]; omega
      have w3 : ((i + j : Nat) : Int).fdiv (2 ^ min 1 64) = (((i + j) / 2 : Nat) : Int) := by
        rw [show min 1 64 = 1 from rfl, Int.fdiv_eq_ediv_of_nonneg _ (by decide)]; omega
      have w4 : IntKind.i64.wrap (((i + j) / 2 : Nat) : Int) = (((i + j) / 2 : Nat) : Int) := by rw [wrap64 (by omega) (by omega)]
      have hmid1 : i ≤ (i + j) / 2 := by omega
      have hmid2 : (i + j) / 2 < j := by omega
      generalize l[(i + j) / 2] = q at *
      by_cases hq : q.h < h
      · have b1 := fun σ' => bk [] [] (hL ((i + j) / 2 + 1, j) σ' ⟨hmm.1 hq, h2, h3⟩)
        clear hL
        simp only at b1
        generalize (i + j) / 2 = m at *
        have hq' : q.h - h < 0 := by omega
        clear hm hmm hk hR
        exact wkl trivial
      · have b1 := fun σ' => bk [] [] (hL (i, (i + j) / 2) σ' ⟨h1, by have := fun e => hq (hmm.2 e); omega, by omega⟩)
        clear hL
        simp only at b1
        generalize (i + j) / 2 = m at *
        have hq' : ¬ q.h - h < 0 := by omega
        clear hm hmm hk hR
        exact wkl trivial
    · have hi : i = p := by omega
      subst hi
      clear hL hm
      by_cases hlt : i < l.length
      · have s0 := get_lt (f := encK) hlt
        have c1 := cdiff_A _ h (hk _ (List.getElem_mem hlt)) hh
        rw [dif_pos hlt] at hR
        clear hk
        generalize l[i] = q at *
        have he : decide (q.h - h = 0) = decide (q.h = h) := decide_eq_decide.2 (by omega)
        exact wkl trivial
      · rw [dif_neg hlt] at hR
        clear hk
        exact wkl trivial
theorem cown_D (c : ClientD) (hc : ClSm c) : CallD Try.prog 87 [clientD c] noH (.agg [.i (.s (.string c.c)), .i (.s (.int .i64 c.trust)), .i (.s (.bool c.frozen)), .os 1 4 0 c.known.length]) (hOf noH [(1, .arr 4 (c.known.map encK))]) := by
  refine hide_c fun R R' hR hR' => ?_
  have hcl := hc.l
  have e1 := clone_Kn c.known hcl
  refine callD_W 35 Try.func87 rfl rfl rfl (fun _ _ => rfl) ?_
  refine wkl ?_
  clear hR; intro hR
  refine W_loopR (ι := Nat) (fun i => i ≤ c.known.length)
    (fun i => stOf [(1, .pt 100 0 0 0), (2, .pt 101 0 0 0), (10, .os 102 4 0 c.known.length), (11, intD c.known.length), (12, intD i)] [(100, .box [.i (.s (.string c.c)), .i (.s (.int .i64 c.trust)), .i (.s (.bool c.frozen)), .os 102 4 0 c.known.length]), (101, .box ((encC zeroC).map .i)), (102, .arr 4 (c.known.map encK))])
    (fun i => c.known.length - i) 0 (Nat.zero_le _) ?_ ?_
  · exact le_ok [] [(100, 1000), (101, 1001), (102, 901)]
  · rintro i hi RL hL
    rw [stOf_eq]
    by_cases h : i < c.known.length
    · have s0 := get_lt (f := encK) h
      have s1 := set_map (f := encK) h
      have hk := hc.k _ (List.getElem_mem h)
      have c1 := clone_A c.known[i].root (by have := hk.r; omega)
      have c2 := clone_A c.known[i].next (by have := hk.n; omega)
      have b1 := fun σ' => bk [] [(100, 100), (101, 101), (102, 102)] (hL (i + 1) σ' h)
      clear hL e1 hk
      generalize c.known[i] = k at *
      simp only [encK, bI] at s0 s1
      exact wkl trivial
    · have d1 : SrcIs [] [(1, 102)] := ⟨trivial⟩
      obtain ⟨rfl⟩ := hR'
      exact wkl trivial
theorem uK (l : List KnownD) : ∀ e ∈ l.map encK, e.length = 4 := by simp [encK]
theorem bad_at {l : List KnownD} {p : Nat} {k : KnownD} : (badK l p k = true) = ((0 < p ∧ ∃ h : p - 1 < l.length, k.t ≤ l[p - 1].t) ∨ ∃ h : p < l.length, l[p].t ≤ k.t) := by
  unfold badK
  by_cases h1 : p - 1 < l.length <;> by_cases h2 : p < l.length <;> simp [h1, h2]
theorem cfollow_A (c : ClientD) (u : UpdD) (now : Int) (hl : c.known.length ≤ 1048576) (hu : UpSm u) :
    PureD Try.prog 41 [clientD c, updD u, intD now] (.tup [clientD (followC c u now).1, intD (followC c u now).2]) := by
  refine hide_r fun R hR => ?_
  have c1 := casked_A c now hl
  unfold followC at hR
  by_cases h1 : askedE c now = 0
  · obtain ⟨ok, hn, hfz⟩ := asked_zero.1 h1
    have c2 := cbelieve_A c u now ok hu hn
    rw [if_pos h1] at hR
    rw [h1] at c1
    by_cases h2 : beE c u now = 0
    · rw [if_pos h2] at hR
      rw [h2] at c2
      obtain ⟨hk, hv⟩ := be_hdr h2
      have e1 := cown_D c ok.sm
      have k1 := hk.r
      have k2 := hk.n
      have c3 := clone_A u.sg.hdr.root (by simp only [ofH] at k1; omega)
      have c4 := clone_A u.sg.hdr.next (by simp only [ofH] at k2; omega)
      have c5 := csearch_A c.known u.sg.hdr.h (lowK c.known u.sg.hdr.h) hl (low_le _ _) ok.k hk.h (low_iff ok.rise)
      have hlen := ok.len
      have hle := low_le c.known u.sg.hdr.h
      unfold putK at hR
      rcases low_case u.sg.hdr.h ok.rise with ⟨hp, hk0, hat⟩ | ⟨hno, hat⟩
      · rw [dif_pos hp, decide_eq_true hk0] at c5
        simp only [ofH, hat] at hR
        have s0 := get_lt (f := encK) hp
        clear hu h1 h2 hk hv k1 k2 hk0 hat ok hle
        generalize c.known[lowK c.known u.sg.hdr.h] = o at *
        generalize lowK c.known u.sg.hdr.h = p at *
        have c6 := equal_A o.root u.sg.hdr.root
        have c7 := equal_A o.next u.sg.hdr.next
        unfold samK at hR
        by_cases a1 : o.t = u.sg.hdr.t <;> by_cases a2 : o.root = u.sg.hdr.root <;> by_cases a3 : o.next = u.sg.hdr.next <;> simp [a1, a2, a3] at hR c6 c7
        all_goals
          refine callD_W 131 Try.func41 rfl rfl rfl (fun _ _ => rfl) ?_
          exact wkl trivial
      · have c5' : PureD Try.prog 89 [.i (knownI c.known), intD u.sg.hdr.h, .fn 90 []] (.tup [intD (lowK c.known u.sg.hdr.h), boolD false]) := by
          have e : (if ha : lowK c.known u.sg.hdr.h < c.known.length then decide (c.known[lowK c.known u.sg.hdr.h].h = u.sg.hdr.h) else false) = false := by
            split
            · rename_i ha; exact decide_eq_false (hno ha)
            · rfl
          rw [e] at c5; exact c5
        clear c5
        have c5 := c5'
        clear c5'
        simp only [ofH, hat] at hR
        have hbad := @bad_at c.known (lowK c.known u.sg.hdr.h) ⟨u.sg.hdr.h, u.sg.hdr.t, u.sg.hdr.root, u.sg.hdr.next⟩
        simp only [hbad] at hR
        have e2 := insert_Kn (c.known.map encK) (encK ⟨u.sg.hdr.h, u.sg.hdr.t, u.sg.hdr.root, u.sg.hdr.next⟩) (lowK c.known u.sg.hdr.h) (by simpa using hle) (by simpa using hl) (uK c.known) rfl
        rw [← List.map_take, ← List.map_drop, ← List.map_cons, ← List.map_append, List.length_map] at e2
        have hne : ∃ a L, c.known.take (lowK c.known u.sg.hdr.h) ++ (⟨u.sg.hdr.h, u.sg.hdr.t, u.sg.hdr.root, u.sg.hdr.next⟩ : KnownD) :: c.known.drop (lowK c.known u.sg.hdr.h) = a :: L ∧ L.length = c.known.length := by
          have hll : (c.known.take (lowK c.known u.sg.hdr.h) ++ (⟨u.sg.hdr.h, u.sg.hdr.t, u.sg.hdr.root, u.sg.hdr.next⟩ : KnownD) :: c.known.drop (lowK c.known u.sg.hdr.h)).length = c.known.length + 1 := by simp; omega
          revert hll
          cases c.known.take (lowK c.known u.sg.hdr.h) ++ (⟨u.sg.hdr.h, u.sg.hdr.t, u.sg.hdr.root, u.sg.hdr.next⟩ : KnownD) :: c.known.drop (lowK c.known u.sg.hdr.h) with
          | nil => intro h; simp at h
          | cons a L => intro h; exact ⟨a, L, rfl, by simpa using h⟩
        obtain ⟨a, L, hL, hLl⟩ := hne
        rw [hL] at e2 hR
        have s0 := fun h => get_lt (f := encK) (l := c.known) (i := lowK c.known u.sg.hdr.h - 1) h
        have s1 := fun h => get_lt (f := encK) (l := c.known) (i := lowK c.known u.sg.hdr.h) h
        clear hu h1 h2 hk hv k1 k2 hat ok hno hL hbad
        generalize lowK c.known u.sg.hdr.h = p at *
        have hcut : cutK (a :: L) = if (30 : Int) < ((c.known.length + 1 : Nat) : Int) then L else a :: L := by
          unfold cutK; rw [List.length_cons, hLl]; rfl
        rw [hcut] at hR
        simp only [encK, bI, intD] at e2
        have z1 : (a :: L).map encK = encK a :: L.map encK := rfl
        clear hcut
        have z2 : (L.map encK).take c.known.length = L.map encK := by rw [← hLl]; exact take_len_map
        by_cases q1 : 0 < p <;> by_cases q2 : p < c.known.length
        · have a0 := s0 (by omega)
          have a1 := s1 q2
          have hc : ((0 < p ∧ ∃ h : p - 1 < c.known.length, u.sg.hdr.t ≤ c.known[p - 1].t) ∨ ∃ h : p < c.known.length, c.known[p].t ≤ u.sg.hdr.t) = (u.sg.hdr.t ≤ c.known[p - 1].t ∨ c.known[p].t ≤ u.sg.hdr.t) := by simp [q1, q2, show p - 1 < c.known.length by omega]
          simp only [hc] at hR
          have w1 : IntKind.i64.wrap ((p : Int) - 1) = ((p - 1 : Nat) : Int) := by rw [wrap64 (by omega) (by omega)]; omega
          clear hc s0 s1
          generalize c.known[p - 1] = x at *
          generalize c.known[p] = y at *
          refine callD_W 131 Try.func41 rfl rfl rfl (fun _ _ => rfl) ?_
          exact wkl trivial
        · have a0 := s0 (by omega)
          have hc : ((0 < p ∧ ∃ h : p - 1 < c.known.length, u.sg.hdr.t ≤ c.known[p - 1].t) ∨ ∃ h : p < c.known.length, c.known[p].t ≤ u.sg.hdr.t) = (u.sg.hdr.t ≤ c.known[p - 1].t) := by simp [q1, q2, show p - 1 < c.known.length by omega]
          simp only [hc] at hR
          have w1 : IntKind.i64.wrap ((p : Int) - 1) = ((p - 1 : Nat) : Int) := by rw [wrap64 (by omega) (by omega)]; omega
          clear hc s0 s1
          generalize c.known[p - 1] = x at *
          refine callD_W 131 Try.func41 rfl rfl rfl (fun _ _ => rfl) ?_
          exact wkl trivial
        · have a1 := s1 q2
          have hc : ((0 < p ∧ ∃ h : p - 1 < c.known.length, u.sg.hdr.t ≤ c.known[p - 1].t) ∨ ∃ h : p < c.known.length, c.known[p].t ≤ u.sg.hdr.t) = (c.known[p].t ≤ u.sg.hdr.t) := by simp [q1, q2]
          simp only [hc] at hR
          clear hc s0 s1
          generalize c.known[p] = y at *
          obtain rfl : p = 0 := by omega
          refine callD_W 131 Try.func41 rfl rfl rfl (fun _ _ => rfl) ?_
          exact wkl trivial
        · omega
    · rw [if_neg h2] at hR
      generalize beE c u now = W at *
      clear hu ok hn hfz h1
      refine callD_W 131 Try.func41 rfl rfl rfl (fun _ _ => rfl) ?_
      exact wkl trivial
  · rw [if_neg h1] at hR
    generalize askedE c now = W at *
    clear hu
    refine callD_W 131 Try.func41 rfl rfl rfl (fun _ _ => rfl) ?_
    exact wkl trivial
end Go.Proofs.Ytdpfjmkilbepgaa
/- What a client knows behind a header that it is shown. No program is in sight. -/
set_option linter.all false
namespace Go.Proofs.Ytdpfjmkilbepgaa
open Go Go.Abs

theorem at_iff {c : ClientD} {h : Int} {k : KnownD} (hs : c.known.Pairwise fun a b => a.h < b.h) : atC c h = some k ↔ k ∈ c.known ∧ k.h = h := by
  refine ⟨at_mem, fun ⟨hm, hk⟩ => ?_⟩
  cases e : atC c h with
  | none =>
    have := List.find?_eq_none.1 e _ hm
    simp [hk] at this
  | some o =>
    obtain ⟨h1, h2⟩ := at_mem e
    obtain ⟨i, hi, rfl⟩ := List.getElem_of_mem hm
    obtain ⟨j, hj, rfl⟩ := List.getElem_of_mem h1
    have hp := List.pairwise_iff_getElem.1 hs
    by_cases hij : i < j
    · have := hp _ _ hi hj hij; omega
    · by_cases hji : j < i
      · have := hp _ _ hj hi hji; omega
      · have : i = j := by omega
        subst this; rfl
theorem at_none {c : ClientD} {h : Int} : atC c h = none ↔ ∀ k ∈ c.known, ¬ k.h = h := by
  unfold atC
  rw [List.find?_eq_none]
  simp
/-- the three ways -/
theorem put_cases {c : ClientD} (hs : c.known.Pairwise fun a b => a.h < b.h) (k : KnownD) :
    (putK c k = c ∧ k ∈ c.known) ∨ putK c k = { c with frozen := true } ∨
    (∃ l1 l2, c.known = l1 ++ l2 ∧ (∀ x ∈ l1, x.h < k.h) ∧ (∀ x ∈ l2, k.h < x.h) ∧ putK c k = { c with known := cutK (l1 ++ k :: l2) }) := by
  unfold putK
  rcases low_case k.h hs with ⟨hp, hk, hat⟩ | ⟨hno, hat⟩
  · rw [hat]
    simp only
    by_cases hsm : samK c.known[lowK c.known k.h] k = true
    · rw [if_pos hsm]
      left
      refine ⟨rfl, ?_⟩
      have hm := List.getElem_mem hp
      have : c.known[lowK c.known k.h] = k := by
        revert hsm hk
        generalize c.known[lowK c.known k.h] = o
        obtain ⟨a, b, d, e⟩ := o
        obtain ⟨a', b', d', e'⟩ := k
        simp only [samK, Bool.and_eq_true, decide_eq_true_eq]
        rintro h4 ⟨h1, h2, h3⟩
        simp [h1, h2, h3, h4]
      rw [this] at hm; exact hm
    · rw [if_neg hsm]; right; left; rfl
  · rw [hat]
    simp only
    by_cases hb : badK c.known (lowK c.known k.h) k = true
    · rw [if_pos hb]; right; left; rfl
    · rw [if_neg hb]
      right; right
      refine ⟨_, _, (List.take_append_drop (lowK c.known k.h) c.known).symm, fun x hx => ?_, fun x hx => ?_, rfl⟩
      · obtain ⟨i, hi, rfl⟩ := List.getElem_of_mem hx
        simp only [List.length_take] at hi
        rw [List.getElem_take]
        exact (low_iff hs i (by omega)).2 (by omega)
      · obtain ⟨i, hi, rfl⟩ := List.getElem_of_mem hx
        simp only [List.length_drop] at hi
        rw [List.getElem_drop]
        have h1 := low_iff (h := k.h) hs (lowK c.known k.h + i) (by omega)
        have h2 : ¬ c.known[lowK c.known k.h + i].h = k.h := by
          cases i with
          | zero => exact hno (by omega)
          | succ i =>
            intro h3
            have := at_none.1 hat _ (List.getElem_mem (show lowK c.known k.h + (i + 1) < c.known.length by omega))
            exact this h3
        omega
theorem putK_same (c : ClientD) (k : KnownD) : (putK c k).c = c.c ∧ (putK c k).trust = c.trust := by
  unfold putK
  split
  · split <;> exact ⟨rfl, rfl⟩
  · split <;> exact ⟨rfl, rfl⟩
theorem ins_rise {l1 l2 : List KnownD} {k : KnownD} (hs : (l1 ++ l2).Pairwise fun a b => a.h < b.h) (h1 : ∀ x ∈ l1, x.h < k.h) (h2 : ∀ x ∈ l2, k.h < x.h) : (l1 ++ k :: l2).Pairwise fun a b => a.h < b.h := by
  obtain ⟨a, b, d⟩ := List.pairwise_append.1 hs
  refine List.pairwise_append.2 ⟨a, List.pairwise_cons.2 ⟨h2, b⟩, fun x hx y hy => ?_⟩
  rcases List.mem_cons.1 hy with rfl | hy
  · exact h1 x hx
  · exact d x hx y hy
theorem cut_mem {l : List KnownD} {x : KnownD} (h : x ∈ cutK l) : x ∈ l := by
  unfold cutK at h
  split at h
  · exact List.mem_of_mem_drop h
  · exact h
theorem put_mem {c : ClientD} (hs : c.known.Pairwise fun a b => a.h < b.h) {k x : KnownD} (h : x ∈ (putK c k).known) : x ∈ c.known ∨ x = k := by
  rcases put_cases hs k with ⟨e, _⟩ | e | ⟨l1, l2, e0, _, _, e⟩
  · rw [e] at h; exact .inl h
  · rw [e] at h; exact .inl h
  · rw [e] at h
    have := cut_mem h
    simp only [List.mem_append, List.mem_cons] at this
    rw [e0]
    rcases this with h | h | h
    · exact .inl (List.mem_append_left _ h)
    · exact .inr h
    · exact .inl (List.mem_append_right _ h)
theorem put_ok {c : ClientD} (hc : ClOk c) {k : KnownD} (hk : KnOk k) : ClOk (putK c k) := by
  obtain ⟨e1, e2⟩ := putK_same c k
  have hks : ∀ x ∈ (putK c k).known, KnOk x := fun x hx => by
    rcases put_mem hc.rise hx with h | rfl
    · exact hc.k x h
    · exact hk
  have hlr : (1 ≤ (putK c k).known.length ∧ (putK c k).known.length ≤ 30) ∧ (putK c k).known.Pairwise fun a b => a.h < b.h := by
    rcases put_cases hc.rise k with ⟨e, _⟩ | e | ⟨l1, l2, e0, h1, h2, e⟩
    · rw [e]; exact ⟨hc.len, hc.rise⟩
    · rw [e]; exact ⟨hc.len, hc.rise⟩
    · rw [e]
      have hr := hc.rise
      rw [e0] at hr
      have hl := hc.len
      rw [e0, List.length_append] at hl
      have hi := ins_rise hr h1 h2
      have hlen : (l1 ++ k :: l2).length = l1.length + l2.length + 1 := by simp; omega
      show (1 ≤ (cutK (l1 ++ k :: l2)).length ∧ (cutK (l1 ++ k :: l2)).length ≤ 30) ∧ (cutK (l1 ++ k :: l2)).Pairwise _
      unfold cutK
      split
      · exact ⟨by rw [List.length_drop]; omega, hi.sublist (List.drop_sublist _ _)⟩
      · exact ⟨by omega, hi⟩
  exact ⟨by rw [e1]; exact hc.name, by rw [e2]; exact hc.trust, hlr.1, hks, hlr.2⟩
theorem cut_get {l : List KnownD} (hs : l.Pairwise fun a b => a.h < b.h) (hl : l.length ≤ 31) (x : KnownD) (hx : x ∈ l) : x ∈ cutK l ∨ (l.length = 31 ∧ l.head? = some x ∧ ∀ y ∈ cutK l, ¬ y.h = x.h) := by
  unfold cutK
  split
  · cases l with
    | nil => simp at hx
    | cons a t =>
      rcases List.mem_cons.1 hx with rfl | hx
      · refine .inr ⟨?_, rfl, fun y hy => ?_⟩
        · simp only [List.length_cons] at *; omega
        · have := (List.pairwise_cons.1 hs).1 y (by simpa using hy)
          omega
      · exact .inl (by simpa using hx)
  · exact .inl hx
/-- what was known stays known, but for the lowest one -/
theorem put_keeps {c : ClientD} (hc : ClOk c) {k : KnownD} (hk : KnOk k) (i : Nat) (hi : i < c.known.length) : atC (putK c k) c.known[i].h = some c.known[i] ∨ (i = 0 ∧ c.known.length = 30 ∧ atC (putK c k) c.known[i].h = none) := by
  have ho := put_ok hc hk
  rw [at_iff ho.rise]
  rcases put_cases hc.rise k with ⟨e, _⟩ | e | ⟨l1, l2, e0, h1, h2, e⟩
  · rw [e]; exact .inl ⟨List.getElem_mem hi, rfl⟩
  · rw [e]; exact .inl ⟨List.getElem_mem hi, rfl⟩
  · rw [e] at ho ⊢
    have hr := hc.rise
    rw [e0] at hr
    have hl := hc.len
    have hmem : ∀ x ∈ c.known, x ∈ l1 ∨ x ∈ l2 := fun x hx => by rw [e0] at hx; simpa using hx
    have hm : c.known[i] ∈ l1 ++ k :: l2 := by
      simp only [List.mem_append, List.mem_cons]
      rcases hmem _ (List.getElem_mem hi) with h | h
      · exact .inl h
      · exact .inr (.inr h)
    have hlen : (l1 ++ k :: l2).length = c.known.length + 1 := by rw [e0]; simp; omega
    rcases cut_get (ins_rise hr h1 h2) (by omega) _ hm with h | ⟨h3, h4, h5⟩
    · exact .inl ⟨h, rfl⟩
    · refine .inr ⟨?_, by omega, at_none.2 h5⟩
      cases l1 with
      | nil =>
        simp only [List.nil_append, List.head?_cons, Option.some.injEq] at h4
        have := h2 c.known[i] (by have := hmem _ (List.getElem_mem hi); simpa using this)
        rw [← h4] at this; omega
      | cons a t =>
        simp only [List.cons_append, List.head?_cons, Option.some.injEq] at h4
        have h0 : c.known[0]'(by omega) = a := by simp [e0]
        have hp := List.pairwise_iff_getElem.1 hc.rise
        by_cases hz : i = 0
        · exact hz
        · have := hp 0 i (by omega) hi (by omega)
          rw [h0, h4] at this; omega
theorem put_has {c : ClientD} (hc : ClOk c) {k : KnownD} (hk : KnOk k) : (putK c k).frozen = true ∨ atC (putK c k) k.h = some k ∨ (c.known.length = 30 ∧ atC (putK c k) k.h = none) := by
  have ho := put_ok hc hk
  rw [at_iff ho.rise]
  rcases put_cases hc.rise k with ⟨e, h⟩ | e | ⟨l1, l2, e0, h1, h2, e⟩
  · rw [e]; exact .inr (.inl ⟨h, rfl⟩)
  · rw [e]; exact .inl rfl
  · rw [e]
    have hr := hc.rise
    rw [e0] at hr
    have hl := hc.len
    have hlen : (l1 ++ k :: l2).length = c.known.length + 1 := by rw [e0]; simp; omega
    rcases cut_get (ins_rise hr h1 h2) (by omega) k (by simp) with h | ⟨h3, h4, h5⟩
    · exact .inr (.inl ⟨h, rfl⟩)
    · exact .inr (.inr ⟨by omega, at_none.2 h5⟩)
theorem put_len {c : ClientD} (hs : c.known.Pairwise fun a b => a.h < b.h) (k : KnownD) : (putK c k).known.length ≤ c.known.length + 1 := by
  rcases put_cases hs k with ⟨e, h⟩ | e | ⟨l1, l2, e0, h1, h2, e⟩
  · rw [e]; omega
  · rw [e]; exact Nat.le_succ _
  · rw [e]
    show (cutK (l1 ++ k :: l2)).length ≤ _
    rw [e0]
    unfold cutK
    split
    · rw [List.length_drop]; simp
    · simp; omega
/-- told twice -/
theorem put_twice {c : ClientD} (hc : ClOk c) {k : KnownD} (hf : (putK c k).frozen = false) (h : atC (putK c k) k.h = some k) : putK (putK c k) k = putK c k := by
  generalize hd : putK c k = d at *
  have : putK d k = if samK k k = true then d else { d with frozen := true } := by unfold putK; rw [h]
  rw [this, if_pos (by simp [samK])]
theorem follow_zero {c : ClientD} {u : UpdD} {now : Int} (h : (followC c u now).2 = 0) : askedE c now = 0 ∧ beE c u now = 0 ∧ followC c u now = (putK c (ofH u.sg.hdr), 0) := by
  unfold followC at h ⊢
  split at h
  · rename_i h1
    split at h
    · rename_i h2; exact ⟨h1, h2, by rw [if_pos h1, if_pos h2]⟩
    · rename_i h2; exact absurd h h2
  · rename_i h1; exact absurd h h1
theorem follow_no {c : ClientD} {u : UpdD} {now : Int} (h : ¬ (followC c u now).2 = 0) : (followC c u now).1 = zeroC := by
  unfold followC at h ⊢
  split at h
  · rename_i h1
    split at h
    · exact absurd rfl h
    · rename_i h2; rw [if_pos h1, if_neg h2]
  · rename_i h1; rw [if_neg h1]
end Go.Proofs.Ytdpfjmkilbepgaa
/- What the rows hand in: lists of bytes. -/
set_option linter.all false
namespace Go.Proofs.Ytdpfjmkilbepgaa
open Go Go.Abs Go.RowKit

theorem dec_bb {e : List I} (h : HasCs [.sl [.int .u8]] e) : ∃ b : List UInt8, e = [bI b] ∧ True := by
  obtain ⟨x, _, rfl, hx, h⟩ := hasCs_cons h
  obtain rfl := hasCs_nil h
  obtain ⟨a, rfl⟩ := dec_B hx
  exact ⟨a, rfl, trivial⟩
theorem dec_BB {x : I} (h : HasC (.sl [.sl [.int .u8]]) x) : ∃ l : List (List UInt8), x = bbI l := by
  obtain ⟨l, h1, _⟩ := dec_list (fun _ he => dec_bb he) h
  exact ⟨l, h1⟩
theorem bb_small {l : List (List UInt8)} {n : Nat} (h : bkI (bbI l) ≤ n) : l.length ≤ n ∧ ∀ b ∈ l, b.length ≤ n := by
  refine ⟨Nat.le_trans (bk_len (fun b => [bI b]) l) h, fun b hb => ?_⟩
  have h1 := bk_mem (fun b => [bI b]) hb
  have h2 := bk_B b
  simp only [bkL] at h1
  unfold bbI at h
  omega
end Go.Proofs.Ytdpfjmkilbepgaa
/- What the rows hand in: validators, headers, what is signed. -/
set_option linter.all false
namespace Go.Proofs.Ytdpfjmkilbepgaa
open Go Go.Abs Go.RowKit Go.Proofs.Ytdpfjmkilbepgaa.Ty

def Val64 (v : ValD) : Prop := v.k < 18446744073709551616 ∧ v.p < 18446744073709551616
theorem dec_Val {e : List I} (h : HasCs [.int .u64, .int .u64] e) : ∃ v : ValD, e = encV v ∧ Val64 v := by
  obtain ⟨x, _, rfl, hx, h⟩ := hasCs_cons h
  obtain ⟨y, _, rfl, hy, h⟩ := hasCs_cons h
  obtain rfl := hasCs_nil h
  obtain ⟨a, rfl, ha⟩ := dec_u64 hx
  obtain ⟨b, rfl, hb⟩ := dec_u64 hy
  exact ⟨⟨a, b⟩, rfl, ha, hb⟩
theorem dec_Vals {x : I} (h : HasC (.sl [.int .u64, .int .u64]) x) : ∃ l : List ValD, x = valsI l ∧ ∀ v ∈ l, Val64 v := dec_list (fun _ he => dec_Val he) h
def Vote64 (x : VoteD) : Prop := x.r < 18446744073709551616 ∧ x.s < 18446744073709551616
theorem dec_Vote {e : List I} (h : HasCs [.bool, .int .u64, .int .u64] e) : ∃ v : VoteD, e = encX v ∧ Vote64 v := by
  obtain ⟨x, _, rfl, hx, h⟩ := hasCs_cons h
  obtain ⟨y, _, rfl, hy, h⟩ := hasCs_cons h
  obtain ⟨z, _, rfl, hz, h⟩ := hasCs_cons h
  obtain rfl := hasCs_nil h
  obtain ⟨a, rfl⟩ := dec_bool hx
  obtain ⟨b, rfl, hb⟩ := dec_u64 hy
  obtain ⟨c, rfl, hc⟩ := dec_u64 hz
  exact ⟨⟨a, b, c⟩, rfl, hb, hc⟩
theorem dec_Votes {x : I} (h : HasC (.sl [.bool, .int .u64, .int .u64]) x) : ∃ l : List VoteD, x = votesI l ∧ ∀ v ∈ l, Vote64 v := dec_list (fun _ he => dec_Vote he) h
theorem dec_Hdr {e : List I} (h : HasCs [.str, .int .i64, .int .i64, .sl [.int .u8], .sl [.int .u8], .sl [.int .u8]] e) : ∃ a : HdrD, e = encH a := by
  obtain ⟨x1, _, rfl, h1, h⟩ := hasCs_cons h
  obtain ⟨x2, _, rfl, h2, h⟩ := hasCs_cons h
  obtain ⟨x3, _, rfl, h3, h⟩ := hasCs_cons h
  obtain ⟨x4, _, rfl, h4, h⟩ := hasCs_cons h
  obtain ⟨x5, _, rfl, h5, h⟩ := hasCs_cons h
  obtain ⟨x6, _, rfl, h6, h⟩ := hasCs_cons h
  obtain rfl := hasCs_nil h
  obtain ⟨c, rfl, _⟩ := dec_str h1
  obtain ⟨a, rfl, _⟩ := dec_int h2
  obtain ⟨b, rfl, _⟩ := dec_int h3
  obtain ⟨u, rfl⟩ := dec_B h4
  obtain ⟨v, rfl⟩ := dec_B h5
  obtain ⟨w, rfl⟩ := dec_B h6
  exact ⟨⟨c, a, b, u, v, w⟩, rfl⟩
theorem dec_Signed {e : List I} (h : HasCs [.str, .int .i64, .int .i64, .sl [.int .u8], .sl [.int .u8], .sl [.int .u8], .sl [.int .u64, .int .u64], .sl [.bool, .int .u64, .int .u64]] e) : ∃ s : SignedD, e = encS s ∧ (∀ v ∈ s.vals, Val64 v) ∧ ∀ x ∈ s.votes, Vote64 x := by
  obtain ⟨x1, _, rfl, h1, h⟩ := hasCs_cons h
  obtain ⟨x2, _, rfl, h2, h⟩ := hasCs_cons h
  obtain ⟨x3, _, rfl, h3, h⟩ := hasCs_cons h
  obtain ⟨x4, _, rfl, h4, h⟩ := hasCs_cons h
  obtain ⟨x5, _, rfl, h5, h⟩ := hasCs_cons h
  obtain ⟨x6, _, rfl, h6, h⟩ := hasCs_cons h
  obtain ⟨x7, _, rfl, h7, h⟩ := hasCs_cons h
  obtain ⟨x8, _, rfl, h8, h⟩ := hasCs_cons h
  obtain rfl := hasCs_nil h
  obtain ⟨c, rfl, _⟩ := dec_str h1
  obtain ⟨a, rfl, _⟩ := dec_int h2
  obtain ⟨b, rfl, _⟩ := dec_int h3
  obtain ⟨u, rfl⟩ := dec_B h4
  obtain ⟨v, rfl⟩ := dec_B h5
  obtain ⟨w, rfl⟩ := dec_B h6
  obtain ⟨l, rfl, hl⟩ := dec_Vals h7
  obtain ⟨m, rfl, hm⟩ := dec_Votes h8
  exact ⟨⟨⟨c, a, b, u, v, w⟩, l, m⟩, rfl, hl, hm⟩
theorem hdr_agg (h : HdrD) : D.agg ((encH h).map .i) = hdrD h := rfl
theorem sgn_agg (s : SignedD) : D.agg ((encS s).map .i) = signedD s := rfl
theorem hdr_sm {h : HdrD} {n : Nat} (hb : bkL (encH h) ≤ n) (hn : n ≤ 1048576) : HdrSm h := by
  have h1 := bk_B h.root
  have h2 := bk_B h.vals
  have h3 := bk_B h.next
  simp only [bkL, encH, bkI] at hb
  exact ⟨by omega, by omega, by omega, by omega⟩
theorem bkLL_two {α : Type} {enc : α → List I} {k : Nat} (hk : ∀ a, bkL (enc a) = k) (l : List α) : bkI (.sl (l.map enc)) = l.length * (1 + k) := by
  rw [bk_map]
  induction l with
  | nil => simp
  | cons a t ih => rw [List.map_cons, List.sum_cons, ih, hk, List.length_cons, Nat.add_mul]; omega
theorem seeds_of {l : List (List UInt8)} {n : Nat} (h : bkI (bbI l) ≤ n) (hn : n ≤ 1048576) : SeedsSm l := by
  have := bb_small h
  exact ⟨by omega, fun s hs => by have := this.2 s hs; omega⟩
theorem vals_len {l : List ValD} {n : Nat} (h : bkI (valsI l) ≤ n) (hn : n ≤ 1048576) : l.length ≤ 1048576 := by
  have := bk_len encV l
  unfold valsI at h; omega
end Go.Proofs.Ytdpfjmkilbepgaa
/- What the rows hand in: what is known, clients, updates. -/
set_option linter.all false
namespace Go.Proofs.Ytdpfjmkilbepgaa
open Go Go.Abs Go.RowKit Go.Proofs.Ytdpfjmkilbepgaa.Ty

theorem dec_Kn {e : List I} (h : HasCs [.int .i64, .int .i64, .sl [.int .u8], .sl [.int .u8]] e) : ∃ k : KnownD, e = encK k ∧ True := by
  obtain ⟨x1, _, rfl, h1, h⟩ := hasCs_cons h
  obtain ⟨x2, _, rfl, h2, h⟩ := hasCs_cons h
  obtain ⟨x3, _, rfl, h3, h⟩ := hasCs_cons h
  obtain ⟨x4, _, rfl, h4, h⟩ := hasCs_cons h
  obtain rfl := hasCs_nil h
  obtain ⟨a, rfl, _⟩ := dec_int h1
  obtain ⟨b, rfl, _⟩ := dec_int h2
  obtain ⟨u, rfl⟩ := dec_B h3
  obtain ⟨v, rfl⟩ := dec_B h4
  exact ⟨⟨a, b, u, v⟩, rfl, trivial⟩
theorem dec_Known {e : List I} (h : HasCs [.int .i64, .int .i64, .sl [.int .u8], .sl [.int .u8]] e) : ∃ k : KnownD, e = encK k := by
  obtain ⟨k, e, _⟩ := dec_Kn h
  exact ⟨k, e⟩
theorem dec_Client {e : List I} (h : HasCs [.str, .int .i64, .bool, .sl [.int .i64, .int .i64, .sl [.int .u8], .sl [.int .u8]]] e) : ∃ c : ClientD, e = encC c := by
  obtain ⟨x1, _, rfl, h1, h⟩ := hasCs_cons h
  obtain ⟨x2, _, rfl, h2, h⟩ := hasCs_cons h
  obtain ⟨x3, _, rfl, h3, h⟩ := hasCs_cons h
  obtain ⟨x4, _, rfl, h4, h⟩ := hasCs_cons h
  obtain rfl := hasCs_nil h
  obtain ⟨a, rfl, _⟩ := dec_str h1
  obtain ⟨b, rfl, _⟩ := dec_int h2
  obtain ⟨f, rfl⟩ := dec_bool h3
  obtain ⟨l, rfl, _⟩ := dec_list (fun _ he => dec_Kn he) h4
  exact ⟨⟨a, b, f, l⟩, rfl⟩
theorem dec_Upd {e : List I} (h : HasCs [.int .i64, .str, .int .i64, .int .i64, .sl [.int .u8], .sl [.int .u8], .sl [.int .u8], .sl [.int .u64, .int .u64], .sl [.bool, .int .u64, .int .u64], .sl [.int .u64, .int .u64]] e) :
    ∃ u : UpdD, e = encU u ∧ (∀ v ∈ u.sg.vals, Val64 v) ∧ (∀ x ∈ u.sg.votes, Vote64 x) ∧ (∀ v ∈ u.tr, Val64 v) := by
  obtain ⟨x0, _, rfl, h0, h⟩ := hasCs_cons h
  obtain ⟨x1, _, rfl, h1, h⟩ := hasCs_cons h
  obtain ⟨x2, _, rfl, h2, h⟩ := hasCs_cons h
  obtain ⟨x3, _, rfl, h3, h⟩ := hasCs_cons h
  obtain ⟨x4, _, rfl, h4, h⟩ := hasCs_cons h
  obtain ⟨x5, _, rfl, h5, h⟩ := hasCs_cons h
  obtain ⟨x6, _, rfl, h6, h⟩ := hasCs_cons h
  obtain ⟨x7, _, rfl, h7, h⟩ := hasCs_cons h
  obtain ⟨x8, _, rfl, h8, h⟩ := hasCs_cons h
  obtain ⟨x9, _, rfl, h9, h⟩ := hasCs_cons h
  obtain rfl := hasCs_nil h
  obtain ⟨f, rfl, _⟩ := dec_int h0
  obtain ⟨c, rfl, _⟩ := dec_str h1
  obtain ⟨a, rfl, _⟩ := dec_int h2
  obtain ⟨b, rfl, _⟩ := dec_int h3
  obtain ⟨u, rfl⟩ := dec_B h4
  obtain ⟨v, rfl⟩ := dec_B h5
  obtain ⟨w, rfl⟩ := dec_B h6
  obtain ⟨l, rfl, hl⟩ := dec_Vals h7
  obtain ⟨m, rfl, hm⟩ := dec_Votes h8
  obtain ⟨t, rfl, ht⟩ := dec_Vals h9
  exact ⟨⟨f, ⟨⟨c, a, b, u, v, w⟩, l, m⟩, t⟩, rfl, hl, hm, ht⟩
theorem cl_agg (c : ClientD) : D.agg ((encC c).map .i) = clientD c := rfl
theorem up_agg (u : UpdD) : D.agg ((encU u).map .i) = updD u := rfl
theorem kn_agg (k : KnownD) : D.agg ((encK k).map .i) = knownD k := rfl
theorem kn_bk (k : KnownD) : bkL (encK k) = k.root.length + k.next.length := by
  have h1 := bk_B k.root
  have h2 := bk_B k.next
  simp only [bkL, encK, bkI, h1, h2]; omega
theorem cl_sm {c : ClientD} {n : Nat} (hb : bkL (encC c) ≤ n) (hn : n ≤ 1048576) : ClSm c ∧ c.c.size ≤ 1048576 := by
  have h1 := bk_len encK c.known
  have h2 := fun k (hk : k ∈ c.known) => bk_mem encK hk
  simp only [bkL, encC, bkI, knownI] at hb h1 h2
  refine ⟨⟨by omega, fun k hk => ?_⟩, by omega⟩
  have h3 := h2 k hk
  rw [kn_bk] at h3
  exact ⟨by omega, by omega⟩
theorem up_sm {u : UpdD} {n : Nat} (hb : bkL (encU u) ≤ n) (hn : n ≤ 1048576) (h1 : ∀ v ∈ u.sg.vals, Val64 v) (h2 : ∀ x ∈ u.sg.votes, Vote64 x) (h3 : ∀ v ∈ u.tr, Val64 v) : UpSm u := by
  have k1 := bk_B u.sg.hdr.root
  have k2 := bk_B u.sg.hdr.vals
  have k3 := bk_B u.sg.hdr.next
  have k4 := bk_len encV u.sg.vals
  have k5 := bk_len encV u.tr
  simp only [encU, encS, valsI, votesI, List.cons_append, List.nil_append, bkL, bkI, k1, k2, k3] at hb k4 k5
  exact ⟨⟨⟨by omega, by omega, by omega, by omega⟩, by omega, h1, h2⟩, by omega, h3, by omega⟩
end Go.Proofs.Ytdpfjmkilbepgaa
/- The contract of landref1.Same, by the abstract walk. -/
set_option linter.all false
namespace Go.Proofs.Ytdpfjmkilbepgaa
open Go Go.Abs Go.RowKit Go.Proofs.Ytdpfjmkilbepgaa.Ty
theorem tyR1Same0 : (type_of% @Ty.T3) ∧ (type_of% @Ty.T5) ∧ (type_of% @Ty.T25) := ⟨@Ty.T3, @Ty.T5, @Ty.T25⟩

set_option maxHeartbeats 1000000
theorem same_A (x y : List UInt8) (hx : x.length ≤ 1099511627776) : PureD Try.prog 25 [.i (bI x), .i (bI y)] (.i (.s (.bool (decide (x = y))))) := by
  refine callD_W 26 Try.func25 rfl rfl rfl (fun _ _ => rfl) ?_
  (repeat (first | (simp -implicitDefEqProofs only [ev, mixed, Nat.reduceLT, Nat.reduceAdd, Nat.reduceMul, reduceIte, Nat.reduceEqDiff, reduceCtorEq, Nat.reducePow, Nat.reduceLeDiff, Int.reduceLE, Int.reduceLT, Int.reduceToNat, Int.reduceEq, Nat.reduceBEq, itsOf, gdA, byteI, opid, lenQ, ixQ, ldH, readAt, readCells, asCell, faQ, exQ, fldQ, partA, buildQ, slQ, stH, bslH, appH, dcells, convI, elemsOf, D.one, nilS, fillD, convN, cvH, tyR1Same0, bI]) | (with_reducible refine ⟨?_, ?_⟩; (· first | (obtain ⟨rfl⟩ := ‹Hq _ _›; with_reducible refine chk_ok ?_; kernel_rfl) | kernel_rfl)) | (with_reducible intro ops hops)))
  refine Wc_split (fun h => ?_) (fun h => ?_)
  · (repeat (first | (simp -implicitDefEqProofs only [ev, mixed, Nat.reduceLT, Nat.reduceAdd, Nat.reduceMul, reduceIte, Nat.reduceEqDiff, reduceCtorEq, Nat.reducePow, Nat.reduceLeDiff, Int.reduceLE, Int.reduceLT, Int.reduceToNat, Int.reduceEq, Nat.reduceBEq, itsOf, gdA, byteI, opid, lenQ, ixQ, ldH, readAt, readCells, asCell, faQ, exQ, fldQ, partA, buildQ, slQ, stH, bslH, appH, dcells, convI, elemsOf, D.one, nilS, fillD, convN, cvH, tyR1Same0, bI]) | (with_reducible refine ⟨?_, ?_⟩; (· first | (obtain ⟨rfl⟩ := ‹Hq _ _›; with_reducible refine chk_ok ?_; kernel_rfl) | kernel_rfl)) | (with_reducible intro ops hops)))
    refine fin_ret [] rfl ?_
    have : x ≠ y := by intro e; subst e; simp at h
    simp [cv, cv1, cv0, upd, this]
  · have hl : x.length = y.length := by simp at h; omega
    clear h
    (repeat (first | (simp -implicitDefEqProofs only [ev, mixed, Nat.reduceLT, Nat.reduceAdd, Nat.reduceMul, reduceIte, Nat.reduceEqDiff, reduceCtorEq, Nat.reducePow, Nat.reduceLeDiff, Int.reduceLE, Int.reduceLT, Int.reduceToNat, Int.reduceEq, Nat.reduceBEq, itsOf, gdA, byteI, opid, lenQ, ixQ, ldH, readAt, readCells, asCell, faQ, exQ, fldQ, partA, buildQ, slQ, stH, bslH, appH, dcells, convI, elemsOf, D.one, nilS, fillD, convN, cvH, tyR1Same0, bI]) | (with_reducible refine ⟨?_, ?_⟩; (· first | (obtain ⟨rfl⟩ := ‹Hq _ _›; with_reducible refine chk_ok ?_; kernel_rfl) | kernel_rfl)) | (with_reducible intro ops hops)))
    refine W_loop (ι := { k : Nat // k ≤ x.length ∧ x.take k = y.take k }) (fun k => stOf [(0, .i (.sl (x.map byteI))), (1, .i (.sl (y.map byteI))), (12, .i (.s (.int .i64 x.length))), (13, .i (.s (.int .i64 (k.1 : Nat))))] []) (fun k => x.length - k.1) ⟨0, by simp⟩ ?_ ?_
    · refine le_stOf _ _ [] [] ?_ ?_ rfl rfl
      · simp [cv, cv1, cv0, upd, lk]
      · simp
    · rintro ⟨k, hk, ht⟩
      rw [stOf_eq]
      (repeat (first | (simp -implicitDefEqProofs only [ev, mixed, Nat.reduceLT, Nat.reduceAdd, Nat.reduceMul, reduceIte, Nat.reduceEqDiff, reduceCtorEq, Nat.reducePow, Nat.reduceLeDiff, Int.reduceLE, Int.reduceLT, Int.reduceToNat, Int.reduceEq, Nat.reduceBEq, itsOf, gdA, byteI, opid, lenQ, ixQ, ldH, readAt, readCells, asCell, faQ, exQ, fldQ, partA, buildQ, slQ, stH, bslH, appH, dcells, convI, elemsOf, D.one, nilS, fillD, convN, cvH, tyR1Same0]) | (with_reducible refine ⟨?_, ?_⟩; (· first | (obtain ⟨rfl⟩ := ‹Hq _ _›; with_reducible refine chk_ok ?_; kernel_rfl) | kernel_rfl)) | (with_reducible intro ops hops)))
      refine Wc_split (fun h => ?_) (fun h => ?_)
      · have hlt : k < x.length := by simp at h; omega
        clear h
        have e1 : (x.map byteI)[k]? = some [.s (.int .u8 (x[k].toNat : Int))] := by simp [hlt, byteI]
        have e2 : (y.map byteI)[k]? = some [.s (.int .u8 ((y[k]'(by omega)).toNat : Int))] := by simp [show k < y.length by omega, byteI]
        (repeat (first | (simp -implicitDefEqProofs only [ev, mixed, Nat.reduceLT, Nat.reduceAdd, Nat.reduceMul, reduceIte, Nat.reduceEqDiff, reduceCtorEq, Nat.reducePow, Nat.reduceLeDiff, Int.reduceLE, Int.reduceLT, Int.reduceToNat, Int.reduceEq, Nat.reduceBEq, itsOf, gdA, byteI, opid, lenQ, ixQ, ldH, readAt, readCells, asCell, faQ, exQ, fldQ, partA, buildQ, slQ, stH, bslH, appH, dcells, convI, elemsOf, D.one, nilS, fillD, convN, cvH, tyR1Same0, e1, e2]) | (with_reducible refine ⟨?_, ?_⟩; (· first | (obtain ⟨rfl⟩ := ‹Hq _ _›; with_reducible refine chk_ok ?_; kernel_rfl) | kernel_rfl)) | (with_reducible intro ops hops)))
        refine Wc_split (fun h => ?_) (fun h => ?_)
        · (repeat (first | (simp -implicitDefEqProofs only [ev, mixed, Nat.reduceLT, Nat.reduceAdd, Nat.reduceMul, reduceIte, Nat.reduceEqDiff, reduceCtorEq, Nat.reducePow, Nat.reduceLeDiff, Int.reduceLE, Int.reduceLT, Int.reduceToNat, Int.reduceEq, Nat.reduceBEq, itsOf, gdA, byteI, opid, lenQ, ixQ, ldH, readAt, readCells, asCell, faQ, exQ, fldQ, partA, buildQ, slQ, stH, bslH, appH, dcells, convI, elemsOf, D.one, nilS, fillD, convN, cvH, tyR1Same0]) | (with_reducible refine ⟨?_, ?_⟩; (· first | (obtain ⟨rfl⟩ := ‹Hq _ _›; with_reducible refine chk_ok ?_; kernel_rfl) | kernel_rfl)) | (with_reducible intro ops hops)))
          refine fin_ret [] rfl ?_
          have : x ≠ y := by intro e; subst e; simp at h
          simp [cv, cv1, cv0, upd, this]
        · have hb : x[k] = y[k] := UInt8.toNat_inj.1 (by simp at h; omega)
          clear h
          have hw : IntKind.i64.wrap ((k : Int) + 1) = ((k + 1 : Nat) : Int) := by rw [wrap64 (by omega) (by omega)]; omega
          (repeat (first | (simp -implicitDefEqProofs only [ev, mixed, Nat.reduceLT, Nat.reduceAdd, Nat.reduceMul, reduceIte, Nat.reduceEqDiff, reduceCtorEq, Nat.reducePow, Nat.reduceLeDiff, Int.reduceLE, Int.reduceLT, Int.reduceToNat, Int.reduceEq, Nat.reduceBEq, itsOf, gdA, byteI, opid, lenQ, ixQ, ldH, readAt, readCells, asCell, faQ, exQ, fldQ, partA, buildQ, slQ, stH, bslH, appH, dcells, convI, elemsOf, D.one, nilS, fillD, convN, cvH, tyR1Same0, hw]) | (with_reducible refine ⟨?_, ?_⟩; (· first | (obtain ⟨rfl⟩ := ‹Hq _ _›; with_reducible refine chk_ok ?_; kernel_rfl) | kernel_rfl)) | (with_reducible intro ops hops)))
          refine ⟨⟨k + 1, hlt, ?_⟩, le_stOf _ _ [] [] ?_ ?_ rfl rfl, ?_⟩
          · rw [List.take_succ_eq_append_getElem hlt, List.take_succ_eq_append_getElem (by omega), ht, hb]
          · simp [cv, cv1, cv0, upd, lk]
          · simp
          · simp; omega
      · have hk' : k = x.length := by simp at h; omega
        subst hk'
        (repeat (first | (simp -implicitDefEqProofs only [ev, mixed, Nat.reduceLT, Nat.reduceAdd, Nat.reduceMul, reduceIte, Nat.reduceEqDiff, reduceCtorEq, Nat.reducePow, Nat.reduceLeDiff, Int.reduceLE, Int.reduceLT, Int.reduceToNat, Int.reduceEq, Nat.reduceBEq, itsOf, gdA, byteI, opid, lenQ, ixQ, ldH, readAt, readCells, asCell, faQ, exQ, fldQ, partA, buildQ, slQ, stH, bslH, appH, dcells, convI, elemsOf, D.one, nilS, fillD, convN, cvH, tyR1Same0]) | (with_reducible refine ⟨?_, ?_⟩; (· first | (obtain ⟨rfl⟩ := ‹Hq _ _›; with_reducible refine chk_ok ?_; kernel_rfl) | kernel_rfl)) | (with_reducible intro ops hops)))
        refine fin_ret [] rfl ?_
        have : x = y := by rw [List.take_length, hl, List.take_length] at ht; exact ht
        simp [cv, cv1, cv0, upd, this]
end Go.Proofs.Ytdpfjmkilbepgaa
/- landlaw7.known, alive. -/
set_option linter.all false
namespace Go.Proofs.Ytdpfjmkilbepgaa
open Go Go.Abs Go.RowKit Go.Proofs.Ytdpfjmkilbepgaa.Ty

set_option maxHeartbeats 4000000
def k07 : KnownD := ⟨1, 5, List.replicate 32 0, List.replicate 32 0⟩
def c07 : ClientD := ⟨⟨#[97]⟩, 10, false, [k07]⟩
theorem known7_A : PureD Try.prog 85 [] (knownD k07) := by
  refine hide_r fun R hR => ?_
  have hz : List.replicate 32 [I.s (.int .u8 0)] = (List.replicate 32 (0 : UInt8)).map byteI := rfl
  unfold k07 at hR
  have m1 := fun {e : TypeId} {l c : Int} {H : Nat → Ob} {id : Nat} => mk_fresh (P := Try.prog) (e := e) (l := l) (c := c) (H := H) (id := id)
  refine callD_W 6 Try.func85 rfl rfl rfl (fun _ _ => rfl) ?_
  exact wkl trivial
theorem new7 : newC ⟨#[97]⟩ 10 k07 = (c07, 0) := by
  have : wrongC ⟨⟨#[97]⟩, 10, false, [k07]⟩ = 0 := by
    rw [wrongC_zero]
    refine ⟨by decide +kernel, by decide, by decide, fun k hk => ?_, by simp⟩
    simp at hk; subst hk
    exact ⟨by decide, by decide, by decide, by decide⟩
  unfold newC; rw [if_pos this]; rfl
theorem alive7_A : PureD Try.prog 40 [] (boolD true) := by
  refine hide_r fun R hR => ?_
  have c1 := known7_A
  have c2 := cnew_A ⟨#[97]⟩ 10 k07 ⟨by decide, by decide⟩
  rw [new7] at c2
  have c3 := cat_A c07 1 ⟨by decide, fun k hk => by simp [c07] at hk; subst hk; exact ⟨by decide, by decide⟩⟩
  rw [show atR c07 1 = (k07, true) from rfl] at c3
  have c4 := cactive_A c07 14 (by decide) (by decide) (by decide) (by decide)
  have c5 := cactive_A c07 15 (by decide) (by decide) (by decide) (by decide)
  rw [show activeC c07 14 = true from rfl] at c4
  rw [show activeC c07 15 = false from rfl] at c5
  simp only [c07] at c2 c3 c4 c5
  have ht : k07.t = 5 := rfl
  generalize k07 = k at *
  refine callD_W 34 Try.func40 rfl rfl rfl (fun _ _ => rfl) ?_
  exact wkl trivial
end Go.Proofs.Ytdpfjmkilbepgaa
/- The law ClientKeeps: the walk. -/
set_option linter.all false
namespace Go.Proofs.Ytdpfjmkilbepgaa
open Go Go.Abs Go.RowKit Go.Proofs.Ytdpfjmkilbepgaa.Ty

set_option maxHeartbeats 4000000
set_option maxRecDepth 20000
theorem walk_ClientKeeps (y0 : List I) (c : ClientD) (e0 : y0 = encC c) (y1 : List I) (u : UpdD) (e1 : y1 = encU u ∧ (∀ v ∈ u.sg.vals, Val64 v) ∧ (∀ x ∈ u.sg.votes, Vote64 x) ∧ (∀ v ∈ u.tr, Val64 v)) (y2 : I) (now : Int) (e2 : y2 = .s (.int .i64 now) ∧ (Lit.int .i64 now).wf = true)
    (hb : bkL y0 + bkL y1 + bkI y2 ≤ 1048576) :
    ∃ Ds, PureD Try.prog 10 Ds (.i (.s (.bool true))) ∧ Ds = [.agg (y0.map .i), .agg (y1.map .i), .i y2] := by
  subst e0
  obtain ⟨rfl, u1, u2, u3⟩ := e1
  obtain ⟨rfl, _⟩ := e2
  refine ⟨_, ?_, rfl⟩
  rw [cl_agg, up_agg]
  have hc := cl_sm (c := c) (n := 1048576) (by omega) (by omega)
  have hu := up_sm (u := u) (n := 1048576) (by omega) (by omega) u1 u2 u3
  clear hb u1 u2 u3
  have c1 := alive7_A
  have c2 := cfollow_A c u now hc.1.l hu
  refine hide_r fun R hR => ?_
  by_cases hz : (followC c u now).2 = 0
  · obtain ⟨h1, h2, h3⟩ := follow_zero hz
    obtain ⟨ok, hn, hfz⟩ := asked_zero.1 h1
    obtain ⟨hk, _⟩ := be_hdr h2
    rw [h3] at c2
    have hd := put_ok ok hk
    have hw := wrongC_zero.2 hd
    have c3 := cwrong_A (putK c (ofH u.sg.hdr)) hd.sm.l
    rw [hw] at c3
    have hkeep := put_keeps ok hk
    have hhas := put_has ok hk
    obtain ⟨s1, s2⟩ := putK_same c (ofH u.sg.hdr)
    have hl := ok.len
    have hsm := ok.sm
    clear h1 h2 h3 hz hc hw hn hfz
    generalize putK c (ofH u.sg.hdr) = d at *
    obtain ⟨dc, dt, df, dl⟩ := d
    simp only at s1 s2
    subst s1 s2
    have c4 := fun h => cat_A ⟨c.c, c.trust, df, dl⟩ h hd.sm
    refine callD_W 141 Try.func10 rfl rfl rfl (fun _ _ => rfl) ?_
    refine wkl ?_
    clear hR; intro hR
    refine W_loopR (ι := Nat) (fun i => i ≤ c.known.length)
      (fun i => stOf [(3, .pt 100 0 0 0), (4, .pt 101 0 0 0), (7, .pt 102 0 0 0), (49, .i (knownI c.known)), (50, intD c.known.length), (51, intD i)] [(100, .box ((encC c).map .i)), (101, .box ((encU u).map .i)), (102, .box ((encC ⟨c.c, c.trust, df, dl⟩).map .i))])
      (fun i => c.known.length - i) 0 (Nat.zero_le _) ?_ ?_
    · exact le_ok [] [(100, 1000), (101, 1001), (102, 1775)]
    · rintro i hi RL hL
      rw [stOf_eq]
      by_cases h : i < c.known.length
      · have e1 := get_lt (f := encK) h
        have b1 := fun σ' => bk [] [(100, 100), (101, 101), (102, 102)] (hL (i + 1) σ' h)
        have hkn := hsm.k _ (List.getElem_mem h)
        have a1 := hkn.r
        have a2 := hkn.n
        have hke := hkeep i h
        have c3 := c4 c.known[i].h
        clear hL hkeep hhas hkn c4
        unfold atR at c3
        generalize c.known[i] = k at *
        have c5 := same_A k.root k.root (by omega)
        have c6 := same_A k.next k.next (by omega)
        rw [decide_eq_true rfl] at c5 c6
        rcases hke with h1 | ⟨h0, h2, h1⟩
        · rw [h1] at c3
          simp only at c3
          exact wkl trivial
        · rw [h1] at c3
          simp only [zeroK] at c3
          replace h0 : ¬ (0 : Int) < (i : Int) := by omega
          replace h2 : 30 ≤ c.known.length := by omega
          exact wkl trivial
      · clear hL hkeep
        have c3 := c4 u.sg.hdr.h
        unfold atR at c3
        have c5 := same_A u.sg.hdr.root u.sg.hdr.root (by have := hk.r; simp only [ofH] at this; omega)
        have c6 := same_A u.sg.hdr.next u.sg.hdr.next (by have := hk.n; simp only [ofH] at this; omega)
        rw [decide_eq_true rfl] at c5 c6
        simp only [ofH] at hhas
        clear c4 hk hu
        rcases hhas with rfl | h1 | ⟨h2, h1⟩
        · generalize atC ⟨c.c, c.trust, true, dl⟩ u.sg.hdr.h = o at *
          cases o <;> simp only [zeroK] at c3 <;> exact wkl trivial
        · rw [h1] at c3
          simp only at c3
          cases df <;> exact wkl trivial
        · rw [h1] at c3
          simp only [zeroK] at c3
          cases df <;> exact wkl trivial
  · have h3 := follow_no hz
    rw [h3] at c2
    generalize (followC c u now).2 = E at *
    clear hc hu h3
    refine callD_W 141 Try.func10 rfl rfl rfl (fun _ _ => rfl) ?_
    exact wkl trivial
end Go.Proofs.Ytdpfjmkilbepgaa
/- The statement on landlaw7.ClientKeeps: for every input of bounded bulk it answers true and leaves its arguments as they were. -/
set_option linter.all false
namespace Go.Proofs.Ytdpfjmkilbepgaa.clientKeeps
open Go.ChangeShapes Go.WideShapes Go.ChangeAt Go.RowKit Go.Abs
set_option linter.unusedVariables false
set_option maxRecDepth 100000 in
theorem contract (H : Type) (enc : TypeId × Value → H) (W : World) (base : Nat) (args : Array Value) (ds gs : List (DataW H)) (before : List MemPlace)
    (hval : ∀ (j : Nat) t v, Try.f10.params[j]? = some t → args[j]? = some v → Value.okWide Try.prog W .any base t v)
    (hW : DataW.Whole enc Try.prog Try.f10.params.toList Rows.clientKeepsSpec.vars false W args.toList ds gs before) (hk : Rows.uptoSmall H (ds ++ gs) = true) :
    Calls Try.prog 10 args W fun e W' => ∃ v, e = .returned v ∧ Rows.clientKeepsSpec.post enc Try.prog Try.f10 false true false false W args v W' := by
  have hW' := hW
  obtain ⟨p, q, hA0, hV, rfl, hfz, hnd⟩ := hW'
  have hA : DataW.TrodAll enc Try.prog W 0 (fun _ => true) true Try.f10.params.toList args.toList ds p := hA0
  have hA1 := hA
  rw [Try.params10] at hA hval
  obtain ⟨v0, vs0, d0, ds0, p0, q0, hargs, rfl, rfl, h0, r0⟩ := trodAll_cons hA
  obtain ⟨v1, vs1, d1, ds1, p1, q1, rfl, rfl, rfl, h1, r1⟩ := trodAll_cons r0
  obtain ⟨v2, vs2, d2, ds2, p2, q2, rfl, rfl, rfl, h2, r2⟩ := trodAll_cons r1
  obtain ⟨rfl, rfl, rfl⟩ := trodAll_nil r2
  obtain rfl : args = #[v0, v1, v2] := by cases args; simp_all
  obtain ⟨rfl, rfl⟩ := trodVars_none hV
  have hb : Rows.uptoBulkAll (H := H) [d0, d1, d2] ≤ 1048576 := by have := of_decide_eq_true hk; simpa using this
  simp only [Rows.uptoBulkAll] at hb
  obtain ⟨y0, c0, w0, b0⟩ := open_ag R2.bulk Ty.sh24 Try.underlying24 (hval 0 24 v0 rfl rfl) h0
  obtain ⟨x0, e0⟩ := dec_Client c0
  obtain ⟨y1, c1, w1, b1⟩ := open_ag R2.bulk Ty.sh68 Try.underlying68 (hval 1 68 v1 rfl rfl) h1
  obtain ⟨x1, e1⟩ := dec_Upd c1
  obtain ⟨y2, c2, w2, b2⟩ := open_in R2.bulk Ty.sh3 Try.underlying3 (hval 2 3 v2 rfl rfl) h2
  obtain ⟨x2, e2⟩ := dec_int c2
  have hy0 := e0
  have hy1 := e1
  have hy2 := e2
  simp only [List.append_nil] at hW
  obtain ⟨Ds, hp, hs⟩ := walk_ClientKeeps y0 x0 e0 y1 x1 e1 y2 x2 e2 (by omega)
  subst hs
  refine (pure_calls hp rfl (fun j d hd => ?_)).mono fun e W' ⟨he, bel⟩ => ?_
  · rcases j with _ | _ | _ | j <;> simp at hd <;> subst hd <;> assumption
  · subst he
    exact ⟨_, rfl, _, _, _, [], _, [], hW, trodAll_mk1 (shut_bool Try.underlying4 _), R2.trodAll_below hA1 bel (by rw [Try.params10]; decide +kernel), rfl, bel.frame _, fun h => by cases h⟩

set_option maxRecDepth 100000 in
theorem lifted (os : Os) (started : os.Started) (H : Type) (enc : TypeId × Value → H) (F : Stop.Interp) :
    ReturnsInHanded {} Try.checked os 10 .any ((Rows.OpenSpec.upto Rows.clientKeepsSpec).pre6 enc Try.prog Try.f10 Rows.clientKeepsUptoRow.domain false) (((Rows.OpenSpec.upto Rows.clientKeepsSpec).at F).post enc Try.prog Try.f10 false true false false) := by
  refine returnsInHanded_of_cond (C := Try.checked) (s := Rows.OpenSpec.upto Rows.clientKeepsSpec) (k := Rows.uptoSmall) rfl R2.own started (by kernel_rfl) Try.func10
    (OpenSpec.witness (enc := enc) (C := Try.checked) (s := Rows.OpenSpec.upto Rows.clientKeepsSpec) (k := Rows.uptoSmall) rfl false ⟨#[], #[.agg #[.string ⟨#[]⟩, .int .i64 0, .bool false, .slice none 0 0], .agg #[.int .i64 0, .string ⟨#[]⟩, .int .i64 0, .int .i64 0, .slice none 0 0, .slice none 0 0, .slice none 0 0, .slice none 0 0, .slice none 0 0, .slice none 0 0], .int .i64 0], []⟩ 20 (by kernel_rfl) (by kernel_rfl) (by kernel_rfl)
      (x := ([.agg [.lit (.string []), .lit (.int .i64 0), .lit (.bool false), .nil], .agg [.lit (.int .i64 0), .agg [.agg [.lit (.string []), .lit (.int .i64 0), .lit (.int .i64 0), .nil, .nil, .nil], .nil, .nil], .nil], .lit (.int .i64 0)], [], [])) (by kernel_rfl) rfl (by kernel_rfl)) ?_
  intro W base args ds gs before hval hW _ hk _
  exact contract H enc W base args ds gs before hval hW hk

theorem over : Rows.clientKeepsUptoRow.holds Try.pinned (Rows.OpenSpec.upto Rows.clientKeepsSpec) :=
  OpenClaim.holds_of_cond 10 Try.f10 rfl rfl rfl rfl rfl rfl rfl ⟨rfl, rfl, rfl, rfl, rfl⟩ rfl rfl rfl rfl rfl (by kernel_rfl) Try.func10 (by kernel_rfl)
    (of_decide_eq_true (by kernel_rfl)) (by unfold Func.isWrapper; first | (rw [if_pos (by decide +kernel)]; kernel_rfl) | (rw [if_neg (by decide +kernel)]; exact ⟨rfl, rfl⟩))
    (fun os started H enc _ F => lifted os started H enc F)

/-- THE STATEMENT. -/
theorem proved : Rows.ClientKeepsUptoSaid := over
end Go.Proofs.Ytdpfjmkilbepgaa.clientKeeps
