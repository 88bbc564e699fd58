/- The statement on ClientWays, with the last texts of its proof: for every input of bounded bulk the law answers true and leaves its arguments as they were. -/
import Derived.Test.YtdpfjmkilbepgaaClL
import Derived.Test.YtdpfjmkilbepgaaShaD
import Derived.Test.YtdpfjmkilbepgaaAbs4
import Derived.Test.YtdpfjmkilbepgaaHdD
import Derived.Test.YtdpfjmkilbepgaaTy
import Derived.Test.YtdpfjmkilbepgaaClD
import Derived.Test.YtdpfjmkilbepgaaRow2
/- What a client knows behind a header that it is shown. No program is in sight. -/
set_option linter.all false
namespace Go.Proofs.Ytdpfjmkilbepgaa
open Go Go.Abs

theorem at_iff {c : ClientD} {h : Int} {k : KnownD} (hs : c.known.Pairwise fun a b => a.h < b.h) : atC c h = some k ↔ k ∈ c.known ∧ k.h = h := by
  refine ⟨at_mem, fun ⟨hm, hk⟩ => ?_⟩
  cases e : atC c h with
  | none =>
    have := List.find?_eq_none.1 e _ hm
    simp [hk] at this
  | some o =>
    obtain ⟨h1, h2⟩ := at_mem e
    obtain ⟨i, hi, rfl⟩ := List.getElem_of_mem hm
    obtain ⟨j, hj, rfl⟩ := List.getElem_of_mem h1
    have hp := List.pairwise_iff_getElem.1 hs
    by_cases hij : i < j
    · have := hp _ _ hi hj hij; omega
    · by_cases hji : j < i
      · have := hp _ _ hj hi hji; omega
      · have : i = j := by omega
        subst this; rfl
theorem at_none {c : ClientD} {h : Int} : atC c h = none ↔ ∀ k ∈ c.known, ¬ k.h = h := by
  unfold atC
  rw [List.find?_eq_none]
  simp
/-- the three ways -/
theorem put_cases {c : ClientD} (hs : c.known.Pairwise fun a b => a.h < b.h) (k : KnownD) :
    (putK c k = c ∧ k ∈ c.known) ∨ putK c k = { c with frozen := true } ∨
    (∃ l1 l2, c.known = l1 ++ l2 ∧ (∀ x ∈ l1, x.h < k.h) ∧ (∀ x ∈ l2, k.h < x.h) ∧ putK c k = { c with known := cutK (l1 ++ k :: l2) }) := by
  unfold putK
  rcases low_case k.h hs with ⟨hp, hk, hat⟩ | ⟨hno, hat⟩
  · rw [hat]
    simp only
    by_cases hsm : samK c.known[lowK c.known k.h] k = true
    · rw [if_pos hsm]
      left
      refine ⟨rfl, ?_⟩
      have hm := List.getElem_mem hp
      have : c.known[lowK c.known k.h] = k := by
        revert hsm hk
        generalize c.known[lowK c.known k.h] = o
        obtain ⟨a, b, d, e⟩ := o
        obtain ⟨a', b', d', e'⟩ := k
        simp only [samK, Bool.and_eq_true, decide_eq_true_eq]
        rintro h4 ⟨h1, h2, h3⟩
        simp [h1, h2, h3, h4]
      rw [this] at hm; exact hm
    · rw [if_neg hsm]; right; left; rfl
  · rw [hat]
    simp only
    by_cases hb : badK c.known (lowK c.known k.h) k = true
    · rw [if_pos hb]; right; left; rfl
    · rw [if_neg hb]
      right; right
      refine ⟨_, _, (List.take_append_drop (lowK c.known k.h) c.known).symm, fun x hx => ?_, fun x hx => ?_, rfl⟩
      · obtain ⟨i, hi, rfl⟩ := List.getElem_of_mem hx
        simp only [List.length_take] at hi
        rw [List.getElem_take]
        exact (low_iff hs i (by omega)).2 (by omega)
      · obtain ⟨i, hi, rfl⟩ := List.getElem_of_mem hx
        simp only [List.length_drop] at hi
        rw [List.getElem_drop]
        have h1 := low_iff (h := k.h) hs (lowK c.known k.h + i) (by omega)
        have h2 : ¬ c.known[lowK c.known k.h + i].h = k.h := by
          cases i with
          | zero => exact hno (by omega)
          | succ i =>
            intro h3
            have := at_none.1 hat _ (List.getElem_mem (show lowK c.known k.h + (i + 1) < c.known.length by omega))
            exact this h3
        omega
theorem putK_same (c : ClientD) (k : KnownD) : (putK c k).c = c.c ∧ (putK c k).trust = c.trust := by
  unfold putK
  split
  · split <;> exact ⟨rfl, rfl⟩
  · split <;> exact ⟨rfl, rfl⟩
theorem ins_rise {l1 l2 : List KnownD} {k : KnownD} (hs : (l1 ++ l2).Pairwise fun a b => a.h < b.h) (h1 : ∀ x ∈ l1, x.h < k.h) (h2 : ∀ x ∈ l2, k.h < x.h) : (l1 ++ k :: l2).Pairwise fun a b => a.h < b.h := by
  obtain ⟨a, b, d⟩ := List.pairwise_append.1 hs
  refine List.pairwise_append.2 ⟨a, List.pairwise_cons.2 ⟨h2, b⟩, fun x hx y hy => ?_⟩
  rcases List.mem_cons.1 hy with rfl | hy
  · exact h1 x hx
  · exact d x hx y hy
theorem cut_mem {l : List KnownD} {x : KnownD} (h : x ∈ cutK l) : x ∈ l := by
  unfold cutK at h
  split at h
  · exact List.mem_of_mem_drop h
  · exact h
theorem put_mem {c : ClientD} (hs : c.known.Pairwise fun a b => a.h < b.h) {k x : KnownD} (h : x ∈ (putK c k).known) : x ∈ c.known ∨ x = k := by
  rcases put_cases hs k with ⟨e, _⟩ | e | ⟨l1, l2, e0, _, _, e⟩
  · rw [e] at h; exact .inl h
  · rw [e] at h; exact .inl h
  · rw [e] at h
    have := cut_mem h
    simp only [List.mem_append, List.mem_cons] at this
    rw [e0]
    rcases this with h | h | h
    · exact .inl (List.mem_append_left _ h)
    · exact .inr h
    · exact .inl (List.mem_append_right _ h)
theorem put_ok {c : ClientD} (hc : ClOk c) {k : KnownD} (hk : KnOk k) : ClOk (putK c k) := by
  obtain ⟨e1, e2⟩ := putK_same c k
  have hks : ∀ x ∈ (putK c k).known, KnOk x := fun x hx => by
    rcases put_mem hc.rise hx with h | rfl
    · exact hc.k x h
    · exact hk
  have hlr : (1 ≤ (putK c k).known.length ∧ (putK c k).known.length ≤ 30) ∧ (putK c k).known.Pairwise fun a b => a.h < b.h := by
    rcases put_cases hc.rise k with ⟨e, _⟩ | e | ⟨l1, l2, e0, h1, h2, e⟩
    · rw [e]; exact ⟨hc.len, hc.rise⟩
    · rw [e]; exact ⟨hc.len, hc.rise⟩
    · rw [e]
      have hr := hc.rise
      rw [e0] at hr
      have hl := hc.len
      rw [e0, List.length_append] at hl
      have hi := ins_rise hr h1 h2
      have hlen : (l1 ++ k :: l2).length = l1.length + l2.length + 1 := by simp; omega
      show (1 ≤ (cutK (l1 ++ k :: l2)).length ∧ (cutK (l1 ++ k :: l2)).length ≤ 30) ∧ (cutK (l1 ++ k :: l2)).Pairwise _
      unfold cutK
      split
      · exact ⟨by rw [List.length_drop]; omega, hi.sublist (List.drop_sublist _ _)⟩
      · exact ⟨by omega, hi⟩
  exact ⟨by rw [e1]; exact hc.name, by rw [e2]; exact hc.trust, hlr.1, hks, hlr.2⟩
theorem cut_get {l : List KnownD} (hs : l.Pairwise fun a b => a.h < b.h) (hl : l.length ≤ 31) (x : KnownD) (hx : x ∈ l) : x ∈ cutK l ∨ (l.length = 31 ∧ l.head? = some x ∧ ∀ y ∈ cutK l, ¬ y.h = x.h) := by
  unfold cutK
  split
  · cases l with
    | nil => simp at hx
    | cons a t =>
      rcases List.mem_cons.1 hx with rfl | hx
      · refine .inr ⟨?_, rfl, fun y hy => ?_⟩
        · simp only [List.length_cons] at *; omega
        · have := (List.pairwise_cons.1 hs).1 y (by simpa using hy)
          omega
      · exact .inl (by simpa using hx)
  · exact .inl hx
/-- what was known stays known, but for the lowest one -/
theorem put_keeps {c : ClientD} (hc : ClOk c) {k : KnownD} (hk : KnOk k) (i : Nat) (hi : i < c.known.length) : atC (putK c k) c.known[i].h = some c.known[i] ∨ (i = 0 ∧ c.known.length = 30 ∧ atC (putK c k) c.known[i].h = none) := by
  have ho := put_ok hc hk
  rw [at_iff ho.rise]
  rcases put_cases hc.rise k with ⟨e, _⟩ | e | ⟨l1, l2, e0, h1, h2, e⟩
  · rw [e]; exact .inl ⟨List.getElem_mem hi, rfl⟩
  · rw [e]; exact .inl ⟨List.getElem_mem hi, rfl⟩
  · rw [e] at ho ⊢
    have hr := hc.rise
    rw [e0] at hr
    have hl := hc.len
    have hmem : ∀ x ∈ c.known, x ∈ l1 ∨ x ∈ l2 := fun x hx => by rw [e0] at hx; simpa using hx
    have hm : c.known[i] ∈ l1 ++ k :: l2 := by
      simp only [List.mem_append, List.mem_cons]
      rcases hmem _ (List.getElem_mem hi) with h | h
      · exact .inl h
      · exact .inr (.inr h)
    have hlen : (l1 ++ k :: l2).length = c.known.length + 1 := by rw [e0]; simp; omega
    rcases cut_get (ins_rise hr h1 h2) (by omega) _ hm with h | ⟨h3, h4, h5⟩
    · exact .inl ⟨h, rfl⟩
    · refine .inr ⟨?_, by omega, at_none.2 h5⟩
      cases l1 with
      | nil =>
        simp only [List.nil_append, List.head?_cons, Option.some.injEq] at h4
        have := h2 c.known[i] (by have := hmem _ (List.getElem_mem hi); simpa using this)
        rw [← h4] at this; omega
      | cons a t =>
        simp only [List.cons_append, List.head?_cons, Option.some.injEq] at h4
        have h0 : c.known[0]'(by omega) = a := by simp [e0]
        have hp := List.pairwise_iff_getElem.1 hc.rise
        by_cases hz : i = 0
        · exact hz
        · have := hp 0 i (by omega) hi (by omega)
          rw [h0, h4] at this; omega
theorem put_has {c : ClientD} (hc : ClOk c) {k : KnownD} (hk : KnOk k) : (putK c k).frozen = true ∨ atC (putK c k) k.h = some k ∨ (c.known.length = 30 ∧ atC (putK c k) k.h = none) := by
  have ho := put_ok hc hk
  rw [at_iff ho.rise]
  rcases put_cases hc.rise k with ⟨e, h⟩ | e | ⟨l1, l2, e0, h1, h2, e⟩
  · rw [e]; exact .inr (.inl ⟨h, rfl⟩)
  · rw [e]; exact .inl rfl
  · rw [e]
    have hr := hc.rise
    rw [e0] at hr
    have hl := hc.len
    have hlen : (l1 ++ k :: l2).length = c.known.length + 1 := by rw [e0]; simp; omega
    rcases cut_get (ins_rise hr h1 h2) (by omega) k (by simp) with h | ⟨h3, h4, h5⟩
    · exact .inr (.inl ⟨h, rfl⟩)
    · exact .inr (.inr ⟨by omega, at_none.2 h5⟩)
theorem put_len {c : ClientD} (hs : c.known.Pairwise fun a b => a.h < b.h) (k : KnownD) : (putK c k).known.length ≤ c.known.length + 1 := by
  rcases put_cases hs k with ⟨e, h⟩ | e | ⟨l1, l2, e0, h1, h2, e⟩
  · rw [e]; omega
  · rw [e]; exact Nat.le_succ _
  · rw [e]
    show (cutK (l1 ++ k :: l2)).length ≤ _
    rw [e0]
    unfold cutK
    split
    · rw [List.length_drop]; simp
    · simp; omega
/-- told twice -/
theorem put_twice {c : ClientD} (hc : ClOk c) {k : KnownD} (hf : (putK c k).frozen = false) (h : atC (putK c k) k.h = some k) : putK (putK c k) k = putK c k := by
  generalize hd : putK c k = d at *
  have : putK d k = if samK k k = true then d else { d with frozen := true } := by unfold putK; rw [h]
  rw [this, if_pos (by simp [samK])]
theorem follow_zero {c : ClientD} {u : UpdD} {now : Int} (h : (followC c u now).2 = 0) : askedE c now = 0 ∧ beE c u now = 0 ∧ followC c u now = (putK c (ofH u.sg.hdr), 0) := by
  unfold followC at h ⊢
  split at h
  · rename_i h1
    split at h
    · rename_i h2; exact ⟨h1, h2, by rw [if_pos h1, if_pos h2]⟩
    · rename_i h2; exact absurd h h2
  · rename_i h1; exact absurd h h1
theorem follow_no {c : ClientD} {u : UpdD} {now : Int} (h : ¬ (followC c u now).2 = 0) : (followC c u now).1 = zeroC := by
  unfold followC at h ⊢
  split at h
  · rename_i h1
    split at h
    · exact absurd rfl h
    · rename_i h2; rw [if_pos h1, if_neg h2]
  · rename_i h1; rw [if_neg h1]
end Go.Proofs.Ytdpfjmkilbepgaa
/- What the rows hand in: lists of bytes. -/
set_option linter.all false
namespace Go.Proofs.Ytdpfjmkilbepgaa
open Go Go.Abs Go.RowKit

theorem dec_bb {e : List I} (h : HasCs [.sl [.int .u8]] e) : ∃ b : List UInt8, e = [bI b] ∧ True := by
  obtain ⟨x, _, rfl, hx, h⟩ := hasCs_cons h
  obtain rfl := hasCs_nil h
  obtain ⟨a, rfl⟩ := dec_B hx
  exact ⟨a, rfl, trivial⟩
theorem dec_BB {x : I} (h : HasC (.sl [.sl [.int .u8]]) x) : ∃ l : List (List UInt8), x = bbI l := by
  obtain ⟨l, h1, _⟩ := dec_list (fun _ he => dec_bb he) h
  exact ⟨l, h1⟩
theorem bb_small {l : List (List UInt8)} {n : Nat} (h : bkI (bbI l) ≤ n) : l.length ≤ n ∧ ∀ b ∈ l, b.length ≤ n := by
  refine ⟨Nat.le_trans (bk_len (fun b => [bI b]) l) h, fun b hb => ?_⟩
  have h1 := bk_mem (fun b => [bI b]) hb
  have h2 := bk_B b
  simp only [bkL] at h1
  unfold bbI at h
  omega
end Go.Proofs.Ytdpfjmkilbepgaa
/- What the rows hand in: validators, headers, what is signed. -/
set_option linter.all false
namespace Go.Proofs.Ytdpfjmkilbepgaa
open Go Go.Abs Go.RowKit Go.Proofs.Ytdpfjmkilbepgaa.Ty

def Val64 (v : ValD) : Prop := v.k < 18446744073709551616 ∧ v.p < 18446744073709551616
theorem dec_Val {e : List I} (h : HasCs [.int .u64, .int .u64] e) : ∃ v : ValD, e = encV v ∧ Val64 v := by
  obtain ⟨x, _, rfl, hx, h⟩ := hasCs_cons h
  obtain ⟨y, _, rfl, hy, h⟩ := hasCs_cons h
  obtain rfl := hasCs_nil h
  obtain ⟨a, rfl, ha⟩ := dec_u64 hx
  obtain ⟨b, rfl, hb⟩ := dec_u64 hy
  exact ⟨⟨a, b⟩, rfl, ha, hb⟩
theorem dec_Vals {x : I} (h : HasC (.sl [.int .u64, .int .u64]) x) : ∃ l : List ValD, x = valsI l ∧ ∀ v ∈ l, Val64 v := dec_list (fun _ he => dec_Val he) h
def Vote64 (x : VoteD) : Prop := x.r < 18446744073709551616 ∧ x.s < 18446744073709551616
theorem dec_Vote {e : List I} (h : HasCs [.bool, .int .u64, .int .u64] e) : ∃ v : VoteD, e = encX v ∧ Vote64 v := by
  obtain ⟨x, _, rfl, hx, h⟩ := hasCs_cons h
  obtain ⟨y, _, rfl, hy, h⟩ := hasCs_cons h
  obtain ⟨z, _, rfl, hz, h⟩ := hasCs_cons h
  obtain rfl := hasCs_nil h
  obtain ⟨a, rfl⟩ := dec_bool hx
  obtain ⟨b, rfl, hb⟩ := dec_u64 hy
  obtain ⟨c, rfl, hc⟩ := dec_u64 hz
  exact ⟨⟨a, b, c⟩, rfl, hb, hc⟩
theorem dec_Votes {x : I} (h : HasC (.sl [.bool, .int .u64, .int .u64]) x) : ∃ l : List VoteD, x = votesI l ∧ ∀ v ∈ l, Vote64 v := dec_list (fun _ he => dec_Vote he) h
theorem dec_Hdr {e : List I} (h : HasCs [.str, .int .i64, .int .i64, .sl [.int .u8], .sl [.int .u8], .sl [.int .u8]] e) : ∃ a : HdrD, e = encH a := by
  obtain ⟨x1, _, rfl, h1, h⟩ := hasCs_cons h
  obtain ⟨x2, _, rfl, h2, h⟩ := hasCs_cons h
  obtain ⟨x3, _, rfl, h3, h⟩ := hasCs_cons h
  obtain ⟨x4, _, rfl, h4, h⟩ := hasCs_cons h
  obtain ⟨x5, _, rfl, h5, h⟩ := hasCs_cons h
  obtain ⟨x6, _, rfl, h6, h⟩ := hasCs_cons h
  obtain rfl := hasCs_nil h
  obtain ⟨c, rfl, _⟩ := dec_str h1
  obtain ⟨a, rfl, _⟩ := dec_int h2
  obtain ⟨b, rfl, _⟩ := dec_int h3
  obtain ⟨u, rfl⟩ := dec_B h4
  obtain ⟨v, rfl⟩ := dec_B h5
  obtain ⟨w, rfl⟩ := dec_B h6
  exact ⟨⟨c, a, b, u, v, w⟩, rfl⟩
theorem dec_Signed {e : List I} (h : HasCs [.str, .int .i64, .int .i64, .sl [.int .u8], .sl [.int .u8], .sl [.int .u8], .sl [.int .u64, .int .u64], .sl [.bool, .int .u64, .int .u64]] e) : ∃ s : SignedD, e = encS s ∧ (∀ v ∈ s.vals, Val64 v) ∧ ∀ x ∈ s.votes, Vote64 x := by
  obtain ⟨x1, _, rfl, h1, h⟩ := hasCs_cons h
  obtain ⟨x2, _, rfl, h2, h⟩ := hasCs_cons h
  obtain ⟨x3, _, rfl, h3, h⟩ := hasCs_cons h
  obtain ⟨x4, _, rfl, h4, h⟩ := hasCs_cons h
  obtain ⟨x5, _, rfl, h5, h⟩ := hasCs_cons h
  obtain ⟨x6, _, rfl, h6, h⟩ := hasCs_cons h
  obtain ⟨x7, _, rfl, h7, h⟩ := hasCs_cons h
  obtain ⟨x8, _, rfl, h8, h⟩ := hasCs_cons h
  obtain rfl := hasCs_nil h
  obtain ⟨c, rfl, _⟩ := dec_str h1
  obtain ⟨a, rfl, _⟩ := dec_int h2
  obtain ⟨b, rfl, _⟩ := dec_int h3
  obtain ⟨u, rfl⟩ := dec_B h4
  obtain ⟨v, rfl⟩ := dec_B h5
  obtain ⟨w, rfl⟩ := dec_B h6
  obtain ⟨l, rfl, hl⟩ := dec_Vals h7
  obtain ⟨m, rfl, hm⟩ := dec_Votes h8
  exact ⟨⟨⟨c, a, b, u, v, w⟩, l, m⟩, rfl, hl, hm⟩
theorem hdr_agg (h : HdrD) : D.agg ((encH h).map .i) = hdrD h := rfl
theorem sgn_agg (s : SignedD) : D.agg ((encS s).map .i) = signedD s := rfl
theorem hdr_sm {h : HdrD} {n : Nat} (hb : bkL (encH h) ≤ n) (hn : n ≤ 1048576) : HdrSm h := by
  have h1 := bk_B h.root
  have h2 := bk_B h.vals
  have h3 := bk_B h.next
  simp only [bkL, encH, bkI] at hb
  exact ⟨by omega, by omega, by omega, by omega⟩
theorem bkLL_two {α : Type} {enc : α → List I} {k : Nat} (hk : ∀ a, bkL (enc a) = k) (l : List α) : bkI (.sl (l.map enc)) = l.length * (1 + k) := by
  rw [bk_map]
  induction l with
  | nil => simp
  | cons a t ih => rw [List.map_cons, List.sum_cons, ih, hk, List.length_cons, Nat.add_mul]; omega
theorem seeds_of {l : List (List UInt8)} {n : Nat} (h : bkI (bbI l) ≤ n) (hn : n ≤ 1048576) : SeedsSm l := by
  have := bb_small h
  exact ⟨by omega, fun s hs => by have := this.2 s hs; omega⟩
theorem vals_len {l : List ValD} {n : Nat} (h : bkI (valsI l) ≤ n) (hn : n ≤ 1048576) : l.length ≤ 1048576 := by
  have := bk_len encV l
  unfold valsI at h; omega
end Go.Proofs.Ytdpfjmkilbepgaa
/- What the rows hand in: what is known, clients, updates. -/
set_option linter.all false
namespace Go.Proofs.Ytdpfjmkilbepgaa
open Go Go.Abs Go.RowKit Go.Proofs.Ytdpfjmkilbepgaa.Ty

theorem dec_Kn {e : List I} (h : HasCs [.int .i64, .int .i64, .sl [.int .u8], .sl [.int .u8]] e) : ∃ k : KnownD, e = encK k ∧ True := by
  obtain ⟨x1, _, rfl, h1, h⟩ := hasCs_cons h
  obtain ⟨x2, _, rfl, h2, h⟩ := hasCs_cons h
  obtain ⟨x3, _, rfl, h3, h⟩ := hasCs_cons h
  obtain ⟨x4, _, rfl, h4, h⟩ := hasCs_cons h
  obtain rfl := hasCs_nil h
  obtain ⟨a, rfl, _⟩ := dec_int h1
  obtain ⟨b, rfl, _⟩ := dec_int h2
  obtain ⟨u, rfl⟩ := dec_B h3
  obtain ⟨v, rfl⟩ := dec_B h4
  exact ⟨⟨a, b, u, v⟩, rfl, trivial⟩
theorem dec_Known {e : List I} (h : HasCs [.int .i64, .int .i64, .sl [.int .u8], .sl [.int .u8]] e) : ∃ k : KnownD, e = encK k := by
  obtain ⟨k, e, _⟩ := dec_Kn h
  exact ⟨k, e⟩
theorem dec_Client {e : List I} (h : HasCs [.str, .int .i64, .bool, .sl [.int .i64, .int .i64, .sl [.int .u8], .sl [.int .u8]]] e) : ∃ c : ClientD, e = encC c := by
  obtain ⟨x1, _, rfl, h1, h⟩ := hasCs_cons h
  obtain ⟨x2, _, rfl, h2, h⟩ := hasCs_cons h
  obtain ⟨x3, _, rfl, h3, h⟩ := hasCs_cons h
  obtain ⟨x4, _, rfl, h4, h⟩ := hasCs_cons h
  obtain rfl := hasCs_nil h
  obtain ⟨a, rfl, _⟩ := dec_str h1
  obtain ⟨b, rfl, _⟩ := dec_int h2
  obtain ⟨f, rfl⟩ := dec_bool h3
  obtain ⟨l, rfl, _⟩ := dec_list (fun _ he => dec_Kn he) h4
  exact ⟨⟨a, b, f, l⟩, rfl⟩
theorem dec_Upd {e : List I} (h : HasCs [.int .i64, .str, .int .i64, .int .i64, .sl [.int .u8], .sl [.int .u8], .sl [.int .u8], .sl [.int .u64, .int .u64], .sl [.bool, .int .u64, .int .u64], .sl [.int .u64, .int .u64]] e) :
    ∃ u : UpdD, e = encU u ∧ (∀ v ∈ u.sg.vals, Val64 v) ∧ (∀ x ∈ u.sg.votes, Vote64 x) ∧ (∀ v ∈ u.tr, Val64 v) := by
  obtain ⟨x0, _, rfl, h0, h⟩ := hasCs_cons h
  obtain ⟨x1, _, rfl, h1, h⟩ := hasCs_cons h
  obtain ⟨x2, _, rfl, h2, h⟩ := hasCs_cons h
  obtain ⟨x3, _, rfl, h3, h⟩ := hasCs_cons h
  obtain ⟨x4, _, rfl, h4, h⟩ := hasCs_cons h
  obtain ⟨x5, _, rfl, h5, h⟩ := hasCs_cons h
  obtain ⟨x6, _, rfl, h6, h⟩ := hasCs_cons h
  obtain ⟨x7, _, rfl, h7, h⟩ := hasCs_cons h
  obtain ⟨x8, _, rfl, h8, h⟩ := hasCs_cons h
  obtain ⟨x9, _, rfl, h9, h⟩ := hasCs_cons h
  obtain rfl := hasCs_nil h
  obtain ⟨f, rfl, _⟩ := dec_int h0
  obtain ⟨c, rfl, _⟩ := dec_str h1
  obtain ⟨a, rfl, _⟩ := dec_int h2
  obtain ⟨b, rfl, _⟩ := dec_int h3
  obtain ⟨u, rfl⟩ := dec_B h4
  obtain ⟨v, rfl⟩ := dec_B h5
  obtain ⟨w, rfl⟩ := dec_B h6
  obtain ⟨l, rfl, hl⟩ := dec_Vals h7
  obtain ⟨m, rfl, hm⟩ := dec_Votes h8
  obtain ⟨t, rfl, ht⟩ := dec_Vals h9
  exact ⟨⟨f, ⟨⟨c, a, b, u, v, w⟩, l, m⟩, t⟩, rfl, hl, hm, ht⟩
theorem cl_agg (c : ClientD) : D.agg ((encC c).map .i) = clientD c := rfl
theorem up_agg (u : UpdD) : D.agg ((encU u).map .i) = updD u := rfl
theorem kn_agg (k : KnownD) : D.agg ((encK k).map .i) = knownD k := rfl
theorem kn_bk (k : KnownD) : bkL (encK k) = k.root.length + k.next.length := by
  have h1 := bk_B k.root
  have h2 := bk_B k.next
  simp only [bkL, encK, bkI, h1, h2]; omega
theorem cl_sm {c : ClientD} {n : Nat} (hb : bkL (encC c) ≤ n) (hn : n ≤ 1048576) : ClSm c ∧ c.c.size ≤ 1048576 := by
  have h1 := bk_len encK c.known
  have h2 := fun k (hk : k ∈ c.known) => bk_mem encK hk
  simp only [bkL, encC, bkI, knownI] at hb h1 h2
  refine ⟨⟨by omega, fun k hk => ?_⟩, by omega⟩
  have h3 := h2 k hk
  rw [kn_bk] at h3
  exact ⟨by omega, by omega⟩
theorem up_sm {u : UpdD} {n : Nat} (hb : bkL (encU u) ≤ n) (hn : n ≤ 1048576) (h1 : ∀ v ∈ u.sg.vals, Val64 v) (h2 : ∀ x ∈ u.sg.votes, Vote64 x) (h3 : ∀ v ∈ u.tr, Val64 v) : UpSm u := by
  have k1 := bk_B u.sg.hdr.root
  have k2 := bk_B u.sg.hdr.vals
  have k3 := bk_B u.sg.hdr.next
  have k4 := bk_len encV u.sg.vals
  have k5 := bk_len encV u.tr
  simp only [encU, encS, valsI, votesI, List.cons_append, List.nil_append, bkL, bkI, k1, k2, k3] at hb k4 k5
  exact ⟨⟨⟨by omega, by omega, by omega, by omega⟩, by omega, h1, h2⟩, by omega, h3, by omega⟩
end Go.Proofs.Ytdpfjmkilbepgaa
/- The contract of landref1.Same, by the abstract walk. -/
set_option linter.all false
namespace Go.Proofs.Ytdpfjmkilbepgaa
open Go Go.Abs Go.RowKit Go.Proofs.Ytdpfjmkilbepgaa.Ty
theorem tyR1Same0 : (type_of% @Ty.T3) ∧ (type_of% @Ty.T5) ∧ (type_of% @Ty.T25) := ⟨@Ty.T3, @Ty.T5, @Ty.T25⟩

set_option maxHeartbeats 1000000
theorem same_A (x y : List UInt8) (hx : x.length ≤ 1099511627776) : PureD Try.prog 25 [.i (bI x), .i (bI y)] (.i (.s (.bool (decide (x = y))))) := by
  refine callD_W 26 Try.func25 rfl rfl rfl (fun _ _ => rfl) ?_
  (repeat (first | (simp -implicitDefEqProofs only [ev, mixed, Nat.reduceLT, Nat.reduceAdd, Nat.reduceMul, reduceIte, Nat.reduceEqDiff, reduceCtorEq, Nat.reducePow, Nat.reduceLeDiff, Int.reduceLE, Int.reduceLT, Int.reduceToNat, Int.reduceEq, Nat.reduceBEq, itsOf, gdA, byteI, opid, lenQ, ixQ, ldH, readAt, readCells, asCell, faQ, exQ, fldQ, partA, buildQ, slQ, stH, bslH, appH, dcells, convI, elemsOf, D.one, nilS, fillD, convN, cvH, tyR1Same0, bI]) | (with_reducible refine ⟨?_, ?_⟩; (· first | (obtain ⟨rfl⟩ := ‹Hq _ _›; with_reducible refine chk_ok ?_; kernel_rfl) | kernel_rfl)) | (with_reducible intro ops hops)))
  refine Wc_split (fun h => ?_) (fun h => ?_)
  · (repeat (first | (simp -implicitDefEqProofs only [ev, mixed, Nat.reduceLT, Nat.reduceAdd, Nat.reduceMul, reduceIte, Nat.reduceEqDiff, reduceCtorEq, Nat.reducePow, Nat.reduceLeDiff, Int.reduceLE, Int.reduceLT, Int.reduceToNat, Int.reduceEq, Nat.reduceBEq, itsOf, gdA, byteI, opid, lenQ, ixQ, ldH, readAt, readCells, asCell, faQ, exQ, fldQ, partA, buildQ, slQ, stH, bslH, appH, dcells, convI, elemsOf, D.one, nilS, fillD, convN, cvH, tyR1Same0, bI]) | (with_reducible refine ⟨?_, ?_⟩; (· first | (obtain ⟨rfl⟩ := ‹Hq _ _›; with_reducible refine chk_ok ?_; kernel_rfl) | kernel_rfl)) | (with_reducible intro ops hops)))
    refine fin_ret [] rfl ?_
    have : x ≠ y := by intro e; subst e; simp at h
    simp [cv, cv1, cv0, upd, this]
  · have hl : x.length = y.length := by simp at h; omega
    clear h
    (repeat (first | (simp -implicitDefEqProofs only [ev, mixed, Nat.reduceLT, Nat.reduceAdd, Nat.reduceMul, reduceIte, Nat.reduceEqDiff, reduceCtorEq, Nat.reducePow, Nat.reduceLeDiff, Int.reduceLE, Int.reduceLT, Int.reduceToNat, Int.reduceEq, Nat.reduceBEq, itsOf, gdA, byteI, opid, lenQ, ixQ, ldH, readAt, readCells, asCell, faQ, exQ, fldQ, partA, buildQ, slQ, stH, bslH, appH, dcells, convI, elemsOf, D.one, nilS, fillD, convN, cvH, tyR1Same0, bI]) | (with_reducible refine ⟨?_, ?_⟩; (· first | (obtain ⟨rfl⟩ := ‹Hq _ _›; with_reducible refine chk_ok ?_; kernel_rfl) | kernel_rfl)) | (with_reducible intro ops hops)))
    refine W_loop (ι := { k : Nat // k ≤ x.length ∧ x.take k = y.take k }) (fun k => stOf [(0, .i (.sl (x.map byteI))), (1, .i (.sl (y.map byteI))), (12, .i (.s (.int .i64 x.length))), (13, .i (.s (.int .i64 (k.1 : Nat))))] []) (fun k => x.length - k.1) ⟨0, by simp⟩ ?_ ?_
    · refine le_stOf _ _ [] [] ?_ ?_ rfl rfl
      · simp [cv, cv1, cv0, upd, lk]
      · simp
    · rintro ⟨k, hk, ht⟩
      rw [stOf_eq]
      (repeat (first | (simp -implicitDefEqProofs only [ev, mixed, Nat.reduceLT, Nat.reduceAdd, Nat.reduceMul, reduceIte, Nat.reduceEqDiff, reduceCtorEq, Nat.reducePow, Nat.reduceLeDiff, Int.reduceLE, Int.reduceLT, Int.reduceToNat, Int.reduceEq, Nat.reduceBEq, itsOf, gdA, byteI, opid, lenQ, ixQ, ldH, readAt, readCells, asCell, faQ, exQ, fldQ, partA, buildQ, slQ, stH, bslH, appH, dcells, convI, elemsOf, D.one, nilS, fillD, convN, cvH, tyR1Same0]) | (with_reducible refine ⟨?_, ?_⟩; (· first | (obtain ⟨rfl⟩ := ‹Hq _ _›; with_reducible refine chk_ok ?_; kernel_rfl) | kernel_rfl)) | (with_reducible intro ops hops)))
      refine Wc_split (fun h => ?_) (fun h => ?_)
      · have hlt : k < x.length := by simp at h; omega
        clear h
        have e1 : (x.map byteI)[k]? = some [.s (.int .u8 (x[k].toNat : Int))] := by simp [hlt, byteI]
        have e2 : (y.map byteI)[k]? = some [.s (.int .u8 ((y[k]'(by omega)).toNat : Int))] := by simp [show k < y.length by omega, byteI]
        (repeat (first | (simp -implicitDefEqProofs only [ev, mixed, Nat.reduceLT, Nat.reduceAdd, Nat.reduceMul, reduceIte, Nat.reduceEqDiff, reduceCtorEq, Nat.reducePow, Nat.reduceLeDiff, Int.reduceLE, Int.reduceLT, Int.reduceToNat, Int.reduceEq, Nat.reduceBEq, itsOf, gdA, byteI, opid, lenQ, ixQ, ldH, readAt, readCells, asCell, faQ, exQ, fldQ, partA, buildQ, slQ, stH, bslH, appH, dcells, convI, elemsOf, D.one, nilS, fillD, convN, cvH, tyR1Same0, e1, e2]) | (with_reducible refine ⟨?_, ?_⟩; (· first | (obtain ⟨rfl⟩ := ‹Hq _ _›; with_reducible refine chk_ok ?_; kernel_rfl) | kernel_rfl)) | (with_reducible intro ops hops)))
        refine Wc_split (fun h => ?_) (fun h => ?_)
        · (repeat (first | (simp -implicitDefEqProofs only [ev, mixed, Nat.reduceLT, Nat.reduceAdd, Nat.reduceMul, reduceIte, Nat.reduceEqDiff, reduceCtorEq, Nat.reducePow, Nat.reduceLeDiff, Int.reduceLE, Int.reduceLT, Int.reduceToNat, Int.reduceEq, Nat.reduceBEq, itsOf, gdA, byteI, opid, lenQ, ixQ, ldH, readAt, readCells, asCell, faQ, exQ, fldQ, partA, buildQ, slQ, stH, bslH, appH, dcells, convI, elemsOf, D.one, nilS, fillD, convN, cvH, tyR1Same0]) | (with_reducible refine ⟨?_, ?_⟩; (· first | (obtain ⟨rfl⟩ := ‹Hq _ _›; with_reducible refine chk_ok ?_; kernel_rfl) | kernel_rfl)) | (with_reducible intro ops hops)))
          refine fin_ret [] rfl ?_
          have : x ≠ y := by intro e; subst e; simp at h
          simp [cv, cv1, cv0, upd, this]
        · have hb : x[k] = y[k] := UInt8.toNat_inj.1 (by simp at h; omega)
          clear h
          have hw : IntKind.i64.wrap ((k : Int) + 1) = ((k + 1 : Nat) : Int) := by rw [wrap64 (by omega) (by omega)]; omega
          (repeat (first | (simp -implicitDefEqProofs only [ev, mixed, Nat.reduceLT, Nat.reduceAdd, Nat.reduceMul, reduceIte, Nat.reduceEqDiff, reduceCtorEq, Nat.reducePow, Nat.reduceLeDiff, Int.reduceLE, Int.reduceLT, Int.reduceToNat, Int.reduceEq, Nat.reduceBEq, itsOf, gdA, byteI, opid, lenQ, ixQ, ldH, readAt, readCells, asCell, faQ, exQ, fldQ, partA, buildQ, slQ, stH, bslH, appH, dcells, convI, elemsOf, D.one, nilS, fillD, convN, cvH, tyR1Same0, hw]) | (with_reducible refine ⟨?_, ?_⟩; (· first | (obtain ⟨rfl⟩ := ‹Hq _ _›; with_reducible refine chk_ok ?_; kernel_rfl) | kernel_rfl)) | (with_reducible intro ops hops)))
          refine ⟨⟨k + 1, hlt, ?_⟩, le_stOf _ _ [] [] ?_ ?_ rfl rfl, ?_⟩
          · rw [List.take_succ_eq_append_getElem hlt, List.take_succ_eq_append_getElem (by omega), ht, hb]
          · simp [cv, cv1, cv0, upd, lk]
          · simp
          · simp; omega
      · have hk' : k = x.length := by simp at h; omega
        subst hk'
        (repeat (first | (simp -implicitDefEqProofs only [ev, mixed, Nat.reduceLT, Nat.reduceAdd, Nat.reduceMul, reduceIte, Nat.reduceEqDiff, reduceCtorEq, Nat.reducePow, Nat.reduceLeDiff, Int.reduceLE, Int.reduceLT, Int.reduceToNat, Int.reduceEq, Nat.reduceBEq, itsOf, gdA, byteI, opid, lenQ, ixQ, ldH, readAt, readCells, asCell, faQ, exQ, fldQ, partA, buildQ, slQ, stH, bslH, appH, dcells, convI, elemsOf, D.one, nilS, fillD, convN, cvH, tyR1Same0]) | (with_reducible refine ⟨?_, ?_⟩; (· first | (obtain ⟨rfl⟩ := ‹Hq _ _›; with_reducible refine chk_ok ?_; kernel_rfl) | kernel_rfl)) | (with_reducible intro ops hops)))
        refine fin_ret [] rfl ?_
        have : x = y := by rw [List.take_length, hl, List.take_length] at ht; exact ht
        simp [cv, cv1, cv0, upd, this]
end Go.Proofs.Ytdpfjmkilbepgaa
/- landlaw7.known, alive. -/
set_option linter.all false
namespace Go.Proofs.Ytdpfjmkilbepgaa
open Go Go.Abs Go.RowKit Go.Proofs.Ytdpfjmkilbepgaa.Ty

set_option maxHeartbeats 4000000
def k07 : KnownD := ⟨1, 5, List.replicate 32 0, List.replicate 32 0⟩
def c07 : ClientD := ⟨⟨#[97]⟩, 10, false, [k07]⟩
theorem known7_A : PureD Try.prog 85 [] (knownD k07) := by
  refine hide_r fun R hR => ?_
  have hz : List.replicate 32 [I.s (.int .u8 0)] = (List.replicate 32 (0 : UInt8)).map byteI := rfl
  unfold k07 at hR
  have m1 := fun {e : TypeId} {l c : Int} {H : Nat → Ob} {id : Nat} => mk_fresh (P := Try.prog) (e := e) (l := l) (c := c) (H := H) (id := id)
  refine callD_W 6 Try.func85 rfl rfl rfl (fun _ _ => rfl) ?_
  exact wkl trivial
theorem new7 : newC ⟨#[97]⟩ 10 k07 = (c07, 0) := by
  have : wrongC ⟨⟨#[97]⟩, 10, false, [k07]⟩ = 0 := by
    rw [wrongC_zero]
    refine ⟨by decide +kernel, by decide, by decide, fun k hk => ?_, by simp⟩
    simp at hk; subst hk
    exact ⟨by decide, by decide, by decide, by decide⟩
  unfold newC; rw [if_pos this]; rfl
theorem alive7_A : PureD Try.prog 40 [] (boolD true) := by
  refine hide_r fun R hR => ?_
  have c1 := known7_A
  have c2 := cnew_A ⟨#[97]⟩ 10 k07 ⟨by decide, by decide⟩
  rw [new7] at c2
  have c3 := cat_A c07 1 ⟨by decide, fun k hk => by simp [c07] at hk; subst hk; exact ⟨by decide, by decide⟩⟩
  rw [show atR c07 1 = (k07, true) from rfl] at c3
  have c4 := cactive_A c07 14 (by decide) (by decide) (by decide) (by decide)
  have c5 := cactive_A c07 15 (by decide) (by decide) (by decide) (by decide)
  rw [show activeC c07 14 = true from rfl] at c4
  rw [show activeC c07 15 = false from rfl] at c5
  simp only [c07] at c2 c3 c4 c5
  have ht : k07.t = 5 := rfl
  generalize k07 = k at *
  refine callD_W 34 Try.func40 rfl rfl rfl (fun _ _ => rfl) ?_
  exact wkl trivial
end Go.Proofs.Ytdpfjmkilbepgaa
/- The laws ClientTwice, ClientWays: plain. -/
set_option linter.all false
namespace Go.Proofs.Ytdpfjmkilbepgaa
open Go Go.Abs

theorem be_mem {c d : ClientD} {u : UpdD} {now : Int} (h1 : d.c = c.c) (h2 : d.trust = c.trust) (hc : ClOk c) (hd : ClOk d) (hb : beE c u now = 0) (hm : ∀ x ∈ d.known, x ∈ c.known ∨ x = ofH u.sg.hdr) :
    (atC d u.fr = none → beE d u now = 6) ∧ (∀ k, atC d u.fr = some k → beE d u now = 0) := by
  obtain ⟨a1, k, a2, a3⟩ := be_zero hb
  refine ⟨fun h => ?_, fun k' h => ?_⟩
  · unfold beE; rw [if_pos a1, h]
  · unfold beE; rw [if_pos a1, h]
    show beE1 d u now k' = 0
    have hk : k' = k := by
      obtain ⟨m1, m2⟩ := at_mem h
      rcases hm k' m1 with hm | rfl
      · have := (at_iff hc.rise).2 ⟨hm, m2⟩
        rw [a2] at this; cases this; rfl
      · exfalso
        have hkh := (at_mem a2).2
        unfold beE1 at a3
        simp only [ofH] at m2
        split at a3
        · split at a3
          · cases a3
          · split at a3
            · cases a3
            · omega
        · cases a3
    subst hk
    unfold beE1 at a3 ⊢
    rw [h1, h2]; exact a3
/-- a client that follows stays asked -/
theorem asked_put {c : ClientD} {k : KnownD} {now : Int} (h : askedE c now = 0) (hk : KnOk k) (hf : (putK c k).frozen = false) : askedE (putK c k) now = 0 := by
  obtain ⟨ok, hn, _⟩ := asked_zero.1 h
  exact asked_zero.2 ⟨put_ok ok hk, hn, hf⟩
theorem follow_of {c : ClientD} {u : UpdD} {now : Int} (h1 : askedE c now = 0) (h2 : beE c u now = 0) : followC c u now = (putK c (ofH u.sg.hdr), 0) := by
  unfold followC; rw [if_pos h1, if_pos h2]
theorem follow_be {c : ClientD} {u : UpdD} {now : Int} (h1 : askedE c now = 0) (h2 : ¬ beE c u now = 0) : followC c u now = (zeroC, beE c u now) := by
  unfold followC; rw [if_pos h1, if_neg h2]
theorem twice_ok {c : ClientD} {u : UpdD} {now : Int} {x : KnownD} (hz : (followC c u now).2 = 0) (hf : (followC c u now).1.frozen = false) (hat : atC (followC c u now).1 u.sg.hdr.h = some x) :
    (atC (followC c u now).1 u.fr = none → (followC (followC c u now).1 u now) = (zeroC, 6)) ∧
    (∀ k, atC (followC c u now).1 u.fr = some k → followC (followC c u now).1 u now = ((followC c u now).1, 0)) := by
  obtain ⟨h1, h2, h3⟩ := follow_zero hz
  obtain ⟨ok, hn, hfz⟩ := asked_zero.1 h1
  obtain ⟨hk, _⟩ := be_hdr h2
  rw [h3] at hf hat ⊢
  simp only at hf hat ⊢
  obtain ⟨s1, s2⟩ := putK_same c (ofH u.sg.hdr)
  have ha := asked_put h1 hk hf
  have hd := put_ok ok hk
  obtain ⟨b1, b2⟩ := be_mem s1 s2 ok hd h2 (fun x hx => put_mem ok.rise hx)
  refine ⟨fun h => ?_, fun k h => ?_⟩
  · have := b1 h
    rw [follow_be ha (by rw [this]; decide), this]
  · rw [follow_of ha (b2 k h)]
    have hx : atC (putK c (ofH u.sg.hdr)) (ofH u.sg.hdr).h = some (ofH u.sg.hdr) := by
      rcases put_has ok hk with h | h | ⟨_, h⟩
      · rw [hf] at h; cases h
      · exact h
      · have : (ofH u.sg.hdr).h = u.sg.hdr.h := rfl
        rw [this, hat] at h; cases h
    rw [put_twice ok hf hx]
theorem has_small {c : ClientD} {u : UpdD} {now : Int} (hz : (followC c u now).2 = 0) (hf : (followC c u now).1.frozen = false) (hl : c.known.length < 30) : atC (followC c u now).1 u.sg.hdr.h = some (ofH u.sg.hdr) := by
  obtain ⟨h1, h2, h3⟩ := follow_zero hz
  obtain ⟨ok, hn, hfz⟩ := asked_zero.1 h1
  obtain ⟨hk, _⟩ := be_hdr h2
  rw [h3] at hf ⊢
  rcases put_has ok hk with h | h | ⟨h, _⟩
  · simp only at hf; rw [hf] at h; cases h
  · exact h
  · omega
theorem follow_len {c : ClientD} {u : UpdD} {now : Int} (hz : (followC c u now).2 = 0) : (followC c u now).1.known.length ≤ c.known.length + 1 ∧ ClOk (followC c u now).1 ∧ ClOk c := by
  obtain ⟨h1, h2, h3⟩ := follow_zero hz
  obtain ⟨ok, hn, hfz⟩ := asked_zero.1 h1
  rw [h3]
  exact ⟨put_len ok.rise _, put_ok ok (be_hdr h2).1, ok⟩
end Go.Proofs.Ytdpfjmkilbepgaa
/- landref7.Same: a client is the same as itself. -/
set_option linter.all false
namespace Go.Proofs.Ytdpfjmkilbepgaa
open Go Go.Abs Go.RowKit Go.Proofs.Ytdpfjmkilbepgaa.Ty

set_option maxHeartbeats 4000000
set_option maxRecDepth 20000
theorem rsameC_A (a : ClientD) (ha : ClSm a) : PureD Try.prog 44 [clientD a, clientD a] (boolD true) := by
  refine hide_r fun R hR => ?_
  obtain ⟨c, tr, fr, l⟩ := a
  have hl := ha.l
  have hk := ha.k
  simp only at hl hk
  clear ha
  have q1 : (fr != fr) = false := by cases fr <;> rfl
  have q2 : (!decide (fr = fr)) = false := by simp
  have q3 : (!(fr == fr)) = false := by cases fr <;> rfl
  refine callD_W 81 Try.func44 rfl rfl rfl (fun _ _ => rfl) ?_
  refine wkl ?_
  clear hR; intro hR
  refine W_loopR (ι := Nat) (fun i => i ≤ l.length)
    (fun i => stOf [(2, .pt 100 0 0 0), (3, .pt 101 0 0 0), (38, intD l.length), (39, intD i)] [(100, .box [.i (.s (.string c)), .i (.s (.int .i64 tr)), .i (.s (.bool fr)), .i (knownI l)]), (101, .box [.i (.s (.string c)), .i (.s (.int .i64 tr)), .i (.s (.bool fr)), .i (knownI l)])])
    (fun i => l.length - i) 0 (Nat.zero_le _) ?_ ?_
  · exact le_ok [] [(100, 1000), (101, 1001)]
  · rintro i hi RL hL
    rw [stOf_eq]
    by_cases h : i < l.length
    · have e1 := get_lt (f := encK) h
      have hs := hk _ (List.getElem_mem h)
      have a1 := hs.r
      have a2 := hs.n
      have b1 := fun σ' => bk [] [(100, 100), (101, 101)] (hL (i + 1) σ' h)
      clear hL hs hk
      generalize l[i] = k at *
      have c1 := same_A k.root k.root (by omega)
      have c2 := same_A k.next k.next (by omega)
      rw [decide_eq_true rfl] at c1 c2
      exact wkl trivial
    · exact wkl trivial
end Go.Proofs.Ytdpfjmkilbepgaa
/- The laws ClientTwice, ClientWays: the walks. -/
set_option linter.all false
namespace Go.Proofs.Ytdpfjmkilbepgaa
open Go Go.Abs Go.RowKit Go.Proofs.Ytdpfjmkilbepgaa.Ty

set_option maxHeartbeats 4000000
set_option maxRecDepth 20000
theorem walk_ClientTwice (y0 : List I) (c : ClientD) (e0 : y0 = encC c) (y1 : List I) (u : UpdD) (e1 : y1 = encU u ∧ (∀ v ∈ u.sg.vals, Val64 v) ∧ (∀ x ∈ u.sg.votes, Vote64 x) ∧ (∀ v ∈ u.tr, Val64 v)) (y2 : I) (now : Int) (e2 : y2 = .s (.int .i64 now) ∧ (Lit.int .i64 now).wf = true)
    (hb : bkL y0 + bkL y1 + bkI y2 ≤ 1048576) :
    ∃ Ds, PureD Try.prog 11 Ds (.i (.s (.bool true))) ∧ Ds = [.agg (y0.map .i), .agg (y1.map .i), .i y2] := by
  subst e0
  obtain ⟨rfl, u1, u2, u3⟩ := e1
  obtain ⟨rfl, _⟩ := e2
  refine ⟨_, ?_, rfl⟩
  rw [cl_agg, up_agg]
  have hc := cl_sm (c := c) (n := 1048576) (by omega) (by omega)
  have hu := up_sm (u := u) (n := 1048576) (by omega) (by omega) u1 u2 u3
  clear hb u1 u2 u3
  have c1 := alive7_A
  have c2 := cfollow_A c u now hc.1.l hu
  refine hide_r fun R hR => ?_
  by_cases hz : (followC c u now).2 = 0
  · have hok := (follow_len hz).2.1
    have htw := fun x f h => twice_ok (c := c) (u := u) (now := now) (x := x) hz f h
    rw [hz] at c2
    have c3 := cat_A (followC c u now).1 u.sg.hdr.h hok.sm
    have c4 := cfollow_A (followC c u now).1 u now hok.sm.l hu
    have c5 := cat_A (followC c u now).1 u.fr hok.sm
    have c6 := rsameC_A (followC c u now).1 hok.sm
    generalize (followC c u now).1 = d at *
    clear hc hu hz hok
    unfold atR at c3 c5
    cases hf : d.frozen
    · cases h1 : atC d u.sg.hdr.h with
      | none =>
        rw [h1] at c3
        simp only [zeroK] at c3
        clear htw c5 c4
        refine callD_W 65 Try.func11 rfl rfl rfl (fun _ _ => rfl) ?_
        exact wkl trivial
      | some x =>
        obtain ⟨t1, t2⟩ := htw x hf h1
        rw [h1] at c3
        simp only at c3
        cases h2 : atC d u.fr with
        | none =>
          rw [t1 h2] at c4
          rw [h2] at c5
          simp only [zeroK] at c5
          simp only [zeroC] at c4
          clear htw t1 t2
          refine callD_W 65 Try.func11 rfl rfl rfl (fun _ _ => rfl) ?_
          exact wkl trivial
        | some y =>
          rw [t2 y h2] at c4
          rw [h2] at c5
          simp only at c4 c5
          clear htw t1 t2
          refine callD_W 65 Try.func11 rfl rfl rfl (fun _ _ => rfl) ?_
          exact wkl trivial
    · clear htw c3 c4 c5 c6
      refine callD_W 65 Try.func11 rfl rfl rfl (fun _ _ => rfl) ?_
      exact wkl trivial
  · generalize (followC c u now).2 = E at *
    clear hc hu
    refine callD_W 65 Try.func11 rfl rfl rfl (fun _ _ => rfl) ?_
    exact wkl trivial
theorem walk_ClientWays (y0 : List I) (c : ClientD) (e0 : y0 = encC c) (y1 : List I) (a : UpdD) (e1 : y1 = encU a ∧ (∀ v ∈ a.sg.vals, Val64 v) ∧ (∀ x ∈ a.sg.votes, Vote64 x) ∧ (∀ v ∈ a.tr, Val64 v))
    (y2 : List I) (b : UpdD) (e2 : y2 = encU b ∧ (∀ v ∈ b.sg.vals, Val64 v) ∧ (∀ x ∈ b.sg.votes, Vote64 x) ∧ (∀ v ∈ b.tr, Val64 v)) (y3 : I) (now : Int) (e3 : y3 = .s (.int .i64 now) ∧ (Lit.int .i64 now).wf = true)
    (hb : bkL y0 + bkL y1 + bkL y2 + bkI y3 ≤ 1048576) :
    ∃ Ds, PureD Try.prog 12 Ds (.i (.s (.bool true))) ∧ Ds = [.agg (y0.map .i), .agg (y1.map .i), .agg (y2.map .i), .i y3] := by
  subst e0
  obtain ⟨rfl, u1, u2, u3⟩ := e1
  obtain ⟨rfl, v1, v2, v3⟩ := e2
  obtain ⟨rfl, _⟩ := e3
  refine ⟨_, ?_, rfl⟩
  rw [cl_agg, up_agg, up_agg]
  have hc := cl_sm (c := c) (n := 1048576) (by omega) (by omega)
  have ha := up_sm (u := a) (n := 1048576) (by omega) (by omega) u1 u2 u3
  have hbb := up_sm (u := b) (n := 1048576) (by omega) (by omega) v1 v2 v3
  clear hb u1 u2 u3 v1 v2 v3
  have c1 := alive7_A
  have hcl := hc.1.l
  have c2 := cfollow_A c a now hcl ha
  have c4 := cfollow_A c b now hcl hbb
  refine hide_r fun R hR => ?_
  by_cases hz : (followC c a now).2 = 0
  · obtain ⟨k1, k2, k3⟩ := follow_len hz
    have hl := k3.len
    have hbb' : UpSm ⟨a.sg.hdr.h, b.sg, b.tr⟩ := ⟨hbb.s, hbb.l, hbb.k, hbb.n⟩
    have c3 := cfollow_A (followC c a now).1 ⟨a.sg.hdr.h, b.sg, b.tr⟩ now (by omega) hbb'
    rw [hz] at c2
    by_cases hsz : c.known.length + 2 ≤ 30
    · have h3 := fun z f => has_small (c := (followC c a now).1) (u := ⟨a.sg.hdr.h, b.sg, b.tr⟩) (now := now) z f (by omega)
      have h4 := fun z f => has_small (c := c) (u := b) (now := now) z f (by omega)
      generalize (followC c a now).1 = x at *
      by_cases z3 : (followC x ⟨a.sg.hdr.h, b.sg, b.tr⟩ now).2 = 0
      · by_cases z4 : (followC c b now).2 = 0
        · have h3 := h3 z3
          have h4 := h4 z4
          have o3 := (follow_len z3).2.1
          have o4 := (follow_len z4).2.1
          have hd := (be_hdr (follow_zero z4).2.1).1
          have c5 := cat_A (followC x ⟨a.sg.hdr.h, b.sg, b.tr⟩ now).1 b.sg.hdr.h o3.sm
          have c6 := cat_A (followC c b now).1 b.sg.hdr.h o4.sm
          rw [z3] at c3
          rw [z4] at c4
          unfold atR at c5 c6
          have c7 := same_A b.sg.hdr.root b.sg.hdr.root (by have := hd.r; simp only [ofH] at this; omega)
          have c8 := same_A b.sg.hdr.next b.sg.hdr.next (by have := hd.n; simp only [ofH] at this; omega)
          rw [decide_eq_true rfl] at c7 c8
          generalize (followC x ⟨a.sg.hdr.h, b.sg, b.tr⟩ now).1 = y at *
          generalize (followC c b now).1 = z at *
          clear o3 o4 hd z3 z4 k2 k3 hc ha hbb hbb' hz
          cases hx : x.frozen
          · cases hy : y.frozen
            · cases hw : z.frozen
              · rw [h3 hy] at c5
                rw [h4 hw] at c6
                simp only [ofH] at c5 c6
                clear h3 h4
                refine callD_W 118 Try.func12 rfl rfl rfl (fun _ _ => rfl) ?_
                exact wkl trivial
              · clear h3 h4 c5 c6
                refine callD_W 118 Try.func12 rfl rfl rfl (fun _ _ => rfl) ?_
                exact wkl trivial
            · clear h3 h4 c5 c6
              refine callD_W 118 Try.func12 rfl rfl rfl (fun _ _ => rfl) ?_
              exact wkl trivial
          · clear h3 h4 c5 c6
            refine callD_W 118 Try.func12 rfl rfl rfl (fun _ _ => rfl) ?_
            exact wkl trivial
        · rw [z3] at c3
          generalize (followC c b now).2 = E at *
          clear h3 h4 k2 k3 hc ha hbb hbb' hz z3
          generalize (followC x ⟨a.sg.hdr.h, b.sg, b.tr⟩ now).1 = y at *
          generalize (followC c b now).1 = z at *
          cases hx : x.frozen
          all_goals
            refine callD_W 118 Try.func12 rfl rfl rfl (fun _ _ => rfl) ?_
            exact wkl trivial
      · generalize (followC x ⟨a.sg.hdr.h, b.sg, b.tr⟩ now).2 = E at *
        generalize (followC c b now).2 = E' at *
        clear h3 h4 k2 k3 hc ha hbb hbb' hz
        generalize (followC x ⟨a.sg.hdr.h, b.sg, b.tr⟩ now).1 = y at *
        generalize (followC c b now).1 = z at *
        cases hx : x.frozen
        all_goals
          refine callD_W 118 Try.func12 rfl rfl rfl (fun _ _ => rfl) ?_
          exact wkl trivial
    · generalize (followC c a now).1 = x at *
      clear c3 c4 k2 k3 hc ha hbb hbb' hz
      cases hx : x.frozen
      all_goals
        refine callD_W 118 Try.func12 rfl rfl rfl (fun _ _ => rfl) ?_
        exact wkl trivial
  · generalize (followC c a now).2 = E at *
    clear hc ha hbb c4
    refine callD_W 118 Try.func12 rfl rfl rfl (fun _ _ => rfl) ?_
    exact wkl trivial
end Go.Proofs.Ytdpfjmkilbepgaa
/- The statement on landlaw7.ClientWays: for every input of bounded bulk it answers true and leaves its arguments as they were. -/
set_option linter.all false
namespace Go.Proofs.Ytdpfjmkilbepgaa.clientWays
open Go.ChangeShapes Go.WideShapes Go.ChangeAt Go.RowKit Go.Abs
set_option linter.unusedVariables false
set_option maxRecDepth 100000 in
theorem contract (H : Type) (enc : TypeId × Value → H) (W : World) (base : Nat) (args : Array Value) (ds gs : List (DataW H)) (before : List MemPlace)
    (hval : ∀ (j : Nat) t v, Try.f12.params[j]? = some t → args[j]? = some v → Value.okWide Try.prog W .any base t v)
    (hW : DataW.Whole enc Try.prog Try.f12.params.toList Rows.clientWaysSpec.vars false W args.toList ds gs before) (hk : Rows.uptoSmall H (ds ++ gs) = true) :
    Calls Try.prog 12 args W fun e W' => ∃ v, e = .returned v ∧ Rows.clientWaysSpec.post enc Try.prog Try.f12 false true false false W args v W' := by
  have hW' := hW
  obtain ⟨p, q, hA0, hV, rfl, hfz, hnd⟩ := hW'
  have hA : DataW.TrodAll enc Try.prog W 0 (fun _ => true) true Try.f12.params.toList args.toList ds p := hA0
  have hA1 := hA
  rw [Try.params12] at hA hval
  obtain ⟨v0, vs0, d0, ds0, p0, q0, hargs, rfl, rfl, h0, r0⟩ := trodAll_cons hA
  obtain ⟨v1, vs1, d1, ds1, p1, q1, rfl, rfl, rfl, h1, r1⟩ := trodAll_cons r0
  obtain ⟨v2, vs2, d2, ds2, p2, q2, rfl, rfl, rfl, h2, r2⟩ := trodAll_cons r1
  obtain ⟨v3, vs3, d3, ds3, p3, q3, rfl, rfl, rfl, h3, r3⟩ := trodAll_cons r2
  obtain ⟨rfl, rfl, rfl⟩ := trodAll_nil r3
  obtain rfl : args = #[v0, v1, v2, v3] := by cases args; simp_all
  obtain ⟨rfl, rfl⟩ := trodVars_none hV
  have hb : Rows.uptoBulkAll (H := H) [d0, d1, d2, d3] ≤ 1048576 := by have := of_decide_eq_true hk; simpa using this
  simp only [Rows.uptoBulkAll] at hb
  obtain ⟨y0, c0, w0, b0⟩ := open_ag R2.bulk Ty.sh24 Try.underlying24 (hval 0 24 v0 rfl rfl) h0
  obtain ⟨x0, e0⟩ := dec_Client c0
  obtain ⟨y1, c1, w1, b1⟩ := open_ag R2.bulk Ty.sh68 Try.underlying68 (hval 1 68 v1 rfl rfl) h1
  obtain ⟨x1, e1⟩ := dec_Upd c1
  obtain ⟨y2, c2, w2, b2⟩ := open_ag R2.bulk Ty.sh68 Try.underlying68 (hval 2 68 v2 rfl rfl) h2
  obtain ⟨x2, e2⟩ := dec_Upd c2
  obtain ⟨y3, c3, w3, b3⟩ := open_in R2.bulk Ty.sh3 Try.underlying3 (hval 3 3 v3 rfl rfl) h3
  obtain ⟨x3, e3⟩ := dec_int c3
  have hy0 := e0
  have hy1 := e1
  have hy2 := e2
  have hy3 := e3
  simp only [List.append_nil] at hW
  obtain ⟨Ds, hp, hs⟩ := walk_ClientWays y0 x0 e0 y1 x1 e1 y2 x2 e2 y3 x3 e3 (by omega)
  subst hs
  refine (pure_calls hp rfl (fun j d hd => ?_)).mono fun e W' ⟨he, bel⟩ => ?_
  · rcases j with _ | _ | _ | _ | j <;> simp at hd <;> subst hd <;> assumption
  · subst he
    exact ⟨_, rfl, _, _, _, [], _, [], hW, trodAll_mk1 (shut_bool Try.underlying4 _), R2.trodAll_below hA1 bel (by rw [Try.params12]; decide +kernel), rfl, bel.frame _, fun h => by cases h⟩

set_option maxRecDepth 100000 in
theorem lifted (os : Os) (started : os.Started) (H : Type) (enc : TypeId × Value → H) (F : Stop.Interp) :
    ReturnsInHanded {} Try.checked os 12 .any ((Rows.OpenSpec.upto Rows.clientWaysSpec).pre6 enc Try.prog Try.f12 Rows.clientWaysUptoRow.domain false) (((Rows.OpenSpec.upto Rows.clientWaysSpec).at F).post enc Try.prog Try.f12 false true false false) := by
  refine returnsInHanded_of_cond (C := Try.checked) (s := Rows.OpenSpec.upto Rows.clientWaysSpec) (k := Rows.uptoSmall) rfl R2.own started (by kernel_rfl) Try.func12
    (OpenSpec.witness (enc := enc) (C := Try.checked) (s := Rows.OpenSpec.upto Rows.clientWaysSpec) (k := Rows.uptoSmall) rfl false ⟨#[], #[.agg #[.string ⟨#[]⟩, .int .i64 0, .bool false, .slice none 0 0], .agg #[.int .i64 0, .string ⟨#[]⟩, .int .i64 0, .int .i64 0, .slice none 0 0, .slice none 0 0, .slice none 0 0, .slice none 0 0, .slice none 0 0, .slice none 0 0], .agg #[.int .i64 0, .string ⟨#[]⟩, .int .i64 0, .int .i64 0, .slice none 0 0, .slice none 0 0, .slice none 0 0, .slice none 0 0, .slice none 0 0, .slice none 0 0], .int .i64 0], []⟩ 20 (by kernel_rfl) (by kernel_rfl) (by kernel_rfl)
      (x := ([.agg [.lit (.string []), .lit (.int .i64 0), .lit (.bool false), .nil], .agg [.lit (.int .i64 0), .agg [.agg [.lit (.string []), .lit (.int .i64 0), .lit (.int .i64 0), .nil, .nil, .nil], .nil, .nil], .nil], .agg [.lit (.int .i64 0), .agg [.agg [.lit (.string []), .lit (.int .i64 0), .lit (.int .i64 0), .nil, .nil, .nil], .nil, .nil], .nil], .lit (.int .i64 0)], [], [])) (by kernel_rfl) rfl (by kernel_rfl)) ?_
  intro W base args ds gs before hval hW _ hk _
  exact contract H enc W base args ds gs before hval hW hk

theorem over : Rows.clientWaysUptoRow.holds Try.pinned (Rows.OpenSpec.upto Rows.clientWaysSpec) :=
  OpenClaim.holds_of_cond 12 Try.f12 rfl rfl rfl rfl rfl rfl rfl ⟨rfl, rfl, rfl, rfl, rfl⟩ rfl rfl rfl rfl rfl (by kernel_rfl) Try.func12 (by kernel_rfl)
    (of_decide_eq_true (by kernel_rfl)) (by unfold Func.isWrapper; first | (rw [if_pos (by decide +kernel)]; kernel_rfl) | (rw [if_neg (by decide +kernel)]; exact ⟨rfl, rfl⟩))
    (fun os started H enc _ F => lifted os started H enc F)

/-- THE STATEMENT. -/
theorem proved : Rows.ClientWaysUptoSaid := over
end Go.Proofs.Ytdpfjmkilbepgaa.clientWays
