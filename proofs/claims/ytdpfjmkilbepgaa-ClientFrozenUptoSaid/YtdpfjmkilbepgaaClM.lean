/- What a client knows behind a header that it is shown. No program is in sight. -/
import Derived.Test.YtdpfjmkilbepgaaClL
set_option linter.all false
namespace Go.Proofs.Ytdpfjmkilbepgaa
open Go Go.Abs

theorem at_iff {c : ClientD} {h : Int} {k : KnownD} (hs : c.known.Pairwise fun a b => a.h < b.h) : atC c h = some k ↔ k ∈ c.known ∧ k.h = h := by
  refine ⟨at_mem, fun ⟨hm, hk⟩ => ?_⟩
  cases e : atC c h with
  | none =>
    have := List.find?_eq_none.1 e _ hm
    simp [hk] at this
  | some o =>
    obtain ⟨h1, h2⟩ := at_mem e
    obtain ⟨i, hi, rfl⟩ := List.getElem_of_mem hm
    obtain ⟨j, hj, rfl⟩ := List.getElem_of_mem h1
    have hp := List.pairwise_iff_getElem.1 hs
    by_cases hij : i < j
    · have := hp _ _ hi hj hij; omega
    · by_cases hji : j < i
      · have := hp _ _ hj hi hji; omega
      · have : i = j := by omega
        subst this; rfl
theorem at_none {c : ClientD} {h : Int} : atC c h = none ↔ ∀ k ∈ c.known, ¬ k.h = h := by
  unfold atC
  rw [List.find?_eq_none]
  simp
/-- the three ways -/
theorem put_cases {c : ClientD} (hs : c.known.Pairwise fun a b => a.h < b.h) (k : KnownD) :
    (putK c k = c ∧ k ∈ c.known) ∨ putK c k = { c with frozen := true } ∨
    (∃ l1 l2, c.known = l1 ++ l2 ∧ (∀ x ∈ l1, x.h < k.h) ∧ (∀ x ∈ l2, k.h < x.h) ∧ putK c k = { c with known := cutK (l1 ++ k :: l2) }) := by
  unfold putK
  rcases low_case k.h hs with ⟨hp, hk, hat⟩ | ⟨hno, hat⟩
  · rw [hat]
    simp only
    by_cases hsm : samK c.known[lowK c.known k.h] k = true
    · rw [if_pos hsm]
      left
      refine ⟨rfl, ?_⟩
      have hm := List.getElem_mem hp
      have : c.known[lowK c.known k.h] = k := by
        revert hsm hk
        generalize c.known[lowK c.known k.h] = o
        obtain ⟨a, b, d, e⟩ := o
        obtain ⟨a', b', d', e'⟩ := k
        simp only [samK, Bool.and_eq_true, decide_eq_true_eq]
        rintro h4 ⟨h1, h2, h3⟩
        simp [h1, h2, h3, h4]
      rw [this] at hm; exact hm
    · rw [if_neg hsm]; right; left; rfl
  · rw [hat]
    simp only
    by_cases hb : badK c.known (lowK c.known k.h) k = true
    · rw [if_pos hb]; right; left; rfl
    · rw [if_neg hb]
      right; right
      refine ⟨_, _, (List.take_append_drop (lowK c.known k.h) c.known).symm, fun x hx => ?_, fun x hx => ?_, rfl⟩
      · obtain ⟨i, hi, rfl⟩ := List.getElem_of_mem hx
        simp only [List.length_take] at hi
        rw [List.getElem_take]
        exact (low_iff hs i (by omega)).2 (by omega)
      · obtain ⟨i, hi, rfl⟩ := List.getElem_of_mem hx
        simp only [List.length_drop] at hi
        rw [List.getElem_drop]
        have h1 := low_iff (h := k.h) hs (lowK c.known k.h + i) (by omega)
        have h2 : ¬ c.known[lowK c.known k.h + i].h = k.h := by
          cases i with
          | zero => exact hno (by omega)
          | succ i =>
            intro h3
            have := at_none.1 hat _ (List.getElem_mem (show lowK c.known k.h + (i + 1) < c.known.length by omega))
            exact this h3
        omega
theorem putK_same (c : ClientD) (k : KnownD) : (putK c k).c = c.c ∧ (putK c k).trust = c.trust := by
  unfold putK
  split
  · split <;> exact ⟨rfl, rfl⟩
  · split <;> exact ⟨rfl, rfl⟩
theorem ins_rise {l1 l2 : List KnownD} {k : KnownD} (hs : (l1 ++ l2).Pairwise fun a b => a.h < b.h) (h1 : ∀ x ∈ l1, x.h < k.h) (h2 : ∀ x ∈ l2, k.h < x.h) : (l1 ++ k :: l2).Pairwise fun a b => a.h < b.h := by
  obtain ⟨a, b, d⟩ := List.pairwise_append.1 hs
  refine List.pairwise_append.2 ⟨a, List.pairwise_cons.2 ⟨h2, b⟩, fun x hx y hy => ?_⟩
  rcases List.mem_cons.1 hy with rfl | hy
  · exact h1 x hx
  · exact d x hx y hy
theorem cut_mem {l : List KnownD} {x : KnownD} (h : x ∈ cutK l) : x ∈ l := by
  unfold cutK at h
  split at h
  · exact List.mem_of_mem_drop h
  · exact h
theorem put_mem {c : ClientD} (hs : c.known.Pairwise fun a b => a.h < b.h) {k x : KnownD} (h : x ∈ (putK c k).known) : x ∈ c.known ∨ x = k := by
  rcases put_cases hs k with ⟨e, _⟩ | e | ⟨l1, l2, e0, _, _, e⟩
  · rw [e] at h; exact .inl h
  · rw [e] at h; exact .inl h
  · rw [e] at h
    have := cut_mem h
    simp only [List.mem_append, List.mem_cons] at this
    rw [e0]
    rcases this with h | h | h
    · exact .inl (List.mem_append_left _ h)
    · exact .inr h
    · exact .inl (List.mem_append_right _ h)
theorem put_ok {c : ClientD} (hc : ClOk c) {k : KnownD} (hk : KnOk k) : ClOk (putK c k) := by
  obtain ⟨e1, e2⟩ := putK_same c k
  have hks : ∀ x ∈ (putK c k).known, KnOk x := fun x hx => by
    rcases put_mem hc.rise hx with h | rfl
    · exact hc.k x h
    · exact hk
  have hlr : (1 ≤ (putK c k).known.length ∧ (putK c k).known.length ≤ 30) ∧ (putK c k).known.Pairwise fun a b => a.h < b.h := by
    rcases put_cases hc.rise k with ⟨e, _⟩ | e | ⟨l1, l2, e0, h1, h2, e⟩
    · rw [e]; exact ⟨hc.len, hc.rise⟩
    · rw [e]; exact ⟨hc.len, hc.rise⟩
    · rw [e]
      have hr := hc.rise
      rw [e0] at hr
      have hl := hc.len
      rw [e0, List.length_append] at hl
      have hi := ins_rise hr h1 h2
      have hlen : (l1 ++ k :: l2).length = l1.length + l2.length + 1 := by simp; omega
      show (1 ≤ (cutK (l1 ++ k :: l2)).length ∧ (cutK (l1 ++ k :: l2)).length ≤ 30) ∧ (cutK (l1 ++ k :: l2)).Pairwise _
      unfold cutK
      split
      · exact ⟨by rw [List.length_drop]; omega, hi.sublist (List.drop_sublist _ _)⟩
      · exact ⟨by omega, hi⟩
  exact ⟨by rw [e1]; exact hc.name, by rw [e2]; exact hc.trust, hlr.1, hks, hlr.2⟩
theorem cut_get {l : List KnownD} (hs : l.Pairwise fun a b => a.h < b.h) (hl : l.length ≤ 31) (x : KnownD) (hx : x ∈ l) : x ∈ cutK l ∨ (l.length = 31 ∧ l.head? = some x ∧ ∀ y ∈ cutK l, ¬ y.h = x.h) := by
  unfold cutK
  split
  · cases l with
    | nil => simp at hx
    | cons a t =>
      rcases List.mem_cons.1 hx with rfl | hx
      · refine .inr ⟨?_, rfl, fun y hy => ?_⟩
        · simp only [List.length_cons] at *; omega
        · have := (List.pairwise_cons.1 hs).1 y (by simpa using hy)
          omega
      · exact .inl (by simpa using hx)
  · exact .inl hx
/-- what was known stays known, but for the lowest one -/
theorem put_keeps {c : ClientD} (hc : ClOk c) {k : KnownD} (hk : KnOk k) (i : Nat) (hi : i < c.known.length) : atC (putK c k) c.known[i].h = some c.known[i] ∨ (i = 0 ∧ c.known.length = 30 ∧ atC (putK c k) c.known[i].h = none) := by
  have ho := put_ok hc hk
  rw [at_iff ho.rise]
  rcases put_cases hc.rise k with ⟨e, _⟩ | e | ⟨l1, l2, e0, h1, h2, e⟩
  · rw [e]; exact .inl ⟨List.getElem_mem hi, rfl⟩
  · rw [e]; exact .inl ⟨List.getElem_mem hi, rfl⟩
  · rw [e] at ho ⊢
    have hr := hc.rise
    rw [e0] at hr
    have hl := hc.len
    have hmem : ∀ x ∈ c.known, x ∈ l1 ∨ x ∈ l2 := fun x hx => by rw [e0] at hx; simpa using hx
    have hm : c.known[i] ∈ l1 ++ k :: l2 := by
      simp only [List.mem_append, List.mem_cons]
      rcases hmem _ (List.getElem_mem hi) with h | h
      · exact .inl h
      · exact .inr (.inr h)
    have hlen : (l1 ++ k :: l2).length = c.known.length + 1 := by rw [e0]; simp; omega
    rcases cut_get (ins_rise hr h1 h2) (by omega) _ hm with h | ⟨h3, h4, h5⟩
    · exact .inl ⟨h, rfl⟩
    · refine .inr ⟨?_, by omega, at_none.2 h5⟩
      cases l1 with
      | nil =>
        simp only [List.nil_append, List.head?_cons, Option.some.injEq] at h4
        have := h2 c.known[i] (by have := hmem _ (List.getElem_mem hi); simpa using this)
        rw [← h4] at this; omega
      | cons a t =>
        simp only [List.cons_append, List.head?_cons, Option.some.injEq] at h4
        have h0 : c.known[0]'(by omega) = a := by simp [e0]
        have hp := List.pairwise_iff_getElem.1 hc.rise
        by_cases hz : i = 0
        · exact hz
        · have := hp 0 i (by omega) hi (by omega)
          rw [h0, h4] at this; omega
theorem put_has {c : ClientD} (hc : ClOk c) {k : KnownD} (hk : KnOk k) : (putK c k).frozen = true ∨ atC (putK c k) k.h = some k ∨ (c.known.length = 30 ∧ atC (putK c k) k.h = none) := by
  have ho := put_ok hc hk
  rw [at_iff ho.rise]
  rcases put_cases hc.rise k with ⟨e, h⟩ | e | ⟨l1, l2, e0, h1, h2, e⟩
  · rw [e]; exact .inr (.inl ⟨h, rfl⟩)
  · rw [e]; exact .inl rfl
  · rw [e]
    have hr := hc.rise
    rw [e0] at hr
    have hl := hc.len
    have hlen : (l1 ++ k :: l2).length = c.known.length + 1 := by rw [e0]; simp; omega
    rcases cut_get (ins_rise hr h1 h2) (by omega) k (by simp) with h | ⟨h3, h4, h5⟩
    · exact .inr (.inl ⟨h, rfl⟩)
    · exact .inr (.inr ⟨by omega, at_none.2 h5⟩)
theorem put_len {c : ClientD} (hs : c.known.Pairwise fun a b => a.h < b.h) (k : KnownD) : (putK c k).known.length ≤ c.known.length + 1 := by
  rcases put_cases hs k with ⟨e, h⟩ | e | ⟨l1, l2, e0, h1, h2, e⟩
  · rw [e]; omega
  · rw [e]; exact Nat.le_succ _
  · rw [e]
    show (cutK (l1 ++ k :: l2)).length ≤ _
    rw [e0]
    unfold cutK
    split
    · rw [List.length_drop]; simp
    · simp; omega
/-- told twice -/
theorem put_twice {c : ClientD} (hc : ClOk c) {k : KnownD} (hf : (putK c k).frozen = false) (h : atC (putK c k) k.h = some k) : putK (putK c k) k = putK c k := by
  generalize hd : putK c k = d at *
  have : putK d k = if samK k k = true then d else { d with frozen := true } := by unfold putK; rw [h]
  rw [this, if_pos (by simp [samK])]
theorem follow_zero {c : ClientD} {u : UpdD} {now : Int} (h : (followC c u now).2 = 0) : askedE c now = 0 ∧ beE c u now = 0 ∧ followC c u now = (putK c (ofH u.sg.hdr), 0) := by
  unfold followC at h ⊢
  split at h
  · rename_i h1
    split at h
    · rename_i h2; exact ⟨h1, h2, by rw [if_pos h1, if_pos h2]⟩
    · rename_i h2; exact absurd h h2
  · rename_i h1; exact absurd h h1
theorem follow_no {c : ClientD} {u : UpdD} {now : Int} (h : ¬ (followC c u now).2 = 0) : (followC c u now).1 = zeroC := by
  unfold followC at h ⊢
  split at h
  · rename_i h1
    split at h
    · exact absurd rfl h
    · rename_i h2; rw [if_pos h1, if_neg h2]
  · rename_i h1; rw [if_neg h1]
end Go.Proofs.Ytdpfjmkilbepgaa
