/- Right clients. No program is in sight. -/
import Derived.Test.YtmclpbcipkdmcaaDoorClB
set_option linter.all false
namespace Go.Proofs.YtmclpbcipkdmcaaDoor
open Go Go.Abs

theorem check_vals {s : SignedD} (h : checkS s = 0) : ValsOk s.vals ∧ s.votes.length = s.vals.length ∧ wrongH s.hdr = 0 := by
  unfold checkS at h
  by_cases h1 : wrongH s.hdr = 0
  · rw [if_pos h1] at h
    by_cases h2 : valsW s.vals = 0
    · rw [if_pos h2] at h
      by_cases h3 : (s.votes.length : Int) = s.vals.length
      · exact ⟨valsW_zero.1 h2, by omega, h1⟩
      · rw [if_neg h3] at h; cases h
    · rw [if_neg h2] at h; exact absurd h h2
  · rw [if_neg h1] at h; exact absurd h h1
theorem wrongH_nums {h : HdrD} (hw : wrongH h = 0) : 1 ≤ h.h ∧ h.h ≤ 1000000000000 ∧ 0 ≤ h.t ∧ h.t ≤ 1000000000000 ∧ h.root.length = 32 ∧ h.vals.length = 32 ∧ h.next.length = 32 := by
  unfold wrongH numB at hw
  simp only [decide_eq_true_eq] at hw
  split at hw
  · split at hw
    · cases hw
    · split at hw
      · cases hw
      · rename_i a b; omega
  · cases hw
structure KnOk (k : KnownD) : Prop where
  h : 1 ≤ k.h ∧ k.h ≤ 1000000000000
  t : 0 ≤ k.t ∧ k.t ≤ 1000000000000
  r : k.root.length = 32
  n : k.next.length = 32
theorem knE_zero {k : KnownD} : knE k = 0 ↔ KnOk k := by
  unfold knE numB
  simp only [decide_eq_true_eq]
  constructor
  · intro h
    split at h
    · cases h
    · split at h
      · cases h
      · exact ⟨by omega, by omega, by omega, by omega⟩
  · rintro ⟨a, b, c, d⟩
    rw [if_neg (by omega), if_neg (by omega)]
theorem knsE_zero : ∀ {o : Option KnownD} {l : List KnownD}, knsE o l = 0 ↔ (∀ k ∈ l, KnOk k) ∧ l.Pairwise (fun a b => a.h < b.h) ∧ (∀ q, o = some q → ∀ k ∈ l, q.h < k.h)
  | o, [] => by simp [knsE]
  | o, k :: t => by
    rw [knsE]
    have ih := knsE_zero (o := some k) (l := t)
    by_cases h1 : knE k = 0
    · rw [if_pos h1]
      have k1 := knE_zero.1 h1
      by_cases h2 : (o.any fun q => decide (k.h ≤ q.h)) = true
      · rw [if_pos h2]
        constructor
        · intro h; cases h
        · rintro ⟨_, _, h⟩
          cases o with
          | none => simp at h2
          | some q => have := h q rfl k (List.mem_cons_self ..); simp at h2; omega
      · rw [if_neg h2, ih]
        constructor
        · rintro ⟨a, b, c⟩
          refine ⟨fun x hx => ?_, List.pairwise_cons.2 ⟨c k rfl, b⟩, fun q hq x hx => ?_⟩
          · rcases List.mem_cons.1 hx with rfl | hx
            · exact k1
            · exact a x hx
          · subst hq
            simp at h2
            rcases List.mem_cons.1 hx with rfl | hx
            · omega
            · have := c k rfl x hx; omega
        · rintro ⟨a, b, c⟩
          have hb := List.pairwise_cons.1 b
          exact ⟨fun x hx => a x (List.mem_cons_of_mem _ hx), hb.2, fun q hq => by injection hq with hq; subst hq; exact hb.1⟩
    · rw [if_neg h1]
      constructor
      · intro h; exact absurd h h1
      · rintro ⟨a, _, _⟩; exact absurd (knE_zero.2 (a k (List.mem_cons_self ..))) h1
/-- a right client -/
structure ClOk (c : ClientD) : Prop where
  name : nameOk c.c = true
  trust : 1 ≤ c.trust ∧ c.trust ≤ 1000000000000
  len : 1 ≤ c.known.length ∧ c.known.length ≤ 30
  k : ∀ k ∈ c.known, KnOk k
  rise : c.known.Pairwise fun a b => a.h < b.h
theorem wrongC_zero {c : ClientD} : wrongC c = 0 ↔ ClOk c := by
  unfold wrongC numB
  simp only [decide_eq_true_eq]
  constructor
  · intro h
    split at h
    · split at h
      · cases h
      · split at h
        · cases h
        · obtain ⟨a, b, _⟩ := knsE_zero.1 h
          exact ⟨by assumption, by omega, by omega, a, b⟩
    · cases h
  · rintro ⟨a, b, d, e, f⟩
    rw [if_pos a, if_neg (by omega), if_neg (by omega)]
    exact knsE_zero.2 ⟨e, f, fun q hq => by cases hq⟩
theorem ClOk.sm {c : ClientD} (h : ClOk c) : ClSm c := ⟨by have := h.len; omega, fun k hk => ⟨by have := (h.k k hk).r; omega, by have := (h.k k hk).n; omega⟩⟩
theorem at_mem {c : ClientD} {h : Int} {k : KnownD} (e : atC c h = some k) : k ∈ c.known ∧ k.h = h := by
  unfold atC at e
  exact ⟨List.mem_of_find?_eq_some e, by simpa using List.find?_some e⟩
end Go.Proofs.YtmclpbcipkdmcaaDoor
