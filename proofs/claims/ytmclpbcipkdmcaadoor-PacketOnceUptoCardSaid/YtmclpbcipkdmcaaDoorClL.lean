/- Clients: where a height stands. No program is in sight. -/
import Derived.Test.YtmclpbcipkdmcaaDoorClO
set_option linter.all false
namespace Go.Proofs.YtmclpbcipkdmcaaDoor
open Go Go.Abs

theorem low_le (l : List KnownD) (h : Int) : lowK l h ≤ l.length := (List.takeWhile_prefix _).length_le
theorem low_iff {h : Int} : ∀ {l : List KnownD}, l.Pairwise (fun a b => a.h < b.h) → ∀ a (ha : a < l.length), l[a].h < h ↔ a < lowK l h
  | k :: t, hs, a, ha => by
    obtain ⟨h1, h2⟩ := List.pairwise_cons.1 hs
    unfold lowK
    by_cases hk : k.h < h
    · rw [List.takeWhile_cons_of_pos (by simpa using hk), List.length_cons]
      cases a with
      | zero => simp [hk]
      | succ a =>
        have := low_iff (h := h) h2 a (by simpa using ha)
        unfold lowK at this
        simp only [List.getElem_cons_succ]; omega
    · rw [List.takeWhile_cons_of_neg (by simpa using hk), List.length_nil]
      cases a with
      | zero => simp only [List.getElem_cons_zero]; omega
      | succ a =>
        have ha' : a < t.length := by simpa using ha
        have := h1 t[a] (List.getElem_mem _)
        simp only [List.getElem_cons_succ]; omega
theorem low_case {c : ClientD} (h : Int) (hs : c.known.Pairwise fun a b => a.h < b.h) :
    (∃ hp : lowK c.known h < c.known.length, (c.known[lowK c.known h]'hp).h = h ∧ atC c h = some (c.known[lowK c.known h]'hp)) ∨ ((∀ hp : lowK c.known h < c.known.length, ¬ (c.known[lowK c.known h]'hp).h = h) ∧ atC c h = none) := by
  cases e : atC c h with
  | some k =>
    left
    obtain ⟨hm, hk⟩ := at_mem e
    obtain ⟨i, hi, rfl⟩ := List.getElem_of_mem hm
    have h1 := (low_iff (h := h) hs i hi)
    have h2 : ¬ i < lowK c.known h := by rw [← h1]; omega
    have h3 : ¬ lowK c.known h < i := by
      intro h3
      have a1 := low_iff (h := h) hs (lowK c.known h) (by omega)
      have a2 := List.pairwise_iff_getElem.1 hs _ _ (by omega) hi h3
      omega
    have h4 : lowK c.known h = i := by omega
    revert h4
    generalize lowK c.known h = p
    rintro rfl
    exact ⟨hi, hk, rfl⟩
  | none =>
    right
    refine ⟨fun hp hk => ?_, rfl⟩
    have := List.find?_eq_none.1 e _ (List.getElem_mem hp)
    simp [hk] at this
theorem asked_zero {c : ClientD} {now : Int} : askedE c now = 0 ↔ ClOk c ∧ (0 ≤ now ∧ now ≤ 1000000000000) ∧ c.frozen = false := by
  unfold askedE numB
  simp only [decide_eq_true_eq]
  constructor
  · intro h
    split at h
    · rename_i hw
      split at h
      · rename_i hn
        split at h
        · cases h
        · rename_i hf; exact ⟨wrongC_zero.1 hw, hn, by simpa using hf⟩
      · cases h
    · exact absurd h ‹_›
  · rintro ⟨a, b, d⟩
    rw [if_pos (wrongC_zero.2 a), if_pos b, d]; rfl
theorem be_zero {c : ClientD} {u : UpdD} {now : Int} (h : beE c u now = 0) : checkS u.sg = 0 ∧ ∃ k, atC c u.fr = some k ∧ beE1 c u now k = 0 := by
  unfold beE at h
  split at h
  · refine ⟨by assumption, ?_⟩
    split at h
    · cases h
    · exact ⟨_, by assumption, h⟩
  · exact absurd h ‹_›
theorem be_hdr {c : ClientD} {u : UpdD} {now : Int} (h : beE c u now = 0) : KnOk (ofH u.sg.hdr) ∧ u.sg.hdr.vals.length = 32 := by
  have := wrongH_nums (check_vals (be_zero h).1).2.2
  exact ⟨⟨⟨this.1, this.2.1⟩, ⟨this.2.2.1, this.2.2.2.1⟩, this.2.2.2.2.1, this.2.2.2.2.2.2⟩, this.2.2.2.2.2.1⟩
end Go.Proofs.YtmclpbcipkdmcaaDoor
