/- Connections: what a step that is done leaves. No program is in sight. -/
import Derived.Test.YtmclpbcipkdmcaaGreatDoorCoP
set_option linter.all false
namespace Go.Proofs.YtmclpbcipkdmcaaGreatDoor
open Go Go.Abs

theorem StOk.cn {s : StateD} (h : StOk s) {x : List ConnD} (hl : x.length ≤ 8) (hx : ∀ c ∈ x, CnOk c) : StOk { s with cns := x } :=
  ⟨h.name, h.h, h.t, h.lcl, hl, h.lch, h.lsent, h.lgot, h.lacks, h.lpus, h.cls, hx, h.chs, h.sent, h.got, h.acks, h.pus⟩
structure CnStep (s : StateD) (pos : Int) (t : StateD) : Prop where
  ok : StOk t
  same : { t with cns := s.cns } = s
  len : s.cns.length ≤ t.cns.length
  keep : ∀ i (h : i < s.cns.length) (h' : i < t.cns.length), s.cns[i].st = 3 ∨ ¬ (i : Int) = pos → t.cns[i] = s.cns[i]
theorem addCn_zero {s : StateD} (ok : StOk s) {c : ConnD} (hc : CnOk c) (h : (addCn s c).2.2 = 0) (pos : Int) : CnStep s pos (addCn s c).1 ∧ (addCn s c).2 = ((s.cns.length : Int), 0) ∧ (addCn s c).1 = { s with cns := s.cns ++ [c] } := by
  unfold addCn at h ⊢
  have hl := ok.lcn
  split at h
  · cases h
  · rename_i hn
    rw [if_neg hn]
    refine ⟨⟨ok.cn (by simp; omega) (fun x hx => ?_), rfl, by simp, fun i h h' _ => ?_⟩, rfl, rfl⟩
    · rcases List.mem_append.1 hx with hx | hx
      · exact ok.cns x hx
      · simp only [List.mem_singleton] at hx; subst hx; exact hc
    · simp only; rw [List.getElem_append_left h]
theorem cl_12 {s : StateD} (ok : StOk s) {c : Int} (h : overE s c = 0) : N12 0 c := by
  have := (overE_zero.1 h).1
  have := ok.lcl
  unfold N12; omega
theorem initCn_zero {s : StateD} {c other : Int} (h : (initCn s c other).2.2 = 0) (pos : Int) : CnStep s pos (initCn s c other).1 ∧ (initCn s c other).2.1 = s.cns.length := by
  unfold initCn at h ⊢
  split at h
  · rename_i h1
    have ok := wrongS_zero.1 h1
    rw [if_pos h1]
    split at h
    · rename_i h2
      rw [if_pos h2]
      split at h
      · cases h
      · rename_i h3
        rw [if_neg h3]
        obtain ⟨a, b, _⟩ := addCn_zero ok (c := ⟨1, c, other, -1⟩) ⟨by simp, cl_12 ok h2, by unfold N12; simp only; omega, by unfold N12; simp⟩ h pos
        exact ⟨a, by rw [b]⟩
    · exact absurd h ‹_›
  · exact absurd h ‹_›
theorem tryCn_zero {s : StateD} {c other oc : Int} {w : ShownD} (h : (tryCn s c other oc w).2.2 = 0) (pos : Int) : CnStep s pos (tryCn s c other oc w).1 ∧ (tryCn s c other oc w).2.1 = s.cns.length ∧ overE s c = 0 ∧ (N12 0 other ∧ N12 0 oc) ∧ shownE s c oc ⟨1, other, c, -1⟩ w = 0 ∧ StOk s := by
  unfold tryCn at h ⊢
  split at h
  · rename_i h1
    have ok := wrongS_zero.1 h1
    rw [if_pos h1]
    split at h
    · rename_i h2
      rw [if_pos h2]
      split at h
      · cases h
      · rename_i h3
        rw [if_neg h3]
        split at h
        · rename_i h4
          rw [if_pos h4]
          have h5 : N12 0 other ∧ N12 0 oc := by unfold N12; omega
          obtain ⟨a, b, _⟩ := addCn_zero ok (c := ⟨2, c, other, oc⟩) ⟨by simp, cl_12 ok h2, h5.1, by have := h5.2; unfold N12 at *; simp only; omega⟩ h pos
          exact ⟨a, by rw [b], h2, h5, h4, ok⟩
        · exact absurd h ‹_›
    · exact absurd h ‹_›
  · exact absurd h ‹_›
theorem open_step {s : StateD} (ok : StOk s) {i oc : Int} (hi : 0 ≤ i ∧ i < (s.cns.length : Int)) (hs : ¬ (cnAt s i).st = 3) (ho : N12 0 oc) : CnStep s i (openCn s i oc) := by
  have hm := cnAt_mem hi
  have hc := ok.cns _ hm.2
  refine ⟨ok.cn (by have := ok.lcn; simp; omega) (fun x hx => ?_), rfl, by simp [openCn], fun j h h' hk => ?_⟩
  · rcases List.mem_or_eq_of_mem_set hx with hx | rfl
    · exact ok.cns x hx
    · exact ⟨by simp, hc.cl, hc.oc, by unfold N12 at *; simp only; omega⟩
  · simp only [openCn]
    rw [List.getElem_set_ne]
    intro e
    rcases hk with hk | hk
    · apply hs; rw [hm.1]; simp only [e]; exact hk
    · omega
theorem ackCn_zero {s : StateD} {i oc : Int} {w : ShownD} (h : (ackCn s i oc w).2 = 0) : CnStep s i (ackCn s i oc w).1 ∧ (endCn s i 1).2 = 0 ∧ N12 0 oc ∧ shownE s (cnAt s i).cl oc ⟨2, (cnAt s i).oc, (cnAt s i).cl, i⟩ w = 0 ∧ (ackCn s i oc w).1 = openCn s i oc := by
  unfold ackCn at h ⊢
  split at h
  · rename_i h1
    rw [if_pos h1]
    obtain ⟨ok, hi, hst, hov⟩ := endCn_zero.1 h1
    split at h
    · cases h
    · rename_i h3
      rw [if_neg h3]
      split at h
      · rename_i h4
        rw [if_pos h4]
        have h5 : N12 0 oc := by unfold N12; omega
        exact ⟨open_step ok hi (by omega) h5, h1, h5, h4, rfl⟩
      · exact absurd h ‹_›
  · exact absurd h ‹_›
theorem confCn_zero {s : StateD} {i : Int} {w : ShownD} (h : (confCn s i w).2 = 0) : CnStep s i (confCn s i w).1 ∧ (endCn s i 2).2 = 0 ∧ N12 0 (cnAt s i).on ∧ shownE s (cnAt s i).cl (cnAt s i).on ⟨3, (cnAt s i).oc, (cnAt s i).cl, i⟩ w = 0 ∧ (confCn s i w).1 = openCn s i (cnAt s i).on := by
  unfold confCn at h ⊢
  split at h
  · rename_i h1
    rw [if_pos h1]
    obtain ⟨ok, hi, hst, hov⟩ := endCn_zero.1 h1
    split at h
    · cases h
    · rename_i h3
      rw [if_neg h3]
      split at h
      · rename_i h4
        rw [if_pos h4]
        have h5 : N12 0 (cnAt s i).on := by have := (ok.cns _ (cnAt_mem hi).2).on; unfold N12 at *; omega
        exact ⟨open_step ok hi (by omega) h5, h1, h5, h4, rfl⟩
      · exact absurd h ‹_›
  · exact absurd h ‹_›
end Go.Proofs.YtmclpbcipkdmcaaGreatDoor
