/- landlaw11.one, linked, alive. -/
import Derived.Test.YtmclpbcipkdmcaaDoorSt1
import Derived.Test.YtmclpbcipkdmcaaDoorPkB
set_option linter.all false
namespace Go.Proofs.YtmclpbcipkdmcaaDoor
open Go Go.Abs Go.RowKit Go.Proofs.YtmclpbcipkdmcaaDoor.Ty

set_option maxHeartbeats 8000000
set_option maxRecDepth 20000
theorem one11_A : PureD Tryd.prog 99 [] (stateD st1) := by
  refine hide_r fun R hR => ?_
  have hd := d32_map
  unfold st1 at hR
  refine callD_W 10 Tryd.func99 rfl rfl rfl (fun _ _ => rfl) ?_
  exact wkl trivial
def st2 : StateD := { st1 with cns := [⟨3, 0, 0, 0⟩], chs := [⟨3, false, 0, 0, 1, 1, 1⟩] }
theorem linked11_A : PureD Tryd.prog 77 [] (stateD st2) := by
  refine hide_r fun R hR => ?_
  have c1 := one11_A
  unfold st2 at hR
  have e1 : st1.cns = [] := rfl
  generalize st1 = s at *
  refine callD_W 10 Tryd.func77 rfl rfl rfl (fun _ _ => rfl) ?_
  exact wkl trivial
theorem st2_send : ∃ G, sendPk st2 0 [120] 5 = ({ st2 with sent := [⟨0, 1, G⟩], chs := [⟨3, false, 0, 0, 2, 1, 1⟩] }, ⟨0, 0, 1, [120], 5⟩, 0) := by
  have h : SendOk st2 0 [120] 5 := ⟨by kernel_rfl, wrongPk_zero.1 (by kernel_rfl), by decide +kernel, by decide +kernel⟩
  exact ⟨digPk ⟨0, 0, 1, [120], 5⟩, sendPk_done h⟩
theorem alive11_A : PureD Tryd.prog 35 [] (boolD true) := by
  refine hide_r fun R hR => ?_
  have c1 := linked11_A
  have c2 := sendpk_A st2 ⟨by decide, by intro c hc; simp [st2, st1] at hc; subst hc; exact ⟨by decide, by intro k hk; simp at hk; subst hk; exact ⟨by decide, by decide⟩⟩, by decide, by decide, by decide, by decide, by decide, by intro m hm; simp [st2, st1] at hm, by decide⟩ 0 [120] (by decide) 5
  obtain ⟨G, hG⟩ := st2_send
  rw [hG] at c2
  simp only at c2
  have e1 : (120 : UInt8).toNat = 120 := rfl
  generalize st2 = s at *
  refine callD_W 33 Tryd.func35 rfl rfl rfl (fun _ _ => rfl) ?_
  exact wkl trivial
end Go.Proofs.YtmclpbcipkdmcaaDoor
