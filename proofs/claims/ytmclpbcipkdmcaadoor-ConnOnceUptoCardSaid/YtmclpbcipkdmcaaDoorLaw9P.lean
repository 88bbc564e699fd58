/- landlaw9.one, alive. -/
import Derived.Test.YtmclpbcipkdmcaaDoorSt1
import Derived.Test.YtmclpbcipkdmcaaDoorCoB
import Derived.Test.YtmclpbcipkdmcaaDoorCoL
import Derived.Test.YtmclpbcipkdmcaaDoorRSt
import Derived.Test.YtmclpbcipkdmcaaDoorDecSt
set_option linter.all false
namespace Go.Proofs.YtmclpbcipkdmcaaDoor
open Go Go.Abs Go.RowKit Go.Proofs.YtmclpbcipkdmcaaDoor.Ty

set_option maxHeartbeats 32000000
set_option maxRecDepth 20000
theorem one9_A : PureD Tryd.prog 42 [] (stateD st1) := by
  refine hide_r fun R hR => ?_
  have hd := d32_map
  unfold st1 at hR
  refine callD_W 10 Tryd.func42 rfl rfl rfl (fun _ _ => rfl) ?_
  exact wkl trivial
theorem st1_sm : StSm st1 := ⟨by decide, by intro c hc; simp [st1] at hc; subst hc; exact ⟨by decide, by intro k hk; simp at hk; subst hk; exact ⟨by decide, by decide⟩⟩, by decide, by decide, by decide, by decide, by decide, by intro m hm; simp [st1] at hm, by decide⟩
theorem alive9_A : PureD Tryd.prog 10 [] (boolD true) := by
  refine hide_r fun R hR => ?_
  have c1 := one9_A
  have c2 := initcn_A st1 st1_sm 0 3
  rw [show initCn st1 0 3 = ({ st1 with cns := [⟨1, 0, 3, -1⟩] }, 0, 0) by kernel_rfl] at c2
  simp only at c2
  generalize st1 = s at *
  refine callD_W 30 Tryd.func10 rfl rfl rfl (fun _ _ => rfl) ?_
  exact wkl trivial
def optL (e : Int) (t : StateD) : List StateD := if e = 0 then [t] else []
theorem optL_mem {e : Int} {t x : StateD} (h : x ∈ optL e t) : e = 0 ∧ x = t := by
  unfold optL at h
  split at h
  · exact ⟨by assumption, by simpa using h⟩
  · simp at h
end Go.Proofs.YtmclpbcipkdmcaaDoor
