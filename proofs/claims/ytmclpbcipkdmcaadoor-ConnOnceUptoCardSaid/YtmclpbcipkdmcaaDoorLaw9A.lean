/- The law ConnOnce: the walk. -/
import Derived.Test.YtmclpbcipkdmcaaDoorSt1
import Derived.Test.YtmclpbcipkdmcaaDoorCoB
import Derived.Test.YtmclpbcipkdmcaaDoorCoL
import Derived.Test.YtmclpbcipkdmcaaDoorRSt
import Derived.Test.YtmclpbcipkdmcaaDoorDecSt
import Derived.Test.YtmclpbcipkdmcaaDoorLaw9G
import Derived.Test.YtmclpbcipkdmcaaDoorLaw9H
import Derived.Test.YtmclpbcipkdmcaaDoorLaw9I
import Derived.Test.YtmclpbcipkdmcaaDoorLaw9J
set_option linter.all false
namespace Go.Proofs.YtmclpbcipkdmcaaDoor
open Go Go.Abs Go.RowKit Go.Proofs.YtmclpbcipkdmcaaDoor.Ty

set_option maxHeartbeats 32000000
set_option maxRecDepth 20000
theorem walk_ConnOnce (y0 : List I) (s : StateD) (e0 : y0 = encSt s ∧ ∀ p ∈ s.pus, p.n < 18446744073709551616) (y1 : I) (pos : Int) (e1 : y1 = .s (.int .i64 pos) ∧ (Lit.int .i64 pos).wf = true) (y2 : I) (cl : Int) (e2 : y2 = .s (.int .i64 cl) ∧ (Lit.int .i64 cl).wf = true)
    (y3 : I) (other : Int) (e3 : y3 = .s (.int .i64 other) ∧ (Lit.int .i64 other).wf = true) (y4 : I) (oc : Int) (e4 : y4 = .s (.int .i64 oc) ∧ (Lit.int .i64 oc).wf = true) (y5 : List I) (w : ShownD) (e5 : y5 = encShI w)
    (hb : bkL y0 + bkI y1 + bkI y2 + bkI y3 + bkI y4 + bkL y5 ≤ 1048576) :
    ∃ Ds, PureD Tryd.prog 3 Ds (.i (.s (.bool true))) ∧ Ds = [.agg (y0.map .i), .i y1, .i y2, .i y3, .i y4, .agg (y5.map .i)] := by
  obtain ⟨rfl, _⟩ := e0
  obtain ⟨rfl, _⟩ := e1
  obtain ⟨rfl, _⟩ := e2
  obtain ⟨rfl, _⟩ := e3
  obtain ⟨rfl, _⟩ := e4
  subst e5
  refine ⟨_, ?_, rfl⟩
  rw [st_agg, sh_agg]
  have hs := st_sm (s := s) (n := 1048576) (by omega) (by omega)
  clear hb
  by_cases a : (tryCn s cl other oc w).2.2 = 0 <;> by_cases b : (initCn s cl other).2.2 = 0
  · exact once91_A s hs pos cl other oc w a b
  · exact once92_A s hs pos cl other oc w a b
  · exact once93_A s hs pos cl other oc w a b
  · exact once94_A s hs pos cl other oc w a b
end Go.Proofs.YtmclpbcipkdmcaaDoor
