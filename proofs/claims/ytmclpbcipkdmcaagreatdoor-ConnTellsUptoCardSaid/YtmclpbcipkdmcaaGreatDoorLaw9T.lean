/- The law ConnTells: the walk. -/
import Derived.Test.YtmclpbcipkdmcaaGreatDoorGCo
import Derived.Test.YtmclpbcipkdmcaaGreatDoorGR9
import Derived.Test.YtmclpbcipkdmcaaGreatDoorRSt
import Derived.Test.YtmclpbcipkdmcaaGreatDoorDecSt
set_option linter.all false
namespace Go.Proofs.YtmclpbcipkdmcaaGreatDoor
open Go Go.Abs Go.RowKit Go.Proofs.YtmclpbcipkdmcaaGreatDoor.Ty

set_option maxHeartbeats 32000000
set_option maxRecDepth 20000
theorem zero_sm : StSm zeroSt := ⟨by decide, by intro c hc; simp [zeroSt] at hc, by decide, by decide, by decide, by decide, by decide, by intro m hm; simp [zeroSt] at hm, by decide⟩
theorem initCn_sm (s : StateD) (c other : Int) : StSm (initCn s c other).1 := by
  by_cases h : (initCn s c other).2.2 = 0
  · exact (initCn_zero h 0).1.ok.sm
  · revert h
    unfold initCn addCn
    repeat' split
    all_goals
      intro h
      first | exact zero_sm | exact absurd rfl h
theorem tryCn_sm (s : StateD) (c other oc : Int) (w : ShownD) : StSm (tryCn s c other oc w).1 := by
  by_cases h : (tryCn s c other oc w).2.2 = 0
  · exact (tryCn_zero h 0).1.ok.sm
  · revert h
    unfold tryCn addCn
    repeat' split
    all_goals
      intro h
      first | exact zero_sm | exact absurd rfl h
theorem ackCn_sm (s : StateD) (i oc : Int) (w : ShownD) : StSm (ackCn s i oc w).1 := by
  by_cases h : (ackCn s i oc w).2 = 0
  · exact (ackCn_zero h).1.ok.sm
  · revert h
    unfold ackCn
    repeat' split
    all_goals
      intro h
      first | exact zero_sm | exact absurd rfl h
theorem confCn_sm (s : StateD) (i : Int) (w : ShownD) : StSm (confCn s i w).1 := by
  by_cases h : (confCn s i w).2 = 0
  · exact (confCn_zero h).1.ok.sm
  · revert h
    unfold confCn
    repeat' split
    all_goals
      intro h
      first | exact zero_sm | exact absurd rfl h
theorem walk_ConnTells (y0 : List I) (s : StateD) (e0 : y0 = encSt s ∧ ∀ p ∈ s.pus, p.n < 18446744073709551616) (y1 : I) (pos : Int) (e1 : y1 = .s (.int .i64 pos) ∧ (Lit.int .i64 pos).wf = true) (y2 : I) (cl : Int) (e2 : y2 = .s (.int .i64 cl) ∧ (Lit.int .i64 cl).wf = true)
    (y3 : I) (other : Int) (e3 : y3 = .s (.int .i64 other) ∧ (Lit.int .i64 other).wf = true) (y4 : I) (oc : Int) (e4 : y4 = .s (.int .i64 oc) ∧ (Lit.int .i64 oc).wf = true) (y5 : List I) (w : ShownD) (e5 : y5 = encShI w)
    (hb : bkL y0 + bkI y1 + bkI y2 + bkI y3 + bkI y4 + bkL y5 ≤ 1048576) :
    ∃ Ds, PureD Tryz.prog 3 Ds (.i (.s (.bool true))) ∧ Ds = [.agg (y0.map .i), .i y1, .i y2, .i y3, .i y4, .agg (y5.map .i)] := by
  obtain ⟨rfl, _⟩ := e0
  obtain ⟨rfl, _⟩ := e1
  obtain ⟨rfl, _⟩ := e2
  obtain ⟨rfl, _⟩ := e3
  obtain ⟨rfl, _⟩ := e4
  subst e5
  refine ⟨_, ?_, rfl⟩
  rw [st_agg, sh_agg]
  have hs := st_sm (s := s) (n := 1048576) (by omega) (by omega)
  have hk : w.p.k.length ≤ 1048576 ∧ w.p.v.length ≤ 1048576 := by
    have k1 := bk_B w.p.k
    have k2 := bk_B w.p.v
    simp only [encShI, formI, List.cons_append, List.nil_append, bkL, k1, k2] at hb
    omega
  clear hb
  refine hide_r fun R hR => ?_
  have c1 := initcn_A s hs cl other
  have c2 := rconI_A s hs pos cl other oc w
  have c3 := rsameS_A _ (initCn_sm s cl other)
  have c4 := trycn_A s hs cl other oc w
  have c5 := rconT_A s hs pos cl other oc w hk.1 hk.2
  have c6 := rsameS_A _ (tryCn_sm s cl other oc w)
  have r3 := ackcn_A s hs pos oc w
  have r4 := rconA_A s hs pos cl other oc w hk.1 hk.2
  have r5 := rsameS_A _ (ackCn_sm s pos oc w)
  have r6 := confcn_A s hs pos w
  have r7 := rconC_A s hs pos cl other oc w hk.1 hk.2
  have r8 := rsameS_A _ (confCn_sm s pos w)
  generalize initCn s cl other = A at *
  generalize tryCn s cl other oc w = B at *
  generalize ackCn s pos oc w = C at *
  generalize confCn s pos w = E at *
  clear hs hk
  obtain ⟨A1, A2, A3⟩ := A
  obtain ⟨B1, B2, B3⟩ := B
  obtain ⟨C1, C2⟩ := C
  obtain ⟨E1, E2⟩ := E
  simp only at *
  refine callD_W 141 Tryz.func3 rfl rfl rfl (fun _ _ => rfl) ?_
  refine wkl ?_
  clear hR c1 c2 c3 c4 c5 c6; intro hR
  repeat' (intro _)
  have c1 := r3
  have c2 := r4
  have c3 := r5
  have c4 := r6
  have c5 := r7
  have c6 := r8
  clear r3 r4 r5 r6 r7 r8
  exact wkl trivial
end Go.Proofs.YtmclpbcipkdmcaaGreatDoor
