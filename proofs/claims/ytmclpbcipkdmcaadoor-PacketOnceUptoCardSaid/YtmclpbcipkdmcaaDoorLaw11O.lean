/- The law PacketOnce: the walk. -/
import Derived.Test.YtmclpbcipkdmcaaDoorLaw11A
import Derived.Test.YtmclpbcipkdmcaaDoorPkC
import Derived.Test.YtmclpbcipkdmcaaDoorPkD
import Derived.Test.YtmclpbcipkdmcaaDoorDecSt
set_option linter.all false
namespace Go.Proofs.YtmclpbcipkdmcaaDoor
open Go Go.Abs Go.RowKit Go.Proofs.YtmclpbcipkdmcaaDoor.Ty

theorem StSm.zero : StSm zeroSt := ⟨by simp, by simp, by simp, by simp, by simp, by simp, by simp, by simp, by simp⟩
theorem sm_of {s t : StateD} {own : Int} (h : PkStep s own t) : StSm t := h.ok.sm
theorem recv_sm (s : StateD) (p : PackD) (ack : List UInt8) (w : ShownD) : StSm (recvPk s p ack w).1 := by
  by_cases h : (recvPk s p ack w).2 = 0
  · have hr := recvPk_zero.1 h
    rw [recvPk_done hr]; exact sm_of (recv_step hr)
  · have : (recvPk s p ack w).1 = zeroSt := by
      unfold recvPk at h ⊢
      repeat' (first | (split at h) | split)
      all_goals first | rfl | exact absurd rfl h | simp_all
    rw [this]; exact StSm.zero
theorem st_34 {s : StateD} {p : PackD} (h : PendOk s p) : (chAt s p.fr).st = 3 ∨ (chAt s p.fr).st = 4 := by
  have := (endPk_zero.1 h.en).2.2.1
  simpa [stIn] using this
theorem ack_gone {s : StateD} {p : PackD} {ack : List UInt8} {w : ShownD} (h : (ackPk s p ack w).2 = 0) : StOk (ackPk s p ack w).1 ∧ pendE (ackPk s p ack w).1 p = 6 := by
  obtain ⟨hp, c, hc, h1, h2, h3, e⟩ := ackPk_zero h
  rw [e]
  exact ⟨(drop_step hp hc).ok, end_drop hp hc (by rw [h1]; exact st_34 hp) h2 h3⟩
theorem late_gone {s : StateD} {p : PackD} {next : Int} {w : ShownD} (h : (latePk s p next w).2 = 0) : StOk (latePk s p next w).1 ∧ pendE (latePk s p next w).1 p = 6 := by
  obtain ⟨hp, c, hc, h1, h2, h3, e⟩ := latePk_zero h
  rw [e]
  refine ⟨(drop_step hp hc).ok, end_drop hp hc ?_ h2 h3⟩
  rcases h1 with h1 | h1
  · exact .inr h1
  · rw [h1]; exact st_34 hp
theorem ack_no {s : StateD} {p : PackD} {ack : List UInt8} {w : ShownD} (h : ¬ (ackPk s p ack w).2 = 0) : (ackPk s p ack w).1 = zeroSt := by
  unfold ackPk at h ⊢
  repeat' (first | (split at h) | split)
  all_goals first | rfl | exact absurd rfl h | simp_all
theorem late_no {s : StateD} {p : PackD} {next : Int} {w : ShownD} (h : ¬ (latePk s p next w).2 = 0) : (latePk s p next w).1 = zeroSt := by
  unfold latePk at h ⊢
  repeat' (first | (split at h) | split)
  all_goals first | rfl | exact absurd rfl h | simp_all
theorem ack_sm (s : StateD) (p : PackD) (ack : List UInt8) (w : ShownD) : StSm (ackPk s p ack w).1 := by
  by_cases h : (ackPk s p ack w).2 = 0
  · exact (ack_gone h).1.sm
  · rw [ack_no h]; exact StSm.zero
theorem late_sm (s : StateD) (p : PackD) (next : Int) (w : ShownD) : StSm (latePk s p next w).1 := by
  by_cases h : (latePk s p next w).2 = 0
  · exact (late_gone h).1.sm
  · rw [late_no h]; exact StSm.zero
theorem ack_pend {s : StateD} {p : PackD} {ack : List UInt8} {w : ShownD} (h : pendE s p = 6) : (ackPk s p ack w).2 = 6 := by unfold ackPk; rw [if_neg (by rw [h]; decide)]; exact h
theorem late_pend {s : StateD} {p : PackD} {next : Int} {w : ShownD} (h : pendE s p = 6) : (latePk s p next w).2 = 6 := by unfold latePk; rw [if_neg (by rw [h]; decide)]; exact h
set_option maxHeartbeats 16000000
set_option maxRecDepth 20000
theorem walk_PacketOnce (y0 : List I) (s : StateD) (e0 : y0 = encSt s ∧ ∀ p ∈ s.pus, p.n < 18446744073709551616) (y1 : List I) (p : PackD) (e1 : y1 = encPk p) (y2 : I) (ack : List UInt8) (e2 : y2 = bI ack) (y3 : I) (next : Int) (e3 : y3 = .s (.int .i64 next) ∧ (Lit.int .i64 next).wf = true)
    (y4 : List I) (w : ShownD) (e4 : y4 = encShI w) (hb : bkL y0 + bkL y1 + bkI y2 + bkI y3 + bkL y4 ≤ 1048576) :
    ∃ Ds, PureD Tryd.prog 8 Ds (.i (.s (.bool true))) ∧ Ds = [.agg (y0.map .i), .agg (y1.map .i), .i y2, .i y3, .agg (y4.map .i)] := by
  obtain ⟨rfl, _⟩ := e0
  subst e1
  subst e2
  obtain ⟨rfl, _⟩ := e3
  subst e4
  refine ⟨_, ?_, rfl⟩
  rw [st_agg, pk_agg, sh_agg]
  have hs := st_sm (s := s) (n := 1048576) (by omega) (by omega)
  have k1 := bk_B ack
  have k2 := bk_B p.data
  have ha : ack.length ≤ 1048576 := by omega
  have hd : p.data.length ≤ 1048576 := by
    have : bkL (encPk p) = bkI (bI p.data) := by simp only [encPk, bkL, bkI]; omega
    omega
  clear hb k1 k2
  refine hide_r fun R hR => ?_
  have c1 := alive11_A
  have c2 := recvpk_A s hs p hd ack ha w
  have c3 := recvpk_A (recvPk s p ack w).1 (recv_sm s p ack w) p hd ack ha w
  have h1 : (recvPk s p ack w).2 = 0 → (recvPk (recvPk s p ack w).1 p ack w).2 = 12 := fun h => by
    have hr := recvPk_zero.1 h
    rw [recvPk_done hr]; exact once_recv hr
  have c4 := ackpk_A s hs p hd ack ha w
  have c5 := ackpk_A (ackPk s p ack w).1 (ack_sm s p ack w) p hd ack ha w
  have c6 := latepk_A (ackPk s p ack w).1 (ack_sm s p ack w) p hd next w
  have h2 : (ackPk s p ack w).2 = 0 → (ackPk (ackPk s p ack w).1 p ack w).2 = 6 := fun h => ack_pend (ack_gone h).2
  have h3 : (ackPk s p ack w).2 = 0 → (latePk (ackPk s p ack w).1 p next w).2 = 6 := fun h => late_pend (ack_gone h).2
  have c7 := latepk_A s hs p hd next w
  have c8 := ackpk_A (latePk s p next w).1 (late_sm s p next w) p hd ack ha w
  have c9 := latepk_A (latePk s p next w).1 (late_sm s p next w) p hd next w
  have h4 : (latePk s p next w).2 = 0 → (ackPk (latePk s p next w).1 p ack w).2 = 6 := fun h => ack_pend (late_gone h).2
  have h5 : (latePk s p next w).2 = 0 → (latePk (latePk s p next w).1 p next w).2 = 6 := fun h => late_pend (late_gone h).2
  generalize recvPk s p ack w = A at *
  generalize ackPk s p ack w = B at *
  generalize latePk s p next w = C at *
  generalize recvPk A.1 p ack w = A1 at *
  generalize ackPk B.1 p ack w = B1 at *
  generalize latePk B.1 p next w = B2 at *
  generalize ackPk C.1 p ack w = C1 at *
  generalize latePk C.1 p next w = C2 at *
  clear hs ha hd
  refine callD_W 117 Tryd.func8 rfl rfl rfl (fun _ _ => rfl) ?_
  exact wkl trivial
end Go.Proofs.YtmclpbcipkdmcaaDoor
