/- The law PacketPlaces: the walk. -/
import Derived.Test.YtmclpbcipkdmcaaDoorLaw11A
import Derived.Test.YtmclpbcipkdmcaaDoorLaw11C
import Derived.Test.YtmclpbcipkdmcaaDoorPkC
import Derived.Test.YtmclpbcipkdmcaaDoorPkD
import Derived.Test.YtmclpbcipkdmcaaDoorDecSt
set_option linter.all false
namespace Go.Proofs.YtmclpbcipkdmcaaDoor
open Go Go.Abs Go.RowKit Go.Proofs.YtmclpbcipkdmcaaDoor.Ty

theorem pl_A (s : StateD) (hs : StSm s) (own e : Int) (t : StateD) (h : e = 0 → PkStep s own t) : PureD Tryd.prog 40 [stateD t, intD e, .rp (encSt s) 0, .rp [.s (.int .i64 own)] 0] (boolD true) := by
  by_cases he : e = 0
  · subst he
    have hk := h rfl
    have ht : t = { s with chs := t.chs, sent := t.sent, got := t.got, acks := t.acks } := by have := hk.same; cases t; cases s; simp only [StateD.mk.injEq] at this ⊢; simp [this]
    rw [ht] at hk ⊢
    exact plok_A s hs own _ _ _ _ hk
  · exact plerr_A s t own e he
theorem ack_step {s : StateD} {p : PackD} {ack : List UInt8} {w : ShownD} (h : (ackPk s p ack w).2 = 0) : PkStep s p.fr (ackPk s p ack w).1 := by
  obtain ⟨hp, c, hc, h1, h2, h3, e⟩ := ackPk_zero h
  rw [e]; exact drop_step hp hc
theorem late_step {s : StateD} {p : PackD} {next : Int} {w : ShownD} (h : (latePk s p next w).2 = 0) : PkStep s p.fr (latePk s p next w).1 := by
  obtain ⟨hp, c, hc, h1, h2, h3, e⟩ := latePk_zero h
  rw [e]; exact drop_step hp hc
set_option maxHeartbeats 16000000
set_option maxRecDepth 20000
theorem walk_PacketPlaces (y0 : List I) (s : StateD) (e0 : y0 = encSt s ∧ ∀ p ∈ s.pus, p.n < 18446744073709551616) (y1 : I) (pos : Int) (e1 : y1 = .s (.int .i64 pos) ∧ (Lit.int .i64 pos).wf = true) (y2 : I) (data : List UInt8) (e2 : y2 = bI data)
    (y3 : I) (tout : Int) (e3 : y3 = .s (.int .i64 tout) ∧ (Lit.int .i64 tout).wf = true) (y4 : List I) (p : PackD) (e4 : y4 = encPk p) (y5 : I) (ack : List UInt8) (e5 : y5 = bI ack) (y6 : I) (next : Int) (e6 : y6 = .s (.int .i64 next) ∧ (Lit.int .i64 next).wf = true) (y7 : List I) (w : ShownD) (e7 : y7 = encShI w)
    (hb : bkL y0 + bkI y1 + bkI y2 + bkI y3 + bkL y4 + bkI y5 + bkI y6 + bkL y7 ≤ 1048576) :
    ∃ Ds, PureD Tryd.prog 9 Ds (.i (.s (.bool true))) ∧ Ds = [.agg (y0.map .i), .i y1, .i y2, .i y3, .agg (y4.map .i), .i y5, .i y6, .agg (y7.map .i)] := by
  obtain ⟨rfl, _⟩ := e0
  obtain ⟨rfl, _⟩ := e1
  subst e2
  obtain ⟨rfl, _⟩ := e3
  subst e4
  subst e5
  obtain ⟨rfl, _⟩ := e6
  subst e7
  refine ⟨_, ?_, rfl⟩
  rw [st_agg, pk_agg, sh_agg]
  have hs := st_sm (s := s) (n := 1048576) (by omega) (by omega)
  have k1 := bk_B ack
  have k2 := bk_B p.data
  have k3 := bk_B data
  have ha : ack.length ≤ 1048576 := by omega
  have h1 : data.length ≤ 1048576 := by omega
  have hd : p.data.length ≤ 1048576 := by
    have : bkL (encPk p) = bkI (bI p.data) := by simp only [encPk, bkL, bkI]; omega
    omega
  clear hb k1 k2 k3
  refine hide_r fun R hR => ?_
  have c1 := alive11_A
  have c2 := sendpk_A s hs pos data h1 tout
  have c3 := recvpk_A s hs p hd ack ha w
  have c4 := ackpk_A s hs p hd ack ha w
  have c5 := latepk_A s hs p hd next w
  have c6 := pl_A s hs pos (sendPk s pos data tout).2.2 (sendPk s pos data tout).1 (fun h => by have hr := sendPk_zero.1 h; rw [sendPk_done hr]; exact send_step hr)
  have c7 := pl_A s hs p.de (recvPk s p ack w).2 (recvPk s p ack w).1 (fun h => by have hr := recvPk_zero.1 h; rw [recvPk_done hr]; exact recv_step hr)
  have c8 := pl_A s hs p.fr (ackPk s p ack w).2 (ackPk s p ack w).1 ack_step
  have c9 := pl_A s hs p.fr (latePk s p next w).2 (latePk s p next w).1 late_step
  generalize sendPk s pos data tout = A at *
  generalize recvPk s p ack w = B at *
  generalize ackPk s p ack w = C at *
  generalize latePk s p next w = E at *
  clear hs ha hd h1
  refine callD_W 82 Tryd.func9 rfl rfl rfl (fun _ _ => rfl) ?_
  exact wkl trivial
end Go.Proofs.YtmclpbcipkdmcaaDoor
