/- The law PacketNumbers: the walk. -/
import Derived.Test.YtmclpbcipkdmcaaDoorLaw11A
import Derived.Test.YtmclpbcipkdmcaaDoorPkC
import Derived.Test.YtmclpbcipkdmcaaDoorDecSt
set_option linter.all false
namespace Go.Proofs.YtmclpbcipkdmcaaDoor
open Go Go.Abs Go.RowKit Go.Proofs.YtmclpbcipkdmcaaDoor.Ty

theorem ch_get {s : StateD} {i : Int} (h : 0 ≤ i ∧ i < (s.chs.length : Int)) : (s.chs.map encCh)[i.toNat]? = some (encCh (chAt s i)) := by
  rw [(chAt_mem h).1]; exact get_lt (by omega)
theorem putM_ge {l : List MarkD} (h : MksOk l) (m : MarkD) : l.length ≤ (putM l m).length := by
  rw [putM_len h]; split <;> omega
theorem send_next {s : StateD} {i : Int} {data : List UInt8} {tout : Int} (h : SendOk s i data tout) : (0 ≤ i ∧ i < ((sendPk s i data tout).1.chs.length : Int)) ∧ chAt (sendPk s i data tout).1 i = { chAt s i with snd := (chAt s i).snd + 1 } ∧ s.sent.length ≤ (sendPk s i data tout).1.sent.length ∧ (sendPk s i data tout).2 = (⟨i, (chAt s i).oc, (chAt s i).snd, data, tout⟩, 0) := by
  obtain ⟨ok, hi, hc⟩ := endPk_ok h.en
  rw [sendPk_done h]
  refine ⟨by simp [sendS]; omega, ?_, putM_ge ok.sent _, rfl⟩
  unfold chAt sendS
  simp only
  rw [List.getD_eq_getElem?_getD, List.getElem?_set_self (by omega)]; rfl
theorem recv_next {s : StateD} {p : PackD} {ack : List UInt8} {w : ShownD} (h : RecvOk s p ack w) : (0 ≤ p.de ∧ p.de < ((recvPk s p ack w).1.chs.length : Int)) ∧
    ((chAt s p.de).ord = true → p.seq = (chAt s p.de).rcv ∧ chAt (recvPk s p ack w).1 p.de = { chAt s p.de with rcv := (chAt s p.de).rcv + 1 }) ∧ ((chAt s p.de).ord = false → chAt (recvPk s p ack w).1 p.de = chAt s p.de) := by
  obtain ⟨ok, hi, hc⟩ := endPk_ok h.en
  rw [recvPk_done h]
  unfold recvS
  by_cases ho : (chAt s p.de).ord = true
  · rw [if_pos ho]
    refine ⟨by simp; omega, fun _ => ⟨Classical.byContradiction fun e => h.new (.inl ⟨ho, e⟩), ?_⟩, fun e => by rw [ho] at e; cases e⟩
    unfold chAt
    simp only
    rw [List.getD_eq_getElem?_getD, List.getElem?_set_self (by omega)]; rfl
  · rw [if_neg ho]
    exact ⟨hi, fun e => absurd e ho, fun _ => rfl⟩
theorem send_sm (s : StateD) (i : Int) (data : List UInt8) (tout : Int) : StSm (sendPk s i data tout).1 := by
  by_cases h : (sendPk s i data tout).2.2 = 0
  · have hr := sendPk_zero.1 h
    rw [sendPk_done hr]; exact (send_step hr).ok.sm
  · have : (sendPk s i data tout).1 = zeroSt := by
      unfold sendPk at h ⊢
      repeat' (first | (split at h) | split)
      all_goals first | rfl | exact absurd rfl h | simp_all
    rw [this]; exact ⟨by simp, by simp, by simp, by simp, by simp, by simp, by simp, by simp, by simp⟩
set_option maxHeartbeats 16000000
set_option maxRecDepth 20000
theorem walk_PacketNumbers (y0 : List I) (s : StateD) (e0 : y0 = encSt s ∧ ∀ p ∈ s.pus, p.n < 18446744073709551616) (y1 : I) (pos : Int) (e1 : y1 = .s (.int .i64 pos) ∧ (Lit.int .i64 pos).wf = true) (y2 : I) (one : List UInt8) (e2 : y2 = bI one) (y3 : I) (two : List UInt8) (e3 : y3 = bI two)
    (y4 : I) (tout : Int) (e4 : y4 = .s (.int .i64 tout) ∧ (Lit.int .i64 tout).wf = true) (y5 : List I) (p : PackD) (e5 : y5 = encPk p) (y6 : I) (ack : List UInt8) (e6 : y6 = bI ack) (y7 : List I) (w : ShownD) (e7 : y7 = encShI w)
    (hb : bkL y0 + bkI y1 + bkI y2 + bkI y3 + bkI y4 + bkL y5 + bkI y6 + bkL y7 ≤ 1048576) :
    ∃ Ds, PureD Tryd.prog 7 Ds (.i (.s (.bool true))) ∧ Ds = [.agg (y0.map .i), .i y1, .i y2, .i y3, .i y4, .agg (y5.map .i), .i y6, .agg (y7.map .i)] := by
  obtain ⟨rfl, _⟩ := e0
  obtain ⟨rfl, _⟩ := e1
  subst e2
  subst e3
  obtain ⟨rfl, _⟩ := e4
  subst e5
  subst e6
  subst e7
  refine ⟨_, ?_, rfl⟩
  rw [st_agg, pk_agg, sh_agg]
  have hs := st_sm (s := s) (n := 1048576) (by omega) (by omega)
  have k1 := bk_B ack
  have k2 := bk_B p.data
  have k3 := bk_B one
  have k4 := bk_B two
  have ha : ack.length ≤ 1048576 := by omega
  have h1 : one.length ≤ 1048576 := by omega
  have h2 : two.length ≤ 1048576 := by omega
  have hd : p.data.length ≤ 1048576 := by
    have : bkL (encPk p) = bkI (bI p.data) := by simp only [encPk, bkL, bkI]; omega
    omega
  clear hb k1 k2 k3 k4
  refine hide_r fun R hR => ?_
  have c1 := alive11_A
  have c2 := sendpk_A s hs pos one h1 tout
  have c3 := sendpk_A (sendPk s pos one tout).1 (send_sm s pos one tout) pos two h2 tout
  have c4 := recvpk_A s hs p hd ack ha w
  have hA : (sendPk s pos one tout).2.2 = 0 → _ := fun h => send_next (sendPk_zero.1 h)
  have hA2 : (sendPk s pos one tout).2.2 = 0 → _ := fun h => ch_get (endPk_ok (sendPk_zero.1 h).en).2.1
  have hA3 : (sendPk s pos one tout).2.2 = 0 → _ := fun h => (endPk_ok (sendPk_zero.1 h).en).2.2.snd
  have hB : (sendPk (sendPk s pos one tout).1 pos two tout).2.2 = 0 → _ := fun h => send_next (sendPk_zero.1 h)
  have hC : (recvPk s p ack w).2 = 0 → _ := fun h => recv_next (recvPk_zero.1 h)
  have hC2 : (recvPk s p ack w).2 = 0 → _ := fun h => ch_get (endPk_ok (recvPk_zero.1 h).en).2.1
  have hC3 : (recvPk s p ack w).2 = 0 → _ := fun h => (endPk_ok (recvPk_zero.1 h).en).2.2.rcv
  clear hs ha hd h1 h2
  generalize recvPk s p ack w = C at *
  generalize hAA : sendPk s pos one tout = A at *
  generalize sendPk A.1 pos two tout = B at *
  clear hAA
  by_cases c : C.2 = 0
  · obtain ⟨f1, f2, f3⟩ := hC c
    have f4 := hC2 c
    have f5 := hC3 c
    have f6 := ch_get f1
    rw [c] at c4
    have w2 : IntKind.i64.wrap ((chAt s p.de).rcv + 1) = (chAt s p.de).rcv + 1 := by unfold N12 at f5; rw [wrap64 (by omega) (by omega)]
    clear hC hC2 hC3 f5 c
    cases ho : (chAt s p.de).ord
    · rw [f3 ho] at f6
      clear f2 f3
      generalize chAt s p.de = z at *
      by_cases a : A.2.2 = 0
      · obtain ⟨g1, g2, g3, g4⟩ := hA a
        have g5 := hA2 a
        have g6 := hA3 a
        rw [g4] at c2
        rw [g2] at hB
        generalize chAt s pos = x at *
        have w1 : IntKind.i64.wrap (x.snd + 1) = x.snd + 1 := by unfold N12 at g6; rw [wrap64 (by omega) (by omega)]
        by_cases b : B.2.2 = 0
        · obtain ⟨_, _, k3, k4⟩ := hB b
          rw [k4] at c3
          clear hA hA2 hA3 hB g2 g4 a b k4 g6
          refine callD_W 122 Tryd.func7 rfl rfl rfl (fun _ _ => rfl) ?_
          exact wkl trivial
        · clear hA hA2 hA3 hB g2 g4 a g6
          generalize B.2.2 = E at *
          refine callD_W 122 Tryd.func7 rfl rfl rfl (fun _ _ => rfl) ?_
          exact wkl trivial
      · clear hA hA2 hA3 hB c3
        generalize A.2.2 = E at *
        refine callD_W 122 Tryd.func7 rfl rfl rfl (fun _ _ => rfl) ?_
        exact wkl trivial
    · obtain ⟨q1, q2⟩ := f2 ho
      rw [q2] at f6
      clear f2 f3 q2
      generalize chAt s p.de = z at *
      by_cases a : A.2.2 = 0
      · obtain ⟨g1, g2, g3, g4⟩ := hA a
        have g5 := hA2 a
        have g6 := hA3 a
        rw [g4] at c2
        rw [g2] at hB
        generalize chAt s pos = x at *
        have w1 : IntKind.i64.wrap (x.snd + 1) = x.snd + 1 := by unfold N12 at g6; rw [wrap64 (by omega) (by omega)]
        by_cases b : B.2.2 = 0
        · obtain ⟨_, _, k3, k4⟩ := hB b
          rw [k4] at c3
          clear hA hA2 hA3 hB g2 g4 a b k4 g6
          refine callD_W 122 Tryd.func7 rfl rfl rfl (fun _ _ => rfl) ?_
          exact wkl trivial
        · clear hA hA2 hA3 hB g2 g4 a g6
          generalize B.2.2 = E at *
          refine callD_W 122 Tryd.func7 rfl rfl rfl (fun _ _ => rfl) ?_
          exact wkl trivial
      · clear hA hA2 hA3 hB c3
        generalize A.2.2 = E at *
        refine callD_W 122 Tryd.func7 rfl rfl rfl (fun _ _ => rfl) ?_
        exact wkl trivial
  · clear hC hC2 hC3
    generalize C.2 = D at *
    by_cases a : A.2.2 = 0
    · obtain ⟨g1, g2, g3, g4⟩ := hA a
      have g5 := hA2 a
      have g6 := hA3 a
      rw [g4] at c2
      rw [g2] at hB
      generalize chAt s pos = x at *
      have w1 : IntKind.i64.wrap (x.snd + 1) = x.snd + 1 := by unfold N12 at g6; rw [wrap64 (by omega) (by omega)]
      by_cases b : B.2.2 = 0
      · obtain ⟨_, _, k3, k4⟩ := hB b
        rw [k4] at c3
        clear hA hA2 hA3 hB g2 g4 a b k4 g6
        refine callD_W 122 Tryd.func7 rfl rfl rfl (fun _ _ => rfl) ?_
        exact wkl trivial
      · clear hA hA2 hA3 hB g2 g4 a g6
        generalize B.2.2 = E at *
        refine callD_W 122 Tryd.func7 rfl rfl rfl (fun _ _ => rfl) ?_
        exact wkl trivial
    · clear hA hA2 hA3 hB c3
      generalize A.2.2 = E at *
      refine callD_W 122 Tryd.func7 rfl rfl rfl (fun _ _ => rfl) ?_
      exact wkl trivial
end Go.Proofs.YtmclpbcipkdmcaaDoor
