/- landlaw9.one, alive; the law ConnShown: the walk. -/
import Derived.Test.YtmclpbcipkdmcaaGreatDoorSt1
import Derived.Test.YtmclpbcipkdmcaaGreatDoorCoB
import Derived.Test.YtmclpbcipkdmcaaGreatDoorCoL
import Derived.Test.YtmclpbcipkdmcaaGreatDoorR8B
import Derived.Test.YtmclpbcipkdmcaaGreatDoorRClM
import Derived.Test.YtmclpbcipkdmcaaGreatDoorDecSt
set_option linter.all false
namespace Go.Proofs.YtmclpbcipkdmcaaGreatDoor
open Go Go.Abs Go.RowKit Go.Proofs.YtmclpbcipkdmcaaGreatDoor.Ty

set_option maxHeartbeats 32000000
set_option maxRecDepth 20000
theorem one9_A : PureD Tryz.prog 56 [] (stateD st1) := by
  refine hide_r fun R hR => ?_
  have hd := d32_map
  unfold st1 at hR
  refine callD_W 10 Tryz.func56 rfl rfl rfl (fun _ _ => rfl) ?_
  exact wkl trivial
theorem st1_sm : StSm st1 := ⟨by decide, by intro c hc; simp [st1] at hc; subst hc; exact ⟨by decide, by intro k hk; simp at hk; subst hk; exact ⟨by decide, by decide⟩⟩, by decide, by decide, by decide, by decide, by decide, by intro m hm; simp [st1] at hm, by decide⟩
theorem alive9_A : PureD Tryz.prog 14 [] (boolD true) := by
  refine hide_r fun R hR => ?_
  have c1 := one9_A
  have c2 := initcn_A st1 st1_sm 0 3
  rw [show initCn st1 0 3 = ({ st1 with cns := [⟨1, 0, 3, -1⟩] }, 0, 0) by kernel_rfl] at c2
  simp only at c2
  generalize st1 = s at *
  refine callD_W 30 Tryz.func14 rfl rfl rfl (fun _ _ => rfl) ?_
  exact wkl trivial
theorem bk_B' (b : List UInt8) : b.length ≤ bkI (bI b) := by rw [bk_B]; exact Nat.le_refl _
/-- what a step that was shown something asks -/
theorem shown_ask {s : StateD} (ok : StOk s) {c oc : Int} (hc : overE s c = 0) (ho : N12 0 oc) (en : ConnD) (he : N12 (-1) en.on) (w : ShownD) (hk : w.p.k.length ≤ 1048576 ∧ w.p.v.length ≤ 1048576) (h : shownE s c oc en w = 0) :
    (s.cls.map encC)[c.toNat]? = some (encC (clAt s c)) ∧ (0 ≤ c ∧ c < (s.cls.length : Int)) ∧ PureD Tryz.prog 16 [.i (.s (.string ⟨#[99, 111, 110, 110]⟩)), .i (.sl [[.s (.int .i64 oc)]])] (.i (bI (keyC oc))) ∧
      PureD Tryz.prog 17 [connD en] (.i (bI (valCn en))) ∧ PureD Tryz.prog 15 [clientD (clAt s c), intD s.t, intD w.h, .i (bI (keyC oc)), .i (bI (valCn en)), proofD w.p] (intD 0) := by
  have hr := (overE_zero.1 hc).1
  have hm := clAt_mem hr
  refine ⟨by rw [hm.1]; exact get_lt (by omega), hr, rkeyC_A oc ho, rconnb_A en he, ?_⟩
  have := rmember_A (clAt s c) s.t w.h (keyC oc) (valCn en) w.p (by have := (ok.cls _ hm.2).len; omega) hk.1 hk.2
  rw [show memberE (clAt s c) s.t w.h (keyC oc) (valCn en) w.p = 0 from h] at this
  exact this
theorem cn_get {s : StateD} {i : Int} (h : 0 ≤ i ∧ i < (s.cns.length : Int)) : (s.cns.map encCn)[i.toNat]? = some (encCn (cnAt s i)) := by
  rw [(cnAt_mem h).1]; exact get_lt (by omega)
theorem open_get {s : StateD} {i oc : Int} (h : 0 ≤ i ∧ i < (s.cns.length : Int)) : ((openCn s i oc).cns.map encCn)[i.toNat]? = some (encCn { cnAt s i with st := 3, on := oc }) ∧ i < ((openCn s i oc).cns.length : Int) := by
  unfold openCn
  refine ⟨?_, by simp; omega⟩
  simp only
  rw [List.getElem?_map, List.getElem?_set_self (by omega)]; rfl
theorem walk_ConnShown (y0 : List I) (s : StateD) (e0 : y0 = encSt s ∧ ∀ p ∈ s.pus, p.n < 18446744073709551616) (y1 : I) (pos : Int) (e1 : y1 = .s (.int .i64 pos) ∧ (Lit.int .i64 pos).wf = true) (y2 : I) (cl : Int) (e2 : y2 = .s (.int .i64 cl) ∧ (Lit.int .i64 cl).wf = true)
    (y3 : I) (other : Int) (e3 : y3 = .s (.int .i64 other) ∧ (Lit.int .i64 other).wf = true) (y4 : I) (oc : Int) (e4 : y4 = .s (.int .i64 oc) ∧ (Lit.int .i64 oc).wf = true) (y5 : List I) (w : ShownD) (e5 : y5 = encShI w)
    (hb : bkL y0 + bkI y1 + bkI y2 + bkI y3 + bkI y4 + bkL y5 ≤ 1048576) :
    ∃ Ds, PureD Tryz.prog 4 Ds (.i (.s (.bool true))) ∧ Ds = [.agg (y0.map .i), .i y1, .i y2, .i y3, .i y4, .agg (y5.map .i)] := by
  obtain ⟨rfl, _⟩ := e0
  obtain ⟨rfl, _⟩ := e1
  obtain ⟨rfl, _⟩ := e2
  obtain ⟨rfl, _⟩ := e3
  obtain ⟨rfl, _⟩ := e4
  subst e5
  refine ⟨_, ?_, rfl⟩
  rw [st_agg, sh_agg]
  have hs := st_sm (s := s) (n := 1048576) (by omega) (by omega)
  have hk : w.p.k.length ≤ 1048576 ∧ w.p.v.length ≤ 1048576 := by
    have k1 := bk_B w.p.k
    have k2 := bk_B w.p.v
    simp only [encShI, formI, List.cons_append, List.nil_append, bkL, k1, k2] at hb
    omega
  clear hb
  refine hide_r fun R hR => ?_
  have c1 := alive9_A
  refine callD_W 168 Tryz.func4 rfl rfl rfl (fun _ _ => rfl) ?_
  have c2 := trycn_A s hs cl other oc w
  by_cases a0 : (tryCn s cl other oc w).2.2 = 0
  · obtain ⟨_, _, h1, h2, h3, ok⟩ := tryCn_zero a0 pos
    obtain ⟨g1, g2, c3, c4, c5⟩ := shown_ask ok h1 h2.2 ⟨1, other, cl, -1⟩ (by unfold N12; simp) w hk h3
    rw [a0] at c2
    clear h1 h2 h3 ok a0
    generalize tryCn s cl other oc w = A at *
    generalize clAt s cl = z at *
    generalize keyC oc = K at *
    generalize valCn _ = V at *
    refine wkl ?_
    clear hR c1 c2 c3 c4 c5 g1; intro hR
    repeat' (intro _)
    have c1 := trivial
    have c2 := ackcn_A s hs pos oc w
    by_cases a1 : (ackCn s pos oc w).2 = 0
    · obtain ⟨_, h1, h2, h3, h4⟩ := ackCn_zero a1
      obtain ⟨ok, hi, hst, hov⟩ := endCn_zero.1 h1
      have hlc := ok.lcn
      obtain ⟨g1, g2, c3, c4, c5⟩ := shown_ask ok hov h2 ⟨2, (cnAt s pos).oc, (cnAt s pos).cl, pos⟩ (by unfold N12; simp only; omega) w hk h3
      have g3 := cn_get hi
      obtain ⟨g4, g5⟩ := open_get (oc := oc) hi
      rw [← h4] at g4 g5
      rw [a1] at c2
      clear h1 h2 h3 h4 ok hov a1
      generalize ackCn s pos oc w = A at *
      generalize cnAt s pos = x at *
      generalize clAt s x.cl = z at *
      generalize keyC _ = K at *
      generalize valCn _ = V at *
      refine wkl ?_
      clear hR c1 c2 c3 c4 c5 g1 g3 g4; intro hR
      repeat' (intro _)
      have c1 := trivial
      have c2 := confcn_A s hs pos w
      by_cases a2 : (confCn s pos w).2 = 0
      · obtain ⟨_, h1, h2, h3, h4⟩ := confCn_zero a2
        obtain ⟨ok, hi, hst, hov⟩ := endCn_zero.1 h1
        have hlc := ok.lcn
        obtain ⟨g1, g2, c3, c4, c5⟩ := shown_ask ok hov h2 ⟨3, (cnAt s pos).oc, (cnAt s pos).cl, pos⟩ (by unfold N12; simp only; omega) w hk h3
        have g3 := cn_get hi
        obtain ⟨g4, g5⟩ := open_get (oc := (cnAt s pos).on) hi
        rw [← h4] at g4 g5
        rw [a2] at c2
        clear h1 h2 h3 h4 ok hov a2
        generalize confCn s pos w = A at *
        generalize cnAt s pos = x at *
        generalize clAt s x.cl = z at *
        generalize keyC _ = K at *
        generalize valCn _ = V at *
        exact wkl trivial
      · generalize (confCn s pos w) = A at *
        exact wkl trivial
    · generalize (ackCn s pos oc w) = A at *
      refine wkl ?_
      clear hR c1 c2; intro hR
      repeat' (intro _)
      have c1 := trivial
      have c2 := confcn_A s hs pos w
      by_cases a2 : (confCn s pos w).2 = 0
      · obtain ⟨_, h1, h2, h3, h4⟩ := confCn_zero a2
        obtain ⟨ok, hi, hst, hov⟩ := endCn_zero.1 h1
        have hlc := ok.lcn
        obtain ⟨g1, g2, c3, c4, c5⟩ := shown_ask ok hov h2 ⟨3, (cnAt s pos).oc, (cnAt s pos).cl, pos⟩ (by unfold N12; simp only; omega) w hk h3
        have g3 := cn_get hi
        obtain ⟨g4, g5⟩ := open_get (oc := (cnAt s pos).on) hi
        rw [← h4] at g4 g5
        rw [a2] at c2
        clear h1 h2 h3 h4 ok hov a2
        generalize confCn s pos w = A at *
        generalize cnAt s pos = x at *
        generalize clAt s x.cl = z at *
        generalize keyC _ = K at *
        generalize valCn _ = V at *
        exact wkl trivial
      · generalize (confCn s pos w) = A at *
        exact wkl trivial
  · generalize (tryCn s cl other oc w) = A at *
    refine wkl ?_
    clear hR c1 c2; intro hR
    repeat' (intro _)
    have c1 := trivial
    have c2 := ackcn_A s hs pos oc w
    by_cases a1 : (ackCn s pos oc w).2 = 0
    · obtain ⟨_, h1, h2, h3, h4⟩ := ackCn_zero a1
      obtain ⟨ok, hi, hst, hov⟩ := endCn_zero.1 h1
      have hlc := ok.lcn
      obtain ⟨g1, g2, c3, c4, c5⟩ := shown_ask ok hov h2 ⟨2, (cnAt s pos).oc, (cnAt s pos).cl, pos⟩ (by unfold N12; simp only; omega) w hk h3
      have g3 := cn_get hi
      obtain ⟨g4, g5⟩ := open_get (oc := oc) hi
      rw [← h4] at g4 g5
      rw [a1] at c2
      clear h1 h2 h3 h4 ok hov a1
      generalize ackCn s pos oc w = A at *
      generalize cnAt s pos = x at *
      generalize clAt s x.cl = z at *
      generalize keyC _ = K at *
      generalize valCn _ = V at *
      refine wkl ?_
      clear hR c1 c2 c3 c4 c5 g1 g3 g4; intro hR
      repeat' (intro _)
      have c1 := trivial
      have c2 := confcn_A s hs pos w
      by_cases a2 : (confCn s pos w).2 = 0
      · obtain ⟨_, h1, h2, h3, h4⟩ := confCn_zero a2
        obtain ⟨ok, hi, hst, hov⟩ := endCn_zero.1 h1
        have hlc := ok.lcn
        obtain ⟨g1, g2, c3, c4, c5⟩ := shown_ask ok hov h2 ⟨3, (cnAt s pos).oc, (cnAt s pos).cl, pos⟩ (by unfold N12; simp only; omega) w hk h3
        have g3 := cn_get hi
        obtain ⟨g4, g5⟩ := open_get (oc := (cnAt s pos).on) hi
        rw [← h4] at g4 g5
        rw [a2] at c2
        clear h1 h2 h3 h4 ok hov a2
        generalize confCn s pos w = A at *
        generalize cnAt s pos = x at *
        generalize clAt s x.cl = z at *
        generalize keyC _ = K at *
        generalize valCn _ = V at *
        exact wkl trivial
      · generalize (confCn s pos w) = A at *
        exact wkl trivial
    · generalize (ackCn s pos oc w) = A at *
      refine wkl ?_
      clear hR c1 c2; intro hR
      repeat' (intro _)
      have c1 := trivial
      have c2 := confcn_A s hs pos w
      by_cases a2 : (confCn s pos w).2 = 0
      · obtain ⟨_, h1, h2, h3, h4⟩ := confCn_zero a2
        obtain ⟨ok, hi, hst, hov⟩ := endCn_zero.1 h1
        have hlc := ok.lcn
        obtain ⟨g1, g2, c3, c4, c5⟩ := shown_ask ok hov h2 ⟨3, (cnAt s pos).oc, (cnAt s pos).cl, pos⟩ (by unfold N12; simp only; omega) w hk h3
        have g3 := cn_get hi
        obtain ⟨g4, g5⟩ := open_get (oc := (cnAt s pos).on) hi
        rw [← h4] at g4 g5
        rw [a2] at c2
        clear h1 h2 h3 h4 ok hov a2
        generalize confCn s pos w = A at *
        generalize cnAt s pos = x at *
        generalize clAt s x.cl = z at *
        generalize keyC _ = K at *
        generalize valCn _ = V at *
        exact wkl trivial
      · generalize (confCn s pos w) = A at *
        exact wkl trivial
end Go.Proofs.YtmclpbcipkdmcaaGreatDoor
