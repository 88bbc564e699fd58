/- Merged texts: R9A, R9B, R9C. -/
import Derived.Test.YtmclpbcipkdmcaaGreatDoorGRW
import Derived.Test.YtmclpbcipkdmcaaGreatDoorGR8
import Derived.Test.YtmclpbcipkdmcaaGreatDoorRClM
import Derived.Test.YtmclpbcipkdmcaaGreatDoorGCo
/- landref8.Copy, landref9.Live, There, Connect$1: by value. -/
set_option linter.all false
namespace Go.Proofs.YtmclpbcipkdmcaaGreatDoor
open Go Go.Abs Go.RowKit Go.Proofs.YtmclpbcipkdmcaaGreatDoor.Ty

set_option maxHeartbeats 8000000
set_option maxRecDepth 20000
theorem rcopy_D (s : StateD) (hs : StSm s) : CallD Tryz.prog 50 [stateD s] noH
    (.agg [.i (.s (.string s.name)), .i (.s (.int .i64 s.h)), .i (.s (.int .i64 s.t)), .os 1 4 0 s.cls.length, .os 2 4 0 s.cns.length, .os 3 7 0 s.chs.length, .i (.sl (s.sent.map encM)), .i (.sl (s.got.map encM)), .i (.sl (s.acks.map encM)), .os 4 3 0 s.pus.length])
    (hOf noH [(1, .arr 4 (s.cls.map encC)), (2, .arr 4 (s.cns.map encCn)), (3, .arr 7 (s.chs.map encCh)), (4, .arr 3 (s.pus.map encPu))]) := by
  refine hide_c fun R R' hR hR' => ?_
  have l1 := hs.cls
  have l2 := hs.cns
  have l3 := hs.chs
  have l7 := hs.pus
  have u1 : uni 4 (s.cls.map encC) = true := by simp [uni, encC]
  have u2 : uni 4 (s.cns.map encCn) = true := by simp [uni, encCn]
  have u3 : uni 7 (s.chs.map encCh) = true := by simp [uni, encCh]
  have u4 : uni 3 (s.pus.map encPu) = true := by simp [uni, encPu]
  have a1 : s.cls.length ≤ 140737488355328 := by omega
  have a2 : s.cns.length ≤ 140737488355328 := by omega
  have a3 : s.chs.length ≤ 140737488355328 := by omega
  have a4 : s.pus.length ≤ 140737488355328 := by omega
  have b1 : s.cls.length * 56 ≤ 140737488355328 := by omega
  have b2 : s.cns.length * 32 ≤ 140737488355328 := by omega
  have b3 : s.chs.length * 56 ≤ 140737488355328 := by omega
  have b4 : s.pus.length * 40 ≤ 140737488355328 := by omega
  clear hs
  have d1 : SrcIs [] [(1, 1259), (2, 1515), (3, 1771), (4, 2027)] := ⟨trivial⟩
  obtain ⟨rfl⟩ := hR'
  refine callD_W 24 Tryz.func50 rfl rfl rfl (fun _ _ => rfl) ?_
  exact wkl trivial
theorem rlive_A (s : StateD) (ok : StOk s) (c : Int) : PureD Tryz.prog 47 [stateD s, intD c] (intD (overE s c)) := by
  refine hide_r fun R hR => ?_
  unfold overE at hR
  have hl := ok.lcl
  by_cases h : c < 0 ∨ (s.cls.length : Int) ≤ c
  · rw [if_pos h] at hR
    clear ok
    refine callD_W 23 Tryz.func47 rfl rfl rfl (fun _ _ => rfl) ?_
    exact wkl trivial
  · have hi : c.toNat < s.cls.length := by omega
    have s0 := get_lt (f := encC) hi
    have c1 := ractC_A (ok.cls _ (List.getElem_mem hi)) ok.t
    rw [if_neg h, (clAt_mem (s := s) (i := c) (by omega)).1] at hR
    clear ok
    generalize s.cls[c.toNat] = x at *
    generalize activeC x s.t = A at *
    refine callD_W 23 Tryz.func47 rfl rfl rfl (fun _ _ => rfl) ?_
    exact wkl trivial
theorem rthere_A (s : StateD) (ok : StOk s) (c : Int) (hc : 0 ≤ c ∧ c < (s.cls.length : Int)) (K V : List UInt8) (w : ShownD) (h1 : w.p.k.length ≤ 1048576) (h2 : w.p.v.length ≤ 1048576) :
    PureD Tryz.prog 49 [stateD s, intD c, .i (bI K), .i (bI V), shD w] (intD (memberE (clAt s c) s.t w.h K V w.p)) := by
  refine hide_r fun R hR => ?_
  have hl := ok.lcl
  have hi : c.toNat < s.cls.length := by omega
  have s0 := get_lt (f := encC) hi
  have c1 := rmember_A (clAt s c) s.t w.h K V w.p (by have := (ok.cls _ (clAt_mem hc).2).len; omega) h1 h2
  rw [(clAt_mem hc).1] at hR c1
  clear ok h1 h2
  generalize s.cls[c.toNat] = x at *
  generalize memberE x s.t w.h K V w.p = M at *
  refine callD_W 25 Tryz.func49 rfl rfl rfl (fun _ _ => rfl) ?_
  exact wkl trivial
theorem rno9_A (e : Int) : PureD Tryz.prog 46 [intD e] (.tup [stateD zeroSt, intD 0, intD e]) := by
  refine hide_r fun R hR => ?_
  refine callD_W 7 Tryz.func46 rfl rfl rfl (fun _ _ => rfl) ?_
  exact wkl trivial
end Go.Proofs.YtmclpbcipkdmcaaGreatDoor

/- landref9.Connect, its steps i and t: by value. -/
set_option linter.all false
namespace Go.Proofs.YtmclpbcipkdmcaaGreatDoor
open Go Go.Abs Go.RowKit Go.Proofs.YtmclpbcipkdmcaaGreatDoor.Ty

set_option maxHeartbeats 16000000
set_option maxRecDepth 20000
theorem nm_no {n : Int} (h : n < 0 ∨ 1000000000000 < n) : nm n 0 = false := by unfold nm; exact decide_eq_false (by omega)
theorem nm_yes {n : Int} (h : ¬ (n < 0 ∨ 1000000000000 < n)) : nm n 0 = true := by unfold nm; exact decide_eq_true (by omega)
theorem rconI_A (s : StateD) (hs : StSm s) (pos c other oc : Int) (w : ShownD) : PureD Tryz.prog 9 [.i (.s (.int .u8 105)), stateD s, intD pos, intD c, intD other, intD oc, shD w] (.tup [stateD (initCn s c other).1, intD (initCn s c other).2.1, intD (initCn s c other).2.2]) := by
  refine hide_r fun R hR => ?_
  have c1 := rwrong8_A s hs
  unfold initCn at hR
  by_cases h : wrongS s = 0
  · have ok := wrongS_zero.1 h
    rw [h] at c1
    rw [if_pos h] at hR
    have c2 := rlive_A s ok c
    by_cases h2 : overE s c = 0
    · rw [if_pos h2] at hR
      rw [h2] at c2
      have c3 := from1_A 0 other
      by_cases h3 : other < 0 ∨ 1000000000000 < other
      · rw [if_pos h3] at hR
        rw [nm_no h3] at c3
        have c9 := rno9_A 3
        clear ok h hs h2
        refine callD_W 233 Tryz.func9 rfl rfl rfl (fun _ _ => rfl) ?_
        exact wkl trivial
      · rw [if_neg h3] at hR
        rw [nm_yes h3] at c3
        have c4 := rkeyC_A 0 (by unfold N12; omega)
        have e1 := rcopy_D s hs
        have c9 := rno9_A 5
        have hl := ok.lcn
        unfold addCn at hR
        have m1 : s.cns.map encCn ++ [encCn (⟨1, c, other, -1⟩ : ConnD)] = (s.cns ++ [(⟨1, c, other, -1⟩ : ConnD)]).map encCn := by simp
        have m2 : s.cns.length + 1 = (s.cns ++ [(⟨1, c, other, -1⟩ : ConnD)]).length := by simp
        simp only [encCn] at m1
        generalize s.cns ++ [(⟨1, c, other, -1⟩ : ConnD)] = L at *
        generalize keyC 0 = K at *
        clear ok h hs h2
        by_cases h : (s.cns.length : Int) = 8
        · rw [if_pos h] at hR
          refine callD_W 233 Tryz.func9 rfl rfl rfl (fun _ _ => rfl) ?_
          exact wkl trivial
        · rw [if_neg h] at hR
          refine callD_W 233 Tryz.func9 rfl rfl rfl (fun _ _ => rfl) ?_
          exact wkl trivial
    · rw [if_neg h2] at hR
      have c9 := rno9_A (overE s c)
      generalize overE s c = E at *
      clear ok h hs
      refine callD_W 233 Tryz.func9 rfl rfl rfl (fun _ _ => rfl) ?_
      exact wkl trivial
  · rw [if_neg h] at hR
    have c9 := rno9_A (wrongS s)
    generalize wrongS s = W at *
    clear hs
    refine callD_W 233 Tryz.func9 rfl rfl rfl (fun _ _ => rfl) ?_
    exact wkl trivial
theorem rconT_A (s : StateD) (hs : StSm s) (pos c other oc : Int) (w : ShownD) (k1 : w.p.k.length ≤ 1048576) (k2 : w.p.v.length ≤ 1048576) : PureD Tryz.prog 9 [.i (.s (.int .u8 116)), stateD s, intD pos, intD c, intD other, intD oc, shD w] (.tup [stateD (tryCn s c other oc w).1, intD (tryCn s c other oc w).2.1, intD (tryCn s c other oc w).2.2]) := by
  refine hide_r fun R hR => ?_
  have c1 := rwrong8_A s hs
  unfold tryCn at hR
  by_cases h : wrongS s = 0
  · have ok := wrongS_zero.1 h
    rw [h] at c1
    rw [if_pos h] at hR
    have c2 := rlive_A s ok c
    by_cases h2 : overE s c = 0
    · rw [if_pos h2] at hR
      rw [h2] at c2
      have c3 := from1_A 0 other
      have c5 := from1_A 0 oc
      by_cases h3 : other < 0 ∨ 1000000000000 < other ∨ oc < 0 ∨ 1000000000000 < oc
      · rw [if_pos h3] at hR
        have c9 := rno9_A 3
        clear ok h hs h2
        by_cases h4 : other < 0 ∨ 1000000000000 < other
        · rw [nm_no h4] at c3
          refine callD_W 233 Tryz.func9 rfl rfl rfl (fun _ _ => rfl) ?_
          exact wkl trivial
        · rw [nm_yes h4] at c3
          rw [nm_no (show oc < 0 ∨ 1000000000000 < oc by omega)] at c5
          refine callD_W 233 Tryz.func9 rfl rfl rfl (fun _ _ => rfl) ?_
          exact wkl trivial
      · rw [if_neg h3] at hR
        rw [nm_yes (show ¬ (other < 0 ∨ 1000000000000 < other) by omega)] at c3
        rw [nm_yes (show ¬ (oc < 0 ∨ 1000000000000 < oc) by omega)] at c5
        have c4 := rkeyC_A 0 (by unfold N12; omega)
        have c6 := rkeyC_A oc (by unfold N12; omega)
        have c7 := rconnb_A ⟨1, other, c, -1⟩ (by simp)
        have c8 := rthere_A s ok c (overE_zero.1 h2).1 (keyC oc) (valCn ⟨1, other, c, -1⟩) w k1 k2
        unfold shownE at hR
        generalize memberE (clAt s c) s.t w.h (keyC oc) (valCn ⟨1, other, c, -1⟩) w.p = M at *
        generalize keyC 0 = K at *
        generalize keyC oc = K2 at *
        generalize valCn ⟨1, other, c, -1⟩ = V at *
        have e1 := rcopy_D s hs
        have hl := ok.lcn
        unfold addCn at hR
        have m1 : s.cns.map encCn ++ [encCn (⟨2, c, other, oc⟩ : ConnD)] = (s.cns ++ [(⟨2, c, other, oc⟩ : ConnD)]).map encCn := by simp
        have m2 : s.cns.length + 1 = (s.cns ++ [(⟨2, c, other, oc⟩ : ConnD)]).length := by simp
        simp only [encCn] at m1
        generalize s.cns ++ [(⟨2, c, other, oc⟩ : ConnD)] = L at *
        clear ok h hs h2 h3 k1 k2
        by_cases hM : M = 0
        · rw [if_pos hM] at hR
          rw [hM] at c8
          have c9 := rno9_A 5
          by_cases h : (s.cns.length : Int) = 8
          · rw [if_pos h] at hR
            refine callD_W 233 Tryz.func9 rfl rfl rfl (fun _ _ => rfl) ?_
            exact wkl trivial
          · rw [if_neg h] at hR
            refine callD_W 233 Tryz.func9 rfl rfl rfl (fun _ _ => rfl) ?_
            exact wkl trivial
        · rw [if_neg hM] at hR
          have c9 := rno9_A M
          clear e1
          refine callD_W 233 Tryz.func9 rfl rfl rfl (fun _ _ => rfl) ?_
          exact wkl trivial
    · rw [if_neg h2] at hR
      have c9 := rno9_A (overE s c)
      generalize overE s c = E at *
      clear ok h hs
      refine callD_W 233 Tryz.func9 rfl rfl rfl (fun _ _ => rfl) ?_
      exact wkl trivial
  · rw [if_neg h] at hR
    have c9 := rno9_A (wrongS s)
    generalize wrongS s = W at *
    clear hs
    refine callD_W 233 Tryz.func9 rfl rfl rfl (fun _ _ => rfl) ?_
    exact wkl trivial
end Go.Proofs.YtmclpbcipkdmcaaGreatDoor

/- landref9.Connect, its steps a and c: by value. -/
set_option linter.all false
namespace Go.Proofs.YtmclpbcipkdmcaaGreatDoor
open Go Go.Abs Go.RowKit Go.Proofs.YtmclpbcipkdmcaaGreatDoor.Ty

set_option maxHeartbeats 16000000
set_option maxRecDepth 20000
theorem rconA_A (s : StateD) (hs : StSm s) (pos c other oc : Int) (w : ShownD) (k1 : w.p.k.length ≤ 1048576) (k2 : w.p.v.length ≤ 1048576) : PureD Tryz.prog 9 [.i (.s (.int .u8 97)), stateD s, intD pos, intD c, intD other, intD oc, shD w] (.tup [stateD (ackCn s pos oc w).1, intD 0, intD (ackCn s pos oc w).2]) := by
  refine hide_r fun R hR => ?_
  have c1 := rwrong8_A s hs
  unfold ackCn endCn at hR
  by_cases h : wrongS s = 0
  · have ok := wrongS_zero.1 h
    rw [h] at c1
    rw [if_pos h] at hR
    have hl := ok.lcn
    by_cases h1 : pos < 0 ∨ (s.cns.length : Int) ≤ pos
    · rw [if_pos h1] at hR
      have c9 := rno9_A 6
      clear ok h hs
      refine callD_W 233 Tryz.func9 rfl rfl rfl (fun _ _ => rfl) ?_
      exact wkl trivial
    · rw [if_neg h1] at hR
      have hi : pos.toNat < s.cns.length := by omega
      have s0 := get_lt (f := encCn) hi
      have hat := (cnAt_mem (s := s) (i := pos) (by omega)).1
      by_cases h2 : (cnAt s pos).st = 1
      · rw [if_pos h2] at hR
        have c2 := rlive_A s ok (cnAt s pos).cl
        by_cases h3 : overE s (cnAt s pos).cl = 0
        · simp only [h3, if_true] at hR
          rw [h3] at c2
          have c5 := from1_A 0 oc
          by_cases h4 : oc < 0 ∨ 1000000000000 < oc
          · rw [if_pos h4] at hR
            rw [nm_no h4] at c5
            have c9 := rno9_A 3
            rw [← hat] at s0
            clear ok h hs h3 hat
            generalize cnAt s pos = x at *
            refine callD_W 233 Tryz.func9 rfl rfl rfl (fun _ _ => rfl) ?_
            exact wkl trivial
          · rw [if_neg h4] at hR
            rw [nm_yes h4] at c5
            have c4 := rkeyC_A 0 (by unfold N12; omega)
            have c6 := rkeyC_A oc (by unfold N12; omega)
            have c7 := rconnb_A ⟨2, (cnAt s pos).oc, (cnAt s pos).cl, pos⟩ (by simp only; omega)
            have c8 := rthere_A s ok (cnAt s pos).cl (overE_zero.1 h3).1 (keyC oc) (valCn ⟨2, (cnAt s pos).oc, (cnAt s pos).cl, pos⟩) w k1 k2
            unfold shownE at hR
            generalize memberE (clAt s (cnAt s pos).cl) s.t w.h (keyC oc) (valCn ⟨2, (cnAt s pos).oc, (cnAt s pos).cl, pos⟩) w.p = M at *
            generalize keyC 0 = K at *
            generalize keyC oc = K2 at *
            generalize valCn ⟨2, (cnAt s pos).oc, (cnAt s pos).cl, pos⟩ = V at *
            by_cases hM : M = 0
            · rw [if_pos hM] at hR
              rw [hM] at c8
              have e1 := rcopy_D s hs
              unfold openCn at hR
              have s3 : (s.cns.map encCn).set pos.toNat (encCn { cnAt s pos with st := 3, on := oc }) = (s.cns.set pos.toNat { cnAt s pos with st := 3, on := oc }).map encCn := List.map_set.symm
              have s4 : s.cns.length = (s.cns.set pos.toNat { cnAt s pos with st := 3, on := oc }).length := by simp
              generalize s.cns.set pos.toNat { cnAt s pos with st := 3, on := oc } = L at *
              rw [← hat] at s0
              clear ok h hs h3 hat
              generalize cnAt s pos = x at *
              simp only [encCn] at s3
              refine callD_W 233 Tryz.func9 rfl rfl rfl (fun _ _ => rfl) ?_
              exact wkl trivial
            · rw [if_neg hM] at hR
              have c9 := rno9_A M
              rw [← hat] at s0
              clear ok h hs h3 hat
              generalize cnAt s pos = x at *
              refine callD_W 233 Tryz.func9 rfl rfl rfl (fun _ _ => rfl) ?_
              exact wkl trivial
        · simp only [h3, if_false] at hR
          have c9 := rno9_A (overE s (cnAt s pos).cl)
          rw [← hat] at s0
          clear ok h hs hat
          generalize overE s (cnAt s pos).cl = E at *
          generalize cnAt s pos = x at *
          refine callD_W 233 Tryz.func9 rfl rfl rfl (fun _ _ => rfl) ?_
          exact wkl trivial
      · rw [if_neg h2] at hR
        have c9 := rno9_A 12
        rw [← hat] at s0
        clear ok h hs hat
        generalize cnAt s pos = x at *
        refine callD_W 233 Tryz.func9 rfl rfl rfl (fun _ _ => rfl) ?_
        exact wkl trivial
  · simp only [h, if_false] at hR
    have c9 := rno9_A (wrongS s)
    generalize wrongS s = W at *
    clear hs
    refine callD_W 233 Tryz.func9 rfl rfl rfl (fun _ _ => rfl) ?_
    exact wkl trivial
theorem rconC_A (s : StateD) (hs : StSm s) (pos c other oc : Int) (w : ShownD) (k1 : w.p.k.length ≤ 1048576) (k2 : w.p.v.length ≤ 1048576) : PureD Tryz.prog 9 [.i (.s (.int .u8 99)), stateD s, intD pos, intD c, intD other, intD oc, shD w] (.tup [stateD (confCn s pos w).1, intD 0, intD (confCn s pos w).2]) := by
  refine hide_r fun R hR => ?_
  have c1 := rwrong8_A s hs
  unfold confCn endCn at hR
  by_cases h : wrongS s = 0
  · have ok := wrongS_zero.1 h
    rw [h] at c1
    rw [if_pos h] at hR
    have hl := ok.lcn
    by_cases h1 : pos < 0 ∨ (s.cns.length : Int) ≤ pos
    · rw [if_pos h1] at hR
      have c9 := rno9_A 6
      clear ok h hs
      refine callD_W 233 Tryz.func9 rfl rfl rfl (fun _ _ => rfl) ?_
      exact wkl trivial
    · rw [if_neg h1] at hR
      have hi : pos.toNat < s.cns.length := by omega
      have s0 := get_lt (f := encCn) hi
      have hat := (cnAt_mem (s := s) (i := pos) (by omega)).1
      by_cases h2 : (cnAt s pos).st = 2
      · rw [if_pos h2] at hR
        have c2 := rlive_A s ok (cnAt s pos).cl
        by_cases h3 : overE s (cnAt s pos).cl = 0
        · simp only [h3, if_true] at hR
          rw [h3] at c2
          have c4 := rkeyC_A 0 (by unfold N12; omega)
          by_cases h4 : (cnAt s pos).on < 0
          · rw [if_pos h4] at hR
            have c9 := rno9_A 8
            rw [← hat] at s0
            clear ok h hs h3 hat
            generalize cnAt s pos = x at *
            generalize keyC 0 = K at *
            refine callD_W 233 Tryz.func9 rfl rfl rfl (fun _ _ => rfl) ?_
            exact wkl trivial
          · rw [if_neg h4] at hR
            have hon := (ok.cns _ (cnAt_mem (s := s) (i := pos) (by omega)).2).on
            have c6 := rkeyC_A (cnAt s pos).on (by unfold N12 at *; omega)
            have c7 := rconnb_A ⟨3, (cnAt s pos).oc, (cnAt s pos).cl, pos⟩ (by simp only; omega)
            have c8 := rthere_A s ok (cnAt s pos).cl (overE_zero.1 h3).1 (keyC (cnAt s pos).on) (valCn ⟨3, (cnAt s pos).oc, (cnAt s pos).cl, pos⟩) w k1 k2
            clear hon
            unfold shownE at hR
            generalize memberE (clAt s (cnAt s pos).cl) s.t w.h (keyC (cnAt s pos).on) (valCn ⟨3, (cnAt s pos).oc, (cnAt s pos).cl, pos⟩) w.p = M at *
            generalize keyC 0 = K at *
            generalize keyC (cnAt s pos).on = K2 at *
            generalize valCn ⟨3, (cnAt s pos).oc, (cnAt s pos).cl, pos⟩ = V at *
            by_cases hM : M = 0
            · rw [if_pos hM] at hR
              rw [hM] at c8
              have e1 := rcopy_D s hs
              unfold openCn at hR
              have s3 : (s.cns.map encCn).set pos.toNat (encCn { cnAt s pos with st := 3, on := (cnAt s pos).on }) = (s.cns.set pos.toNat { cnAt s pos with st := 3, on := (cnAt s pos).on }).map encCn := List.map_set.symm
              have s4 : s.cns.length = (s.cns.set pos.toNat { cnAt s pos with st := 3, on := (cnAt s pos).on }).length := by simp
              generalize s.cns.set pos.toNat { cnAt s pos with st := 3, on := (cnAt s pos).on } = L at *
              rw [← hat] at s0
              clear ok h hs h3 hat
              generalize cnAt s pos = x at *
              simp only [encCn] at s3
              refine callD_W 233 Tryz.func9 rfl rfl rfl (fun _ _ => rfl) ?_
              exact wkl trivial
            · rw [if_neg hM] at hR
              have c9 := rno9_A M
              rw [← hat] at s0
              clear ok h hs h3 hat
              generalize cnAt s pos = x at *
              refine callD_W 233 Tryz.func9 rfl rfl rfl (fun _ _ => rfl) ?_
              exact wkl trivial
        · simp only [h3, if_false] at hR
          have c9 := rno9_A (overE s (cnAt s pos).cl)
          rw [← hat] at s0
          clear ok h hs hat
          generalize overE s (cnAt s pos).cl = E at *
          generalize cnAt s pos = x at *
          refine callD_W 233 Tryz.func9 rfl rfl rfl (fun _ _ => rfl) ?_
          exact wkl trivial
      · rw [if_neg h2] at hR
        have c9 := rno9_A 12
        rw [← hat] at s0
        clear ok h hs hat
        generalize cnAt s pos = x at *
        refine callD_W 233 Tryz.func9 rfl rfl rfl (fun _ _ => rfl) ?_
        exact wkl trivial
  · simp only [h, if_false] at hR
    have c9 := rno9_A (wrongS s)
    generalize wrongS s = W at *
    clear hs
    refine callD_W 233 Tryz.func9 rfl rfl rfl (fun _ _ => rfl) ?_
    exact wkl trivial
end Go.Proofs.YtmclpbcipkdmcaaGreatDoor
