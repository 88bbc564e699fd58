/- conn.over, shown, add, Init, Try: by value. -/
import Derived.Test.YtmclpbcipkdmcaaGreatDoorCoP
import Derived.Test.YtmclpbcipkdmcaaGreatDoorGSt
set_option linter.all false
namespace Go.Proofs.YtmclpbcipkdmcaaGreatDoor
open Go Go.Abs Go.RowKit Go.Proofs.YtmclpbcipkdmcaaGreatDoor.Ty

set_option maxHeartbeats 8000000
set_option maxRecDepth 20000
theorem cover_A (s : StateD) (ok : StOk s) (c : Int) : PureD Tryz.prog 44 [.rp (encSt s) 0, intD c] (intD (overE s c)) := by
  refine hide_r fun R hR => ?_
  unfold overE at hR
  have hl := ok.lcl
  by_cases h : c < 0 ∨ (s.cls.length : Int) ≤ c
  · rw [if_pos h] at hR
    clear ok
    refine callD_W 31 Tryz.func44 rfl rfl rfl (fun _ _ => rfl) ?_
    exact wkl trivial
  · have hi : c.toNat < s.cls.length := by omega
    have s0 := get_lt (f := encC) hi
    have c1 := act_A (ok.cls _ (List.getElem_mem hi)) ok.t
    rw [if_neg h, (clAt_mem (s := s) (i := c) (by omega)).1] at hR
    clear ok
    generalize s.cls[c.toNat] = x at *
    generalize activeC x s.t = A at *
    refine callD_W 31 Tryz.func44 rfl rfl rfl (fun _ _ => rfl) ?_
    exact wkl trivial
theorem cshown_A (s : StateD) (ok : StOk s) (c : Int) (hc : 0 ≤ c ∧ c < (s.cls.length : Int)) (pos : Int) (ha : N12 0 pos) (en : ConnD) (he : N12 (-1) en.on) (w : ShownD) :
    PureD Tryz.prog 53 [.rp (encSt s) 0, intD c, intD pos, connD en, shD w] (intD (shownE s c pos en w)) := by
  refine hide_r fun R hR => ?_
  unfold shownE at hR
  have hl := ok.lcl
  have hi : c.toNat < s.cls.length := by omega
  have s0 := get_lt (f := encC) hi
  have c1 := ckey_A pos (by unfold N12 at ha; unfold Num6; omega)
  have c2 := connb_A en he
  have c3 := cmember_A (clAt s c) s.t w.h (keyC pos) (valCn en) w.p (by have := (ok.cls _ (clAt_mem hc).2).len; omega)
  rw [(clAt_mem hc).1] at hR c3
  clear ok ha he
  generalize s.cls[c.toNat] = x at *
  generalize keyC pos = K at *
  generalize valCn en = V at *
  generalize memberE x s.t w.h K V w.p = M at *
  refine callD_W 31 Tryz.func53 rfl rfl rfl (fun _ _ => rfl) ?_
  exact wkl trivial
theorem addcn_A (s : StateD) (ok : StOk s) (c : ConnD) : PureD Tryz.prog 45 [stateD s, connD c] (.tup [stateD (addCn s c).1, intD (addCn s c).2.1, intD (addCn s c).2.2]) := by
  refine hide_r fun R hR => ?_
  have e1 := sown_D s ok.sm
  have hl := ok.lcn
  unfold addCn at hR
  have m1 : s.cns.map encCn ++ [encCn (c)] = (s.cns ++ [c]).map encCn := by simp
  have m2 : s.cns.length + 1 = (s.cns ++ [c]).length := by simp
  have m3 : ((s.cns ++ [c]).length : Int) - 1 = s.cns.length := by simp
  simp only [encCn] at m1
  generalize s.cns ++ [c] = L at *
  by_cases h : (s.cns.length : Int) = 8
  · rw [if_pos h] at hR
    clear ok e1
    refine callD_W 26 Tryz.func45 rfl rfl rfl (fun _ _ => rfl) ?_
    exact wkl trivial
  · rw [if_neg h] at hR
    clear ok
    refine callD_W 26 Tryz.func45 rfl rfl rfl (fun _ _ => rfl) ?_
    exact wkl trivial
theorem initcn_A (s : StateD) (hs : StSm s) (c other : Int) : PureD Tryz.prog 8 [stateD s, intD c, intD other] (.tup [stateD (initCn s c other).1, intD (initCn s c other).2.1, intD (initCn s c other).2.2]) := by
  refine hide_r fun R hR => ?_
  have c1 := swrong_A s hs
  unfold initCn at hR
  by_cases h : wrongS s = 0
  · have ok := wrongS_zero.1 h
    rw [h] at c1
    rw [if_pos h] at hR
    have c2 := cover_A s ok c
    have c3 := addcn_A s ok ⟨1, c, other, -1⟩
    generalize overE s c = E at *
    generalize addCn s ⟨1, c, other, -1⟩ = A at *
    clear ok h hs
    refine callD_W 38 Tryz.func8 rfl rfl rfl (fun _ _ => rfl) ?_
    exact wkl trivial
  · rw [if_neg h] at hR
    generalize wrongS s = W at *
    clear hs
    refine callD_W 38 Tryz.func8 rfl rfl rfl (fun _ _ => rfl) ?_
    exact wkl trivial
theorem trycn_A (s : StateD) (hs : StSm s) (c other oc : Int) (w : ShownD) : PureD Tryz.prog 11 [stateD s, intD c, intD other, intD oc, shD w] (.tup [stateD (tryCn s c other oc w).1, intD (tryCn s c other oc w).2.1, intD (tryCn s c other oc w).2.2]) := by
  refine hide_r fun R hR => ?_
  have c1 := swrong_A s hs
  unfold tryCn at hR
  by_cases h : wrongS s = 0
  · have ok := wrongS_zero.1 h
    rw [h] at c1
    rw [if_pos h] at hR
    have c2 := cover_A s ok c
    have c3 := addcn_A s ok ⟨2, c, other, oc⟩
    by_cases h2 : overE s c = 0
    · rw [if_pos h2] at hR
      rw [h2] at c2
      by_cases h3 : other < 0 ∨ 1000000000000 < other ∨ oc < 0 ∨ 1000000000000 < oc
      · rw [if_pos h3] at hR
        clear c3 ok h hs h2
        refine callD_W 65 Tryz.func11 rfl rfl rfl (fun _ _ => rfl) ?_
        exact wkl trivial
      · rw [if_neg h3] at hR
        have c4 := cshown_A s ok c (overE_zero.1 h2).1 oc (by unfold N12; omega) ⟨1, other, c, -1⟩ (by unfold N12; simp) w
        generalize shownE s c oc ⟨1, other, c, -1⟩ w = E at *
        generalize addCn s ⟨2, c, other, oc⟩ = A at *
        clear ok h hs h2
        refine callD_W 65 Tryz.func11 rfl rfl rfl (fun _ _ => rfl) ?_
        exact wkl trivial
    · rw [if_neg h2] at hR
      generalize overE s c = E at *
      clear c3 ok h hs
      refine callD_W 65 Tryz.func11 rfl rfl rfl (fun _ _ => rfl) ?_
      exact wkl trivial
  · rw [if_neg h] at hR
    generalize wrongS s = W at *
    clear hs
    refine callD_W 65 Tryz.func11 rfl rfl rfl (fun _ _ => rfl) ?_
    exact wkl trivial
end Go.Proofs.YtmclpbcipkdmcaaGreatDoor
