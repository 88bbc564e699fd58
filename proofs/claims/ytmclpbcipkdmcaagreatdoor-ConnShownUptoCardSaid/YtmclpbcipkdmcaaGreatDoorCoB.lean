/- conn.end, open, Ack, Confirm: by value. -/
import Derived.Test.YtmclpbcipkdmcaaGreatDoorCoA
set_option linter.all false
namespace Go.Proofs.YtmclpbcipkdmcaaGreatDoor
open Go Go.Abs Go.RowKit Go.Proofs.YtmclpbcipkdmcaaGreatDoor.Ty

set_option maxHeartbeats 8000000
set_option maxRecDepth 20000
theorem endcn_A (s : StateD) (hs : StSm s) (i want : Int) : PureD Tryz.prog 54 [.rp (encSt s) 0, intD i, intD want] (.tup [connD (endCn s i want).1, intD (endCn s i want).2]) := by
  refine hide_r fun R hR => ?_
  have c1 := swrong_A s hs
  unfold endCn at hR
  by_cases h : wrongS s = 0
  · have ok := wrongS_zero.1 h
    have hl := ok.lcn
    rw [h] at c1
    rw [if_pos h] at hR
    by_cases h2 : i < 0 ∨ (s.cns.length : Int) ≤ i
    · rw [if_pos h2] at hR
      clear ok h hs
      refine callD_W 47 Tryz.func54 rfl rfl rfl (fun _ _ => rfl) ?_
      exact wkl trivial
    · rw [if_neg h2] at hR
      have hi : i.toNat < s.cns.length := by omega
      have s0 := get_lt (f := encCn) hi
      have c2 := cover_A s ok (cnAt s i).cl
      rw [(cnAt_mem (s := s) (i := i) (by omega)).1] at hR c2
      clear ok h hs
      generalize s.cns[i.toNat] = x at *
      generalize overE s x.cl = E at *
      refine callD_W 47 Tryz.func54 rfl rfl rfl (fun _ _ => rfl) ?_
      exact wkl trivial
  · rw [if_neg h] at hR
    generalize wrongS s = W at *
    clear hs
    refine callD_W 47 Tryz.func54 rfl rfl rfl (fun _ _ => rfl) ?_
    exact wkl trivial
theorem opencn_A (s : StateD) (ok : StOk s) (i oc : Int) (hi : 0 ≤ i ∧ i < (s.cns.length : Int)) : PureD Tryz.prog 55 [stateD s, intD i, intD oc] (stateD (openCn s i oc)) := by
  refine hide_r fun R hR => ?_
  have e1 := sown_D s ok.sm
  have hl := ok.lcn
  unfold openCn at hR
  rw [(cnAt_mem hi).1] at hR
  have hi' : i.toNat < s.cns.length := by omega
  have s0 := get_lt (f := encCn) hi'
  have s1 := fun x => List.getElem?_set_self (l := s.cns.map encCn) (i := i.toNat) (a := x) (by simpa using hi')
  have s2 : ∀ x y, ((s.cns.map encCn).set i.toNat x).set i.toNat y = (s.cns.map encCn).set i.toNat y := fun x y => List.set_set x
  have s3 : (s.cns.map encCn).set i.toNat (encCn { s.cns[i.toNat] with st := 3, on := oc }) = (s.cns.set i.toNat { s.cns[i.toNat] with st := 3, on := oc }).map encCn := List.map_set.symm
  have s4 : s.cns.length = (s.cns.set i.toNat { s.cns[i.toNat] with st := 3, on := oc }).length := by simp
  generalize s.cns.set i.toNat { s.cns[i.toNat] with st := 3, on := oc } = L at *
  generalize s.cns[i.toNat] = x at *
  simp only [encCn] at s3
  clear ok
  refine callD_W 22 Tryz.func55 rfl rfl rfl (fun _ _ => rfl) ?_
  exact wkl trivial
theorem ackcn_A (s : StateD) (hs : StSm s) (i oc : Int) (w : ShownD) : PureD Tryz.prog 12 [stateD s, intD i, intD oc, shD w] (.tup [stateD (ackCn s i oc w).1, intD (ackCn s i oc w).2]) := by
  refine hide_r fun R hR => ?_
  have c1 := endcn_A s hs i 1
  unfold ackCn at hR
  by_cases h : (endCn s i 1).2 = 0
  · rw [if_pos h] at hR
    obtain ⟨ok, hi, hst, hov⟩ := endCn_zero.1 h
    rw [endCn_fst h] at c1
    by_cases h3 : oc < 0 ∨ 1000000000000 < oc
    · rw [if_pos h3] at hR
      generalize cnAt s i = x at *
      clear ok h hs hov
      refine callD_W 50 Tryz.func12 rfl rfl rfl (fun _ _ => rfl) ?_
      exact wkl trivial
    · rw [if_neg h3] at hR
      have hl := ok.lcn
      have c2 := cshown_A s ok (cnAt s i).cl (overE_zero.1 hov).1 oc (by unfold N12; omega) ⟨2, (cnAt s i).oc, (cnAt s i).cl, i⟩ (by unfold N12; simp only; omega) w
      have c3 := opencn_A s ok i oc hi
      generalize shownE s (cnAt s i).cl oc ⟨2, (cnAt s i).oc, (cnAt s i).cl, i⟩ w = E at *
      generalize openCn s i oc = A at *
      generalize cnAt s i = x at *
      clear ok h hs hov
      refine callD_W 50 Tryz.func12 rfl rfl rfl (fun _ _ => rfl) ?_
      exact wkl trivial
  · rw [if_neg h] at hR
    generalize endCn s i 1 = W at *
    clear hs
    refine callD_W 50 Tryz.func12 rfl rfl rfl (fun _ _ => rfl) ?_
    exact wkl trivial
theorem confcn_A (s : StateD) (hs : StSm s) (i : Int) (w : ShownD) : PureD Tryz.prog 13 [stateD s, intD i, shD w] (.tup [stateD (confCn s i w).1, intD (confCn s i w).2]) := by
  refine hide_r fun R hR => ?_
  have c1 := endcn_A s hs i 2
  unfold confCn at hR
  by_cases h : (endCn s i 2).2 = 0
  · rw [if_pos h] at hR
    obtain ⟨ok, hi, hst, hov⟩ := endCn_zero.1 h
    rw [endCn_fst h] at c1
    have hon := (ok.cns _ (cnAt_mem hi).2).on
    by_cases h3 : (cnAt s i).on < 0
    · rw [if_pos h3] at hR
      generalize cnAt s i = x at *
      clear ok h hs hov
      refine callD_W 47 Tryz.func13 rfl rfl rfl (fun _ _ => rfl) ?_
      exact wkl trivial
    · rw [if_neg h3] at hR
      have hl := ok.lcn
      have c2 := cshown_A s ok (cnAt s i).cl (overE_zero.1 hov).1 (cnAt s i).on (by unfold N12 at *; omega) ⟨3, (cnAt s i).oc, (cnAt s i).cl, i⟩ (by unfold N12; simp only; omega) w
      have c3 := opencn_A s ok i (cnAt s i).on hi
      generalize shownE s (cnAt s i).cl (cnAt s i).on ⟨3, (cnAt s i).oc, (cnAt s i).cl, i⟩ w = E at *
      generalize openCn s i (cnAt s i).on = A at *
      generalize cnAt s i = x at *
      clear ok h hs hov
      refine callD_W 47 Tryz.func13 rfl rfl rfl (fun _ _ => rfl) ?_
      exact wkl trivial
  · rw [if_neg h] at hR
    generalize endCn s i 2 = W at *
    clear hs
    refine callD_W 47 Tryz.func13 rfl rfl rfl (fun _ _ => rfl) ?_
    exact wkl trivial
end Go.Proofs.YtmclpbcipkdmcaaGreatDoor
