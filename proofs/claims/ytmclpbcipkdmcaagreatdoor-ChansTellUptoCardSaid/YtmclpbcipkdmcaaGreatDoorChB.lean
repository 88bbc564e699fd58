/- chans.Ack, Confirm, Close, Closed: by value. -/
import Derived.Test.YtmclpbcipkdmcaaGreatDoorChA
set_option linter.all false
namespace Go.Proofs.YtmclpbcipkdmcaaGreatDoor
open Go Go.Abs Go.RowKit Go.Proofs.YtmclpbcipkdmcaaGreatDoor.Ty
set_option maxHeartbeats 8000000
set_option maxRecDepth 20000
theorem ackch_A (s:StateD) (hs:StSm s) (i other:Int) (w:ShownD):PureD Tryz.prog 21 [stateD s,intD i,intD other,shD w] (.tup [stateD (ackCh s i other w).1,intD (ackCh s i other w).2]):=by
 refine hide_r fun R hR=>?_
 have c1:=endch_A s hs i 1
 unfold ackCh at hR
 by_cases h:(endCh s i 1).2.2=0
 ·rw [if_pos h] at hR
  obtain ⟨ok,hi,hst,hov⟩:=endCh_zero.1 h
  rw [endCh_fst h] at c1 hR
  simp only at hR
  by_cases h3:other < 0∨1000000000000 < other
  ·rw [if_pos h3] at hR
   generalize chAt s i=x at *
   generalize cnAt s x.cn=y at *
   clear ok h hs hov
   refine callD_W 51 Tryz.func21 rfl rfl rfl (fun _ _=>rfl) ?_
   exact wkl trivial
  ·rw [if_neg h3] at hR
   have hl:=ok.lch
   obtain ⟨hj,h4,h5,h6,h7⟩:=overCh_zero.1 hov
   have hcn:=ok.cns _ (cnAt_mem hj).2
   have c2:=hshown_A s ok (cnAt s (chAt s i).cn) ⟨hcn.cl.1,h6⟩ other (by unfold N12; omega) ⟨2,(chAt s i).ord,(cnAt s (chAt s i).cn).on,i,0,0,0⟩ (by unfold N12; simp only; omega) w
   have c3:=nowch_A s ok i 3 other hi
   generalize shownHE s (cnAt s (chAt s i).cn) other ⟨2,(chAt s i).ord,(cnAt s (chAt s i).cn).on,i,0,0,0⟩ w=E at *
   generalize nowCh s i 3 other=A at *
   generalize chAt s i=x at *
   generalize cnAt s x.cn=y at *
   clear ok h hs hov h7 hcn
   refine callD_W 51 Tryz.func21 rfl rfl rfl (fun _ _=>rfl) ?_
   exact wkl trivial
 ·rw [if_neg h] at hR
  generalize endCh s i 1=W at *
  clear hs
  refine callD_W 51 Tryz.func21 rfl rfl rfl (fun _ _=>rfl) ?_
  exact wkl trivial
theorem confch_A (s:StateD) (hs:StSm s) (i:Int) (w:ShownD):PureD Tryz.prog 22 [stateD s,intD i,shD w] (.tup [stateD (confCh 2 3 s i w).1,intD (confCh 2 3 s i w).2]):=by
 refine hide_r fun R hR=>?_
 have c1:=endch_A s hs i 2
 unfold confCh at hR
 by_cases h:(endCh s i 2).2.2=0
 ·rw [if_pos h] at hR
  obtain ⟨ok,hi,hst,hov⟩:=endCh_zero.1 h
  rw [endCh_fst h] at c1 hR
  simp only at hR
  have hch:=(ok.chs _ (chAt_mem hi).2).oc
  by_cases h3:(chAt s i).oc < 0
  ·rw [if_pos h3] at hR
   generalize chAt s i=x at *
   generalize cnAt s x.cn=y at *
   clear ok h hs hov
   refine callD_W 51 Tryz.func22 rfl rfl rfl (fun _ _=>rfl) ?_
   exact wkl trivial
  ·rw [if_neg h3] at hR
   have hl:=ok.lch
   obtain ⟨hj,h4,h5,h6,h7⟩:=overCh_zero.1 hov
   have hcn:=ok.cns _ (cnAt_mem hj).2
   have c2:=hshown_A s ok (cnAt s (chAt s i).cn) ⟨hcn.cl.1,h6⟩ (chAt s i).oc (by unfold N12 at *; omega) ⟨3,(chAt s i).ord,(cnAt s (chAt s i).cn).on,i,0,0,0⟩ (by unfold N12; simp only; omega) w
   have c3:=nowch_A s ok i 3 (chAt s i).oc hi
   generalize shownHE s (cnAt s (chAt s i).cn) (chAt s i).oc ⟨3,(chAt s i).ord,(cnAt s (chAt s i).cn).on,i,0,0,0⟩ w=E at *
   generalize nowCh s i 3 (chAt s i).oc=A at *
   generalize chAt s i=x at *
   generalize cnAt s x.cn=y at *
   clear ok h hs hov h7 hcn
   refine callD_W 51 Tryz.func22 rfl rfl rfl (fun _ _=>rfl) ?_
   exact wkl trivial
 ·rw [if_neg h] at hR
  generalize endCh s i 2=W at *
  clear hs
  refine callD_W 51 Tryz.func22 rfl rfl rfl (fun _ _=>rfl) ?_
  exact wkl trivial
theorem closedch_A (s:StateD) (hs:StSm s) (i:Int) (w:ShownD):PureD Tryz.prog 24 [stateD s,intD i,shD w] (.tup [stateD (confCh 3 4 s i w).1,intD (confCh 3 4 s i w).2]):=by
 refine hide_r fun R hR=>?_
 have c1:=endch_A s hs i 3
 unfold confCh at hR
 by_cases h:(endCh s i 3).2.2=0
 ·rw [if_pos h] at hR
  obtain ⟨ok,hi,hst,hov⟩:=endCh_zero.1 h
  rw [endCh_fst h] at c1 hR
  simp only at hR
  have hch:=(ok.chs _ (chAt_mem hi).2).oc
  by_cases h3:(chAt s i).oc < 0
  ·rw [if_pos h3] at hR
   generalize chAt s i=x at *
   generalize cnAt s x.cn=y at *
   clear ok h hs hov
   refine callD_W 51 Tryz.func24 rfl rfl rfl (fun _ _=>rfl) ?_
   exact wkl trivial
  ·rw [if_neg h3] at hR
   have hl:=ok.lch
   obtain ⟨hj,h4,h5,h6,h7⟩:=overCh_zero.1 hov
   have hcn:=ok.cns _ (cnAt_mem hj).2
   have c2:=hshown_A s ok (cnAt s (chAt s i).cn) ⟨hcn.cl.1,h6⟩ (chAt s i).oc (by unfold N12 at *; omega) ⟨4,(chAt s i).ord,(cnAt s (chAt s i).cn).on,i,0,0,0⟩ (by unfold N12; simp only; omega) w
   have c3:=nowch_A s ok i 4 (chAt s i).oc hi
   generalize shownHE s (cnAt s (chAt s i).cn) (chAt s i).oc ⟨4,(chAt s i).ord,(cnAt s (chAt s i).cn).on,i,0,0,0⟩ w=E at *
   generalize nowCh s i 4 (chAt s i).oc=A at *
   generalize chAt s i=x at *
   generalize cnAt s x.cn=y at *
   clear ok h hs hov h7 hcn
   refine callD_W 51 Tryz.func24 rfl rfl rfl (fun _ _=>rfl) ?_
   exact wkl trivial
 ·rw [if_neg h] at hR
  generalize endCh s i 3=W at *
  clear hs
  refine callD_W 51 Tryz.func24 rfl rfl rfl (fun _ _=>rfl) ?_
  exact wkl trivial
theorem closech_A (s:StateD) (hs:StSm s) (i:Int):PureD Tryz.prog 23 [stateD s,intD i] (.tup [stateD (closeCh s i).1,intD (closeCh s i).2]):=by
 refine hide_r fun R hR=>?_
 have c1:=endch_A s hs i 3
 unfold closeCh at hR
 by_cases h:(endCh s i 3).2.2=0
 ·rw [if_pos h] at hR
  obtain ⟨ok,hi,hst,hov⟩:=endCh_zero.1 h
  rw [endCh_fst h] at c1
  have c3:=nowch_A s ok i 4 (chAt s i).oc hi
  generalize nowCh s i 4 (chAt s i).oc=A at *
  generalize chAt s i=x at *
  generalize cnAt s x.cn=y at *
  clear ok h hs hov
  refine callD_W 24 Tryz.func23 rfl rfl rfl (fun _ _=>rfl) ?_
  exact wkl trivial
 ·rw [if_neg h] at hR
  generalize endCh s i 3=W at *
  clear hs
  refine callD_W 24 Tryz.func23 rfl rfl rfl (fun _ _=>rfl) ?_
  exact wkl trivial
end Go.Proofs.YtmclpbcipkdmcaaGreatDoor
