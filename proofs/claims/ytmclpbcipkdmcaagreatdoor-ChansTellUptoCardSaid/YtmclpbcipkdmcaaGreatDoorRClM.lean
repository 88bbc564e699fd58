/- landref7.Member, Missing: by value. -/
import Derived.Test.YtmclpbcipkdmcaaGreatDoorRClA
import Derived.Test.YtmclpbcipkdmcaaGreatDoorGCl
import Derived.Test.YtmclpbcipkdmcaaGreatDoorRefF
set_option linter.all false
namespace Go.Proofs.YtmclpbcipkdmcaaGreatDoor
open Go Go.Abs Go.RowKit Go.Proofs.YtmclpbcipkdmcaaGreatDoor.Ty
set_option maxHeartbeats 4000000
set_option maxRecDepth 20000
theorem rmember_A (c:ClientD) (now h:Int) (key val:List UInt8) (p:ProofD) (hl:c.known.length≤1048576) (h1:p.k.length≤1048576) (h2:p.v.length≤1048576) :
  PureD Tryz.prog 15 [clientD c,intD now,intD h,.i (bI key),.i (bI val),proofD p] (intD (memberE c now h key val p)):=by
 refine hide_r fun R hR=>?_
 have c1:=raskedC_A c now hl
 unfold memberE at hR
 by_cases g1:askedE c now=0
 ·obtain ⟨ok,hn,hfz⟩:=asked_zero.1 g1
  rw [if_pos g1] at hR
  rw [g1] at c1
  have c2:=ratC_A c h hl
  have c3:=ractC_A ok hn
  have c4:=same_A p.k key (by omega)
  have c5:=same_A p.v val (by omega)
  unfold atR at c2
  cases e2:atC c h with
  | none =>
   rw [e2] at c2 hR
   simp only [zeroK] at c2
   clear e2 g1 ok hn hfz hl
   refine callD_W 50 Tryz.func15 rfl rfl rfl (fun _ _=>rfl) ?_
   exact wkl trivial
  | some k =>
   rw [e2] at c2 hR
   simp only at c2 hR
   have hk:=(ok.k k (at_mem e2).1).r
   have c6:=rshown_A k.root p (by omega)
   clear e2 g1 ok hn hfz hl hk
   generalize activeC c now=A at *
   generalize shownF k.root p=B at *
   by_cases m1:p.k=key <;> by_cases m2:p.v=val <;> simp only [m1,m2,true_and,false_and,decide_true,decide_false,if_false] at hR c4 c5
   all_goals
    refine callD_W 50 Tryz.func15 rfl rfl rfl (fun _ _=>rfl) ?_
    exact wkl trivial
 ·rw [if_neg g1] at hR
  generalize askedE c now=W at *
  refine callD_W 50 Tryz.func15 rfl rfl rfl (fun _ _=>rfl) ?_
  exact wkl trivial
theorem rmissing_A (c:ClientD) (now h:Int) (key:List UInt8) (g:GapD) (hl:c.known.length≤1048576) (h1:key.length≤1048576) :
  PureD Tryz.prog 115 [clientD c,intD now,intD h,.i (bI key),gapD g] (intD (missingE c now h key g)):=by
 refine hide_r fun R hR=>?_
 have c1:=raskedC_A c now hl
 unfold missingE at hR
 by_cases g1:askedE c now=0
 ·obtain ⟨ok,hn,hfz⟩:=asked_zero.1 g1
  rw [if_pos g1] at hR
  rw [g1] at c1
  have c2:=ratC_A c h hl
  have c3:=ractC_A ok hn
  unfold atR at c2
  cases e2:atC c h with
  | none =>
   rw [e2] at c2 hR
   simp only [zeroK] at c2
   clear e2 g1 ok hn hfz hl
   refine callD_W 37 Tryz.func115 rfl rfl rfl (fun _ _=>rfl) ?_
   exact wkl trivial
  | some k =>
   rw [e2] at c2 hR
   simp only at c2 hR
   have hk:=(ok.k k (at_mem e2).1).r
   have c6:=rabsent_A k.root key g (by omega) h1
   clear e2 g1 ok hn hfz hl hk
   generalize activeC c now=A at *
   generalize absentF k.root key g=B at *
   refine callD_W 37 Tryz.func115 rfl rfl rfl (fun _ _=>rfl) ?_
   exact wkl trivial
 ·rw [if_neg g1] at hR
  generalize askedE c now=W at *
  refine callD_W 37 Tryz.func115 rfl rfl rfl (fun _ _=>rfl) ?_
  exact wkl trivial
end Go.Proofs.YtmclpbcipkdmcaaGreatDoor
