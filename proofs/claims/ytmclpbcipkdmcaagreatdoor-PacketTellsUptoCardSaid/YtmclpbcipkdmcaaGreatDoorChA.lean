/- chans.Over, shown, add, Init, Try, end, now: by value. -/
import Derived.Test.YtmclpbcipkdmcaaGreatDoorChP
import Derived.Test.YtmclpbcipkdmcaaGreatDoorGCo
set_option linter.all false
namespace Go.Proofs.YtmclpbcipkdmcaaGreatDoor
open Go Go.Abs Go.RowKit Go.Proofs.YtmclpbcipkdmcaaGreatDoor.Ty
set_option maxHeartbeats 8000000
set_option maxRecDepth 20000
theorem overch_A (s:StateD) (ok:StOk s) (i:Int):PureD Tryz.prog 64 [.rp (encSt s) 0,intD i] (.tup [connD (overCh s i).1,intD (overCh s i).2]):=by
 refine hide_r fun R hR=>?_
 unfold overCh at hR
 have hl:=ok.lcl
 have hl2:=ok.lcn
 by_cases h:i < 0∨(s.cns.length:Int)≤i
 ·rw [if_pos h] at hR
  clear ok
  refine callD_W 63 Tryz.func64 rfl rfl rfl (fun _ _=>rfl) ?_
  exact wkl trivial
 ·rw [if_neg h] at hR
  have hi:i.toNat < s.cns.length:=by omega
  have s0:=get_lt (f:=encCn) hi
  have hcm:=cnAt_mem (s:=s) (i:=i) (by omega)
  have hcl:=(ok.cns _ hcm.2).cl
  rw [hcm.1] at hR hcl
  clear hcm
  generalize s.cns[i.toNat]=x at *
  by_cases h2:(s.cls.length:Int)≤x.cl
  ·simp only [h2,if_true] at hR
   clear ok hcl
   refine callD_W 63 Tryz.func64 rfl rfl rfl (fun _ _=>rfl) ?_
   exact wkl trivial
  ·simp only [h2,if_false] at hR
   have hc0:0≤x.cl:=hcl.1
   have hj:x.cl.toNat < s.cls.length:=by omega
   have s1:=get_lt (f:=encC) hj
   have hm:=clAt_mem (s:=s) (i:=x.cl) (by omega)
   have c1:=act_A (ok.cls _ hm.2) ok.t
   rw [hm.1] at hR c1
   clear ok hcl hm
   generalize s.cls[x.cl.toNat]=y at *
   generalize activeC y s.t=A at *
   refine callD_W 63 Tryz.func64 rfl rfl rfl (fun _ _=>rfl) ?_
   exact wkl trivial
end Go.Proofs.YtmclpbcipkdmcaaGreatDoor
