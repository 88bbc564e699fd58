/- Merged texts: R9A, R9B, R9C. -/
import Derived.Test.YtmclpbcipkdmcaaGreatDoorGRW
import Derived.Test.YtmclpbcipkdmcaaGreatDoorGR8
import Derived.Test.YtmclpbcipkdmcaaGreatDoorRClM
import Derived.Test.YtmclpbcipkdmcaaGreatDoorGCo
set_option linter.all false
namespace Go.Proofs.YtmclpbcipkdmcaaGreatDoor
open Go Go.Abs Go.RowKit Go.Proofs.YtmclpbcipkdmcaaGreatDoor.Ty
set_option maxHeartbeats 8000000
set_option maxRecDepth 20000
theorem rcopy_D (s:StateD) (hs:StSm s):CallD Tryz.prog 50 [stateD s] noH
  (.agg [.i (.s (.string s.name)),.i (.s (.int .i64 s.h)),.i (.s (.int .i64 s.t)),.os 1 4 0 s.cls.length,.os 2 4 0 s.cns.length,.os 3 7 0 s.chs.length,.i (.sl (s.sent.map encM)),.i (.sl (s.got.map encM)),.i (.sl (s.acks.map encM)),.os 4 3 0 s.pus.length])
  (hOf noH [(1,.arr 4 (s.cls.map encC)),(2,.arr 4 (s.cns.map encCn)),(3,.arr 7 (s.chs.map encCh)),(4,.arr 3 (s.pus.map encPu))]):=by
 refine hide_c fun R R' hR hR'=>?_
 have l1:=hs.cls
 have l2:=hs.cns
 have l3:=hs.chs
 have l7:=hs.pus
 have u1:uni 4 (s.cls.map encC)=true:=by simp [uni,encC]
 have u2:uni 4 (s.cns.map encCn)=true:=by simp [uni,encCn]
 have u3:uni 7 (s.chs.map encCh)=true:=by simp [uni,encCh]
 have u4:uni 3 (s.pus.map encPu)=true:=by simp [uni,encPu]
 have a1:s.cls.length≤140737488355328:=by omega
 have a2:s.cns.length≤140737488355328:=by omega
 have a3:s.chs.length≤140737488355328:=by omega
 have a4:s.pus.length≤140737488355328:=by omega
 have b1:s.cls.length * 56≤140737488355328:=by omega
 have b2:s.cns.length * 32≤140737488355328:=by omega
 have b3:s.chs.length * 56≤140737488355328:=by omega
 have b4:s.pus.length * 40≤140737488355328:=by omega
 clear hs
 have d1:SrcIs [] [(1,1259),(2,1515),(3,1771),(4,2027)]:=⟨trivial⟩
 obtain ⟨rfl⟩:=hR'
 refine callD_W 24 Tryz.func50 rfl rfl rfl (fun _ _=>rfl) ?_
 exact wkl trivial
theorem rlive_A (s:StateD) (ok:StOk s) (c:Int):PureD Tryz.prog 47 [stateD s,intD c] (intD (overE s c)):=by
 refine hide_r fun R hR=>?_
 unfold overE at hR
 have hl:=ok.lcl
 by_cases h:c < 0∨(s.cls.length:Int)≤c
 ·rw [if_pos h] at hR
  clear ok
  refine callD_W 23 Tryz.func47 rfl rfl rfl (fun _ _=>rfl) ?_
  exact wkl trivial
 ·have hi:c.toNat < s.cls.length:=by omega
  have s0:=get_lt (f:=encC) hi
  have c1:=ractC_A (ok.cls _ (List.getElem_mem hi)) ok.t
  rw [if_neg h,(clAt_mem (s:=s) (i:=c) (by omega)).1] at hR
  clear ok
  generalize s.cls[c.toNat]=x at *
  generalize activeC x s.t=A at *
  refine callD_W 23 Tryz.func47 rfl rfl rfl (fun _ _=>rfl) ?_
  exact wkl trivial
theorem rthere_A (s:StateD) (ok:StOk s) (c:Int) (hc:0≤c∧c < (s.cls.length:Int)) (K V:List UInt8) (w:ShownD) (h1:w.p.k.length≤1048576) (h2:w.p.v.length≤1048576) :
  PureD Tryz.prog 49 [stateD s,intD c,.i (bI K),.i (bI V),shD w] (intD (memberE (clAt s c) s.t w.h K V w.p)):=by
 refine hide_r fun R hR=>?_
 have hl:=ok.lcl
 have hi:c.toNat < s.cls.length:=by omega
 have s0:=get_lt (f:=encC) hi
 have c1:=rmember_A (clAt s c) s.t w.h K V w.p (by have:=(ok.cls _ (clAt_mem hc).2).len; omega) h1 h2
 rw [(clAt_mem hc).1] at hR c1
 clear ok h1 h2
 generalize s.cls[c.toNat]=x at *
 generalize memberE x s.t w.h K V w.p=M at *
 refine callD_W 25 Tryz.func49 rfl rfl rfl (fun _ _=>rfl) ?_
 exact wkl trivial
end Go.Proofs.YtmclpbcipkdmcaaGreatDoor
set_option linter.all false
namespace Go.Proofs.YtmclpbcipkdmcaaGreatDoor
open Go Go.Abs Go.RowKit Go.Proofs.YtmclpbcipkdmcaaGreatDoor.Ty
set_option maxHeartbeats 16000000
set_option maxRecDepth 20000
theorem nm_no {n:Int} (h:n < 0∨1000000000000 < n):nm n 0=false:=by unfold nm; exact decide_eq_false (by omega)
theorem nm_yes {n:Int} (h:¬ (n < 0∨1000000000000 < n)):nm n 0=true:=by unfold nm; exact decide_eq_true (by omega)
end Go.Proofs.YtmclpbcipkdmcaaGreatDoor
set_option linter.all false
namespace Go.Proofs.YtmclpbcipkdmcaaGreatDoor
open Go Go.Abs Go.RowKit Go.Proofs.YtmclpbcipkdmcaaGreatDoor.Ty
set_option maxHeartbeats 16000000
set_option maxRecDepth 20000
end Go.Proofs.YtmclpbcipkdmcaaGreatDoor
