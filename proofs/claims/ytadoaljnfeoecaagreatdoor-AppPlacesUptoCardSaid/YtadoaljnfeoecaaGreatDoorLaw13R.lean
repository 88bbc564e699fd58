/- landref10.SamePacket, SameDone of a thing with itself; the law AppRefused: the walk. -/
import Derived.Test.YtadoaljnfeoecaaGreatDoorLaw13L
import Derived.Test.YtadoaljnfeoecaaGreatDoorDecMsg
set_option linter.all false
namespace Go.Proofs.YtadoaljnfeoecaaGreatDoor
open Go Go.Abs Go.RowKit Go.Proofs.YtadoaljnfeoecaaGreatDoor.Ty
set_option maxHeartbeats 16000000
set_option maxRecDepth 20000
theorem samepk_A (p:PackD):PureD Tryz.prog 31 [packD p,packD p] (boolD true):=by
 refine hide_r fun R hR=>?_
 refine callD_W 40 Tryz.func31 rfl rfl rfl (fun _ _=>rfl) ?_
 exact wkl trivial
theorem samedone_A (d:DoneD):PureD Tryz.prog 11 [doneD d,doneD d] (boolD true):=by
 refine hide_r fun R hR=>?_
 have c1:=samepk_A d.pk
 refine callD_W 24 Tryz.func11 rfl rfl rfl (fun _ _=>rfl) ?_
 exact wkl trivial
theorem walk_AppRefused (y0:List I) (s:StateD) (e0:y0=encSt s∧∀ p∈s.pus,p.n < 18446744073709551616) (y1:List I) (m:MsgD) (e1:y1=encMsg m∧Val64s m) (hb:bkL y0+bkL y1≤1048576) :
  ∃ Ds,PureD Tryz.prog 3 Ds (.i (.s (.bool true)))∧Ds=[.agg (y0.map .i),.agg (y1.map .i)]:=by
 obtain ⟨rfl,h64⟩:=e0
 obtain ⟨rfl,h65⟩:=e1
 refine ⟨_,?_,rfl⟩
 rw [st_agg,msg_agg]
 have hs:=st_sm (s:=s) (n:=1048576) (by omega) (by omega)
 have hm:=msg_sm (m:=m) (n:=1048576) (by omega) (by omega) h65
 clear hb h65
 refine hide_r fun R hR=>?_
 have c1:=alive13_A
 have c2:=swrong_A s hs
 have c3:=apdo_A s hs h64 m hm
 by_cases h:wrongS s=0
 ·rw [h] at c2
  by_cases e:(doS s m).2.err=0
  ·have hst:=doS_step h64 e
   have c4:=swrong_A _ hst.ok.sm
   rw [wrongS_zero.2 hst.ok] at c4
   have n1:=hst.nm
   have n2:=hst.hh
   have n3:=hst.tt
   clear hst h hs hm h64
   generalize doS s m=X at *
   refine callD_W 73 Tryz.func3 rfl rfl rfl (fun _ _=>rfl) ?_
   exact wkl trivial
  ·have he:doS s m=(s,dE (doS0 s m).2.err)∧¬ (doS0 s m).2.err=0:=by
    unfold doS at e ⊢
    rw [if_pos h] at e ⊢
    split at e
    ·rename_i k; exact absurd k e
    ·rename_i k; rw [if_neg k]; exact ⟨rfl,k⟩
   obtain ⟨e1,e2⟩:=he
   rw [e1] at c3
   have c4:=rsameS_A s hs
   have c5:=samedone_A (dE (doS0 s m).2.err)
   generalize (doS0 s m).2.err=E at *
   clear e e1 h hs hm h64
   refine callD_W 73 Tryz.func3 rfl rfl rfl (fun _ _=>rfl) ?_
   exact wkl trivial
 ·have e:doS s m=(zeroSt,dE (wrongS s)):=by unfold doS; rw [if_neg h]
  rw [e] at c3
  have c4:=rsameS_A zeroSt zero_sm
  generalize wrongS s=W at *
  clear hs e hm h64
  refine callD_W 73 Tryz.func3 rfl rfl rfl (fun _ _=>rfl) ?_
  exact wkl trivial
end Go.Proofs.YtadoaljnfeoecaaGreatDoor
