/- The law AppLate: the walk. -/
import Derived.Test.YtadoaljnfeoecaaGreatDoorGAp
import Derived.Test.YtadoaljnfeoecaaGreatDoorRSt
import Derived.Test.YtadoaljnfeoecaaGreatDoorDecSt
set_option linter.all false
namespace Go.Proofs.YtadoaljnfeoecaaGreatDoor
open Go Go.Abs Go.RowKit Go.Proofs.YtadoaljnfeoecaaGreatDoor.Ty
set_option maxHeartbeats 16000000
set_option maxRecDepth 20000
theorem zero_sm:StSm zeroSt:=⟨by decide,by simp,by decide,by decide,by decide,by decide,by decide,by simp,by decide⟩
theorem walk_AppLate (y0:List I) (s:StateD) (e0:y0=encSt s∧∀ p∈s.pus,p.n < 18446744073709551616) (y1:I) (later:Int) (e1:y1=.s (.int .i64 later)∧(Lit.int .i64 later).wf=true) (hb:bkL y0+bkI y1≤1048576) :
  ∃ Ds,PureD Tryz.prog 6 Ds (.i (.s (.bool true)))∧Ds=[.agg (y0.map .i),.i y1]:=by
 obtain ⟨rfl,_⟩:=e0
 obtain ⟨rfl,_⟩:=e1
 refine ⟨_,?_,rfl⟩
 rw [st_agg]
 have hs:=st_sm (s:=s) (n:=1048576) (by omega) (by omega)
 clear hb
 refine hide_r fun R hR=>?_
 have c1:=alive13_A
 have c2:=apnext_A s hs later
 by_cases h:wrongS s=0
 ·have ok:=wrongS_zero.1 h
  have hh:=ok.h
  have ht:=ok.t
  unfold N12 at hh ht
  unfold nextS at c2
  rw [if_pos h] at c2
  by_cases h2:later < 1∨1000000000000 < later∨1000000000000 < s.t+later∨s.h=1000000000000
  ·rw [if_pos h2] at c2
   have c3:=rsameS_A zeroSt zero_sm
   clear hs h ok hh ht h2
   refine callD_W 48 Tryz.func6 rfl rfl rfl (fun _ _=>rfl) ?_
   exact wkl trivial
  ·rw [if_neg h2] at c2
   have c3:=rsameS_A s hs
   have w1:IntKind.i64.wrap (s.t+later)=s.t+later:=wrap64 (by omega) (by omega)
   have w2:IntKind.i64.wrap (s.h+1)=s.h+1:=wrap64 (by omega) (by omega)
   clear hs h ok
   refine callD_W 48 Tryz.func6 rfl rfl rfl (fun _ _=>rfl) ?_
   exact wkl trivial
 ·have e:nextS s later=(zeroSt,wrongS s):=by unfold nextS; rw [if_neg h]
  rw [e] at c2
  have c3:=rsameS_A zeroSt zero_sm
  generalize wrongS s=W at *
  clear hs e
  refine callD_W 48 Tryz.func6 rfl rfl rfl (fun _ _=>rfl) ?_
  exact wkl trivial
end Go.Proofs.YtadoaljnfeoecaaGreatDoor
