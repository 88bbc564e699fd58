/- The law BridgeSides: the walk. -/
import Derived.Test.YtkbbipgjmoanhaaGreatDoorLaw14A
import Derived.Test.YtkbbipgjmoanhaaGreatDoorRSt
set_option linter.all false
set_option maxHeartbeats 16000000
set_option maxRecDepth 20000
namespace Go.Proofs.YtkbbipgjmoanhaaGreatDoor
open Go Go.Abs Go.RowKit Go.Proofs.YtkbbipgjmoanhaaGreatDoor.Ty
theorem Vs (l:List EvD):uni 67 (l.map encEv)=true:=by simp [uni,encEv]
theorem step_side {w:mG} {x:EvD}:(¬ x.side=0->(stepB w x).1.1=w.1)/\(¬ x.side=1->(stepB w x).1.2=w.2):=by
 unfold stepB
 constructor
 ·intro h; rw [if_neg h]; split <;> rfl
 ·intro h; split
  ·rfl
  ·rfl
theorem walk_BridgeSides (y0:I) (l:List EvD) (e0:y0=G_ l/\∀ e∈l,kg e.m) (y1:List I) (x:EvD) (e1:y1=encEv x/\kg x.m) (hb:bkI y0+bkL y1<=1048576) :
  ∃ Ds,PureD Tryz.prog 7 Ds (.i (.s (.bool true)))/\Ds=[.i y0,.agg (y1.map .i)]:=by
 obtain ⟨rfl,h64⟩:=e0
 obtain ⟨rfl,h65⟩:=e1
 refine ⟨_,?_,rfl⟩
 obtain ⟨he,hl⟩:=evs_sm (n:=1048576) (by omega) (by omega) h64
 have hx:=Xh (n:=1048576) (by omega) (by omega) h65
 have he2:∀ e∈l++[x],XX e:=fun e h=>by
  rcases List.mem_append.1 h with h | h
  ·exact he e h
  ·rw [List.mem_singleton.1 h]; exact hx
 clear hb h64 h65
 refine aj fun R hR=>?_
 have c1:=lw
 have c2:=nM l (by omega) he
 have c3:=nM (l++[x]) (by simp; omega) he2
 have m1:l.map encEv++[encEv x]=(l++[x]).map encEv:=by simp
 have m2:l.length+1=(l++[x]).length:=by simp
 have u1:=Vs l
 have a1:l.length<=140737488355328:=by omega
 have a2:l.length * 976<=140737488355328:=by omega
 have a3:(l++[x]).length<=140737488355328:=by simp; omega
 have a4:(l++[x]).length * 976<=140737488355328:=by simp; omega
 unfold G_
 simp only [encEv,bI,valsI,votesI,bbI] at m1
 by_cases h:(120:Int) < l.length
 ·have h2:(120:Int) < (l++[x]).length:=by simp; omega
  rw [if_pos h] at c2
  rw [if_pos h2] at c3
  clear he he2 hx
  generalize l++[x]=L at *
  refine aa 57 Tryz.func7 rfl rfl rfl (fun _ _=>rfl) ?_
  exact wkl trivial
 ·rw [if_neg h] at c2
  by_cases h2:(120:Int) < (l++[x]).length
  ·rw [if_pos h2] at c3
   clear he he2 hx
   generalize l++[x]=L at *
   generalize playB l=W at *
   refine aa 57 Tryz.func7 rfl rfl rfl (fun _ _=>rfl) ?_
   exact wkl trivial
  ·rw [if_neg h2] at c3
   have hw:=uU l begin2_ok (by omega)
   have hr:playB (l++[x])=((stepB (playB l).1 x).1,(playB l).2++[(stepB (playB l).1 x).2]):=kJ x l begin2
   rw [hr] at c3
   obtain ⟨q1,q2⟩:=step_side (w:=(playB l).1) (x:=x)
   have c4:=qO (playB l).1.1.s hw.a.ok.sm
   have c5:=qO (playB l).1.2.s hw.b.ok.sm
   clear he he2 hx hr hw
   generalize (playB l).2++[(stepB (playB l).1 x).2]=ds2 at *
   generalize hv:(stepB (playB l).1 x).1=V at *
   generalize l++[x]=L at *
   generalize playB l=W at *
   obtain ⟨⟨A,B⟩,ds⟩:=W
   obtain ⟨A2,B2⟩:=V
   simp only at q1 q2 c2 c3 c4 c5
   by_cases k0:x.side=0
   ·have k1:¬ x.side=1:=by omega
    obtain rfl:=q2 k1
    clear q1 q2 hv
    simp only [k0] at m1
    refine aa 57 Tryz.func7 rfl rfl rfl (fun _ _=>rfl) ?_
    exact wkl trivial
   ·obtain rfl:=q1 k0
    by_cases k1:x.side=1
    ·clear q1 q2 hv
     simp only [k1] at m1
     refine aa 57 Tryz.func7 rfl rfl rfl (fun _ _=>rfl) ?_
     exact wkl trivial
    ·obtain rfl:=q2 k1
     clear q1 q2 hv
     refine aa 57 Tryz.func7 rfl rfl rfl (fun _ _=>rfl) ?_
     exact wkl trivial
end Go.Proofs.YtkbbipgjmoanhaaGreatDoor
