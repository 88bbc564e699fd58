/- The law AppPlaces: the walk. -/
import Derived.Test.YtadoaljnfeoecaaGreatDoorLaw13R
set_option linter.all false
namespace Go.Proofs.YtadoaljnfeoecaaGreatDoor
open Go Go.Abs Go.RowKit Go.Proofs.YtadoaljnfeoecaaGreatDoor.Ty
set_option maxHeartbeats 16000000
set_option maxRecDepth 20000
theorem walk_AppPlaces (y0:List I) (s:StateD) (e0:y0=encSt s∧∀ p∈s.pus,p.n < 18446744073709551616) (y1:List I) (m:MsgD) (e1:y1=encMsg m∧Val64s m) (hb:bkL y0+bkL y1≤1048576) :
  ∃ Ds,PureD Tryz.prog 5 Ds (.i (.s (.bool true)))∧Ds=[.agg (y0.map .i),.agg (y1.map .i)]:=by
 obtain ⟨rfl,h64⟩:=e0
 obtain ⟨rfl,h65⟩:=e1
 refine ⟨_,?_,rfl⟩
 rw [st_agg,msg_agg]
 have hs:=st_sm (s:=s) (n:=1048576) (by omega) (by omega)
 have hm:=msg_sm (m:=m) (n:=1048576) (by omega) (by omega) h65
 clear hb h65
 refine hide_r fun R hR=>?_
 have c1:=alive13_A
 have c3:=apdo_A s hs h64 m hm
 have c4:=rsameS_A s hs
 by_cases e:(doS s m).2.err=0
 ·have hp:=(doS_step h64 e).place
  clear hs hm h64
  generalize doS s m=X at *
  obtain ⟨t,d⟩:=X
  by_cases k1:m.kind≤3
  ·rw [if_pos k1] at hp
   have ht:t={ s with cls:=t.cls }:=by cases t; cases s; simp only [StateD.mk.injEq] at hp ⊢; simp [hp]
   rw [ht] at c3
   clear ht hp
   generalize t.cls=K0 at *
   refine callD_W 64 Tryz.func5 rfl rfl rfl (fun _ _=>rfl) ?_
   exact wkl trivial
  ·rw [if_neg k1] at hp
   by_cases k2:m.kind≤7
   ·rw [if_pos k2] at hp
    have ht:t={ s with cns:=t.cns }:=by cases t; cases s; simp only [StateD.mk.injEq] at hp ⊢; simp [hp]
    rw [ht] at c3
    clear ht hp
    generalize t.cns=K0 at *
    refine callD_W 64 Tryz.func5 rfl rfl rfl (fun _ _=>rfl) ?_
    exact wkl trivial
   ·rw [if_neg k2] at hp
    by_cases k3:m.kind≤13
    ·rw [if_pos k3] at hp
     have ht:t={ s with chs:=t.chs }:=by cases t; cases s; simp only [StateD.mk.injEq] at hp ⊢; simp [hp]
     rw [ht] at c3
     clear ht hp
     generalize t.chs=K0 at *
     refine callD_W 64 Tryz.func5 rfl rfl rfl (fun _ _=>rfl) ?_
     exact wkl trivial
    ·rw [if_neg k3] at hp
     by_cases k4:m.kind=18
     ·rw [if_pos k4] at hp
      have ht:t={ s with pus:=t.pus }:=by cases t; cases s; simp only [StateD.mk.injEq] at hp ⊢; simp [hp]
      rw [ht] at c3
      clear ht hp
      generalize t.pus=K0 at *
      refine callD_W 64 Tryz.func5 rfl rfl rfl (fun _ _=>rfl) ?_
      exact wkl trivial
     ·rw [if_neg k4] at hp
      have ht:t={ s with chs:=t.chs,sent:=t.sent,got:=t.got,acks:=t.acks,pus:=t.pus }:=by cases t; cases s; simp only [StateD.mk.injEq] at hp ⊢; simp [hp]
      rw [ht] at c3
      clear ht hp
      generalize t.chs=K0 at *
      generalize t.sent=K1 at *
      generalize t.got=K2 at *
      generalize t.acks=K3 at *
      generalize t.pus=K4 at *
      refine callD_W 64 Tryz.func5 rfl rfl rfl (fun _ _=>rfl) ?_
      exact wkl trivial
 ·clear hs hm h64
  generalize doS s m=X at *
  refine callD_W 64 Tryz.func5 rfl rfl rfl (fun _ _=>rfl) ?_
  exact wkl trivial
end Go.Proofs.YtadoaljnfeoecaaGreatDoor
