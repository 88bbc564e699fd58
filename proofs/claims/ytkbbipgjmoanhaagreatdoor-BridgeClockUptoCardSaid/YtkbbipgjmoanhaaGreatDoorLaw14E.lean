/- The law BridgeClock: the walk. -/
import Derived.Test.YtkbbipgjmoanhaaGreatDoorLaw14A
set_option linter.all false
set_option maxHeartbeats 16000000
set_option maxRecDepth 20000
namespace Go.Proofs.YtkbbipgjmoanhaaGreatDoor
open Go Go.Abs Go.RowKit Go.Proofs.YtkbbipgjmoanhaaGreatDoor.Ty
def Zo (w:mG):List D:=[.i (.s (.string w.1.s.name)),.i (.s (.int .i64 w.1.s.h)),.i (.s (.int .i64 w.1.s.t)),.i (.sl (w.1.s.cls.map fM)),.i (.sl (w.1.s.cns.map dA)),.i (.sl (w.1.s.chs.map bu)),.i (.sl (w.1.s.sent.map bq)),.i (.sl (w.1.s.got.map bq)),.i (.sl (w.1.s.acks.map bq)),.i (.sl (w.1.s.pus.map aV)),
 .i (.s (.string w.2.s.name)),.i (.s (.int .i64 w.2.s.h)),.i (.s (.int .i64 w.2.s.t)),.i (.sl (w.2.s.cls.map fM)),.i (.sl (w.2.s.cns.map dA)),.i (.sl (w.2.s.chs.map bu)),.i (.sl (w.2.s.sent.map bq)),.i (.sl (w.2.s.got.map bq)),.i (.sl (w.2.s.acks.map bq)),.i (.sl (w.2.s.pus.map aV))]
attribute [local simp,local go_sem] Zo
theorem step_no {w:mG} {n:Nat} (hw:uz w n) {e:EvD} (h:¬ (e.kind=1/\(stepB w e).2.err=0)):(stepB w e).1.1.s.h=w.1.s.h/\(stepB w e).1.1.s.t=w.1.s.t/\(stepB w e).1.2.s.h=w.2.s.h/\(stepB w e).1.2.s.t=w.2.s.t:=by
 by_cases k0:e.side=0
 ·rw [wF k0] at h ⊢
  obtain ⟨a,b,_⟩:=one_ht (o:=w.2) hw.a e h
  exact ⟨a,b,rfl,rfl⟩
 ·by_cases k1:e.side=1
  ·rw [zm k1] at h ⊢
   obtain ⟨a,b,_⟩:=one_ht (o:=w.1) hw.b e h
   exact ⟨rfl,rfl,a,b⟩
  ·rw [Rz k0 k1]; exact ⟨rfl,rfl,rfl,rfl⟩
theorem walk_BridgeClock (y0:I) (l:List EvD) (e0:y0=G_ l/\∀ e∈l,kg e.m) (hb:bkI y0<=1048576) :
  ∃ Ds,PureD Tryz.prog 3 Ds (.i (.s (.bool true)))/\Ds=[.i y0]:=by
 obtain ⟨rfl,h64⟩:=e0
 refine ⟨_,?_,rfl⟩
 obtain ⟨he,hl⟩:=evs_sm (n:=1048576) hb (by omega) h64
 clear hb h64
 refine aj fun R hR=>?_
 have c1:=lw
 have c2:=nM l (by omega) he
 unfold G_
 by_cases h:(120:Int) < l.length
 ·rw [if_pos h] at c2
  clear he
  refine aa 98 Tryz.func3 rfl rfl rfl (fun _ _=>rfl) ?_
  exact wkl trivial
 ·rw [if_neg h] at c2
  have d1:(playB l).2.length=l.length:=jb l begin2
  have d2:∀ i (hi:i < l.length),(playB l).2[i]?=some (stepB (eG begin2 (l.take i)).1 l[i]).2:=fun i hi=>(Iy hi begin2).2
  have d3:∀ i (hi:i < l.length),(eG begin2 (l.take (i+1))).1=(stepB (eG begin2 (l.take i)).1 l[i]).1:=fun i hi=>(Iy hi begin2).1
  have hok:∀ i,i<=l.length->uz (eG begin2 (l.take i)).1 i/\Vj (eG begin2 (l.take i)).1:=fun i hi=>by
   have h1:=uU (l.take i) begin2_ok (by simp; omega)
   have h2:=Qx (l.take i) Me begin2_ok (by simp; omega)
   rw [List.length_take,Nat.min_eq_left hi,Nat.zero_add] at h1
   exact ⟨h1,h2⟩
  have hlast:(eG begin2 (l.take l.length)).1=(playB l).1:=by rw [List.take_length]; rfl
  clear he
  generalize playB l=W at *
  obtain ⟨⟨A,B⟩,da⟩:=W
  simp only at c2 d1 d2 hlast
  refine aa 98 Tryz.func3 rfl rfl rfl (fun _ _=>rfl) ?_
  refine wkl ?_
  clear hR; intro hR
  repeat' (intro _)
  clear c1 c2
  refine aT (ι:=Nat) (fun i=>i<=l.length) (fun i=>dW [(3,.pt 100 0 0 0),(4,.i (.sl (da.map eT))),(6,.pt 101 0 0 0),(7,.pt 102 0 0 0),(22,.i (.sl (l.map encEv))),(23,intD l.length),(24,intD i)]
   [(100,.box (Zo (A,B))),(101,.box [.i (.s (.int .i64 (eG begin2 (l.take i)).1.1.s.h)),.i (.s (.int .i64 (eG begin2 (l.take i)).1.2.s.h))]),(102,.box [.i (.s (.int .i64 (eG begin2 (l.take i)).1.1.s.t)),.i (.s (.int .i64 (eG begin2 (l.take i)).1.2.s.t))])]) (fun i=>l.length - i) 0 (Nat.zero_le _) ?_ ?_
  ·have z1:(eG begin2 (l.take 0)).1.1.s.h=1:=rfl
   have z2:(eG begin2 (l.take 0)).1.2.s.h=1:=rfl
   have z3:(eG begin2 (l.take 0)).1.1.s.t=1:=rfl
   have z4:(eG begin2 (l.take 0)).1.2.s.t=1:=rfl
   simp only [z1,z2,z3,z4]
   exact dF [] [(100,1774),(101,2538),(102,2539)]
  ·rintro i hi RL hL
   rw [au]
   by_cases h2:i < l.length
   ·obtain ⟨hw,hh⟩:=hok i hi
    have s0:=get_lt (f:=encEv) h2
    have k1:i < da.length:=by omega
    have hd:=d2 i h2
    rw [List.getElem?_eq_getElem k1] at hd
    injection hd with hd
    have s1:=get_lt (f:=eT) k1
    have hL2:=fun σ'=>hL (i+1) σ' h2
    rw [d3 i h2] at hL2
    have hi120:i < 120:=by omega
    clear hL d2 d3 hok hlast
    generalize (eG begin2 (l.take i)).1=V at *
    generalize hee:l[i]=e at *
    generalize da[i]=dd at *
    have ba:=hw.a.ok.h
    have bb:=hw.b.ok.h
    have ta:=hw.a.ok.t
    have tb:=hw.b.ok.t
    unfold N12 at ba bb ta tb
    by_cases kb:e.kind=1/\dd.err=0
    ·obtain ⟨kk,ke⟩:=kb
     by_cases k0:e.side=0
     ·rw [wF k0] at hd hL2
      simp only at hd hL2
      subst hd
      have hst:=Ez (o:=V.2) hw.a (by have:=hw.la; omega) e
      obtain ⟨p1,p2,p3,p4,p5⟩:=one_block (o:=V.2) kk ke
      have hB:=hst.ok.h
      have hT:=hst.ok.t
      unfold N12 at hB hT
      rw [p1] at hB
      rw [p2] at hT
      rw [p1,p2] at hL2
      have hnum:=hh.a
      rw [<- p4] at hnum
      have w1:IntKind.i64.wrap (V.1.s.h+1)=V.1.s.h+1:=ay (by omega) (by omega)
      have w2:IntKind.i64.wrap (V.1.s.t+e.later)=V.1.s.t+e.later:=ay (by omega) (by omega)
      have w3:IntKind.i64.wrap (V.1.s.h+1 - 1)=(fB V.1 V.2 e).2.num:=by rw [ay (by omega) (by omega)]; omega
      have b1:=fun σ'=>bk [] [(100,100),(101,101),(102,102)] (hL2 σ')
      clear hL2 hw hh hst p1 p2 p3 p4 p5 hnum hee
      generalize (fB V.1 V.2 e).2=q at *
      exact wkl trivial
     ·have k1':e.side=1:=by
       refine Classical.byContradiction fun k1=>?_
       rw [Rz k0 k1] at hd
       rw [hd] at ke; exact absurd ke (show ¬ (1:Int)=0 by decide)
      rw [zm k1'] at hd hL2
      simp only at hd hL2
      subst hd
      have hst:=Ez (o:=V.1) hw.b (by have:=hw.lb; omega) e
      obtain ⟨p1,p2,p3,p4,p5⟩:=one_block (o:=V.1) kk ke
      have hB:=hst.ok.h
      have hT:=hst.ok.t
      unfold N12 at hB hT
      rw [p1] at hB
      rw [p2] at hT
      rw [p1,p2] at hL2
      have hnum:=hh.b
      rw [<- p4] at hnum
      have w1:IntKind.i64.wrap (V.2.s.h+1)=V.2.s.h+1:=ay (by omega) (by omega)
      have w2:IntKind.i64.wrap (V.2.s.t+e.later)=V.2.s.t+e.later:=ay (by omega) (by omega)
      have w3:IntKind.i64.wrap (V.2.s.h+1 - 1)=(fB V.2 V.1 e).2.num:=by rw [ay (by omega) (by omega)]; omega
      have b1:=fun σ'=>bk [] [(100,100),(101,101),(102,102)] (hL2 σ')
      clear hL2 hw hh hst p1 p2 p3 p4 p5 hnum hee
      generalize (fB V.2 V.1 e).2=q at *
      exact wkl trivial
    ·have hn:¬ (e.kind=1/\(stepB V e).2.err=0):=by rw [<- hd]; exact kb
     obtain ⟨p1,p2,p3,p4⟩:=step_no hw hn
     rw [p1,p2,p3,p4] at hL2
     have b1:=fun σ'=>bk [] [(100,100),(101,101),(102,102)] (hL2 σ')
     clear hL2 hw hh p1 p2 p3 p4 hn hd hee
     by_cases kk:e.kind=1
     ·have ke:¬ dd.err=0:=fun q=>kb ⟨kk,q⟩
      clear kb
      exact wkl trivial
     ·clear kb
      exact wkl trivial
   ·have hi2:i=l.length:=by omega
    subst hi2
    rw [hlast]
    clear hL d2 d3 hok hlast
    exact wkl trivial
end Go.Proofs.YtkbbipgjmoanhaaGreatDoor
