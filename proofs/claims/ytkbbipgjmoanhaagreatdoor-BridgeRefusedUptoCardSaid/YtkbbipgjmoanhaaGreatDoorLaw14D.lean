/- The law BridgeRefused: the walk. -/
import Derived.Test.YtkbbipgjmoanhaaGreatDoorLaw14A
import Derived.Test.YtkbbipgjmoanhaaGreatDoorRSt
set_option linter.all false
set_option maxHeartbeats 16000000
set_option maxRecDepth 20000
namespace Go.Proofs.YtkbbipgjmoanhaaGreatDoor
open Go Go.Abs Go.RowKit Go.Proofs.YtkbbipgjmoanhaaGreatDoor.Ty
theorem xN {x:EvD}:∀ {l:List EvD} {w:mG},x∈cZ w l->x∈l
 | [],_,h=>h
 | e :: t,w,h=>by
  simp only [cZ] at h
  split at h
  ·rcases List.mem_cons.1 h with rfl | h
   ·exact List.mem_cons_self ..
   ·exact List.mem_cons_of_mem _ (xN h)
  ·exact List.mem_cons_of_mem _ (xN h)
theorem Rs (l:List EvD):uni 67 (l.map encEv)=true:=by simp [uni,encEv]
theorem walk_BridgeRefused (y0:I) (l:List EvD) (e0:y0=G_ l/\∀ e∈l,kg e.m) (hb:bkI y0<=1048576) :
  ∃ Ds,PureD Tryz.prog 5 Ds (.i (.s (.bool true)))/\Ds=[.i y0]:=by
 obtain ⟨rfl,h64⟩:=e0
 refine ⟨_,?_,rfl⟩
 obtain ⟨he,hl⟩:=evs_sm (n:=1048576) hb (by omega) h64
 clear hb h64
 refine aj fun R hR=>?_
 have c1:=lw
 have c2:=nM l (by omega) he
 unfold G_
 by_cases h:(120:Int) < l.length
 ·rw [if_pos h] at c2
  clear he
  refine aa 84 Tryz.func5 rfl rfl rfl (fun _ _=>rfl) ?_
  exact wkl trivial
 ·rw [if_neg h] at c2
  have hlen:=xO begin2 l
  have c3:=nM (cZ begin2 l) (by omega) (fun e h=>he e (xN h))
  rw [if_neg (by omega)] at c3
  have hw:=uU l begin2_ok (by omega)
  obtain ⟨g1,g2⟩:=good_run l begin2
  have c4:=qO (playB l).1.1.s hw.a.ok.sm
  have c5:=qO (playB l).1.2.s hw.b.ok.sm
  rw [show (playB (cZ begin2 l)).1=(playB l).1 from g1] at c3
  have d1:(playB l).2.length=l.length:=jb l begin2
  have d2:∀ i (hi:i < l.length),(playB l).2[i]?=some (stepB (eG begin2 (l.take i)).1 l[i]).2:=fun i hi=>(Iy hi begin2).2
  have d3:=fun i (hi:i < l.length)=>Kh (w:=begin2) hi
  have hgl:∀ i,(cZ begin2 (l.take i)).length<=120:=fun i=>by
   have:=xO begin2 (l.take i)
   have h2:(l.take i).length<=l.length:=by simp; omega
   omega
  have d4:(playB (cZ begin2 l)).2.length<=120:=by rw [show (playB (cZ begin2 l)).2.length=(cZ begin2 l).length from jb _ begin2]; omega
  have d5:∀ d∈(playB (cZ begin2 l)).2,d.err=0:=g2
  clear he hw g1 g2
  generalize (playB (cZ begin2 l)).2=db at *
  generalize playB l=W at *
  obtain ⟨⟨A,B⟩,da⟩:=W
  simp only at c2 c3 c4 c5 d1 d2
  refine aa 84 Tryz.func5 rfl rfl rfl (fun _ _=>rfl) ?_
  refine wkl ?_
  clear hR; intro hR
  repeat' (intro _)
  clear c1 c2
  refine aT (ι:=Nat) (fun i=>i<=l.length) (fun i=>dW [(0,.i (.sl (l.map encEv))),(3,.pt 100 0 0 0),(4,.i (.sl (da.map eT))),(6,.os 101 67 0 (cZ begin2 (l.take i)).length),(32,intD l.length),(33,intD i)]
   [(100,.box [.i (.s (.string A.s.name)),.i (.s (.int .i64 A.s.h)),.i (.s (.int .i64 A.s.t)),.i (.sl (A.s.cls.map fM)),.i (.sl (A.s.cns.map dA)),.i (.sl (A.s.chs.map bu)),.i (.sl (A.s.sent.map bq)),.i (.sl (A.s.got.map bq)),.i (.sl (A.s.acks.map bq)),.i (.sl (A.s.pus.map aV)),
    .i (.s (.string B.s.name)),.i (.s (.int .i64 B.s.h)),.i (.s (.int .i64 B.s.t)),.i (.sl (B.s.cls.map fM)),.i (.sl (B.s.cns.map dA)),.i (.sl (B.s.chs.map bu)),.i (.sl (B.s.sent.map bq)),.i (.sl (B.s.got.map bq)),.i (.sl (B.s.acks.map bq)),.i (.sl (B.s.pus.map aV))]),
    (101,.arr 67 ((cZ begin2 (l.take i)).map encEv))]) (fun i=>l.length - i) 0 (Nat.zero_le _) ?_ ?_
  ·simp only [List.take_zero,cZ,List.map_nil,List.length_nil]
   exact dF [] [(100,1774)]
  ·rintro i hi RL hL
   rw [au]
   by_cases h2:i < l.length
   ·have s0:=get_lt (f:=encEv) h2
    have k1:i < da.length:=by omega
    have hd:=d2 i h2
    rw [List.getElem?_eq_getElem k1] at hd
    injection hd with hd
    have s1:=get_lt (f:=eT) k1
    have hg:=d3 i h2
    have hL2:=fun σ'=>hL (i+1) σ' h2
    rw [hg] at hL2
    have hi120:=hgl i
    have u1:=Rs (cZ begin2 (l.take i))
    rw [<- hd] at hL2
    clear hL d2 d3 hg hd hgl c3 c4 c5 d5
    generalize cZ begin2 (l.take i)=G at *
    generalize da[i]=dd at *
    have m1:G.map encEv++[encEv l[i]]=(G++[l[i]]).map encEv:=by simp
    have m2:G.length+1=(G++[l[i]]).length:=by simp
    have a1:G.length+1<=140737488355328:=by omega
    have a2:(G.length+1) * 976<=140737488355328:=by omega
    have a3:(G++[l[i]]).length<=140737488355328:=by simp; omega
    have a4:(G++[l[i]]).length * 976<=140737488355328:=by simp; omega
    by_cases ee:dd.err=0
    ·rw [if_pos ee] at hL2
     have b1:=fun σ'=>bk [] [(100,100),(101,3822)] (hL2 σ')
     clear hL2
     generalize l[i]=e at *
     simp only [encEv,bI,valsI,votesI,bbI] at m1
     generalize G++[e]=G2 at *
     exact wkl trivial
    ·rw [if_neg ee,List.append_nil] at hL2
     have b1:=fun σ'=>bk [] [(100,100),(101,101)] (hL2 σ')
     clear hL2 m1 m2 a3 a4
     generalize l[i]=e at *
     exact wkl trivial
   ·have hi2:i=l.length:=by omega
    subst hi2
    rw [List.take_length]
    clear hL d2 d3
    have hg2:=hgl l.length
    rw [List.take_length] at hg2
    clear hgl
    generalize cZ begin2 l=G at *
    have tk:(G.map encEv).take G.length=G.map encEv:=by rw [List.take_of_length_le (by simp)]
    refine wkl ?_
    clear hR; intro hR
    repeat' (intro _)
    clear c3 c4 c5
    refine aT (ι:=Nat) (fun j=>j<=db.length) (fun j=>dW [(74,.i (.sl (db.map eT))),(75,intD db.length),(76,intD j)] []) (fun j=>db.length - j) 0 (Nat.zero_le _) ?_ ?_
    ·exact dF [] []
    ·rintro j hj RL2 hL2
     rw [au]
     by_cases h3:j < db.length
     ·have s0:=get_lt (f:=eT) h3
      have k0:=d5 _ (List.getElem_mem h3)
      have b1:=fun σ'=>bk [] [] (hL2 (j+1) σ' h3)
      clear hL2 d5
      generalize db[j]=q at *
      exact wkl trivial
     ·clear hL2 d5
      exact wkl trivial
end Go.Proofs.YtkbbipgjmoanhaaGreatDoor
