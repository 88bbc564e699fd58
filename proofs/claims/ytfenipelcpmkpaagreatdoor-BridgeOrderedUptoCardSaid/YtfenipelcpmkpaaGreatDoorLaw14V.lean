/- The law BridgeOrdered: the walk. -/
import Derived.Test.YtfenipelcpmkpaaGreatDoorLaw14A
import Derived.Test.YtfenipelcpmkpaaGreatDoorLaw14R
import Derived.Test.YtfenipelcpmkpaaGreatDoorWld
set_option linter.all false
set_option maxHeartbeats 16000000
set_option maxRecDepth 20000
namespace Go.Proofs.YtfenipelcpmkpaaGreatDoor
open Go Go.Abs Go.RowKit Go.Proofs.YtfenipelcpmkpaaGreatDoor.Ty
@[local go_sem] theorem abo:aC Tryz.prog 105=some (.map 3 3):=by kernel_rfl
@[local go_sem] theorem abk:gX Tryz.prog 3=some (.int .i64 0):=by kernel_rfl
theorem RH {f:Nat->Option (Int × Int)} {i:Nat} {c:Int}:luW false (some (.int .i64 0)) (luM (.int .i64) (.int .i64 c) (kU f i))=some (.i (.s (.int .i64 (mr f i c)))):=by
 rw [(rows_int f i).2 c]
 by_cases h:uY f i c=true
 ·rw [if_pos h]; rfl
 ·rw [if_neg h,yM f c i (by simpa using h)]; rfl
theorem RU {f:Nat->Option (Int × Int)} {i:Nat} {c:Int} {es:List (Value × MV)} {o:Nat} {H:Nat->Ob}:inW (luM (.int .i64) (.int .i64 c) (kU f i)) es o H=some (.un,upd H o (.mp es)):=by
 rw [(rows_int f i).2 c]
 rfl
theorem WF {f:Nat->Option (Int × Int)} {i:Nat} {c:Int} {v:MV}:luM (.int .i64) (.int .i64 c) (upM (.int .i64) (.int .i64 c) v (kU f i))=some (some v):=by
 rw [(up_int (rows_int f i).1).2,if_pos rfl]
theorem walk_BridgeOrdered (y0:I) (l:List EvD) (e0:y0=Zq l/\∀ e∈l,uU e.m) (hb:bkI y0<=1048576) :
  ∃ Ds,PureD Tryz.prog 7 Ds (.i (.s (.bool true)))/\Ds=[.i y0]:=by
 obtain ⟨rfl,h64⟩:=e0
 refine ⟨_,?_,rfl⟩
 obtain ⟨he,hl⟩:=evs_sm (n:=1048576) hb (by omega) h64
 clear hb h64
 refine ak fun R hR=>?_
 have c1:=Ni
 have c2:=Rz l (by omega) he
 unfold Zq
 by_cases h:(120:Int) < l.length
 ·rw [if_pos h] at c2
  clear he
  refine aa 85 Tryz.func7 rfl rfl rfl (fun _ _=>rfl) ?_
  exact wkl trivial
 ·rw [if_neg h] at c2
  have d1:(mZ l).2.length=l.length:=rE l begin2
  have d2:∀ i (hi:i < l.length),(mZ l).2[i]?=some (stepB (runB begin2 (l.take i)).1 l[i]).2:=fun i hi=>(Rq hi begin2).2
  obtain ⟨f,hf⟩:∃ f:Nat->Option (Int × Int),∀ i (hi:i < l.length),f i=hitO (runB begin2 l).1.1.s 0 l[i] (stepB (runB begin2 (l.take i)).1 l[i]).2 :=
   ⟨fun i=>if hi:i < l.length then hitO (runB begin2 l).1.1.s 0 l[i] (stepB (runB begin2 (l.take i)).1 l[i]).2 else none,fun i hi=>by simp only [dif_pos hi]⟩
  obtain ⟨g,hg⟩:∃ g:Nat->Option (Int × Int),∀ i (hi:i < l.length),g i=hitO (runB begin2 l).1.2.s 1 l[i] (stepB (runB begin2 (l.take i)).1 l[i]).2 :=
   ⟨fun i=>if hi:i < l.length then hitO (runB begin2 l).1.2.s 1 l[i] (stepB (runB begin2 (l.take i)).1 l[i]).2 else none,fun i hi=>by simp only [dif_pos hi]⟩
  have hall:=LY (by omega) hf hg
  have hW:=zV l jK (by omega)
  have key:∀ i (hi:i < l.length),f i=hitO (mZ l).1.1.s 0 l[i] (stepB (runB begin2 (l.take i)).1 l[i]).2/\g i=hitO (mZ l).1.2.s 1 l[i] (stepB (runB begin2 (l.take i)).1 l[i]).2/\((stepB (runB begin2 (l.take i)).1 l[i]).2.err=0->l[i].m.kind=15->mq l[i]->(l[i].side=0/\(0<=l[i].m.pk.de/\l[i].m.pk.de < ((mZ l).1.1.s.chs.length:Int))/\((chAt (mZ l).1.1.s l[i].m.pk.de).ord=true->l[i].m.pk.seq=mr f i l[i].m.pk.de+1)/\N12 1 l[i].m.pk.seq) \/
   (l[i].side=1/\(0<=l[i].m.pk.de/\l[i].m.pk.de < ((mZ l).1.2.s.chs.length:Int))/\((chAt (mZ l).1.2.s l[i].m.pk.de).ord=true->l[i].m.pk.seq=mr g i l[i].m.pk.de+1)/\N12 1 l[i].m.pk.seq)):=fun i hi=>by
   have hV:=zV (l.take i) jK (by simp; omega)
   have hM:zy (runB begin2 (l.take i)).1.1.s (runB begin2 l).1.1.s/\zy (runB begin2 (l.take i)).1.2.s (runB begin2 l).1.2.s:=by
    have e:runB begin2 l=runB begin2 (l.take i++l.drop i):=by rw [List.take_append_drop]
    rw [e,jS]
    exact run_ordM (l.drop i) hV (by simp; omega)
   refine ⟨hf i hi,hg i hi,fun a b c=>?_⟩
   have m1:=hM.1.len
   have m2:=hM.2.len
   have:=(EJ (hall i (by omega)) hV hM (hf i hi) (hg i hi)).2 a b c
   unfold mZ
   rcases this with ⟨q1,q2,q3⟩ | ⟨q1,q2,q3⟩
   ·exact .inl ⟨q1,by omega,q3⟩
   ·exact .inr ⟨q1,by omega,q3⟩
  have lch1:=hW.a.ok.lch
  have lch2:=hW.b.ok.lch
  rw [show (runB begin2 l).1=(mZ l).1 from rfl] at lch1 lch2
  clear he hall hf hg hW
  generalize mZ l=W at *
  obtain ⟨⟨A,B⟩,da⟩:=W
  simp only at c2 d1 d2 key lch1 lch2
  have c3:=Tc (A,B)
  have c4:=Ta (A,B) 1 (by decide)
  refine aa 85 Tryz.func7 rfl rfl rfl (fun _ _=>rfl) ?_
  refine wkl ?_
  clear hR; intro hR
  repeat' (intro _)
  clear c1 c2
  refine aY (ι:=Nat) (fun i=>i<=l.length) (fun i=>eu [(3,.pt 100 0 0 0),(4,.i (.sl (da.map jY))),(6,.pt 101 0 0 0),(23,.i (.sl (l.map encEv))),(24,intD l.length),(25,intD i)]
   [(100,.box (Zi (A,B))),(101,.box [.mp 102,.mp 103]),(102,.mp (kU f i)),(103,.mp (kU g i))]) (fun i=>l.length - i) 0 (Nat.zero_le _) ?_ ?_
  ·simp only [show kU f 0=[] from rfl,show kU g 0=[] from rfl]
   exact dR [] [(100,1774),(101,2539),(102,2536),(103,2537)]
  ·rintro i hi RL hL
   rw [au]
   by_cases h2:i < l.length
   ·have s0:=aF (f:=encEv) h2
    have k1:i < da.length:=by omega
    have hd:=d2 i h2
    rw [List.getElem?_eq_getElem k1] at hd
    injection hd with hd
    have s1:=aF (f:=jY) k1
    obtain ⟨kf,kg,kk⟩:=key i h2
    rw [<- hd] at kf kg kk
    have hL2:=fun σ'=>hL (i+1) σ' h2
    simp only [kU,kf,kg] at hL2
    have hi120:i < 120:=by omega
    clear hL d2 key kf kg hd
    generalize l[i]=e at *
    generalize da[i]=dd at *
    by_cases hm:dd.err=0/\e.m.kind=15/\mq e
    ·obtain ⟨m1,m2,m3⟩:=hm
     rcases kk m1 m2 m3 with ⟨q1,q2,q3,q4⟩ | ⟨q1,q2,q3,q4⟩
     ·have r1:e.m.pk.de.toNat < A.s.chs.length:=by omega
      have s2:=aF (f:=bG) r1
      rw [<- (bQ (s:=A.s) q2).1] at s2
      have b0:hitO B.s 1 e dd=none:=pX (fun q=>by omega)
      have r2:=q2.1
      by_cases ho:(chAt A.s e.m.pk.de).ord=true
      ·have b2:hitO A.s 0 e dd=some (e.m.pk.de,e.m.pk.seq):=by unfold hitO; rw [if_pos ⟨m1,m2,m3,q1,ho⟩]
       rw [b0,b2] at hL2
       simp only at hL2
       have q5:=q3 ho
       rw [q5] at hL2 q4
       unfold N12 at q4
       have u1:=@RH f i e.m.pk.de
       have u2:=fun es o H=>@RU f i e.m.pk.de es o H
       have u3:=WF (f:=f) (i:=i) (c:=e.m.pk.de) (v:=(false,[.s (.int .i64 (mr f i e.m.pk.de+1))]))
       have w1:IntKind.i64.wrap (mr f i e.m.pk.de+1)=mr f i e.m.pk.de+1:=aB (by omega) (by omega)
       have b1:=fun σ'=>bk [] [(100,100),(101,101),(102,102),(103,103)] (hL2 σ')
       clear hL2 kk q3 b0 b2 r1 q2
       generalize mr f i e.m.pk.de=cu at *
       generalize chAt A.s e.m.pk.de=ch at *
       generalize kU f i=rs at *
       rcases m3 with m3 | m3
       all_goals exact wkl trivial
      ·have b2:hitO A.s 0 e dd=none:=by unfold hitO; rw [if_neg (fun q=>ho q.2.2.2.2)]
       rw [b0,b2] at hL2
       simp only at hL2
       have b1:=fun σ'=>bk [] [(100,100),(101,101),(102,102),(103,103)] (hL2 σ')
       clear hL2 kk q3 b0 b2 r1 q2
       generalize chAt A.s e.m.pk.de=ch at *
       rcases m3 with m3 | m3
       all_goals exact wkl trivial
     ·have r1:e.m.pk.de.toNat < B.s.chs.length:=by omega
      have s2:=aF (f:=bG) r1
      rw [<- (bQ (s:=B.s) q2).1] at s2
      have b0:hitO A.s 0 e dd=none:=pX (fun q=>by omega)
      have r2:=q2.1
      by_cases ho:(chAt B.s e.m.pk.de).ord=true
      ·have b2:hitO B.s 1 e dd=some (e.m.pk.de,e.m.pk.seq):=by unfold hitO; rw [if_pos ⟨m1,m2,m3,q1,ho⟩]
       rw [b0,b2] at hL2
       simp only at hL2
       have q5:=q3 ho
       rw [q5] at hL2 q4
       unfold N12 at q4
       have u1:=@RH g i e.m.pk.de
       have u2:=fun es o H=>@RU g i e.m.pk.de es o H
       have u3:=WF (f:=g) (i:=i) (c:=e.m.pk.de) (v:=(false,[.s (.int .i64 (mr g i e.m.pk.de+1))]))
       have w1:IntKind.i64.wrap (mr g i e.m.pk.de+1)=mr g i e.m.pk.de+1:=aB (by omega) (by omega)
       have b1:=fun σ'=>bk [] [(100,100),(101,101),(102,102),(103,103)] (hL2 σ')
       clear hL2 kk q3 b0 b2 r1 q2
       generalize mr g i e.m.pk.de=cu at *
       generalize chAt B.s e.m.pk.de=ch at *
       generalize kU g i=rs at *
       rcases m3 with m3 | m3
       all_goals exact wkl trivial
      ·have b2:hitO B.s 1 e dd=none:=by unfold hitO; rw [if_neg (fun q=>ho q.2.2.2.2)]
       rw [b0,b2] at hL2
       simp only at hL2
       have b1:=fun σ'=>bk [] [(100,100),(101,101),(102,102),(103,103)] (hL2 σ')
       clear hL2 kk q3 b0 b2 r1 q2
       generalize chAt B.s e.m.pk.de=ch at *
       rcases m3 with m3 | m3
       all_goals exact wkl trivial
    ·have b0:hitO B.s 1 e dd=none:=by unfold hitO; rw [if_neg (fun q=>hm ⟨q.1,q.2.1,q.2.2.1⟩)]
     have b2:hitO A.s 0 e dd=none:=by unfold hitO; rw [if_neg (fun q=>hm ⟨q.1,q.2.1,q.2.2.1⟩)]
     rw [b0,b2] at hL2
     simp only at hL2
     have b1:=fun σ'=>bk [] [(100,100),(101,101),(102,102),(103,103)] (hL2 σ')
     clear hL2 kk b0 b2
     unfold mq at hm
     by_cases m1:dd.err=0
     ·by_cases m2:e.m.kind=15
      ·have m3:¬ e.kind=4:=fun q=>hm ⟨m1,m2,.inl q⟩
       have m4:¬ e.kind=5:=fun q=>hm ⟨m1,m2,.inr q⟩
       clear hm
       exact wkl trivial
      ·clear hm
       exact wkl trivial
     ·clear hm
      exact wkl trivial
   ·have hi2:i=l.length:=by omega
    subst hi2
    clear hL d2 key
    exact wkl trivial
end Go.Proofs.YtfenipelcpmkpaaGreatDoor
