/- Chapter 14, plain: who is open is met, where only who carries truly acts. No program is in sight. -/
import Derived.Test.YtfenipelcpmkpaaGreatDoorLaw14Q
import Derived.Test.YtfenipelcpmkpaaGreatDoorUnP
set_option linter.all false
namespace Go.Proofs.YtfenipelcpmkpaaGreatDoor
open Go Go.Abs
theorem jo (s:StateD) (i:Nat):cnAt s (i:Int)=s.cns.getD i zeroCn:=rfl
theorem ze {s t:StateD} {c:ConnD} (h:t.cns=s.cns++[c]) {i:Nat} (hi:i < s.cns.length):cnAt t (i:Int)=cnAt s (i:Int):=by
 rw [jo,jo,h,List.getD_eq_getElem?_getD,List.getD_eq_getElem?_getD,List.getElem?_append_left hi]
theorem QD {s t:StateD} {c:ConnD} (h:t.cns=s.cns++[c]):cnAt t (s.cns.length:Int)=c:=by
 rw [jo,h,List.getD_eq_getElem?_getD]; simp
theorem Gc {s t:StateD} {j:Nat} {c:ConnD} (hj:j < s.cns.length) (h:t.cns=s.cns.set j c):cnAt t (j:Int)=c:=by
 rw [jo,h,List.getD_eq_getElem?_getD,List.getElem?_set_self hj]; rfl
theorem zb {s t:StateD} {j i:Nat} {c:ConnD} (h:t.cns=s.cns.set j c) (hn:¬ i=j):cnAt t (i:Int)=cnAt s (i:Int):=by
 rw [jo,jo,h,List.getD_eq_getElem?_getD,List.getD_eq_getElem?_getD,List.getElem?_set_ne (by omega)]
theorem Gi {s t:StateD} {c:ChanD} (h:t.chs=s.chs++[c]) {i:Nat} (hi:i < s.chs.length):chAt t (i:Int)=chAt s (i:Int):=by
 rw [jq,jq,h,List.getD_eq_getElem?_getD,List.getD_eq_getElem?_getD,List.getElem?_append_left hi]
theorem QO {s t:StateD} {c:ChanD} (h:t.chs=s.chs++[c]):chAt t (s.chs.length:Int)=c:=by
 rw [jq,h,List.getD_eq_getElem?_getD]; simp
theorem rX {s t:StateD} {j:Nat} {c:ChanD} (hj:j < s.chs.length) (h:t.chs=s.chs.set j c):chAt t (j:Int)=c:=by
 rw [jq,h,List.getD_eq_getElem?_getD,List.getElem?_set_self hj]; rfl
theorem rY {s t:StateD} {j i:Nat} {c:ChanD} (h:t.chs=s.chs.set j c) (hn:¬ i=j):chAt t (i:Int)=chAt s (i:Int):=by
 rw [jq,jq,h,List.getD_eq_getElem?_getD,List.getD_eq_getElem?_getD,List.getElem?_set_ne (by omega)]
inductive CnEff (s:StateD) (m:MsgD) (t:StateD):Prop
 | same (h:t.cns=s.cns)
 | add (c:ConnD) (h:t.cns=s.cns++[c]) (hs:¬ c.st=3)
 | opn (i:Nat) (k st:Int) (hi:i < s.cns.length) (h:t.cns=s.cns.set i { cnAt s (i:Int) with st:=3,on:=k }) (hst:st=2\/st=3) (hs:(cnAt s (i:Int)).st=1\/((cnAt s (i:Int)).st=2/\k=(cnAt s (i:Int)).on)) (hk:N12 0 k) (kind:m.kind=6\/m.kind=7)
   (mem:cZ (jR s (cnAt s (i:Int)).cl) s.t m.sh.h (keyC k) (kR ⟨st,(cnAt s (i:Int)).oc,(cnAt s (i:Int)).cl,i⟩) m.sh.p=0)
inductive ChEff (s:StateD) (m:MsgD) (t:StateD):Prop
 | same (h:t.chs=s.chs)
 | add (c:ChanD) (h:t.chs=s.chs++[c]) (hs:¬ c.st=3)
 | upd (i:Nat) (c:ChanD) (hi:i < s.chs.length) (h:t.chs=s.chs.set i c) (h1:c.cn=(chAt s (i:Int)).cn) (h2:c.ord=(chAt s (i:Int)).ord) (h3:c.oc=(chAt s (i:Int)).oc) (hs:c.st=(chAt s (i:Int)).st\/c.st=4)
 | opn (i:Nat) (k st:Int) (hi:i < s.chs.length) (h:t.chs=s.chs.set i { chAt s (i:Int) with st:=3,oc:=k }) (hst:st=2\/st=3) (hs:(chAt s (i:Int)).st=1\/((chAt s (i:Int)).st=2/\k=(chAt s (i:Int)).oc)) (hk:N12 0 k) (kind:m.kind=10\/m.kind=11)
   (ov:(overCh s (chAt s (i:Int)).cn).2=0) (mem:cZ (jR s (cnAt s (chAt s (i:Int)).cn).cl) s.t m.sh.h (keyH k) (jG ⟨st,(chAt s (i:Int)).ord,(cnAt s (chAt s (i:Int)).cn).on,i,0,0,0⟩) m.sh.p=0)
structure zD (s t:StateD):Prop where
 len:s.cns.length<=t.cns.length
 cn:∀ i:Nat,i < s.cns.length->(cnAt t (i:Int)).cl=(cnAt s (i:Int)).cl/\(cnAt t (i:Int)).oc=(cnAt s (i:Int)).oc/\(2<=(cnAt s (i:Int)).st->2<=(cnAt t (i:Int)).st/\(cnAt t (i:Int)).on=(cnAt s (i:Int)).on)/\((cnAt s (i:Int)).st=3->(cnAt t (i:Int)).st=3)
 lenh:s.chs.length<=t.chs.length
 ch:∀ i:Nat,i < s.chs.length->(chAt t (i:Int)).cn=(chAt s (i:Int)).cn/\(chAt t (i:Int)).ord=(chAt s (i:Int)).ord/\(2<=(chAt s (i:Int)).st->2<=(chAt t (i:Int)).st/\(chAt t (i:Int)).oc=(chAt s (i:Int)).oc)
theorem zD.refl (s:StateD):zD s s:=⟨Nat.le_refl _,fun i _=>⟨rfl,rfl,fun h=>⟨h,rfl⟩,fun h=>h⟩,Nat.le_refl _,fun i _=>⟨rfl,rfl,fun h=>⟨h,rfl⟩⟩⟩
theorem zD.trans {a b c:StateD} (h:zD a b) (g:zD b c):zD a c:=by
 have l1:=h.len; have l2:=g.len; have l3:=h.lenh; have l4:=g.lenh
 refine ⟨by omega,fun i hi=>?_,by omega,fun i hi=>?_⟩
 ·obtain ⟨a1,a2,a3,a4⟩:=h.cn i hi
  obtain ⟨b1,b2,b3,b4⟩:=g.cn i (by omega)
  exact ⟨b1.trans a1,b2.trans a2,fun q=>⟨(b3 (a3 q).1).1,((b3 (a3 q).1).2).trans (a3 q).2⟩,fun q=>b4 (a4 q)⟩
 ·obtain ⟨a1,a2,a3⟩:=h.ch i hi
  obtain ⟨b1,b2,b3⟩:=g.ch i (by omega)
  exact ⟨b1.trans a1,b2.trans a2,fun q=>⟨(b3 (a3 q).1).1,((b3 (a3 q).1).2).trans (a3 q).2⟩⟩
theorem Uc {s t:StateD} {m:MsgD} (hc:CnEff s m t) (hh:ChEff s m t):zD s t:=by
 have key1:s.cns.length<=t.cns.length/\∀ i:Nat,i < s.cns.length->(cnAt t (i:Int)).cl=(cnAt s (i:Int)).cl/\(cnAt t (i:Int)).oc=(cnAt s (i:Int)).oc/\(2<=(cnAt s (i:Int)).st->2<=(cnAt t (i:Int)).st/\(cnAt t (i:Int)).on=(cnAt s (i:Int)).on)/\((cnAt s (i:Int)).st=3->(cnAt t (i:Int)).st=3):=by
  cases hc with
  | same h =>
   refine ⟨by rw [h]; exact Nat.le_refl _,fun i _=>?_⟩
   rw [jo t,h,<- jo]; exact ⟨rfl,rfl,fun h=>⟨h,rfl⟩,fun h=>h⟩
  | add c h hs =>
   refine ⟨by rw [h]; simp,fun i hi=>?_⟩
   rw [ze h hi]; exact ⟨rfl,rfl,fun h=>⟨h,rfl⟩,fun h=>h⟩
  | opn i k st hi h hst hs hk kind mem =>
   refine ⟨by rw [h]; simp,fun j hj=>?_⟩
   by_cases e:j=i
   ·subst e
    rw [Gc hj h]
    refine ⟨rfl,rfl,fun q=>⟨by simp only; omega,?_⟩,fun _=>rfl⟩
    rcases hs with hs | ⟨_,hs⟩
    ·omega
    ·exact hs
   ·rw [zb h e]; exact ⟨rfl,rfl,fun h=>⟨h,rfl⟩,fun h=>h⟩
 have key2:s.chs.length<=t.chs.length/\∀ i:Nat,i < s.chs.length->(chAt t (i:Int)).cn=(chAt s (i:Int)).cn/\(chAt t (i:Int)).ord=(chAt s (i:Int)).ord/\(2<=(chAt s (i:Int)).st->2<=(chAt t (i:Int)).st/\(chAt t (i:Int)).oc=(chAt s (i:Int)).oc):=by
  cases hh with
  | same h =>
   refine ⟨by rw [h]; exact Nat.le_refl _,fun i _=>?_⟩
   rw [jq t,h,<- jq]; exact ⟨rfl,rfl,fun h=>⟨h,rfl⟩⟩
  | add c h hs =>
   refine ⟨by rw [h]; simp,fun i hi=>?_⟩
   rw [Gi h hi]; exact ⟨rfl,rfl,fun h=>⟨h,rfl⟩⟩
  | upd i c hi h h1 h2 h3 hs =>
   refine ⟨by rw [h]; simp,fun j hj=>?_⟩
   by_cases e:j=i
   ·subst e
    rw [rX hj h]
    exact ⟨h1,h2,fun q=>⟨by omega,h3⟩⟩
   ·rw [rY h e]; exact ⟨rfl,rfl,fun h=>⟨h,rfl⟩⟩
  | opn i k st hi h hst hs hk kind ov mem =>
   refine ⟨by rw [h]; simp,fun j hj=>?_⟩
   by_cases e:j=i
   ·subst e
    rw [rX hj h]
    refine ⟨rfl,rfl,fun q=>⟨by simp only; omega,?_⟩⟩
    rcases hs with hs | ⟨_,hs⟩
    ·omega
    ·exact hs
   ·rw [rY h e]; exact ⟨rfl,rfl,fun h=>⟨h,rfl⟩⟩
 exact ⟨key1.1,key1.2,key2.1,key2.2⟩
theorem jb {i:Int} (h:0<=i):((i.toNat:Nat):Int)=i:=by omega
theorem Yv {s:StateD} {m:MsgD} (h1:¬ m.kind<=3) (h2:m.kind<=7) (h:(endA s m).2.2=0):CnEff s m (endA s m).1:=by
 unfold endA at h ⊢
 split at h
 ·rename_i k; rw [if_pos k]
  unfold lw at h ⊢
  split at h
  ·rename_i k; rw [if_pos k]; split at h
   ·rename_i k; rw [if_pos k]; split at h
    ·cases h
    ·rename_i k3; rw [if_neg k3]
     obtain ⟨_,_,e⟩:=addCn_zero (wrongS_zero.1 (by assumption)) (c:=⟨1,m.cl,m.other,-1⟩) ⟨by simp,cl_12 (wrongS_zero.1 (by assumption)) (by assumption),by unfold N12; simp only; omega,by unfold N12; simp⟩ h 0
     rw [e]; exact .add _ rfl (by simp)
   ·exact absurd h ‹_›
  ·exact absurd h ‹_›
 ·rename_i k; rw [if_neg k]; split at h
  ·rename_i k; rw [if_pos k]
   unfold sH at h ⊢
   split at h
   ·rename_i k; rw [if_pos k]; split at h
    ·rename_i k; rw [if_pos k]; split at h
     ·cases h
     ·rename_i k3; rw [if_neg k3]; split at h
      ·rename_i k; rw [if_pos k]
       obtain ⟨_,_,e⟩:=addCn_zero (wrongS_zero.1 (by assumption)) (c:=⟨2,m.cl,m.other,m.oend⟩) ⟨by simp,cl_12 (wrongS_zero.1 (by assumption)) (by assumption),by unfold N12; simp only; omega,by unfold N12; simp only; omega⟩ h 0
       rw [e]; exact .add _ rfl (by simp)
      ·exact absurd h ‹_›
    ·exact absurd h ‹_›
   ·exact absurd h ‹_›
  ·rename_i k; rw [if_neg k]; split at h
   ·rename_i k; rw [if_pos k]
    obtain ⟨_,he,ho,hm,e⟩:=ackCn_zero h
    obtain ⟨_,hi,hst,_⟩:=endCn_zero.1 he
    simp only; rw [e]
    have ci:=jb hi.1
    exact .opn m.ed.toNat m.oend 2 (by omega) (by rw [ci]; rfl) (.inl rfl) (.inl (by rw [ci]; exact hst)) ho (.inl k) (by rw [ci]; exact hm)
   ·rename_i k; rw [if_neg k]; split at h
    ·rename_i k; rw [if_pos k]
     obtain ⟨_,he,ho,hm,e⟩:=confCn_zero h
     obtain ⟨_,hi,hst,_⟩:=endCn_zero.1 he
     simp only; rw [e]
     have ci:=jb hi.1
     exact .opn m.ed.toNat (cnAt s m.ed).on 3 (by omega) (by rw [ci]; rfl) (.inr rfl) (.inr (by rw [ci]; exact ⟨hst,rfl⟩)) ho (.inr k) (by rw [ci]; exact hm)
    ·omega
theorem ackh_mem {s:StateD} {i other:Int} {w:bz} (h:(ackCh s i other w).2=0):N12 0 other/\cZ (jR s (cnAt s (chAt s i).cn).cl) s.t w.h (keyH other) (jG ⟨2,(chAt s i).ord,(cnAt s (chAt s i).cn).on,i,0,0,0⟩) w.p=0:=by
 unfold ackCh at h
 split at h
 ·rename_i k
  have e:=jM k
  split at h
  ·cases h
  ·split at h
   ·rename_i k3 k2
    rw [e] at k2
    exact ⟨by unfold N12; omega,k2⟩
   ·exact absurd h ‹_›
 ·exact absurd h ‹_›
theorem conf_mem {want say:Int} {s:StateD} {i:Int} {w:bz} (h:(confCh want say s i w).2=0):0<=(chAt s i).oc/\cZ (jR s (cnAt s (chAt s i).cn).cl) s.t w.h (keyH (chAt s i).oc) (jG ⟨say,(chAt s i).ord,(cnAt s (chAt s i).cn).on,i,0,0,0⟩) w.p=0:=by
 unfold confCh at h
 split at h
 ·rename_i k
  have e:=jM k
  split at h
  ·cases h
  ·split at h
   ·rename_i k3 k2
    rw [e] at k2
    exact ⟨by omega,k2⟩
   ·exact absurd h ‹_›
 ·exact absurd h ‹_›
theorem Yw {s:StateD} {m:MsgD} (h1:¬ m.kind<=7) (h2:m.kind<=13) (h:(endA s m).2.2=0):ChEff s m (endA s m).1:=by
 unfold endA at h ⊢
 rw [if_neg (by omega),if_neg (by omega),if_neg (by omega),if_neg (by omega)] at h ⊢
 split at h
 ·rename_i k; rw [if_pos k]; exact .add _ (Qa h) (by simp)
 ·rename_i k; rw [if_neg k]; split at h
  ·rename_i k; rw [if_pos k]; exact .add _ (Td h) (by simp)
  ·rename_i k; rw [if_neg k]; split at h
   ·rename_i k; rw [if_pos k]
    obtain ⟨a,b⟩:=ackh_one h
    obtain ⟨d,e⟩:=ackh_mem h
    obtain ⟨_,hi,hst,hov⟩:=endCh_zero.1 a
    simp only; rw [b]
    have ci:=jb hi.1
    exact .opn m.ed.toNat m.oend 2 (by omega) (by rw [ci]; rfl) (.inl rfl) (.inl (by rw [ci]; exact hst)) d (.inl k) (by rw [ci]; exact hov) (by rw [ci]; exact e)
   ·rename_i k; rw [if_neg k]; split at h
    ·rename_i k; rw [if_pos k]
     obtain ⟨a,b⟩:=conf_one h
     obtain ⟨d,e⟩:=conf_mem h
     obtain ⟨ok,hi,hst,hov⟩:=endCh_zero.1 a
     simp only; rw [b]
     have ci:=jb hi.1
     have ho:=(ok.chs _ (bO hi).2).oc
     exact .opn m.ed.toNat (chAt s m.ed).oc 3 (by omega) (by rw [ci]; rfl) (.inr rfl) (.inr (by rw [ci]; exact ⟨hst,rfl⟩)) (by unfold N12 at *; omega) (.inr k) (by rw [ci]; exact hov) (by rw [ci]; exact e)
    ·rename_i k; rw [if_neg k]; split at h
     ·rename_i k; rw [if_pos k]
      obtain ⟨a,b⟩:=clos_one h
      obtain ⟨_,hi,hst,hov⟩:=endCh_zero.1 a
      simp only; rw [b]
      have ci:=jb hi.1
      exact .upd m.ed.toNat _ (by omega) rfl (by rw [ci]) (by rw [ci]) (by rw [ci]) (.inr rfl)
     ·rename_i k; rw [if_neg k]
      obtain ⟨a,b⟩:=conf_one h
      obtain ⟨_,hi,hst,hov⟩:=endCh_zero.1 a
      simp only; rw [b]
      have ci:=jb hi.1
      exact .upd m.ed.toNat _ (by omega) rfl (by rw [ci]) (by rw [ci]) (by rw [ci]) (.inr rfl)
theorem aab {s:StateD} {m:MsgD} (h1:14<=m.kind) (h3:¬ m.kind=18) (h:(yM s m).2.err=0):ChEff s m (yM s m).1:=by
 unfold yM at h ⊢
 split at h
 ·cases h
 ·rename_i k0
  rw [if_neg k0]
  rw [if_neg (by omega),if_neg (by omega)] at h ⊢
  split at h
  ·rename_i k; rw [if_pos k]
   unfold Hd at h ⊢
   simp only at h ⊢
   split at h
   ·rename_i h1
    rw [if_pos h1]
    split at h
    ·cases h
    ·rename_i h2
     rw [if_neg h2]
     split at h
     ·rename_i h3
      rw [if_pos h3]
      have hr:=mZ.1 h3
      obtain ⟨_,hi,_⟩:=endPk_ok hr.en
      rw [m_ hr] at h ⊢
      have ci:=jb hi.1
      split at h
      ·rename_i h4
       simp only at h4 ⊢
       rw [if_pos h4]
       exact .upd m.ed.toNat { chAt s m.ed with snd:=(chAt s m.ed).snd+1 } (by omega) rfl (by rw [ci]) (by rw [ci]) (by rw [ci]) (.inl (by rw [ci]))
      ·rename_i h4
       simp only at h4 h ⊢
       omega
     ·exact absurd h ‹_›
   ·exact absurd h ‹_›
  ·rename_i k; rw [if_neg k]; split at h
   ·rename_i k; rw [if_pos k]
    unfold JE at h ⊢
    simp only at h ⊢
    split at h
    ·rename_i h3
     rw [if_pos h3]
     have hr:=sW.1 h3
     obtain ⟨_,hi,_⟩:=endPk_ok hr.en
     rw [sZ hr]
     have ci:=jb hi.1
     by_cases ho:(chAt s m.pk.de).ord=true
     ·exact .upd m.pk.de.toNat { chAt s m.pk.de with rcv:=(chAt s m.pk.de).rcv+1 } (by omega) (by simp only [BZ,if_pos ho]) (by rw [ci]) (by rw [ci]) (by rw [ci]) (.inl (by rw [ci]))
     ·exact .same (by simp only [BZ,if_neg ho])
    ·exact absurd h ‹_›
   ·rename_i k; rw [if_neg k]; (try rw [if_neg h3]); (try rw [if_neg h3] at h)
    obtain ⟨g1,g2⟩:=setA_chs h
    by_cases k16:m.kind=16
    ·rw [if_pos k16] at g1 g2
     obtain ⟨hp,hq⟩:=ackPk_ch g1
     obtain ⟨_,hi,_⟩:=endPk_ok hp.en
     have ci:=jb hi.1
     rcases hq with hq | hq
     ·exact .same (g2.trans hq)
     ·exact .upd m.pk.fr.toNat { chAt s m.pk.fr with ack:=(chAt s m.pk.fr).ack+1 } (by omega) (g2.trans hq) (by rw [ci]) (by rw [ci]) (by rw [ci]) (.inl (by rw [ci]))
    ·rw [if_neg k16] at g1 g2
     obtain ⟨hp,hq⟩:=latePk_ch g1
     obtain ⟨_,hi,_⟩:=endPk_ok hp.en
     have ci:=jb hi.1
     rcases hq with hq | hq
     ·exact .same (g2.trans hq)
     ·exact .upd m.pk.fr.toNat { chAt s m.pk.fr with st:=4 } (by omega) (g2.trans hq) (by rw [ci]) (by rw [ci]) (by rw [ci]) (.inr rfl)
theorem doS_eff {s:StateD} {m:MsgD} (h64:P64 s.pus) (h:(doS s m).2.err=0):CnEff s m (doS s m).1/\ChEff s m (doS s m).1:=by
 have hp:=(FU h64 h).place
 obtain ⟨ok,h0,e⟩:=doS_done h
 rw [e] at hp ⊢
 by_cases k3:m.kind<=3
 ·rw [if_pos k3] at hp
  exact ⟨.same (by have q:=congrArg StateD.cns hp; exact q),.same (by have q:=congrArg StateD.chs hp; exact q)⟩
 ·rw [if_neg k3] at hp
  by_cases k7:m.kind<=7
  ·rw [if_pos k7] at hp
   refine ⟨?_,.same (by have q:=congrArg StateD.chs hp; exact q)⟩
   unfold yM at h0 ⊢
   by_cases k0:m.kind < 1\/18 < m.kind
   ·rw [if_pos k0] at h0; cases h0
   ·rw [if_neg k0,if_neg k3,if_pos (by omega)] at h0 ⊢
    exact Yv k3 k7 h0
  ·rw [if_neg k7] at hp
   by_cases k13:m.kind<=13
   ·rw [if_pos k13] at hp
    refine ⟨.same (by have q:=congrArg StateD.cns hp; exact q),?_⟩
    unfold yM at h0 ⊢
    by_cases k0:m.kind < 1\/18 < m.kind
    ·rw [if_pos k0] at h0; cases h0
    ·rw [if_neg k0,if_neg k3,if_pos (by omega)] at h0 ⊢
     exact Yw k7 k13 h0
   ·rw [if_neg k13] at hp
    by_cases k18:m.kind=18
    ·rw [if_pos k18] at hp
     exact ⟨.same (by have q:=congrArg StateD.cns hp; exact q),.same (by have q:=congrArg StateD.chs hp; exact q)⟩
    ·rw [if_neg k18] at hp
     exact ⟨.same (by have q:=congrArg StateD.cns hp; exact q),aab (by omega) k18 h0⟩
theorem OZ {l:List aY} {key:List UInt8} (h:(u_ l key).1.k≠[]):(⟨(u_ l key).1.k,(u_ l key).1.v⟩:aY)∈l:=by
 unfold u_ at h ⊢
 split at h
 ·rename_i h0; rw [if_pos h0]
  split at h
  ·rename_i h1; rw [dif_pos h1]
   split at h
   ·rename_i h2; rw [if_pos h2]
    exact List.getElem_mem h1
   ·exact absurd rfl h
  ·exact absurd rfl h
 ·exact absurd rfl h
theorem show_in {c o:aR} {m:MsgD} (h:(showB c o m).sh.p.k≠[]):∃ e∈o.past,(⟨(showB c o m).sh.p.k,(showB c o m).sh.p.v⟩:aY)∈(gF e.st).1:=by
 unfold showB EO at h ⊢
 split at h
 ·exact absurd rfl h
 ·rename_i h0
  rw [if_neg h0]
  split at h
  ·exact absurd rfl h
  ·rename_i e he
   simp only [he]
   split at h
   ·exact absurd rfl h
   ·rename_i h2
    rw [if_neg h2]
    exact ⟨e,List.mem_of_find?_eq_some he,OZ h⟩
theorem member_kv {c:aG} {now h:Int} {key val:List UInt8} {p:fH} (he:cZ c now h key val p=0):p.k=key/\p.v=val:=by
 unfold cZ at he
 split at he
 ·split at he
  ·cases he
  ·split at he
   ·split at he
    ·rename_i q; exact ⟨q.1,q.2.1⟩
    ·cases he
   ·cases he
 ·exact absurd he ‹_›
theorem Gr {s:StateD} (ok:StOk s) {p:aY} (h:p∈(gF s).1):p∈Ht s:=by
 unfold gF at h
 rw [if_pos (wrongS_zero.2 ok)] at h
 exact (vL _).mem_iff.1 h
theorem shown_C {c o:aR} {m:MsgD} (hp:∀ e∈o.past,StOk e.st) {C:aG} {now h k:Int} {en:ConnD} (hk:0<=k) (he:We en) (hm:cZ C now h (keyC k) (kR en) (showB c o m).sh.p=0) :
  ∃ e∈o.past,k.toNat < e.st.cns.length/\cnAt e.st k=en:=by
 obtain ⟨a,b⟩:=member_kv hm
 obtain ⟨e,h1,h2⟩:=show_in (c:=c) (o:=o) (m:=m) (by rw [a]; simp [keyC])
 have ok:=hp e h1
 have h3:=Gr ok h2
 have ci:=jb hk
 rw [a,b,<- ci] at h3
 obtain ⟨hj,hv⟩:=raw_C h3
 have:=IV he (ok.cns _ (List.getElem_mem hj)) hv
 refine ⟨e,h1,hj,?_⟩
 rw [this]
 exact (bT ⟨hk,by omega⟩).1
theorem GR {c d:ChanD} (hc:(1<=c.st/\c.st<=4)/\N12 (-1) c.cn/\N12 (-1) c.oc) (hd:(1<=d.st/\d.st<=4)/\N12 0 d.cn/\N12 (-1) d.oc) (hn:0<=c.cn) (h:jG c=jG d):c.st=d.st/\c.ord=d.ord/\c.cn=d.cn/\c.oc=d.oc:=by
 have:=Fp (a:=[u64 c.st,u64 (if c.ord=true then 1 else 0),u64 c.cn,u64 (c.oc+1)]) (b:=[u64 d.st,u64 (if d.ord=true then 1 else 0),u64 d.cn,u64 (d.oc+1)]) (by simp) (by simp) (by simp [u64_lt]) (by simp [u64_lt]) h
 simp only [List.cons.injEq,and_true] at this
 obtain ⟨a1,a2,a3,a4⟩:=this
 obtain ⟨x1,x2,x3⟩:=hc
 obtain ⟨y1,y2,y3⟩:=hd
 unfold N12 at *
 have b1:=kS (by omega) (by omega) a1
 have b2:=kS (by split <;> omega) (by split <;> omega) a2
 have b3:=kS (by omega) (by omega) a3
 have b4:=kS (by omega) (by omega) a4
 exact ⟨b1,by cases hco:c.ord <;> cases hdo:d.ord <;> simp [hco,hdo] at b2 <;> rfl,b3,by omega⟩
theorem shown_H {c o:aR} {m:MsgD} (hp:∀ e∈o.past,StOk e.st) {C:aG} {now h k:Int} {en:ChanD} (hk:0<=k) (he:(1<=en.st/\en.st<=4)/\N12 (-1) en.cn/\N12 (-1) en.oc) (hn:0<=en.cn) (hm:cZ C now h (keyH k) (jG en) (showB c o m).sh.p=0) :
  ∃ e∈o.past,k.toNat < e.st.chs.length/\en.st=(chAt e.st k).st/\en.ord=(chAt e.st k).ord/\en.cn=(chAt e.st k).cn/\en.oc=(chAt e.st k).oc:=by
 obtain ⟨a,b⟩:=member_kv hm
 obtain ⟨e,h1,h2⟩:=show_in (c:=c) (o:=o) (m:=m) (by rw [a]; simp [keyH])
 have ok:=hp e h1
 have h3:=Gr ok h2
 have ci:=jb hk
 rw [a,b,<- ci] at h3
 obtain ⟨hj,hv⟩:=raw_H h3
 have hc:=ok.chs _ (List.getElem_mem hj)
 refine ⟨e,h1,hj,?_⟩
 rw [(bO ⟨hk,by omega⟩).1]
 exact GR he ⟨hc.st,hc.cn,hc.oc⟩ hn hv
def trueEv (e:EvD):Prop:=if e.kind=4 then m4 e.m.kind else ¬ (e.kind=5/\e.m.kind<=3)
where m4 (k:Int):Prop:=k=4\/k=8\/k=12\/k=14\/k=18
structure nM (c o:aR):Prop where
 past:∀ e∈c.past,zD e.st c.s
 cn:∀ i:Nat,i < c.s.cns.length->(cnAt c.s (i:Int)).st=3->∃ k:Nat,(cnAt c.s (i:Int)).on=k/\k < o.s.cns.length/\2<=(cnAt o.s (k:Int)).st/\(cnAt o.s (k:Int)).on=i/\(cnAt o.s (k:Int)).cl=(cnAt c.s (i:Int)).oc/\(cnAt o.s (k:Int)).oc=(cnAt c.s (i:Int)).cl
 ch:∀ i:Nat,i < c.s.chs.length->(chAt c.s (i:Int)).st=3->∃ k:Nat,(chAt c.s (i:Int)).oc=k/\k < o.s.chs.length/\2<=(chAt o.s (k:Int)).st/\(chAt o.s (k:Int)).oc=i/\(chAt o.s (k:Int)).ord=(chAt c.s (i:Int)).ord /\
  ∃ j:Nat,(chAt c.s (i:Int)).cn=j/\j < c.s.cns.length/\(cnAt c.s (j:Int)).st=3/\(cnAt c.s (j:Int)).on=(chAt o.s (k:Int)).cn
theorem nM.oth {c c' o:aR} (h:nM o c) (hm:zD c.s c'.s):nM o c':=by
 have l1:=hm.len
 have l2:=hm.lenh
 refine ⟨h.past,fun i hi hs=>?_,fun i hi hs=>?_⟩
 ·obtain ⟨k,a,b,d,e,f,g⟩:=h.cn i hi hs
  obtain ⟨b1,b2,b3,_⟩:=hm.cn k b
  exact ⟨k,a,by omega,(b3 d).1,(b3 d).2.trans e,b1.trans f,b2.trans g⟩
 ·obtain ⟨k,a,b,d,e,f,j,g1,g2,g3,g4⟩:=h.ch i hi hs
  obtain ⟨b1,b2,b3⟩:=hm.ch k b
  exact ⟨k,a,by omega,(b3 d).1,(b3 d).2.trans e,b2.trans f,j,g1,g2,g3,by rw [b1]; exact g4⟩
theorem nM.own {c o:aR} {t:StateD} (h:nM c o) (hm:zD c.s t) (hcn:t.cns=c.s.cns) (hch:t.chs=c.s.chs) {p:List EndD} (hp:∀ e∈p,zD e.st t):nM { c with s:=t,past:=p } o:=by
 have e1:∀ i:Int,cnAt t i=cnAt c.s i:=fun i=>by unfold cnAt; rw [hcn]
 have e2:∀ i:Int,chAt t i=chAt c.s i:=fun i=>by unfold chAt; rw [hch]
 refine ⟨hp,fun i hi hs=>?_,fun i hi hs=>?_⟩
 ·simp only [e1] at hs ⊢
  exact h.cn i (by rw [<- hcn]; exact hi) hs
 ·simp only [e1,e2] at hs ⊢
  simp only [hcn]
  exact h.ch i (by rw [<- hch]; exact hi) hs
theorem zx {c o:aR} {m:MsgD} (hc:jQ c) (ho:jQ o) (h:nM c o) (hpo:∀ e∈o.past,zD e.st o.s) (hs:(¬ m.kind=6/\¬ m.kind=7/\¬ m.kind=10/\¬ m.kind=11)\/∃ m',m=showB c o m'):nM (oJ c m).1 o/\zD c.s (oJ c m).1.s:=by
 unfold oJ
 split
 ·rename_i h0
  obtain ⟨ec,eh⟩:=doS_eff hc.p64 h0
  have hm:=Uc ec eh
  have lcn:=hc.ok.lcn
  have lch:=hc.ok.lch
  generalize hT:(doS c.s m).1=T at *
  refine ⟨⟨fun e he=>(h.past e he).trans hm,fun i hi h3=>?_,fun i hi h3=>?_⟩,hm⟩
  ·have old:i < c.s.cns.length->cnAt T (i:Int)=cnAt c.s (i:Int)->(cnAt c.s (i:Int)).st=3->∃ k:Nat,(cnAt T (i:Int)).on=k/\k < o.s.cns.length/\2<=(cnAt o.s (k:Int)).st/\(cnAt o.s (k:Int)).on=i/\(cnAt o.s (k:Int)).cl=(cnAt T (i:Int)).oc/\(cnAt o.s (k:Int)).oc=(cnAt T (i:Int)).cl:=fun a b d=>by
    rw [b]; exact h.cn i a d
   simp only at hi h3 ⊢
   cases ec with
   | same q =>
    have e:cnAt T (i:Int)=cnAt c.s (i:Int):=by unfold cnAt; rw [q]
    exact old (by rw [<- q]; exact hi) e (by rw [<- e]; exact h3)
   | add d q qs =>
    by_cases hi2:i < c.s.cns.length
    ·exact old hi2 (ze q hi2) (by rw [<- ze q hi2]; exact h3)
    ·rw [q,List.length_append,List.length_singleton] at hi
     have:i=c.s.cns.length:=by omega
     subst this
     rw [QD q] at h3
     exact absurd h3 qs
   | opn j k st qi q qst qs qk qkind qm =>
    by_cases e:i=j
    ·subst e
     rw [Gc qi q]
     obtain ⟨m',rfl⟩:∃ m',m=showB c o m':=by
      rcases hs with hs | hs
      ·omega
      ·exact hs
     have hcc:=hc.ok.cns _ (bT (s:=c.s) (i:=(i:Int)) ⟨by omega,by omega⟩).2
     obtain ⟨e,e1,e2,e3⟩:=shown_C ho.st (by unfold N12 at qk; omega) ⟨by simp only; omega,hcc.oc,hcc.cl,by unfold N12; simp only; omega⟩ qm
     have mo:=hpo e e1
     obtain ⟨b1,b2,b3,_⟩:=mo.cn k.toNat e2
     have ck:=jb (i:=k) (by unfold N12 at qk; omega)
     rw [ck,e3] at b1 b2 b3
     have l:=mo.len
     refine ⟨k.toNat,by simp only; omega,by omega,?_⟩
     rw [ck]
     have:=b3 (by simp only; omega)
     exact ⟨this.1,this.2,b1,b2⟩
    ·rw [q,List.length_set] at hi
     exact old hi (zb q e) (by rw [<- zb q e]; exact h3)
  ·have keepc:∀ j:Nat,j < c.s.cns.length->(cnAt c.s (j:Int)).st=3->j < T.cns.length/\(cnAt T (j:Int)).st=3/\(cnAt T (j:Int)).on=(cnAt c.s (j:Int)).on:=fun j hj h3=>by
    have l:=hm.len
    obtain ⟨_,_,b3,b4⟩:=hm.cn j hj
    exact ⟨by omega,b4 h3,(b3 (by omega)).2⟩
   have old:i < c.s.chs.length->(chAt T (i:Int)).cn=(chAt c.s (i:Int)).cn->(chAt T (i:Int)).ord=(chAt c.s (i:Int)).ord->(chAt T (i:Int)).oc=(chAt c.s (i:Int)).oc->(chAt c.s (i:Int)).st=3->∃ k:Nat,(chAt T (i:Int)).oc=k/\k < o.s.chs.length/\2<=(chAt o.s (k:Int)).st/\(chAt o.s (k:Int)).oc=i/\(chAt o.s (k:Int)).ord=(chAt T (i:Int)).ord /\
     ∃ j:Nat,(chAt T (i:Int)).cn=j/\j < T.cns.length/\(cnAt T (j:Int)).st=3/\(cnAt T (j:Int)).on=(chAt o.s (k:Int)).cn:=fun a b1 b2 b3 d=>by
    obtain ⟨k,x1,x2,x3,x4,x5,j,y1,y2,y3,y4⟩:=h.ch i a d
    obtain ⟨z1,z2,z3⟩:=keepc j y2 y3
    rw [b1,b2,b3]
    exact ⟨k,x1,x2,x3,x4,x5,j,y1,z1,z2,z3.trans y4⟩
   simp only at hi h3 ⊢
   cases eh with
   | same q =>
    have e:chAt T (i:Int)=chAt c.s (i:Int):=by unfold chAt; rw [q]
    exact old (by rw [<- q]; exact hi) (by rw [e]) (by rw [e]) (by rw [e]) (by rw [<- e]; exact h3)
   | add d q qs =>
    by_cases hi2:i < c.s.chs.length
    ·have e:=Gi q hi2
     exact old hi2 (by rw [e]) (by rw [e]) (by rw [e]) (by rw [<- e]; exact h3)
    ·rw [q,List.length_append,List.length_singleton] at hi
     have:i=c.s.chs.length:=by omega
     subst this
     rw [QO q] at h3
     exact absurd h3 qs
   | upd j d qi q q1 q2 q3 qs =>
    by_cases e:i=j
    ·subst e
     have e:=rX qi q
     rw [e] at h3
     exact old qi (by rw [e]; exact q1) (by rw [e]; exact q2) (by rw [e]; exact q3) (by rcases qs with qs | qs <;> omega)
    ·rw [q,List.length_set] at hi
     have e:=rY q e
     exact old hi (by rw [e]) (by rw [e]) (by rw [e]) (by rw [<- e]; exact h3)
   | opn j k st qi q qst qs qk qkind qov qm =>
    by_cases e:i=j
    ·subst e
     rw [rX qi q]
     obtain ⟨m',rfl⟩:∃ m',m=showB c o m':=by
      rcases hs with hs | hs
      ·omega
      ·exact hs
     obtain ⟨v1,v2,v3,_,_⟩:=overCh_zero.1 qov
     have hcc:=hc.ok.cns _ (bT v1).2
     have hco:=hcc.on
     obtain ⟨e,e1,e2,f1,f2,f3,f4⟩:=shown_H ho.st (by unfold N12 at qk; omega) ⟨by simp only; omega,hcc.on,by unfold N12; simp only; omega⟩ v3 qm
     have mo:=hpo e e1
     obtain ⟨b1,b2,b3⟩:=mo.ch k.toNat e2
     have ck:=jb (i:=k) (by unfold N12 at qk; omega)
     rw [ck] at b1 b2 b3
     have l:=mo.lenh
     have b3':=b3 (by rw [<- f1]; simp only; omega)
     have cj:=jb v1.1
     obtain ⟨z1,z2,z3⟩:=keepc (chAt c.s (i:Int)).cn.toNat (by omega) (by rw [cj]; exact v2)
     refine ⟨k.toNat,by simp only; omega,by omega,?_⟩
     rw [ck]
     refine ⟨b3'.1,b3'.2.trans f4.symm,b2.trans f2.symm,(chAt c.s (i:Int)).cn.toNat,by simp only; omega,z1,z2,?_⟩
     rw [z3,cj,b1]; exact f3
    ·rw [q,List.length_set] at hi
     have e:=rY q e
     exact old hi (by rw [e]) (by rw [e]) (by rw [e]) (by rw [<- e]; exact h3)
 ·exact ⟨h,zD.refl _⟩
theorem one_end {c o:aR} {e:EvD} (hc:jQ c) (ho:jQ o) (h:nM c o) (hpo:∀ e∈o.past,zD e.st o.s) (ht:trueEv e):nM (iD c o e).1 o/\zD c.s (iD c o e).1.s:=by
 have hn:nM c o/\zD c.s c.s:=⟨h,zD.refl _⟩
 unfold iD ja iY
 split
 ·by_cases hb:(dC c e.later).2.err=0
  ·obtain ⟨h1,_,_,e2⟩:=block_done hb
   obtain ⟨_,_,e3,_⟩:=nextS_ok h1
   rw [e2,e3]
   have hm:zD c.s { c.s with h:=c.s.h+1,t:=c.s.t+e.later } :=
    ⟨Nat.le_refl _,fun i _=>⟨rfl,rfl,fun h=>⟨h,rfl⟩,fun h=>h⟩,Nat.le_refl _,fun i _=>⟨rfl,rfl,fun h=>⟨h,rfl⟩⟩⟩
   refine ⟨nM.own h hm rfl rfl fun x hx=>?_,hm⟩
   rcases List.mem_append.1 hx with hx | hx
   ·exact (h.past x hx).trans hm
   ·rw [List.mem_singleton.1 hx]; exact hm
  ·rw [lQ hb]; exact hn
 ·split
  ·split
   ·exact hn
   ·exact zx hc ho h hpo (.inl (by simp [vV]))
  ·split
   ·split
    ·exact hn
    ·exact zx hc ho h hpo (.inl (by simp [vR]))
   ·split
    ·rename_i k
     unfold trueEv trueEv.m4 at ht
     rw [if_pos k] at ht
     exact zx hc ho h hpo (.inl (by omega))
    ·split
     ·exact zx hc ho h hpo (.inr ⟨_,rfl⟩)
     ·exact hn
structure Bl (w:uX):Prop where
 a:nM w.1 w.2
 b:nM w.2 w.1
theorem OU {w:uX} {n:Nat} (h:Bl w) (hw:Bj w n) {e:EvD} (ht:trueEv e):Bl (kU w e).1:=by
 unfold kU
 split
 ·obtain ⟨x,y⟩:=one_end hw.a hw.b h.a h.b.past ht
  exact ⟨x,h.b.oth y⟩
 ·split
  ·obtain ⟨x,y⟩:=one_end hw.b hw.a h.b h.a.past ht
   exact ⟨h.a.oth y,x⟩
  ·exact h
theorem JB:∀ (l:List EvD) {w:uX} {n:Nat},Bl w->Bj w n->n+l.length<=1000->(∀ e∈l,trueEv e)->Bl (n_ w l).1
 | [],_,_,h,_,_,_=>h
 | e :: t,w,n,h,hw,hn,ht=>by
  simp only [List.length_cons] at hn
  exact JB t (OU h hw (ht e (List.mem_cons_self ..))) (xe hw (by omega) e) (by omega) (fun x hx=>ht x (List.mem_cons_of_mem _ hx))
theorem Ip:Bl mV:=⟨⟨(fun _ h=>by cases h),(fun i h=>by simp [mV,aX] at h),(fun i h=>by simp [mV,aX] at h)⟩,⟨(fun _ h=>by cases h),(fun i h=>by simp [mV,aX] at h),(fun i h=>by simp [mV,aX] at h)⟩⟩
end Go.Proofs.YtfenipelcpmkpaaGreatDoor
