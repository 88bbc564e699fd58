/- Chapter 14, plain: what a message leaves of what channels have received. No program is in sight. -/
import Derived.Test.YtfenipelcpmkpaaGreatDoorLaw14P
set_option linter.all false
namespace Go.Proofs.YtfenipelcpmkpaaGreatDoor
open Go Go.Abs
structure RcvStep (s:StateD) (m:MsgD) (t:StateD):Prop where
 len:s.chs.length<=t.chs.length
 old:∀ i:Nat,i < s.chs.length->(chAt t i).ord=(chAt s i).ord/\((chAt s i).ord=true->(chAt t i).rcv=(chAt s i).rcv+(if m.kind=15/\m.pk.de=i then 1 else 0))
 new:∀ i:Nat,s.chs.length<=i->i < t.chs.length->(chAt t i).rcv=1
 arr:m.kind=15->(0<=m.pk.de/\m.pk.de < (s.chs.length:Int))/\((chAt s m.pk.de).ord=true->m.pk.seq=(chAt s m.pk.de).rcv)/\N12 1 m.pk.seq
theorem l_ (s:StateD) (i:Nat):chAt s (i:Int)=s.chs.getD i zeroCh:=rfl
theorem rH {s t:StateD} {m:MsgD} (h:t.chs=s.chs) (k:¬ m.kind=15):RcvStep s m t:=by
 have e:∀ i:Int,chAt t i=chAt s i:=fun i=>by unfold chAt; rw [h]
 refine ⟨by rw [h]; exact Nat.le_refl _,fun i hi=>?_,fun i h1 h2=>by rw [h] at h2; omega,fun q=>absurd q k⟩
 rw [e,if_neg (fun q=>k q.1)]
 exact ⟨rfl,fun _=>by omega⟩
theorem Js {s t:StateD} {m:MsgD} {c:ChanD} (h:t.chs=s.chs++[c]) (hc:c.rcv=1) (k:¬ m.kind=15):RcvStep s m t:=by
 refine ⟨by rw [h]; simp,fun i hi=>?_,fun i h1 h2=>?_,fun q=>absurd q k⟩
 ·rw [if_neg (fun q=>k q.1),l_,l_,h,List.getD_eq_getElem?_getD,List.getD_eq_getElem?_getD,List.getElem?_append_left hi]
  exact ⟨rfl,fun _=>by omega⟩
 ·rw [h] at h2
  simp only [List.length_append,List.length_cons,List.length_nil] at h2
  have e:i=s.chs.length:=by omega
  subst e
  rw [l_,h,List.getD_eq_getElem?_getD]
  simpa using hc
theorem sW {s t:StateD} {m:MsgD} {j:Int} {c:ChanD} (hj:0<=j/\j < (s.chs.length:Int)) (h:t.chs=s.chs.set j.toNat c) (h1:c.ord=(chAt s j).ord)
  (h2:(chAt s j).ord=true->c.rcv=(chAt s j).rcv+(if m.kind=15/\m.pk.de=j then 1 else 0)) (hk:m.kind=15->m.pk.de=j/\((chAt s j).ord=true->m.pk.seq=(chAt s j).rcv)/\N12 1 m.pk.seq):RcvStep s m t:=by
 refine ⟨by rw [h]; simp,fun i hi=>?_,fun i h1 h2=>by rw [h,List.length_set] at h2; omega,fun q=>?_⟩
 ·by_cases e:j=i
  ·subst e
   have ea:chAt t (i:Int)=c:=by
    rw [l_,h,List.getD_eq_getElem?_getD,show ((i:Int)).toNat=i from rfl,List.getElem?_set_self hi]; rfl
   rw [ea]
   exact ⟨h1,h2⟩
  ·have ea:chAt t (i:Int)=chAt s (i:Int):=by
    rw [l_,l_,h,List.getD_eq_getElem?_getD,List.getD_eq_getElem?_getD,List.getElem?_set_ne (by omega)]
   rw [ea,if_neg (fun q=>by have:=(hk q.1).1; omega)]
   exact ⟨rfl,fun _=>by omega⟩
 ·obtain ⟨e,f⟩:=hk q
  rw [e]
  exact ⟨hj,f⟩
theorem Nl {s:StateD} {c:ChanD} (h:(nJ s c).2.2=0):(nJ s c).1.chs=s.chs++[{ c with snd:=1,rcv:=1,ack:=1 }]:=by
 unfold nJ at h ⊢
 split at h
 ·cases h
 ·rename_i k; rw [if_neg k]
theorem PS {s:StateD} {i:Int} {o:Bool} (h:(jI s i o).2.2=0):(jI s i o).1.chs=s.chs++[⟨1,o,i,-1,1,1,1⟩]:=by
 unfold jI at h ⊢
 split at h
 ·rename_i k; rw [if_pos k]
  split at h
  ·rename_i k; rw [if_pos k]; exact Nl h
  ·exact absurd h ‹_›
 ·exact absurd h ‹_›
theorem SQ {s:StateD} {i other:Int} {o:Bool} {w:bD} (h:(oW s i o other w).2.2=0):(oW s i o other w).1.chs=s.chs++[⟨2,o,i,other,1,1,1⟩]:=by
 unfold oW at h ⊢
 split at h
 ·rename_i k; rw [if_pos k]
  split at h
  ·rename_i k; rw [if_pos k]
   split at h
   ·cases h
   ·rename_i k; rw [if_neg k]
    split at h
    ·rename_i k; rw [if_pos k]; exact Nl h
    ·exact absurd h ‹_›
  ·exact absurd h ‹_›
 ·exact absurd h ‹_›
theorem ackh_one {s:StateD} {i other:Int} {w:bD} (h:(ackCh s i other w).2=0):(endCh s i 1).2.2=0/\(ackCh s i other w).1=nowCh s i 3 other:=by
 unfold ackCh at h ⊢
 split at h
 ·rename_i k; rw [if_pos k]
  refine ⟨k,?_⟩
  split at h
  ·cases h
  ·rename_i k; rw [if_neg k]
   split at h
   ·rename_i k; rw [if_pos k]
   ·exact absurd h ‹_›
 ·exact absurd h ‹_›
theorem conf_one {want say:Int} {s:StateD} {i:Int} {w:bD} (h:(confCh want say s i w).2=0):(endCh s i want).2.2=0/\(confCh want say s i w).1=nowCh s i say (chAt s i).oc:=by
 unfold confCh at h ⊢
 split at h
 ·rename_i k; rw [if_pos k]
  refine ⟨k,?_⟩
  split at h
  ·cases h
  ·rename_i k; rw [if_neg k]
   split at h
   ·rename_i k; rw [if_pos k]
   ·exact absurd h ‹_›
 ·exact absurd h ‹_›
theorem clos_one {s:StateD} {i:Int} (h:(closeCh s i).2=0):(endCh s i 3).2.2=0/\(closeCh s i).1=nowCh s i 4 (chAt s i).oc:=by
 unfold closeCh at h ⊢
 split at h
 ·rename_i k; rw [if_pos k]; exact ⟨k,rfl⟩
 ·exact absurd h ‹_›
theorem rcv_now {s:StateD} {m:MsgD} {i how oc want:Int} (h:(endCh s i want).2.2=0) (k:¬ m.kind=15):RcvStep s m (nowCh s i how oc) :=
 sW (endCh_zero.1 h).2.1 rfl rfl (fun _=>by rw [if_neg (fun q=>k q.1)]; simp) (fun q=>absurd q k)
theorem U_ {s:StateD} {m:MsgD} (h1:¬ m.kind<=7) (h2:m.kind<=13) (h:(endA s m).2.2=0):RcvStep s m (endA s m).1:=by
 have k15:¬ m.kind=15:=by omega
 unfold endA at h ⊢
 rw [if_neg (by omega),if_neg (by omega),if_neg (by omega),if_neg (by omega)] at h ⊢
 split at h
 ·rename_i k; rw [if_pos k]; exact Js (PS h) rfl k15
 ·rename_i k; rw [if_neg k]; split at h
  ·rename_i k; rw [if_pos k]; exact Js (SQ h) rfl k15
  ·rename_i k; rw [if_neg k]; split at h
   ·rename_i k; rw [if_pos k]; obtain ⟨a,b⟩:=ackh_one h; simp only; rw [b]; exact rcv_now a k15
   ·rename_i k; rw [if_neg k]; split at h
    ·rename_i k; rw [if_pos k]; obtain ⟨a,b⟩:=conf_one h; simp only; rw [b]; exact rcv_now a k15
    ·rename_i k; rw [if_neg k]; split at h
     ·rename_i k; rw [if_pos k]; obtain ⟨a,b⟩:=clos_one h; simp only; rw [b]; exact rcv_now a k15
     ·rename_i k; rw [if_neg k]; obtain ⟨a,b⟩:=conf_one h; simp only; rw [b]; exact rcv_now a k15
theorem Jr {s t:StateD} {m:MsgD} (h:RcvStep s m t) (l:List az):RcvStep s m { t with pus:=l }:=⟨h.len,h.old,h.new,h.arr⟩
theorem S_ {s:StateD} {m:MsgD} (hk:m.kind=14) (h:(BN s m).2.2=0):RcvStep s m (BN s m).1:=by
 unfold BN at h ⊢
 simp only at h ⊢
 split at h
 ·rename_i h1
  rw [if_pos h1]
  split at h
  ·cases h
  ·rename_i h2
   rw [if_neg h2]
   split at h
   ·rename_i h3
    rw [if_pos h3]
    have hr:=mW.1 h3
    obtain ⟨_,hi,_⟩:=endPk_ok hr.en
    rw [mX hr] at h ⊢
    have hs:RcvStep s m (zS s m.ed ⟨m.ed,(chAt s m.ed).oc,(chAt s m.ed).snd,eT (bB (eT m.tr)).1,m.tout⟩) :=
     sW hi rfl rfl (fun _=>by rw [if_neg (fun q=>by omega)]; simp) (fun q=>by omega)
    split at h
    ·rename_i h4
     simp only at h4 ⊢
     rw [if_pos h4]; exact Jr hs _
    ·rename_i h4
     simp only at h4 h ⊢
     omega
   ·exact absurd h ‹_›
 ·exact absurd h ‹_›
theorem Tn {s:StateD} {m:MsgD} (hk:m.kind=15) (h:(GZ s m).2=0):RcvStep s m (GZ s m).1:=by
 unfold GZ at h ⊢
 simp only at h ⊢
 split at h
 ·rename_i h3
  rw [if_pos h3]
  have hr:=sU.1 h3
  obtain ⟨_,hi,_⟩:=endPk_ok hr.en
  rw [sV hr]
  refine Jr ?_ _
  have hq:(chAt s m.pk.de).ord=true->m.pk.seq=(chAt s m.pk.de).rcv:=fun ho=>Classical.byContradiction fun e=>hr.new (.inl ⟨ho,e⟩)
  by_cases ho:(chAt s m.pk.de).ord=true
  ·refine sW (j:=m.pk.de) (c:={ chAt s m.pk.de with rcv:=(chAt s m.pk.de).rcv+1 }) hi ?_ rfl (fun _=>by rw [if_pos ⟨hk,rfl⟩]) (fun _=>⟨rfl,hq,hr.pk.seq⟩)
   simp only [BR,if_pos ho]
  ·refine sW (j:=m.pk.de) (c:=chAt s m.pk.de) hi ?_ rfl (fun q=>absurd q ho) (fun _=>⟨rfl,hq,hr.pk.seq⟩)
   simp only [BR,if_neg ho]
   rw [(bQ hi).1]
   exact (List.set_getElem_self _).symm
 ·exact absurd h ‹_›
theorem ackPk_ch {s:StateD} {p:dK} {ack:List UInt8} {w:bD} (h:(jL s p ack w).2=0):mR s p/\((jL s p ack w).1.chs=s.chs\/(jL s p ack w).1.chs=s.chs.set p.fr.toNat { chAt s p.fr with ack:=(chAt s p.fr).ack+1 }):=by
 refine ⟨(ackPk_zero h).1,?_⟩
 unfold jL at h ⊢
 split at h
 ·rename_i k; rw [if_pos k]
  split at h
  ·cases h
  ·rename_i k; rw [if_neg k]
   split at h
   ·cases h
   ·rename_i k; rw [if_neg k]
    split at h
    ·cases h
    ·rename_i k; rw [if_neg k]
     split at h
     ·rename_i k; rw [if_pos k]
      split
      ·exact .inr rfl
      ·exact .inl rfl
     ·exact absurd h ‹_›
 ·exact absurd h ‹_›
theorem latePk_ch {s:StateD} {p:dK} {next:Int} {w:bD} (h:(fQ s p next w).2=0):mR s p/\((fQ s p next w).1.chs=s.chs\/(fQ s p next w).1.chs=s.chs.set p.fr.toNat { chAt s p.fr with st:=4 }):=by
 refine ⟨(latePk_zero h).1,?_⟩
 unfold fQ at h ⊢
 split at h
 ·rename_i k; rw [if_pos k]
  split at h
  ·cases h
  ·rename_i k; rw [if_neg k]
   split at h
   ·rename_i k; rw [if_pos k]
    split at h
    ·cases h
    ·rename_i k; rw [if_neg k]
     split at h
     ·rename_i k; rw [if_pos k]; exact .inr rfl
     ·exact absurd h ‹_›
   ·rename_i k; rw [if_neg k]
    split at h
    ·rename_i k; rw [if_pos k]; exact .inl rfl
    ·exact absurd h ‹_›
 ·exact absurd h ‹_›
theorem setA_chs {s:StateD} {m:MsgD} (h:(zR s m).2=0):(if m.kind=16 then jL s m.pk m.ack m.sh else fQ s m.pk m.next m.sh).2=0/\(zR s m).1.chs=(if m.kind=16 then jL s m.pk m.ack m.sh else fQ s m.pk m.next m.sh).1.chs:=by
 unfold zR at h ⊢
 simp only at h ⊢
 generalize (if m.kind=16 then jL s m.pk m.ack m.sh else fQ s m.pk m.next m.sh)=r at *
 generalize (if m.kind=16 then decide (m.ack=[48]) else true)=bk at *
 by_cases k:r.2=0
 ·rw [if_pos k] at h ⊢
  refine ⟨k,?_⟩
  by_cases k2:(bB m.pk.data).2=0/\bk=true
  ·rw [if_pos k2] at h ⊢
   by_cases k3:(kL r.1.pus m.pk.fr (bB m.pk.data).1).2=0
   ·rw [if_pos k3]
   ·rw [if_neg k3] at h; simp only at h; omega
  ·rw [if_neg k2]
 ·rw [if_neg k] at h; exact absurd h k
theorem Tf {s:StateD} {m:MsgD} (hk:16<=m.kind) (h:(zR s m).2=0):RcvStep s m (zR s m).1:=by
 have k15:¬ m.kind=15:=by omega
 obtain ⟨h1,h2⟩:=setA_chs h
 have key:mR s m.pk/\∃ c:ChanD,c.ord=(chAt s m.pk.fr).ord/\c.rcv=(chAt s m.pk.fr).rcv/\((zR s m).1.chs=s.chs\/(zR s m).1.chs=s.chs.set m.pk.fr.toNat c):=by
  rw [h2]
  by_cases k:m.kind=16
  ·rw [if_pos k] at h1 ⊢
   obtain ⟨a,b⟩:=ackPk_ch h1
   exact ⟨a,{ chAt s m.pk.fr with ack:=(chAt s m.pk.fr).ack+1 },rfl,rfl,b⟩
  ·rw [if_neg k] at h1 ⊢
   obtain ⟨a,b⟩:=latePk_ch h1
   exact ⟨a,{ chAt s m.pk.fr with st:=4 },rfl,rfl,b⟩
 obtain ⟨hp,c,c1,c2,h3⟩:=key
 obtain ⟨_,hi,_⟩:=endPk_ok hp.en
 rcases h3 with h3 | h3
 ·exact rH h3 k15
 ·exact sW hi h3 c1 (fun _=>by rw [c2,if_neg (fun q=>k15 q.1)]; omega) (fun q=>absurd q k15)
theorem Vb {s:StateD} {m:MsgD} (h64:P64 s.pus) (h:(doS s m).2.err=0):RcvStep s m (doS s m).1:=by
 have hp:=(FO h64 h).place
 obtain ⟨ok,h0,e⟩:=doS_done h
 rw [e] at hp ⊢
 by_cases k7:m.kind<=7
 ·refine rH ?_ (by omega)
  by_cases k3:m.kind<=3
  ·rw [if_pos k3] at hp
   have q:=congrArg StateD.chs hp; exact q
  ·rw [if_neg k3,if_pos k7] at hp
   have q:=congrArg StateD.chs hp; exact q
 ·by_cases k18:m.kind=18
  ·rw [if_neg (by omega),if_neg k7,if_neg (by omega),if_pos k18] at hp
   exact rH (by have q:=congrArg StateD.chs hp; exact q) (by omega)
  ·clear hp
   unfold Dv at h0 ⊢
   split at h0
   ·cases h0
   ·rename_i k0
    rw [if_neg k0]
    rw [if_neg (by omega)] at h0 ⊢
    split at h0
    ·rename_i k; rw [if_pos k]; exact U_ k7 k h0
    ·rename_i k; rw [if_neg k]; split at h0
     ·rename_i k; rw [if_pos k]; exact S_ k h0
     ·rename_i k; rw [if_neg k]; split at h0
      ·rename_i k; rw [if_pos k]; exact Tn k h0
      ·rename_i k; rw [if_neg k]; (try rw [if_neg k18]); (try rw [if_neg k18] at h0); exact Tf (by omega) h0
end Go.Proofs.YtfenipelcpmkpaaGreatDoor
