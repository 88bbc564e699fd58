/- Merged texts: Law14P, Law14Q, UnP, Law14U. -/
import Derived.Test.YtdmeldhlbpdeeaaGreatDoorGBc
set_option linter.all false
namespace Go.Proofs.YtdmeldhlbpdeeaaGreatDoor
open Go Go.Abs
structure ajd (w:kY):Prop where
 a:w.1.s.h=((w.1.past.length+1:Nat):Int)
 b:w.2.s.h=((w.2.past.length+1:Nat):Int)
theorem UI (n:Nat):∃b t,Lib.decDigits n=b::t/\b.toNat<58:=by
 cases e:Lib.decDigits n with
 |nil =>have h:=aax n;rw[e]at h;have h0:n=0:=h.symm;subst h0;rw[Lib.decDigits_one (by decide)]at e;cases e
 |cons b t=>exact⟨b,t,rfl,by have:=(XG n b (by rw[e];simp)).2;omega⟩
theorem aan (d:ByteArray)(hd:d=il\/d=uh)(i:Nat):qK d (jR (i:Nat))=false:=by
 have h1:∃b t,Lib.itoa ((i:Nat):Int)=b::t/\b.toNat<58:=by rw[Lib.itoa_nonneg];exact UI i
 obtain⟨b,t,e,hb⟩:=h1;have h2:(jR (i:Nat)).size=t.length+2:=by simp[jR,ByteArray.size,e]
 unfold qK;by_cases hs:(jR (i:Nat)).size<=d.size
 ·have h3:¬d.extract 0 (jR (i:Nat)).size=jR (i:Nat):=λh=>by
   have h4:(d.extract 0 (jR (i:Nat)).size).data[0]?=(jR (i:Nat)).data[0]?:=by rw[h]
   rw[ByteArray.data_extract]at h4;have h5:(jR (i:Nat)).data[0]?=some b:=by simp[jR,e]
   rw[h5,Array.getElem?_extract]at h4;rcases hd with rfl|rfl
   ·simp[il,h2]at h4;obtain⟨_,rfl⟩:=h4;revert hb;decide
   ·simp[uh,h2]at h4;obtain⟨_,rfl⟩:=h4;revert hb;decide
  have:(d.extract 0 (jR (i:Nat)).size==jR (i:Nat))=false:=by rw[aff];exact decide_eq_false h3
  rw[this,Bool.and_false]
 ·rw[decide_eq_false hs,Bool.false_and]
structure ahl (s:StateD) (m:MsgD) (t:StateD):Prop where
 len:s.chs.length<=t.chs.length
 old:∀i:Nat,i<s.chs.length->(chAt t i).ord=(chAt s i).ord/\((chAt s i).ord=true->(chAt t i).rcv=(chAt s i).rcv+(if m.kind=15/\m.pk.de=i then 1 else 0))
 new:∀i:Nat,s.chs.length<=i->i<t.chs.length->(chAt t i).rcv=1
 arr:m.kind=15->(0<=m.pk.de/\m.pk.de<(s.chs.length:Int))/\((chAt s m.pk.de).ord=true->m.pk.seq=(chAt s m.pk.de).rcv)/\N12 1 m.pk.seq
theorem cnB_in:∀{i:Nat}{l:List ConnD}{p:aN},p∈cnB i l->∃(j:Nat)(h:j<l.length),p=⟨keyC ((i+j:Nat):Int),kQ l[j]⟩
 |i,c::t,p,h=>by
  simp only[cnB,List.mem_cons]at h;rcases h with rfl|h
  ·exact⟨0,by simp,rfl⟩
  ·obtain⟨j,hj,rfl⟩:=cnB_in h;exact⟨j+1,by simpa using hj,by simp only[List.getElem_cons_succ];rw[show i+1+j=i+(j+1) by omega]⟩
theorem XN:∀{i:Nat}{l:List ConnD}{j:Nat}(h:j<l.length),(⟨keyC ((i+j:Nat):Int),kQ l[j]⟩:aN)∈cnB i l
 |i,c::t,0,h=>by simp[cnB]
 |i,c::t,j+1,h=>by have:=XN (i:=i+1) (l:=t) (j:=j) (by simpa using h);rw[show i+1+j=i+(j+1) by omega]at this;simp only[cnB,List.mem_cons,List.getElem_cons_succ];exact .inr this
theorem XO:∀{i:Nat}{l:List ChanD}{j:Nat}(h:j<l.length),(⟨keyH ((i+j:Nat):Int),kR l[j]⟩:aN)∈chB i l/\(⟨keyN ((i+j:Nat):Int),Dw l[j].rcv⟩:aN)∈chB i l
 |i,c::t,0,h=>by simp[chB]
 |i,c::t,j+1,h=>by have:=XO (i:=i+1) (l:=t) (j:=j) (by simpa using h);rw[show i+1+j=i+(j+1) by omega]at this;simp only[chB,List.mem_cons,List.getElem_cons_succ];exact⟨.inr (.inr this.1),.inr (.inr this.2)⟩
inductive aiy (s:StateD) (m:MsgD) (t:StateD):Prop
 |same (h:t.cns=s.cns)
 |add (c:ConnD) (h:t.cns=s.cns++[c]) (hs:¬c.st=3)
 |opn (i:Nat) (k st:Int) (hi:i<s.cns.length) (h:t.cns=s.cns.set i {cnAt s (i:Int)with st:=3,on:=k}) (hst:st=2\/st=3) (hs:(cnAt s (i:Int)).st=1\/((cnAt s (i:Int)).st=2/\k=(cnAt s (i:Int)).on)) (hk:N12 0 k) (kind:m.kind=6\/m.kind=7)
   (mem:bF (gU s (cnAt s (i:Int)).cl) s.t m.sh.h (keyC k) (kQ ⟨st,(cnAt s (i:Int)).oc,(cnAt s (i:Int)).cl,i⟩) m.sh.p=0)
inductive aiz (s:StateD) (m:MsgD) (t:StateD):Prop
 |same (h:t.chs=s.chs)
 |add (c:ChanD) (h:t.chs=s.chs++[c]) (hs:¬c.st=3)
 |upd (i:Nat) (c:ChanD) (hi:i<s.chs.length) (h:t.chs=s.chs.set i c) (h1:c.cn=(chAt s (i:Int)).cn) (h2:c.ord=(chAt s (i:Int)).ord) (h3:c.oc=(chAt s (i:Int)).oc) (hs:c.st=(chAt s (i:Int)).st\/c.st=4)
 |opn (i:Nat) (k st:Int) (hi:i<s.chs.length) (h:t.chs=s.chs.set i {chAt s (i:Int)with st:=3,oc:=k}) (hst:st=2\/st=3) (hs:(chAt s (i:Int)).st=1\/((chAt s (i:Int)).st=2/\k=(chAt s (i:Int)).oc)) (hk:N12 0 k) (kind:m.kind=10\/m.kind=11)
   (ov:(overCh s (chAt s (i:Int)).cn).2=0) (mem:bF (gU s (cnAt s (chAt s (i:Int)).cn).cl) s.t m.sh.h (keyH k) (kR ⟨st,(chAt s (i:Int)).ord,(cnAt s (chAt s (i:Int)).cn).on,i,0,0,0⟩) m.sh.p=0)
structure VK (s t:StateD):Prop where
 len:s.cns.length<=t.cns.length
 cn:∀i:Nat,i<s.cns.length->(cnAt t (i:Int)).cl=(cnAt s (i:Int)).cl/\(cnAt t (i:Int)).oc=(cnAt s (i:Int)).oc/\(2<=(cnAt s (i:Int)).st->2<=(cnAt t (i:Int)).st/\(cnAt t (i:Int)).on=(cnAt s (i:Int)).on)/\((cnAt s (i:Int)).st=3->(cnAt t (i:Int)).st=3)
 lenh:s.chs.length<=t.chs.length
 ch:∀i:Nat,i<s.chs.length->(chAt t (i:Int)).cn=(chAt s (i:Int)).cn/\(chAt t (i:Int)).ord=(chAt s (i:Int)).ord/\(2<=(chAt s (i:Int)).st->2<=(chAt t (i:Int)).st/\(chAt t (i:Int)).oc=(chAt s (i:Int)).oc)
theorem VK.refl (s:StateD):VK s s:=⟨Nat.le_refl _,λi _=>⟨rfl,rfl,λh=>⟨h,rfl⟩,λh=>h⟩,Nat.le_refl _,λi _=>⟨rfl,rfl,λh=>⟨h,rfl⟩⟩⟩
theorem VK.trans {a b c:StateD}(h:VK a b)(g:VK b c):VK a c:=by
 have l1:=h.len;have l2:=g.len;have l3:=h.lenh;have l4:=g.lenh;refine⟨by omega,λi hi=>?_,by omega,λi hi=>?_⟩
 ·obtain⟨a1,a2,a3,a4⟩:=h.cn i hi;obtain⟨b1,b2,b3,b4⟩:=g.cn i (by omega);exact⟨b1.trans a1,b2.trans a2,λq=>⟨(b3 (a3 q).1).1,((b3 (a3 q).1).2).trans (a3 q).2⟩,λq=>b4 (a4 q)⟩
 ·obtain⟨a1,a2,a3⟩:=h.ch i hi;obtain⟨b1,b2,b3⟩:=g.ch i (by omega);exact⟨b1.trans a1,b2.trans a2,λq=>⟨(b3 (a3 q).1).1,((b3 (a3 q).1).2).trans (a3 q).2⟩⟩
theorem BC (c o:ay)(m:MsgD):(showB c o m).kind=m.kind:=by
 unfold showB vM;split
 ·rfl
 ·split
  ·rfl
  ·split<;>rfl
structure Rx (c o:ay):Prop where
 past:∀e∈c.past,VK e.st c.s
 cn:∀i:Nat,i<c.s.cns.length->(cnAt c.s (i:Int)).st=3->∃k:Nat,(cnAt c.s (i:Int)).on=k/\k<o.s.cns.length/\2<=(cnAt o.s (k:Int)).st/\(cnAt o.s (k:Int)).on=i/\(cnAt o.s (k:Int)).cl=(cnAt c.s (i:Int)).oc/\(cnAt o.s (k:Int)).oc=(cnAt c.s (i:Int)).cl
 ch:∀i:Nat,i<c.s.chs.length->(chAt c.s (i:Int)).st=3->∃k:Nat,(chAt c.s (i:Int)).oc=k/\k<o.s.chs.length/\2<=(chAt o.s (k:Int)).st/\(chAt o.s (k:Int)).oc=i/\(chAt o.s (k:Int)).ord=(chAt c.s (i:Int)).ord /\
  ∃j:Nat,(chAt c.s (i:Int)).cn=j/\j<c.s.cns.length/\(cnAt c.s (j:Int)).st=3/\(cnAt c.s (j:Int)).on=(chAt o.s (k:Int)).cn
theorem Rx.own {c o:ay}{t:StateD}(h:Rx c o)(hm:VK c.s t)(hcn:t.cns=c.s.cns)(hch:t.chs=c.s.chs){p:List EndD}(hp:∀e∈p,VK e.st t):Rx {c with s:=t,past:=p} o:=by
 have e1:∀i:Int,cnAt t i=cnAt c.s i:=λi=>by unfold cnAt;rw[hcn]
 have e2:∀i:Int,chAt t i=chAt c.s i:=λi=>by unfold chAt;rw[hch]
 refine⟨hp,λi hi hs=>?_,λi hi hs=>?_⟩
 ·simp only[e1]at hs⊢;exact h.cn i (by rw[<- hcn];exact hi) hs
 ·simp only[e1,e2]at hs⊢;simp only[hcn];exact h.ch i (by rw[<- hch];exact hi) hs
structure ahM (w:kY):Prop where
 a:Rx w.1 w.2
 b:Rx w.2 w.1
end Go.Proofs.YtdmeldhlbpdeeaaGreatDoor
