/- Merged texts: TrP, LkT, LkU, LkV. -/
import Derived.Test.YtdmeldhlbpdeeaaGreatDoorGLk
set_option linter.all false
namespace Go.Proofs.YtdmeldhlbpdeeaaGreatDoor
open Go Go.Abs
theorem same4 {a b c d:bC}{m:List bC}(h:aM [a,b,c,d] m=true):∃p q r s,m=[p,q,r,s]/\dS a p=true/\dS b q=true/\dS c r=true/\dS d s=true:=by
 match m,h with
 |[p,q,r,s],h=>simp only[aM,Bool.and_eq_true]at h;exact⟨p,q,r,s,rfl,h.1,h.2.1,h.2.2.1,h.2.2.2.1⟩
 |[],h=>simp[aM]at h
 |[_],h=>simp[aM]at h
 |[_,_],h=>simp[aM]at h
 |[_,_,_],h=>simp[aM]at h
 |_::_::_::_::_::_,h=>simp[aM]at h
theorem pcs64 {t:eX}(hn:t.n<18446744073709551616):KM (pcsT t):=by intro p hp;simp only[pcsT,Gx,List.mem_cons,List.not_mem_nil,or_false]at hp;rcases hp with rfl|rfl|rfl|rfl<;>first|exact hn|(simp only;omega)
theorem nR {n:Nat}(h:n<128):(jG n).length=1:=by unfold jG;rw[mR,if_pos h];rfl
theorem write_t {t:eX}(hd:t.d.size<=40)(hs:t.s.size<=40)(hr:t.r.size<=40):∃x a,bD (pcsT t)=(x,0,a)/\x.length<=150:=by
 have l1:(unB t.d).length<=40:=by simpa[unB]using hd
 have l2:(unB t.s).length<=40:=by simpa[unB]using hs
 have l3:(unB t.r).length<=40:=by simpa[unB]using hr
 have v1:=nR (n:=(unB t.d).length) (by omega);have v2:=nR (n:=(unB t.s).length) (by omega);have v3:=nR (n:=(unB t.r).length) (by omega);have v4:=nR (n:=4) (by omega);have v5:=dG t.n;have e1:fJ (Gx t.d)=some (1::(jG (unB t.d).length++unB t.d)):=rfl;have e2:fJ (Gx t.s)=some (1::(jG (unB t.s).length++unB t.s)):=rfl;have e3:fJ (Gx t.r)=some (1::(jG (unB t.r).length++unB t.r)):=rfl;have e4:fJ ⟨1,t.n,[]⟩=some (0::jG t.n):=rfl;unfold bD pcsT;rw[if_neg (by simp)];simp only[cO,e1,e2,e3,e4];rw[show([Gx t.d,(⟨1,t.n,[]⟩:bC),Gx t.s,Gx t.r]:List bC).length=4 from rfl];generalize jG (unB t.d).length=a1 at*;generalize jG (unB t.s).length=a2 at*;generalize jG (unB t.r).length=a3 at*;generalize jG t.n=a4 at*;generalize jG 4=a5 at*;rw[if_neg (by simp;omega),if_neg (by simp;omega),if_neg (by simp;omega),if_neg (by simp;omega)];exact⟨_,_,rfl,by simp;omega⟩
theorem Dl {t:eX}(hd:t.d.size<=40)(hs:t.s.size<=40)(hr:t.r.size<=40):(bytesT t).length<=150:=by obtain⟨x,a,e,h⟩:=write_t hd hs hr;unfold bytesT;rw[e];exact h
theorem Es {t:eX}(hn:t.n<18446744073709551616)(h0:¬t.n=0)(hd:wordOk t.d=true)(hs:wordOk t.s=true)(hr:wordOk t.r=true):bE (bytesT t)=(t,0):=by
 have w1:=wordOk_iff.1 hd;have w2:=wordOk_iff.1 hs;have w3:=wordOk_iff.1 hr;obtain⟨x,a,hw,_⟩:=write_t w1.2 w2.2 w3.2;have hb:bytesT t=x:=by unfold bytesT;rw[hw]
 obtain⟨m,hm,hq⟩:=write_read hw (pcs64 hn);obtain⟨p,q,r,s,rfl,h1,h2,h3,h4⟩:=same4 (by simpa only[pcsT]using hq);simp[dS,Gx]at h1 h2 h3 h4;rw[hb];unfold bE;rw[hm];simp only[if_true,KT,Jv];obtain⟨k1,b1⟩:=h1;obtain⟨k2,n2⟩:=h2;obtain⟨k3,b3⟩:=h3;obtain⟨k4,b4⟩:=h4;replace k1:=of_decide_eq_true k1;replace k3:=of_decide_eq_true k3;replace k4:=of_decide_eq_true k4;replace b1:=of_decide_eq_true b1;replace b3:=of_decide_eq_true b3;replace b4:=of_decide_eq_true b4;rw[<- k1,<- k2,<- k3,<- k4];simp only[and_self,if_true];rw[<- b1,<- n2,<- b3,<- b4];simp only[Ed];rw[if_pos (by unfold vD;rw[if_pos (by simp[hd,hs,hr])]),if_neg h0]
def aae (e:EvD)(m:MsgD):Prop:=e.kind=4/\e.m=m
theorem Ey {c o:ay}{e:EvD}{m:MsgD}(h:aae e m):oneB c o e=kX c m:=by unfold oneB;rw[if_neg (by rw[h.1];decide),if_neg (by rw[h.1];decide),if_neg (by rw[h.1];decide),if_pos h.1,h.2]
structure Rs (c o:ay) (e:EvD) (x:Int):Prop where
 err:(oneB c o e).2.err=x
 st:(oneB c o e).1=c
theorem act_no {nm:ByteArray}{c:ay}{n:Nat}(hs:nN nm c n){m:MsgD}{x:Int}(h:(mg c.s m).2.err=x)(hx:¬x=0):(kX c m).2.err=x/\(kX c m).1=c:=by
 have e:doS c.s m=(c.s,dE x):=by unfold doS;rw[if_pos (aC.2 hs.ok),if_neg (by rw[h];exact hx),h]
 unfold kX;rw[e];exact⟨rfl,if_neg hx⟩
theorem lk0 {trust:Int}{w:kY}{n:Nat}{a b x y a':EndsD}{e:EvD}(h:Lk trust w n a b x y)(k:e.side=0)(m:MsgOk nmA w.1 w.2 n e a'):(iF w e).2.err=0/\Lk trust (iF w e).1 n a' b x y:=by rw[ug k];exact⟨m.err,⟨uX h.a m,uY h.b m.past⟩⟩
theorem lk1 {trust:Int}{w:kY}{n:Nat}{a b x y b':EndsD}{e:EvD}(h:Lk trust w n a b x y)(k:e.side=1)(m:MsgOk nmB w.2 w.1 n e b'):(iF w e).2.err=0/\Lk trust (iF w e).1 n a b' x y:=by rw[ql k];exact⟨m.err,⟨uY h.a m.past,uX h.b m⟩⟩
theorem adx {w:kY}{e:EvD}{x:Int}(k:e.side=1)(m:Rs w.2 w.1 e x):(iF w e).2.err=x/\(iF w e).1=w:=by rw[ql k];exact⟨m.err,by rw[m.st]⟩
theorem MI (c o:ay)(m:MsgD):(showB c o m).pk=m.pk/\(showB c o m).ed=m.ed:=by
 unfold showB vM;split
 ·exact⟨rfl,rfl⟩
 ·split
  ·exact⟨rfl,rfl⟩
  ·split<;>exact⟨rfl,rfl⟩
theorem Tu {s:StateD}{m:MarkD}(h:m∈s.sent):(⟨keyM mK m.ch m.seq,m.dg⟩:aN)∈rawS s:=by simp only[rawS,List.mem_append];exact .inl (.inl (.inr (List.mem_map.2 ⟨m,h,rfl⟩)))
section
variable {trust:Int}{nm onm:ByteArray}{c o:ay}{n k:Nat}{a b:EndsD}{e:EvD}{r:Bool}{st S R K q T:Int}{t:eX}{pu:List PurseD}{dat:List UInt8}
theorem own_view (v:View trust nm onm c o n k a b):c.s.sent=a.sent/\c.s.got=a.got/\c.s.acks=a.acks/\c.s.pus=a.pus:=by rw[<- v.ends];exact⟨rfl,rfl,rfl,rfl⟩
theorem TJ (v:View trust nm onm c o n k a b):endsOf (o.past[k]'(by have:=v.len;omega)).st=b:=v.last (by have:=v.len;omega)
theorem De (v:View trust nm onm c o n k a b)(h:a.cns=[⟨3,0,0,0⟩])(h':a.chs=[⟨st,r,0,0,S,R,K⟩]):Bf c.s 0=clK onm trust o (k+1):=by have oc:=(bS v).1.trans h;have oh:=(bS v).2.trans h';unfold Bf;rw[chAt_one oh];show gU c.s (cnAt c.s 0).cl=_;rw[eD oc];exact kM v.cl
theorem IX (v:View trust nm onm c o n k a b)(h:a.cns=[⟨3,0,0,0⟩])(h':a.chs=[⟨st,r,0,0,S,R,K⟩]){ws:List Int}(hst:stIn st ws=true):(endPk c.s 0 ws).2.2=0:=by have oh:=(bS v).2.trans h';refine endPk_zero.2 ⟨v.sd.ok,by rw[oh];simp,by rw[chAt_one oh];exact hst,?_⟩;rw[chAt_one oh];exact Nr v h
def YZ (a:EndsD)(r:Bool)(S R K:Int)(p:dX)(pu:List PurseD):EndsD:={a with sent:=ui a.sent ⟨0,S,digPk p⟩,chs:=[⟨3,r,0,0,S+1,R,K⟩],pus:=pu}
theorem m_send (v:View trust nm onm c o n k a b)(he:aae e {zeroMsg with kind:=14,tr:=t,tout:=T})(h:a.cns=[⟨3,0,0,0⟩])(h':a.chs=[⟨3,r,0,0,S,R,K⟩])(hp:bE (bytesT t)=(t,0))(hs:ig t.s=false)(hk:Yu ⟨0,0,S,bytesT t,T⟩)
  (hT:(k:Int)+1<T) (hl:a.sent.length<50) (hS:S<1000000000000) (hv:kK a.pus 0 t=(pu,0)):MsgOk nm c o n e (YZ a r S R K ⟨0,0,S,bytesT t,T⟩ pu)/\(oneB c o e).2.pk=⟨0,0,S,bytesT t,T⟩:=by
 have oc:=(bS v).1.trans h;have oh:=(bS v).2.trans h';have hh:=chAt_one oh;obtain⟨o1,o2,o3,o4⟩:=own_view v;have hcl:=(JP (nm:=nm) (trust:=trust) (now:=(n:Int)) v.so v.len v.tr).2;rw[<- De v h h']at hcl;have ok:JR c.s 0 (bytesT t) T:=⟨IX v h h' rfl,by rw[hh];exact hk,by rw[hcl];exact hT,by rw[o1,hh];exact⟨by omega,by simp only;omega⟩⟩
 have hd:=pg ok;rw[hh]at hd;simp only at hd;have hpus:(xq c.s 0 ⟨0,0,S,bytesT t,T⟩).pus=a.pus:=o4;have hsnd:Gi c.s {zeroMsg with kind:=14,tr:=t,tout:=T}=({xq c.s 0 ⟨0,0,S,bytesT t,T⟩with pus:=pu},⟨0,0,S,bytesT t,T⟩,0):=by unfold Gi;simp only[hp,hs,if_true,Bool.false_eq_true,if_false,show zeroMsg.ed=0 from rfl,hd,hpus,hv]
 have h0:mg c.s {zeroMsg with kind:=14,tr:=t,tout:=T}=({xq c.s 0 ⟨0,0,S,bytesT t,T⟩with pus:=pu},⟨0,0,⟨0,0,S,bytesT t,T⟩⟩):=by unfold mg;rw[if_neg (by simp),if_neg (by simp),if_neg (by simp),if_pos rfl,hsnd]
 obtain⟨e1,e2⟩:=act_eq v.sd (m:={zeroMsg with kind:=14,tr:=t,tout:=T}) (by rw[h0]);have eo:=Ey (c:=c) (o:=o) he;rw[<- eo]at e1 e2;rw[h0]at e1;refine⟨⟨by rw[e1],e2,by rw[e1];rfl,?_,by rw[e1]⟩,by rw[e1]⟩;rw[e1];show(⟨c.s.cns,c.s.chs.set (0:Int).toNat {chAt c.s 0 with snd:=(chAt c.s 0).snd+1},ui c.s.sent _,c.s.got,c.s.acks,pu⟩:EndsD)=_;rw[hh,oh,oc,o1,o2,o3];unfold YZ;rw[h];rfl
def recvE (a:EndsD)(r:Bool)(S R K:Int)(p:dX)(pu:List PurseD):EndsD :=
 {a with chs:=[⟨3,r,0,0,S,if r=true then R+1 else R,K⟩],got:=if r=true then a.got else ui a.got ⟨0,p.seq,digPk p⟩,acks:=ui a.acks ⟨0,p.seq,sha [49]⟩,pus:=pu}
theorem aaZ (v:View trust nm onm c o n k a b)(h:a.cns=[⟨3,0,0,0⟩])(h':a.chs=[⟨st,r,0,0,S,R,K⟩]){m:MsgD}(hk:m.pk.fr=0/\m.pk.de=0):
  (m.kind=15->iA c m=(0,keyM mK 0 m.pk.seq,false,true))/\(m.kind=16->iA c m=(0,keyM FQ 0 m.pk.seq,false,true))/\(m.kind=17->iA c m=if r=true then(0,keyN 0,false,true)else(0,keyM FP 0 m.pk.seq,true,true)):=by
 have oc:=(bS v).1.trans h;have oh:=(bS v).2.trans h';have hch:f_ c 0=(⟨st,r,0,0,S,R,K⟩,0,true):=by unfold f_ jg;simp[oc,oh,eD oc,chAt_one oh]
 refine⟨λe=>?_,λe=>?_,λe=>?_⟩<;>unfold iA<;>simp[e,hk.1,hk.2,hch]
theorem adt (v:View trust nm onm c o n k a b)(he:lD e {zeroMsg with kind:=15,pk:=⟨0,0,q,dat,T⟩})(h:a.cns=[⟨3,0,0,0⟩])(h':a.chs=[⟨3,r,0,0,S,R,K⟩])(hp:bE dat=(t,0))(hs:ig t.r=false)(hk:Yu ⟨0,0,q,dat,T⟩)
  (hT:(n:Int)<T) (l1:a.got.length<50) (l2:a.acks.length<50) (hR:R<1000000000000) (hq:(r=true->q=R)/\(r=false->pQ a.got 0 q=none)) (hm:(⟨0,q,digPk ⟨0,0,q,dat,T⟩⟩:MarkD)∈b.sent) (hv:sj a.pus 0 0 t=(pu,0)):
  MsgOk nm c o n e (recvE a r S R K ⟨0,0,q,dat,T⟩ pu):=by
 have oc:=(bS v).1.trans h;have oh:=(bS v).2.trans h';have hh:=chAt_one oh;obtain⟨o1,o2,o3,o4⟩:=own_view v;have hq1:=o_ (msg:={zeroMsg with kind:=15,pk:=⟨0,0,q,dat,T⟩}) (K:=keyM mK 0 q) v.sd v.so v.cl v.len v.tr ((aaZ v h h' ⟨rfl,rfl⟩).1 rfl);have hw:=lT v (Tu (m:=⟨0,q,digPk ⟨0,0,q,dat,T⟩⟩) (by rw[show(o.past[k]'(by have:=v.len;omega)).st.sent=b.sent from congrArg EndsD.sent (TJ v)];exact hm));have ecl:gU c.s 0=Bf c.s 0:=by rw[De v h h',kM v.cl]
 rw[ecl]at hw;have ok:JU c.s ⟨0,0,q,dat,T⟩ [49] {zSh with h:=(k:Int)+1,p:=(iQ (fM (o.past[k]'(by have:=v.len;omega)).st).1 (keyM mK 0 q)).1}:=by
  refine⟨hk,IX v h h' rfl,by rw[hh],by rw[v.sd.h];exact hT,?_,?_,hw⟩
  ·show ¬(((chAt c.s 0).ord=true/\¬q=(chAt c.s 0).rcv)\/((chAt c.s 0).ord=false/\(pQ c.s.got 0 q).isSome=true));rw[hh,o2];rintro(⟨x,y⟩|⟨x,y⟩)
   ·exact y (hq.1 x)
   ·rw[hq.2 x]at y;cases y
  ·rw[o2,o3];show _/\_/\_/\¬(chAt c.s 0).rcv=1000000000000;rw[hh];exact⟨by omega,by omega,by simp,by simp only;omega⟩
 have hd:=vT ok;have hcom:XK c.s ⟨0,0,q,dat,T⟩=([49],pu):=by unfold XK;simp only[hp,hs,and_self,if_true,o4,hv]
 have hrc:Gu c.s (showB c o {zeroMsg with kind:=15,pk:=⟨0,0,q,dat,T⟩})=({recvS c.s ⟨0,0,q,dat,T⟩ [49]with pus:=pu},0):=by rw[hq1];unfold Gu;simp only[hcom,hd,if_true]
 have hki:(showB c o {zeroMsg with kind:=15,pk:=⟨0,0,q,dat,T⟩}).kind=15:=by rw[BC]
 have h0:mg c.s (showB c o {zeroMsg with kind:=15,pk:=⟨0,0,q,dat,T⟩})=({recvS c.s ⟨0,0,q,dat,T⟩ [49]with pus:=pu},dE 0):=by unfold mg;rw[hki,if_neg (by decide),if_neg (by decide),if_neg (by decide),if_neg (by decide),if_pos rfl,hrc]
 obtain⟨e1,e2⟩:=act_eq v.sd (m:=showB c o {zeroMsg with kind:=15,pk:=⟨0,0,q,dat,T⟩}) (by rw[h0];rfl);have eo:=zM (c:=c) (o:=o) he;rw[<- eo]at e1 e2;rw[h0]at e1;have hrs:endsOf {recvS c.s ⟨0,0,q,dat,T⟩ [49]with pus:=pu}=recvE a r S R K ⟨0,0,q,dat,T⟩ pu:=by
  unfold recvS recvE;rw[hh];cases r
  ·simp only[Bool.false_eq_true,if_false,endsOf,oc,oh,o1,o2,o3,h]
  ·simp only[if_true,endsOf,oc,oh,o1,o2,o3,h];rfl
 refine⟨by rw[e1];rfl,e2,?_,by rw[e1];exact hrs,by rw[e1]⟩;rw[e1];show(recvS c.s _ _).cls=_;unfold recvS;split<;>rfl
end
def vouA:ByteArray:=⟨#[48,47,103,111,108,100]⟩
def eveA:ByteArray:=⟨#[101,118,101]⟩
def Tn:ByteArray:=⟨#[35,48]⟩
theorem ahz:Lib.itoa 0=[48]:=by rw[show(0:Int)=((0:Nat):Int)from rfl,Lib.itoa_nonneg,Lib.decDigits_one (by decide)];rfl
theorem agi:jq 0=Tn:=by unfold jq;rw[ahz];rfl
theorem mk0:jR 0=⟨#[48,47]⟩:=by unfold jR;rw[ahz];rfl
theorem ahW:jR 0++il=vouA:=by rw[mk0];apply ByteArray.ext;rw[ByteArray.data_append];rfl
theorem ahc {a b:ByteArray}(h:¬a.data.toList=b.data.toList):¬a=b:=λe=>h (by rw[e])
theorem MU {s:ByteArray}(h:¬s.data[0]?=some 35):ig s=false:=by
 unfold ig qK;by_cases hs:(⟨#[35]⟩:ByteArray).size<=s.size
 ·have h3:¬s.extract 0 (⟨#[35]⟩:ByteArray).size=⟨#[35]⟩:=λe=>by
   have h4:(s.extract 0 (⟨#[35]⟩:ByteArray).size).data[0]?=some 35:=by rw[e];rfl
   rw[ByteArray.data_extract,Array.getElem?_extract]at h4;split at h4
   ·exact h (by simpa using h4)
   ·cases h4
  have:(s.extract 0 (⟨#[35]⟩:ByteArray).size==⟨#[35]⟩)=false:=by rw[aff];exact decide_eq_false h3
  rw[this,Bool.and_false]
 ·rw[decide_eq_false hs,Bool.false_and]
theorem ann_no:ig xn=false:=MU (by decide)
theorem eve_no:ig eveA=false:=MU (by decide)
theorem agr:bB puA:=dh (s:=kr.1.s) lL.a.ok lL.a.p64
theorem aa_ {o d:ByteArray}{n:Nat}(o' d':ByteArray):amtP [⟨o,d,n⟩] o' d'=if o'=o/\d'=d then n else 0:=by
 unfold amtP;have hg:DC [⟨o,d,n⟩] o' d'=if o'=o/\d'=d then some ⟨o,d,n⟩else none:=by
  show KL.get pk pG [⟨o,d,n⟩] (o',d')=_;rw[KL.get_cons cmpP_ok];by_cases h:o'=o/\d'=d
  ·rw[if_pos h,if_pos ((cmpP_ok.zero _ _).2 (by rw[h.1,h.2];rfl))]
  ·rw[if_neg h,if_neg (λe=>by
    have:=(cmpP_ok.zero _ _).1 e;simp only[pk,Prod.mk.injEq]at this;exact h ⟨this.1.symm,this.2.symm⟩)]
   rfl
 rw[hg];by_cases h:o'=o/\d'=d
 ·rw[if_pos h,if_pos h]
 ·rw[if_neg h,if_neg h]
theorem ahf (o d:ByteArray):amtP puA o d=if o=xn/\d=il then 1000 else 0:=aa_ o d
theorem af_ (d:ByteArray):mM puA d=if il=d then 1000 else 0:=by simp[mM,puA]
theorem sup_B (d:ByteArray):mM puB d=if uh=d then 1000 else 0:=by simp[mM,puB]
theorem Vo {l:List PurseD}(h:bB l){o d:ByteArray}{n:Nat}:(burnP l o d n).1.length<=l.length:=by
 unfold burnP;split
 ·simp
 ·split
  ·simp
  ·rename_i q1 q2;simp only;rw[Eg h];split
   ·split<;>omega
   ·split<;>omega
theorem TR {l:List PurseD}(h:bB l){o t d:ByteArray}{n:Nat}(wo:wordOk o=true)(wt:wordOk t=true)(wd:wordOk d=true)(hn:¬n=0)(ha:n<=amtP l o d)(hs:mM l d<18446744073709551616)(hl:l.length<60):(jQ l o t d n).2=0:=by
 have hb:=Vp wo wd ha;obtain⟨_,_,b3⟩:=burn_ok h hb;have b3:=b3 d;rw[if_pos rfl]at b3;have hlen:=Vo h (o:=o) (d:=d) (n:=n);unfold jQ;rw[if_pos hb];rcases mint_can (l:=(burnP l o d n).1) (n:=n) wt wd hn (by omega)with q|⟨_,q⟩
 ·exact q
 ·omega
theorem ahr {α:Type}{x:α×Nat}(h:x.2=0):x=(x.1,0):=by cases x;simp_all
def goldT (n:Nat)(tw:ByteArray):eX:=⟨il,n,xn,tw⟩
theorem aes:qK il (jR 0)=false:=aan il (.inl rfl) 0
section
variable {l:List PurseD}{n:Nat}{tw:ByteArray}
theorem Oo (h:bB l)(hn:¬n=0)(ha:n<=amtP l xn il)(hs:mM l il<18446744073709551616)(hl:l.length<60):(jQ l xn Tn il n).2=0:=TR h (by decide) (by decide) (by decide) hn ha hs hl
theorem TV (hn:¬n=0)(wt:wordOk tw=true)(hs:mM l vouA+n<18446744073709551616)(hl:l.length<60):(mintP l tw vouA n).2=0:=by
 rcases mint_can (l:=l) (n:=n) wt (show wordOk vouA=true by decide) hn hs with q|⟨_,q⟩
 ·exact q
 ·omega
theorem KO (h:bB l)(hn:¬n=0)(ha:n<=amtP l xn il)(hs:mM l il<18446744073709551616)(hl:l.length<60):kK l 0 (goldT n tw)=((jQ l xn Tn il n).1,0):=by unfold kK goldT;simp only[aes,Bool.false_eq_true,if_false,agi];exact ahr (Oo h hn ha hs hl)
theorem Qf (hn:¬n=0)(wt:wordOk tw=true)(hs:mM l vouA+n<18446744073709551616)(hl:l.length<60):sj l 0 0 (goldT n tw)=((mintP l tw vouA n).1,0):=by unfold sj goldT;simp only[aes,Bool.false_eq_true,if_false,ahW];exact ahr (TV hn wt hs hl)
end
theorem xP {n:Nat}{tw:ByteArray}(hn:1<=n/\n<18446744073709551616)(wt:wordOk tw=true):bE (bytesT (goldT n tw))=(goldT n tw,0):=Es hn.2 (by show ¬n=0;omega) (show wordOk il=true by decide) (show wordOk xn=true by decide) wt
def pkOf (q:Int)(t:eX)(T:Int):dX:=⟨0,0,q,bytesT t,T⟩
theorem Eo {q T:Int}{n:Nat}{tw:ByteArray}(wt:wordOk tw=true)(hq:1<=q/\q<=1000)(hT:1<=T/\T<=1000):Yu ⟨0,0,q,bytesT (goldT n tw),T⟩ :=
 ⟨by unfold N12;simp only;omega,by unfold N12;simp only;omega,by unfold N12;simp only;omega,by unfold N12;simp only;omega,Dl (t:=goldT n tw) (show il.size<=40 by decide) (show xn.size<=40 by decide) (wordOk_iff.1 wt).2⟩
structure Out (w:kY) (l:List EvD) (w':kY) (es:List Int):Prop where
 fst:(gJ w l).1=w'
 snd:(gJ w l).2.map (·.err)=es
theorem Out.app {w w' w'':kY}{l m:List EvD}{es fs:List Int}(h:Out w l w' es)(g:Out w' m w'' fs):Out w (l++m) w'' (es++fs):=by
 refine⟨?_,?_⟩
 ·rw[jN,h.fst];exact g.fst
 ·rw[jN,List.map_append,h.snd,h.fst,g.snd]
theorem zL {w w':kY}{e:EvD}{x:Int}(h:(iF w e).2.err=x/\(iF w e).1=w'):Out w [e] w' [x]:=⟨by simp only[gJ];exact h.2,by simp only[gJ,List.map_cons,List.map_nil];rw[h.1]⟩
theorem Nu {w:kY}{l:List EvD}(h:xB (gJ w l).2):Out w l (gJ w l).1 (List.replicate l.length 0):=by refine⟨rfl,List.eq_replicate_iff.2 ⟨by rw[List.length_map,nX],λx hx=>?_⟩⟩;obtain⟨d,hd,rfl⟩:=List.mem_map.1 hx;exact h d hd
def tickL:List EvD:=[⟨1,0,1,0,0,zeroMsg⟩,⟨1,1,1,0,0,zeroMsg⟩,⟨3,0,0,0,0,zeroMsg⟩,⟨3,1,0,0,0,zeroMsg⟩]
def oneL (k s:Int)(m:MsgD):EvD:=⟨k,s,0,0,0,m⟩
def sendM (t:eX)(T:Int):MsgD:={zeroMsg with kind:=14,tr:=t,tout:=T}
def qx (p:dX):MsgD:={zeroMsg with kind:=15,pk:=p}
section
variable {trust x:Int}{w:kY}{n:Nat}{a b a' b' y z:EndsD}{e:EvD}
theorem o_tick (h:Lk trust w n a b y z)(h2:2<=n)(h30:n<=30)(ht:2<trust):∃w',Out w tickL w' [0,0,0,0]/\Lk trust w' (n+1) a b a b:=by obtain⟨o,l⟩:=run_tick h h2 h30 ht (e1:=⟨1,0,1,0,0,zeroMsg⟩) (e2:=⟨1,1,1,0,0,zeroMsg⟩) (e3:=⟨3,0,0,0,0,zeroMsg⟩) (e4:=⟨3,1,0,0,0,zeroMsg⟩) ⟨rfl,rfl,rfl⟩ ⟨rfl,rfl,rfl⟩ ⟨rfl,rfl,rfl⟩ ⟨rfl,rfl,rfl⟩;exact⟨_,Nu o,l⟩
theorem agx (h:Lk trust w n a b y z)(k:e.side=1)(m:MsgOk nmB w.2 w.1 n e b'):∃w',Out w [e] w' [0]/\Lk trust w' n a b' y z:=by obtain⟨o,l⟩:=lk1 h k m;exact⟨_,zL ⟨o,rfl⟩,l⟩
theorem Zr (k:e.side=1)(m:Rs w.2 w.1 e x):Out w [e] w [x]:=zL (adx k m)
theorem view0 (h:Lk trust w n a b y z)(h2:2<=n)(ht:2<trust):View trust nmA nmB w.1 w.2 n (n-2) a z:=view_of h.a h.b h2 ht
theorem YI (h:Lk trust w n a b y z)(h2:2<=n)(ht:2<trust):View trust nmB nmA w.2 w.1 n (n-2) b y:=view_of h.b h.a h2 ht
end
theorem o_link (r:Bool){trust:Int}(ht:2<trust/\trust<=1000000000000):Out kr (jl r trust) (nu (jl r trust)).1 (List.replicate 44 0):=Nu (link_run r ht).1
theorem l50:([]:List MarkD).length<50:=by decide
theorem l60:puB.length<60:=by decide
def YC:List Int:=List.replicate 44 0
theorem o_link2 (r:Bool):∃w,Out kr (jl r 100) w YC/\Lk 100 w 10 (ends4 r puA) (ends4 r puB) (ends4 r puA) (ends4 r puB):=⟨_,o_link r (by decide),(link_run r (by decide)).2⟩
theorem EE:lN []:=⟨by simp,List.Pairwise.nil⟩
def puS (n:Nat):List PurseD:=(jQ puA xn Tn il n).1
theorem ne4:¬uh=vouA:=ahc (by decide)
def A1 (r:Bool)(n:Nat)(tw:ByteArray)(T:Int):EndsD:=YZ (ends4 r puA) r 1 1 1 (pkOf 1 (goldT n tw) T) (puS n)
theorem sc_sent (r:Bool){n:Nat}{tw:ByteArray}{T:Int}(hn:1<=n/\n<=1000)(wt:wordOk tw=true)(hT:10<=T/\T<=1000):
  ∃w w0 d,Out kr (jl r 100) w0 YC/\iF w0 (oneL 4 0 (sendM (goldT n tw) T))=(w,d)/\d.err=0/\d.pk=pkOf 1 (goldT n tw) T/\Lk 100 w 10 (A1 r n tw T) (ends4 r puB) (ends4 r puA) (ends4 r puB):=by
 have hp:=xP (n:=n) (tw:=tw) ⟨hn.1,by omega⟩ wt;have hk:=Eo (q:=1) (T:=T) (n:=n) wt (by omega) (by omega);obtain⟨w0,ow,l0⟩:=o_link2 r;obtain⟨ms,mp⟩:=m_send (e:=oneL 4 0 (sendM (goldT n tw) T)) (t:=goldT n tw) (T:=T) (S:=1) (R:=1) (K:=1) (view0 l0 (by decide) (by decide)) ⟨rfl,rfl⟩ rfl rfl hp ann_no hk (by omega) (show([]:List MarkD).length<50 by decide) (by decide)
  (KO (l:=puA) agr (by omega) (by rw[ahf,if_pos ⟨rfl,rfl⟩];omega) (by rw[af_,if_pos rfl];decide) (by decide))
 obtain⟨o1,l1⟩:=lk0 l0 rfl ms;refine⟨_,w0,_,ow,rfl,o1,?_,l1⟩;exact mp
def B1 (r:Bool)(n:Nat)(tw:ByteArray)(T:Int):EndsD:=recvE (ends4 r puB) r 1 1 1 (pkOf 1 (goldT n tw) T) (mintP puB tw vouA n).1
theorem sc_recv {r:Bool}{w:kY}{m:Nat}{n:Nat}{tw:ByteArray}{x y:EndsD}(hn:1<=n/\n<=1000)(wt:wordOk tw=true)(hs:ig tw=false)(hm:2<=m/\m<=100)(l:Lk 100 w m (A1 r n tw 900) (ends4 r puB) x y)(hx:x=A1 r n tw 900):
  ∃w',Out w [oneL 5 1 (qx (pkOf 1 (goldT n tw) 900))] w' [0]/\Lk 100 w' m (A1 r n tw 900) (B1 r n tw 900) x y:=by
 have hp:=xP (n:=n) (tw:=tw) ⟨hn.1,by omega⟩ wt;have hk:=Eo (q:=1) (T:=900) (n:=n) wt (by omega) (by omega);refine agx l rfl (adt (t:=goldT n tw) (S:=1) (R:=1) (K:=1) (q:=1) (T:=900) (YI l hm.1 (by decide)) ⟨rfl,rfl⟩ rfl rfl hp hs hk (by omega) l50 l50 (by decide) ⟨λ_=>rfl,λ_=>rfl⟩ ?_ ?_)
 ·rw[hx];exact(KL.mem_put cmpM_ok).2 (.inr rfl)
 ·exact Qf (by omega) wt (by rw[show(ends4 r puB).pus=puB from rfl,sup_B,if_neg ne4];omega) l60
end Go.Proofs.YtdmeldhlbpdeeaaGreatDoor
