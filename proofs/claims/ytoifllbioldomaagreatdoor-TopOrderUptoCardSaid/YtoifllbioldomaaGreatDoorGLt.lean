/- Merged texts: TrP, LkT, LkU, LkV. -/
import Derived.Test.YtoifllbioldomaaGreatDoorGLk
set_option linter.all false
namespace Go.Proofs.YtoifllbioldomaaGreatDoor
open Go Go.Abs
theorem vH:∀(l:List bK)(acc:List UInt8)(i:Nat),(dB acc i l).2.1≠0->(dB acc i l).1=[]
 |[],acc,i,h=>absurd rfl h
 |p::r,acc,i,h=>by
  simp only[dB]at h⊢;split
  ·rfl
  ·rename_i x hx;rw[hx]at h;simp only at h;split
   ·rfl
   ·rename_i hl;rw[if_neg hl]at h;exact vH r _ _ h
theorem JI {l:List bK}(h:(writeF l).2.1≠0):(writeF l).1=[]:=by
 unfold writeF at h⊢;split
 ·rfl
 ·rename_i hl;rw[if_neg hl]at h;exact vH l _ _ h
theorem MC:(readF []).2≠0:=by decide
theorem same4 {a b c d:bK}{m:List bK}(h:dG [a,b,c,d] m=true):∃p q r s,m=[p,q,r,s]/\gV a p=true/\gV b q=true/\gV c r=true/\gV d s=true:=by
 match m,h with
 |[p,q,r,s],h=>simp only[dG,Bool.and_eq_true]at h;exact⟨p,q,r,s,rfl,h.1,h.2.1,h.2.2.1,h.2.2.2.1⟩
 |[],h=>simp[dG]at h
 |[_],h=>simp[dG]at h
 |[_,_],h=>simp[dG]at h
 |[_,_,_],h=>simp[dG]at h
 |_::_::_::_::_::_,h=>simp[dG]at h
theorem pcs64 {t:dP}(hn:t.n<18446744073709551616):Rk (pcsT t):=by intro p hp;simp only[pcsT,Eb,List.mem_cons,List.not_mem_nil,or_false]at hp;rcases hp with rfl|rfl|rfl|rfl<;>first|exact hn|(simp only;omega)
theorem aaW {t:dP}(hn:t.n<18446744073709551616)(h:(aX (bytesT t)).2=0):(aX (bytesT t)).1=t:=by
 obtain⟨x,e,a,hw⟩:∃x e a,writeF (pcsT t)=(x,e,a):=⟨_,_,_,rfl⟩
 have hb:bytesT t=x:=by unfold bytesT;rw[hw]
 rw[hb]at h⊢;by_cases he:e=0
 ·subst he;obtain⟨m,hm,hs⟩:=write_read hw (pcs64 hn);obtain⟨p,q,r,s,rfl,h1,h2,h3,h4⟩:=same4 (by simpa only[pcsT]using hs);simp[gV,Eb]at h1 h2 h3 h4;unfold aX at h⊢;rw[hm]at h⊢;simp only[if_true,EG,CV]at h⊢;obtain⟨k1,b1⟩:=h1;obtain⟨k2,n2⟩:=h2;obtain⟨k3,b3⟩:=h3;obtain⟨k4,b4⟩:=h4;replace k1:=of_decide_eq_true k1;replace k3:=of_decide_eq_true k3;replace k4:=of_decide_eq_true k4;replace b1:=of_decide_eq_true b1;replace b3:=of_decide_eq_true b3;replace b4:=of_decide_eq_true b4;rw[<- k1,<- k2,<- k3,<- k4]at h⊢;simp only[and_self,if_true]at h⊢;rw[<- b1,<- n2,<- b3,<- b4]at h⊢;simp only[LU]at h⊢;split at h
  ·split at h
   ·cases h
   ·rw[if_pos (by assumption),if_neg (by assumption)]
  ·rename_i hne;exact absurd h hne
 ·have:x=[]:=by have:=JI (l:=pcsT t) (by rw[hw];exact he);rw[hw]at this;exact this
  subst this;unfold aX at h;rw[if_neg MC]at h;exact absurd h (by decide)
theorem om {n:Nat}(h:n<128):(ky n).length=1:=by unfold ky;rw[ni,if_pos h];rfl
theorem write_t {t:dP}(hd:t.d.size<=40)(hs:t.s.size<=40)(hr:t.r.size<=40):∃x a,writeF (pcsT t)=(x,0,a)/\x.length<=150:=by
 have l1:(unB t.d).length<=40:=by simpa[unB]using hd
 have l2:(unB t.s).length<=40:=by simpa[unB]using hs
 have l3:(unB t.r).length<=40:=by simpa[unB]using hr
 have v1:=om (n:=(unB t.d).length) (by omega);have v2:=om (n:=(unB t.s).length) (by omega);have v3:=om (n:=(unB t.r).length) (by omega);have v4:=om (n:=4) (by omega);have v5:=eu t.n;have e1:ig (Eb t.d)=some (1::(ky (unB t.d).length++unB t.d)):=rfl;have e2:ig (Eb t.s)=some (1::(ky (unB t.s).length++unB t.s)):=rfl;have e3:ig (Eb t.r)=some (1::(ky (unB t.r).length++unB t.r)):=rfl;have e4:ig ⟨1,t.n,[]⟩=some (0::ky t.n):=rfl;unfold writeF pcsT;rw[if_neg (by simp)];simp only[dB,e1,e2,e3,e4];rw[show([Eb t.d,(⟨1,t.n,[]⟩:bK),Eb t.s,Eb t.r]:List bK).length=4 from rfl];generalize ky (unB t.d).length=a1 at*;generalize ky (unB t.s).length=a2 at*;generalize ky (unB t.r).length=a3 at*;generalize ky t.n=a4 at*;generalize ky 4=a5 at*;rw[if_neg (by simp;omega),if_neg (by simp;omega),if_neg (by simp;omega),if_neg (by simp;omega)];exact⟨_,_,rfl,by simp;omega⟩
theorem fP {t:dP}(hd:t.d.size<=40)(hs:t.s.size<=40)(hr:t.r.size<=40):(bytesT t).length<=150:=by obtain⟨x,a,e,h⟩:=write_t hd hs hr;unfold bytesT;rw[e];exact h
theorem vZ {t:dP}(hn:t.n<18446744073709551616)(h0:¬t.n=0)(hd:wordOk t.d=true)(hs:wordOk t.s=true)(hr:wordOk t.r=true):aX (bytesT t)=(t,0):=by
 have w1:=wordOk_iff.1 hd;have w2:=wordOk_iff.1 hs;have w3:=wordOk_iff.1 hr;obtain⟨x,a,hw,_⟩:=write_t w1.2 w2.2 w3.2;have hb:bytesT t=x:=by unfold bytesT;rw[hw]
 obtain⟨m,hm,hq⟩:=write_read hw (pcs64 hn);obtain⟨p,q,r,s,rfl,h1,h2,h3,h4⟩:=same4 (by simpa only[pcsT]using hq);simp[gV,Eb]at h1 h2 h3 h4;rw[hb];unfold aX;rw[hm];simp only[if_true,EG,CV];obtain⟨k1,b1⟩:=h1;obtain⟨k2,n2⟩:=h2;obtain⟨k3,b3⟩:=h3;obtain⟨k4,b4⟩:=h4;replace k1:=of_decide_eq_true k1;replace k3:=of_decide_eq_true k3;replace k4:=of_decide_eq_true k4;replace b1:=of_decide_eq_true b1;replace b3:=of_decide_eq_true b3;replace b4:=of_decide_eq_true b4;rw[<- k1,<- k2,<- k3,<- k4];simp only[and_self,if_true];rw[<- b1,<- n2,<- b3,<- b4];simp only[LU];rw[if_pos (by unfold vI;rw[if_pos (by simp[hd,hs,hr])]),if_neg h0]
def TJ (e:EvD)(m:MsgD):Prop:=e.kind=4/\e.m=m
theorem Ej {c o:av}{e:EvD}{m:MsgD}(h:TJ e m):oneB c o e=mU c m:=by unfold oneB;rw[if_neg (by rw[h.1];decide),if_neg (by rw[h.1];decide),if_neg (by rw[h.1];decide),if_pos h.1,h.2]
structure Dl (c o:av) (e:EvD) (x:Int):Prop where
 err:(oneB c o e).2.err=x
 st:(oneB c o e).1=c
theorem act_no {nm:ByteArray}{c:av}{n:Nat}(hs:mW nm c n){m:MsgD}{x:Int}(h:(kN c.s m).2.err=x)(hx:¬x=0):(mU c m).2.err=x/\(mU c m).1=c:=by
 have e:doS c.s m=(c.s,dE x):=by unfold doS;rw[if_pos (az.2 hs.ok),if_neg (by rw[h];exact hx),h]
 unfold mU;rw[e];exact⟨rfl,if_neg hx⟩
theorem lk0 {trust:Int}{w:jw}{n:Nat}{a b x y a':EndsD}{e:EvD}(h:Lk trust w n a b x y)(k:e.side=0)(m:MsgOk nmA w.1 w.2 n e a'):(fK w e).2.err=0/\Lk trust (fK w e).1 n a' b x y:=by rw[rR k];exact⟨m.err,⟨vg h.a m,vo h.b m.past⟩⟩
theorem lk1 {trust:Int}{w:jw}{n:Nat}{a b x y b':EndsD}{e:EvD}(h:Lk trust w n a b x y)(k:e.side=1)(m:MsgOk nmB w.2 w.1 n e b'):(fK w e).2.err=0/\Lk trust (fK w e).1 n a b' x y:=by rw[rQ k];exact⟨m.err,⟨vo h.a m.past,vg h.b m⟩⟩
theorem lk0_no {w:jw}{e:EvD}{x:Int}(k:e.side=0)(m:Dl w.1 w.2 e x):(fK w e).2.err=x/\(fK w e).1=w:=by rw[rR k];exact⟨m.err,by rw[m.st]⟩
theorem acE {w:jw}{e:EvD}{x:Int}(k:e.side=1)(m:Dl w.2 w.1 e x):(fK w e).2.err=x/\(fK w e).1=w:=by rw[rQ k];exact⟨m.err,by rw[m.st]⟩
theorem Bz (c o:av)(m:MsgD):(showB c o m).pk=m.pk/\(showB c o m).ed=m.ed:=by
 unfold showB tO;split
 ·exact⟨rfl,rfl⟩
 ·split
  ·exact⟨rfl,rfl⟩
  ·split<;>exact⟨rfl,rfl⟩
theorem SF {s:StateD}{m:MarkD}(h:m∈s.sent):(⟨keyM mQ m.ch m.seq,m.dg⟩:aP)∈oQ s:=by simp only[oQ,List.mem_append];exact .inl (.inl (.inr (List.mem_map.2 ⟨m,h,rfl⟩)))
theorem Yo {s:StateD}{m:MarkD}(h:m∈s.acks):(⟨keyM Bf m.ch m.seq,m.dg⟩:aP)∈oQ s:=by simp only[oQ,List.mem_append];exact .inr (List.mem_map.2 ⟨m,h,rfl⟩)
theorem SG {s:StateD}{x:ChanD}(h:s.chs=[x]):(⟨keyN 0,Bi x.rcv⟩:aP)∈oQ s:=by have:=(PX (i:=0) (l:=s.chs) (j:=0) (by rw[h];simp)).2;simp only[oQ,List.mem_append];refine .inl (.inl (.inl (.inr ?_)));simpa[h]using this
theorem ahj {nm onm:ByteArray}{c o:av}{n m k:Nat}{trust:Int}{K:List UInt8}(hs:mW nm c n)(ho:mW onm o m)(hc:c.s.cls=[clK onm trust o (k+1)])(hk:k+1=o.past.length)(ht:(n:Int)-((k:Int)+1)<trust)(hm:∀p∈oQ (o.past[k]'(by omega)).st,¬p.k=K):
  mo (clK onm trust o (k+1)) c.s.t ((k:Int)+1) K (Rp (dW (o.past[k]'(by omega)).st).1 K).1=0:=by
 obtain⟨_,_,oke,_⟩:=ho.past k (by omega);have okc:=hs.ok.cls _ (show clK onm trust o (k+1)∈c.s.cls by rw[hc];exact List.mem_singleton.2 rfl);have oot:=hs.ok.t;unfold N12 at oot;have hask:dK (clK onm trust o (k+1)) c.s.t=0:=by unfold dK;rw[if_pos (dA.2 okc),if_pos (show kz c.s.t=true by unfold kz;exact decide_eq_true oot)];rfl
 have hb:=Fj oke;have hth:nu (kC (oQ (o.past[k]'(by omega)).st)) K=false:=by
  cases hq:nu (kC (oQ (o.past[k]'(by omega)).st)) K with
  |false=>rfl
  |true =>obtain⟨hp,e⟩:=there_iff.1 hq;exact absurd e (hm _ ((lC _).mem_iff.1 (List.getElem_mem hp)))
 have hab:=QI (book_right oke) K hth;unfold mo;rw[if_pos hask,at_knl ho (by omega) (by omega)];simp only;rw[if_pos (xw (nm:=nm) ho hk (by rw[hs.t];exact ht)).1,hb];simp only;rw[if_pos];show lq (fG (o.past[k]'(by omega)).st).1 _ _=true;rw[(rV oke).2.1];exact hab
theorem Yf {nm onm:ByteArray}{c o:av}{n m k:Nat}{trust:Int}{msg:MsgD}{K:List UInt8}(hs:mW nm c n)(ho:mW onm o m)(hc:c.s.cls=[clK onm trust o (k+1)])(hk:k+1=o.past.length)(ht:(n:Int)-((k:Int)+1)<trust)(ha:gm c {msg with sh:=zSh}=(0,K,true,true)):
  showB c o msg={msg with sh:={zSh with h:=(k:Int)+1,g:=(Rp (dW (o.past[k]'(by omega)).st).1 K).1}}:=by
 have hl:=(xw (nm:=nm) (trust:=trust) ho hk (now:=c.s.t) (by rw[hs.t];exact ht)).2;unfold showB tO;rw[ha];simp only;rw[if_neg (by rw[hc];simp),kQ hc,hl,(uU ho hk).1];simp only[if_true]
section
variable {trust:Int}{nm onm:ByteArray}{c o:av}{n k:Nat}{a b:EndsD}{e:EvD}{r:Bool}{st S R K q T:Int}{t:dP}{pu:List PurseD}{dat:List UInt8}
theorem own_view (v:View trust nm onm c o n k a b):c.s.sent=a.sent/\c.s.got=a.got/\c.s.acks=a.acks/\c.s.pus=a.pus:=by rw[<- v.ends];exact⟨rfl,rfl,rfl,rfl⟩
theorem zR (v:View trust nm onm c o n k a b):endsOf (o.past[k]'(by have:=v.len;omega)).st=b:=v.last (by have:=v.len;omega)
theorem lN (v:View trust nm onm c o n k a b)(h:a.cns=[⟨3,0,0,0⟩])(h':a.chs=[⟨st,r,0,0,S,R,K⟩]):yx c.s 0=clK onm trust o (k+1):=by have oc:=(aT v).1.trans h;have oh:=(aT v).2.trans h';unfold yx;rw[chAt_one oh];show iL c.s (cnAt c.s 0).cl=_;rw[dF oc];exact kQ v.cl
theorem mD (v:View trust nm onm c o n k a b)(h:a.cns=[⟨3,0,0,0⟩])(h':a.chs=[⟨st,r,0,0,S,R,K⟩]){ws:List Int}(hst:stIn st ws=true):(endPk c.s 0 ws).2.2=0:=by have oh:=(aT v).2.trans h';refine endPk_zero.2 ⟨v.sd.ok,by rw[oh];simp,by rw[chAt_one oh];exact hst,?_⟩;rw[chAt_one oh];exact over1 v h
theorem WV (v:View trust nm onm c o n k a b)(h':a.chs=[⟨st,r,0,0,S,R,K⟩]){ws:List Int}(hst:stIn st ws=false):(endPk c.s 0 ws).2.2=12:=by have oh:=(aT v).2.trans h';unfold endPk;rw[if_pos (az.2 v.sd.ok),if_neg (by rw[oh];simp),chAt_one oh];simp only[hst,Bool.false_eq_true,if_false]
def Mh (a:EndsD)(r:Bool)(S R K:Int)(p:dz)(pu:List PurseD):EndsD:={a with sent:=putM a.sent ⟨0,S,digPk p⟩,chs:=[⟨3,r,0,0,S+1,R,K⟩],pus:=pu}
theorem m_send (v:View trust nm onm c o n k a b)(he:TJ e {zeroMsg with kind:=14,tr:=t,tout:=T})(h:a.cns=[⟨3,0,0,0⟩])(h':a.chs=[⟨3,r,0,0,S,R,K⟩])(hp:aX (bytesT t)=(t,0))(hs:eY t.s=false)(hk:Fv ⟨0,0,S,bytesT t,T⟩)
  (hT:(k:Int)+1<T) (hl:a.sent.length<50) (hS:S<1000000000000) (hv:gY a.pus 0 t=(pu,0)):MsgOk nm c o n e (Mh a r S R K ⟨0,0,S,bytesT t,T⟩ pu)/\(oneB c o e).2.pk=⟨0,0,S,bytesT t,T⟩:=by
 have oc:=(aT v).1.trans h;have oh:=(aT v).2.trans h';have hh:=chAt_one oh;obtain⟨o1,o2,o3,o4⟩:=own_view v;have hcl:=(xw (nm:=nm) (trust:=trust) (now:=(n:Int)) v.so v.len v.tr).2;rw[<- lN v h h']at hcl;have ok:Dj c.s 0 (bytesT t) T:=⟨mD v h h' rfl,by rw[hh];exact hk,by rw[hcl];exact hT,by rw[o1,hh];exact⟨by omega,by simp only;omega⟩⟩
 have hd:=mf ok;rw[hh]at hd;simp only at hd;have hpus:(vQ c.s 0 ⟨0,0,S,bytesT t,T⟩).pus=a.pus:=o4;have hsnd:Dn c.s {zeroMsg with kind:=14,tr:=t,tout:=T}=({vQ c.s 0 ⟨0,0,S,bytesT t,T⟩with pus:=pu},⟨0,0,S,bytesT t,T⟩,0):=by unfold Dn;simp only[hp,hs,if_true,Bool.false_eq_true,if_false,show zeroMsg.ed=0 from rfl,hd,hpus,hv]
 have h0:kN c.s {zeroMsg with kind:=14,tr:=t,tout:=T}=({vQ c.s 0 ⟨0,0,S,bytesT t,T⟩with pus:=pu},⟨0,0,⟨0,0,S,bytesT t,T⟩⟩):=by unfold kN;rw[if_neg (by simp),if_neg (by simp),if_neg (by simp),if_pos rfl,hsnd]
 obtain⟨e1,e2⟩:=act_eq v.sd (m:={zeroMsg with kind:=14,tr:=t,tout:=T}) (by rw[h0]);have eo:=Ej (c:=c) (o:=o) he;rw[<- eo]at e1 e2;rw[h0]at e1;refine⟨⟨by rw[e1],e2,by rw[e1];rfl,?_,by rw[e1]⟩,by rw[e1]⟩;rw[e1];show(⟨c.s.cns,c.s.chs.set (0:Int).toNat {chAt c.s 0 with snd:=(chAt c.s 0).snd+1},putM c.s.sent _,c.s.got,c.s.acks,pu⟩:EndsD)=_;rw[hh,oh,oc,o1,o2,o3];unfold Mh;rw[h];rfl
theorem wF {x:Int}(v:View trust nm onm c o n k a b)(he:TJ e {zeroMsg with kind:=14,tr:=t,tout:=T})(hx:¬x=0)
  (hc:(aX (bytesT t)).2=x\/((aX (bytesT t))=(t,0)/\eY t.s=false/\((a.chs=[⟨st,r,0,0,S,R,K⟩]/\stIn st [3]=false/\x=12) \/
   (a.cns=[⟨3,0,0,0⟩]/\a.chs=[⟨3,r,0,0,S,R,K⟩]/\Fv ⟨0,0,S,bytesT t,T⟩/\(k:Int)+1<T/\a.sent.length<50/\S<1000000000000/\((gY a.pus 0 t).2:Int)=x)))):Dl c o e x:=by
 have h0:(kN c.s {zeroMsg with kind:=14,tr:=t,tout:=T}).2.err=x:=by
  unfold kN;rw[if_neg (by simp),if_neg (by simp),if_neg (by simp),if_pos rfl];show(Dn c.s _).2.2=x;unfold Dn;rcases hc with hc|⟨hp,hs,⟨h',h3,rfl⟩|⟨h,h',hk,hT,hl,hS,hv⟩⟩
  ·simp only;rw[if_neg (by rw[hc];exact hx)];exact hc
  ·have hq:(jR c.s 0 (bytesT t) T).2.2=12:=by
    have:=WV v h' h3;unfold jR;rw[if_neg (by rw[this];decide)];exact this
   simp only[hp,hs,if_true,Bool.false_eq_true,if_false,show zeroMsg.ed=0 from rfl];rw[if_neg (by rw[hq];decide)];exact hq
  ·have oc:=(aT v).1.trans h;have oh:=(aT v).2.trans h';have hh:=chAt_one oh;obtain⟨o1,o2,o3,o4⟩:=own_view v;have hcl:=(xw (nm:=nm) (trust:=trust) (now:=(n:Int)) v.so v.len v.tr).2;rw[<- lN v h h']at hcl;have ok:Dj c.s 0 (bytesT t) T:=⟨mD v h h' rfl,by rw[hh];exact hk,by rw[hcl];exact hT,by rw[o1,hh];exact⟨by omega,by simp only;omega⟩⟩
   have hd:=mf ok;rw[hh]at hd;simp only at hd;have hpus:(vQ c.s 0 ⟨0,0,S,bytesT t,T⟩).pus=a.pus:=o4;simp only[hp,hs,if_true,Bool.false_eq_true,if_false,show zeroMsg.ed=0 from rfl,hd,hpus];rw[if_neg (by omega)];exact hv
 obtain⟨p,q⟩:=act_no v.sd h0 hx;rw[<- Ej (o:=o) he]at p q;exact⟨p,q⟩
def recvE (a:EndsD)(r:Bool)(S R K:Int)(p:dz)(pu:List PurseD):EndsD :=
 {a with chs:=[⟨3,r,0,0,S,if r=true then R+1 else R,K⟩],got:=if r=true then a.got else putM a.got ⟨0,p.seq,digPk p⟩,acks:=putM a.acks ⟨0,p.seq,sha [49]⟩,pus:=pu}
theorem Fq (v:View trust nm onm c o n k a b)(h:a.cns=[⟨3,0,0,0⟩])(h':a.chs=[⟨st,r,0,0,S,R,K⟩]){m:MsgD}(hk:m.pk.fr=0/\m.pk.de=0):
  (m.kind=15->gm c m=(0,keyM mQ 0 m.pk.seq,false,true))/\(m.kind=16->gm c m=(0,keyM Bf 0 m.pk.seq,false,true))/\(m.kind=17->gm c m=if r=true then(0,keyN 0,false,true)else(0,keyM xC 0 m.pk.seq,true,true)):=by
 have oc:=(aT v).1.trans h;have oh:=(aT v).2.trans h';have hch:eZ c 0=(⟨st,r,0,0,S,R,K⟩,0,true):=by unfold eZ iQ;simp[oc,oh,dF oc,chAt_one oh]
 refine⟨λe=>?_,λe=>?_,λe=>?_⟩<;>unfold gm<;>simp[e,hk.1,hk.2,hch]
theorem m_recv (v:View trust nm onm c o n k a b)(he:iV e {zeroMsg with kind:=15,pk:=⟨0,0,q,dat,T⟩})(h:a.cns=[⟨3,0,0,0⟩])(h':a.chs=[⟨3,r,0,0,S,R,K⟩])(hp:aX dat=(t,0))(hs:eY t.r=false)(hk:Fv ⟨0,0,q,dat,T⟩)
  (hT:(n:Int)<T) (l1:a.got.length<50) (l2:a.acks.length<50) (hR:R<1000000000000) (hq:(r=true->q=R)/\(r=false->getM a.got 0 q=none)) (hm:(⟨0,q,digPk ⟨0,0,q,dat,T⟩⟩:MarkD)∈b.sent) (hv:nT a.pus 0 0 t=(pu,0)):
  MsgOk nm c o n e (recvE a r S R K ⟨0,0,q,dat,T⟩ pu):=by
 have oc:=(aT v).1.trans h;have oh:=(aT v).2.trans h';have hh:=chAt_one oh;obtain⟨o1,o2,o3,o4⟩:=own_view v;have hq1:=kX (msg:={zeroMsg with kind:=15,pk:=⟨0,0,q,dat,T⟩}) (K:=keyM mQ 0 q) v.sd v.so v.cl v.len v.tr ((Fq v h h' ⟨rfl,rfl⟩).1 rfl);have hw:=iI v (SF (m:=⟨0,q,digPk ⟨0,0,q,dat,T⟩⟩) (by rw[show(o.past[k]'(by have:=v.len;omega)).st.sent=b.sent from congrArg EndsD.sent (zR v)];exact hm));have ecl:iL c.s 0=yx c.s 0:=by rw[lN v h h',kQ v.cl]
 rw[ecl]at hw;have ok:Jz c.s ⟨0,0,q,dat,T⟩ [49] {zSh with h:=(k:Int)+1,p:=(kD (dW (o.past[k]'(by have:=v.len;omega)).st).1 (keyM mQ 0 q)).1}:=by
  refine⟨hk,mD v h h' rfl,by rw[hh],by rw[v.sd.h];exact hT,?_,?_,hw⟩
  ·show ¬(((chAt c.s 0).ord=true/\¬q=(chAt c.s 0).rcv)\/((chAt c.s 0).ord=false/\(getM c.s.got 0 q).isSome=true));rw[hh,o2];rintro(⟨x,y⟩|⟨x,y⟩)
   ·exact y (hq.1 x)
   ·rw[hq.2 x]at y;cases y
  ·rw[o2,o3];show _/\_/\_/\¬(chAt c.s 0).rcv=1000000000000;rw[hh];exact⟨by omega,by omega,by simp,by simp only;omega⟩
 have hd:=vV ok;have hcom:Xa c.s ⟨0,0,q,dat,T⟩=([49],pu):=by unfold Xa;simp only[hp,hs,and_self,if_true,o4,hv]
 have hrc:Gg c.s (showB c o {zeroMsg with kind:=15,pk:=⟨0,0,q,dat,T⟩})=({recvS c.s ⟨0,0,q,dat,T⟩ [49]with pus:=pu},0):=by rw[hq1];unfold Gg;simp only[hcom,hd,if_true]
 have hki:(showB c o {zeroMsg with kind:=15,pk:=⟨0,0,q,dat,T⟩}).kind=15:=by rw[ny]
 have h0:kN c.s (showB c o {zeroMsg with kind:=15,pk:=⟨0,0,q,dat,T⟩})=({recvS c.s ⟨0,0,q,dat,T⟩ [49]with pus:=pu},dE 0):=by unfold kN;rw[hki,if_neg (by decide),if_neg (by decide),if_neg (by decide),if_neg (by decide),if_pos rfl,hrc]
 obtain⟨e1,e2⟩:=act_eq v.sd (m:=showB c o {zeroMsg with kind:=15,pk:=⟨0,0,q,dat,T⟩}) (by rw[h0];rfl);have eo:=oJ (c:=c) (o:=o) he;rw[<- eo]at e1 e2;rw[h0]at e1;have hrs:endsOf {recvS c.s ⟨0,0,q,dat,T⟩ [49]with pus:=pu}=recvE a r S R K ⟨0,0,q,dat,T⟩ pu:=by
  unfold recvS recvE;rw[hh];cases r
  ·simp only[Bool.false_eq_true,if_false,endsOf,oc,oh,o1,o2,o3,h]
  ·simp only[if_true,endsOf,oc,oh,o1,o2,o3,h];rfl
 refine⟨by rw[e1];rfl,e2,?_,by rw[e1];exact hrs,by rw[e1]⟩;rw[e1];show(recvS c.s _ _).cls=_;unfold recvS;split<;>rfl
theorem nL {x:Int}(v:View trust nm onm c o n k a b)(he:iV e {zeroMsg with kind:=15,pk:=⟨0,0,q,dat,T⟩})(h:a.cns=[⟨3,0,0,0⟩])(h':a.chs=[⟨st,r,0,0,S,R,K⟩])(hk:Fv ⟨0,0,q,dat,T⟩)
  (hc:(stIn st [3]=false/\x=12)\/(stIn st [3]=true/\T<=(n:Int)/\x=11)\/(stIn st [3]=true/\(n:Int)<T/\((r=true/\¬q=R)\/(r=false/\(getM a.got 0 q).isSome=true))/\x=12)):Dl c o e x:=by
 have oc:=(aT v).1.trans h;have oh:=(aT v).2.trans h';have hh:=chAt_one oh;obtain⟨o1,o2,o3,o4⟩:=own_view v;have hx:¬x=0:=by rcases hc with⟨_,rfl⟩|⟨_,_,rfl⟩|⟨_,_,_,rfl⟩<;>decide
 have key:∀ack w,(kL c.s ⟨0,0,q,dat,T⟩ ack w).2=x:=λack w=>by
  unfold kL;rw[if_pos (bq.2 hk)];rcases hc with⟨h3,rfl⟩|⟨h3,h4,rfl⟩|⟨h3,h4,h5,rfl⟩
  ·have:=WV v h' h3;rw[if_neg (by rw[this];decide)];exact this
  ·rw[if_pos (mD v h h' h3),hh];simp only;rw[if_pos trivial,if_pos (by rw[v.sd.h];exact h4)]
  ·rw[if_pos (mD v h h' h3),hh];simp only;rw[if_pos trivial,if_neg (by rw[v.sd.h];omega),if_pos (by rw[o2];exact h5)]
 have hki:(showB c o {zeroMsg with kind:=15,pk:=⟨0,0,q,dat,T⟩}).kind=15:=by rw[ny]
 have hpk:(showB c o {zeroMsg with kind:=15,pk:=⟨0,0,q,dat,T⟩}).pk=⟨0,0,q,dat,T⟩:=(Bz c o _).1;have h0:(kN c.s (showB c o {zeroMsg with kind:=15,pk:=⟨0,0,q,dat,T⟩})).2.err=x:=by unfold kN;rw[hki,if_neg (by decide),if_neg (by decide),if_neg (by decide),if_neg (by decide),if_pos rfl];show(Gg _ _).2=x;unfold Gg;simp only;rw[hpk,if_neg (by rw[key];exact hx)];exact key _ _
 obtain⟨p,q⟩:=act_no v.sd h0 hx;rw[<- oJ (o:=o) he]at p q;exact⟨p,q⟩
theorem BR (v:View trust nm onm c o n k a b)(h:a.cns=[⟨3,0,0,0⟩])(h':a.chs=[⟨st,r,0,0,S,R,K⟩])(hst:stIn st [3,4]=true)(hk:Fv ⟨0,0,q,dat,T⟩)(hm:getM a.sent 0 q=some ⟨0,q,digPk ⟨0,0,q,dat,T⟩⟩):pendE c.s ⟨0,0,q,dat,T⟩=0:=by have oh:=(aT v).2.trans h';exact lI.2 ⟨hk,mD v h h' hst,by rw[chAt_one oh],by rw[(own_view v).1];exact hm⟩
def ackE (a:EndsD)(r:Bool)(st S R K q:Int):EndsD:={a with sent:=jF a.sent 0 q,chs:=[⟨st,r,0,0,S,R,if r=true then K+1 else K⟩]}
theorem m_acked (v:View trust nm onm c o n k a b)(he:iV e {zeroMsg with kind:=16,pk:=⟨0,0,q,dat,T⟩,ack:=[49]})(h:a.cns=[⟨3,0,0,0⟩])(h':a.chs=[⟨3,r,0,0,S,R,K⟩])(hk:Fv ⟨0,0,q,dat,T⟩)
  (hs:getM a.sent 0 q=some ⟨0,q,digPk ⟨0,0,q,dat,T⟩⟩) (hq:r=true->q=K) (hK:K<1000000000000) (hm:(⟨0,q,sha [49]⟩:MarkD)∈b.acks):MsgOk nm c o n e (ackE a r 3 S R K q):=by
 have oc:=(aT v).1.trans h;have oh:=(aT v).2.trans h';have hh:=chAt_one oh;obtain⟨o1,o2,o3,o4⟩:=own_view v;have hq1:=kX (msg:={zeroMsg with kind:=16,pk:=⟨0,0,q,dat,T⟩,ack:=[49]}) (K:=keyM Bf 0 q) v.sd v.so v.cl v.len v.tr ((Fq v h h' ⟨rfl,rfl⟩).2.1 rfl);have hw:=iI v (Yo (m:=⟨0,q,sha [49]⟩) (by rw[show(o.past[k]'(by have:=v.len;omega)).st.acks=b.acks from congrArg EndsD.acks (zR v)];exact hm));have ecl:iL c.s 0=yx c.s 0:=by rw[lN v h h',kQ v.cl]
 rw[ecl]at hw;have hpe:=BR v h h' (by rfl) hk hs;have hak:nX c.s ⟨0,0,q,dat,T⟩ [49] {zSh with h:=(k:Int)+1,p:=(kD (dW (o.past[k]'(by have:=v.len;omega)).st).1 (keyM Bf 0 q)).1}=(if r=true then dropS c.s ⟨0,0,q,dat,T⟩ ⟨3,r,0,0,S,R,K+1⟩else dropU c.s ⟨0,0,q,dat,T⟩,0):=by unfold nX;rw[if_pos hpe,if_neg (by simp),hh];simp only;rw[if_neg (λx=>x.2 (hq x.1)),if_neg (λx=>by omega),if_pos hw];split<;>rfl
 have hst:BC c.s (showB c o {zeroMsg with kind:=16,pk:=⟨0,0,q,dat,T⟩,ack:=[49]})=(if r=true then dropS c.s ⟨0,0,q,dat,T⟩ ⟨3,r,0,0,S,R,K+1⟩else dropU c.s ⟨0,0,q,dat,T⟩,0):=by rw[hq1];unfold BC;simp only[if_true,hak,show decide (([49]:List UInt8)=[48])=false by decide,Bool.false_eq_true,and_false,if_false]
 have hki:(showB c o {zeroMsg with kind:=16,pk:=⟨0,0,q,dat,T⟩,ack:=[49]}).kind=16:=by rw[ny]
 have h0:kN c.s (showB c o {zeroMsg with kind:=16,pk:=⟨0,0,q,dat,T⟩,ack:=[49]})=(if r=true then dropS c.s ⟨0,0,q,dat,T⟩ ⟨3,r,0,0,S,R,K+1⟩else dropU c.s ⟨0,0,q,dat,T⟩,dE 0):=by unfold kN;rw[hki,if_neg (by decide),if_neg (by decide),if_neg (by decide),if_neg (by decide),if_neg (by decide),if_neg (by decide),hst]
 obtain⟨e1,e2⟩:=act_eq v.sd (m:=showB c o {zeroMsg with kind:=16,pk:=⟨0,0,q,dat,T⟩,ack:=[49]}) (by rw[h0];rfl);have eo:=oJ (c:=c) (o:=o) he;rw[<- eo]at e1 e2;rw[h0]at e1;have hE:endsOf (if r=true then dropS c.s ⟨0,0,q,dat,T⟩ ⟨3,r,0,0,S,R,K+1⟩else dropU c.s ⟨0,0,q,dat,T⟩)=ackE a r 3 S R K q:=by
  unfold ackE dropS dropU;cases r
  ·simp only[Bool.false_eq_true,if_false,endsOf,oc,oh,o1,o2,o3,o4,h]
  ·simp only[if_true,endsOf,oc,oh,o1,o2,o3,o4,h];rfl
 refine⟨by rw[e1];rfl,e2,?_,by rw[e1];exact hE,by rw[e1]⟩;rw[e1];show(ite _ _ _:StateD).cls=_;split<;>rfl
theorem Tq (v:View trust nm onm c o n k a b){ak:List UInt8}(he:iV e {zeroMsg with kind:=16,pk:=⟨0,0,q,dat,T⟩,ack:=ak})(h:a.cns=[⟨3,0,0,0⟩])(h':a.chs=[⟨3,r,0,0,S,R,K⟩])(hk:Fv ⟨0,0,q,dat,T⟩)(hs:getM a.sent 0 q=none):Dl c o e 6:=by
 have oh:=(aT v).2.trans h';have hpe:pendE c.s ⟨0,0,q,dat,T⟩=6:=MI hk (mD v h h' (by rfl)) (by rw[chAt_one oh]) (by rw[(own_view v).1];exact hs);have hki:(showB c o {zeroMsg with kind:=16,pk:=⟨0,0,q,dat,T⟩,ack:=ak}).kind=16:=by rw[ny]
 have hpk:(showB c o {zeroMsg with kind:=16,pk:=⟨0,0,q,dat,T⟩,ack:=ak}).pk=⟨0,0,q,dat,T⟩:=(Bz c o _).1;have key:∀ack w,(nX c.s ⟨0,0,q,dat,T⟩ ack w).2=6:=λack w=>by unfold nX;rw[if_neg (by rw[hpe];decide)];exact hpe
 have h0:(kN c.s (showB c o {zeroMsg with kind:=16,pk:=⟨0,0,q,dat,T⟩,ack:=ak})).2.err=6:=by unfold kN;rw[hki,if_neg (by decide),if_neg (by decide),if_neg (by decide),if_neg (by decide),if_neg (by decide),if_neg (by decide)];show(BC _ _).2=6;unfold BC;simp only[hki,if_true];rw[hpk,if_neg (by rw[key];decide)];exact key _ _
 obtain⟨p,q⟩:=act_no v.sd h0 (by decide);rw[<- oJ (o:=o) he]at p q;exact⟨p,q⟩
def lateE (a:EndsD)(r:Bool)(st S R K q:Int)(pu:List PurseD):EndsD:={a with sent:=jF a.sent 0 q,chs:=[⟨if r=true then 4 else st,r,0,0,S,R,K⟩],pus:=pu}
theorem acr {s:StateD}{q:Int}(h1:s.sent=[])(h2:s.got=[])(h3:s.acks=[]):∀p∈oQ s,¬p.k=keyM xC 0 q:=by
 intro p hp;simp only[oQ,h1,h2,h3,mkB,List.map_nil,List.append_nil,List.mem_append]at hp;rcases hp with hp|hp
 ·obtain⟨j,x,_,_,_,rfl⟩:=cnB_mem hp;simp[keyC,keyM,xC]
 ·obtain⟨j,x,_,_,_,rfl|rfl⟩:=chB_mem hp
  ·simp[keyH,keyM,xC]
  ·simp[keyN,keyM,xC]
theorem m_late (v:View trust nm onm c o n k a b) (he:iV e { zeroMsg with kind:=17,pk:=⟨0,0,q,dat,T⟩ }) (h:a.cns=[⟨3,0,0,0⟩]) (h':a.chs=[⟨st,r,0,0,S,R,K⟩]) (hst:stIn st [3,4]=true) (hk:Fv ⟨0,0,q,dat,T⟩)
  (hs:getM a.sent 0 q=some ⟨0,q,digPk ⟨0,0,q,dat,T⟩⟩) (hT:T<=(k:Int)+1) {st' S' R' K':Int} (hb:b.chs=[⟨st',r,0,0,S',R',K'⟩]) (hq:1<=R'/\R'<=q) (b1:b.sent=[]) (b2:b.got=[]) (b3:b.acks=[]) (hp:aX dat=(t,0)) (hv:lT a.pus 0 t=(pu,0)) :
  MsgOk nm c o n e (lateE a r st S R K q pu):=by
 have oc:=(aT v).1.trans h
 have oh:=(aT v).2.trans h'
 have hh:=chAt_one oh
 obtain ⟨o1,o2,o3,o4⟩:=own_view v
 have ob:=zR v
 have kl:k < o.past.length:=by have:=v.len; omega
 have obh:(o.past[k]'kl).st.chs=[⟨st',r,0,0,S',R',K'⟩]:=(congrArg EndsD.chs ob).trans hb
 have ecl:iL c.s 0=yx c.s 0:=by rw [lN v h h',kQ v.cl]
 have hpe:=BR v h h' hst hk hs
 have hask:=(Fq v h h' (m:={ zeroMsg with kind:=17,pk:=⟨0,0,q,dat,T⟩ }) ⟨rfl,rfl⟩).2.2 rfl
 have hki:(showB c o { zeroMsg with kind:=17,pk:=⟨0,0,q,dat,T⟩ }).kind=17:=by rw [ny]
 have hst:BC c.s (showB c o { zeroMsg with kind:=17,pk:=⟨0,0,q,dat,T⟩ })=({ (if r=true then dropS c.s ⟨0,0,q,dat,T⟩ ⟨4,r,0,0,S,R,K⟩ else dropU c.s ⟨0,0,q,dat,T⟩) with pus:=pu },0):=by
  cases r
  ·rw [if_neg (by simp)] at hask
   have hq1:=Yf (msg:={ zeroMsg with kind:=17,pk:=⟨0,0,q,dat,T⟩ }) (K:=keyM xC 0 q) v.sd v.so v.cl v.len v.tr hask
   have hw:=ahj (K:=keyM xC 0 q) v.sd v.so v.cl v.len v.tr (acr ((congrArg EndsD.sent ob).trans b1) ((congrArg EndsD.got ob).trans b2) ((congrArg EndsD.acks ob).trans b3))
   rw [<- lN v h h'] at hw
   have hla:∀ nx,iT c.s ⟨0,0,q,dat,T⟩ nx { zSh with h:=(k:Int)+1,g:=(Rp (dW (o.past[k]'kl).st).1 (keyM xC 0 q)).1 }=(dropU c.s ⟨0,0,q,dat,T⟩,0):=fun nx=>by
    unfold iT
    rw [if_pos hpe,if_neg (show ¬ (k:Int)+1 < T by omega),hh]
    simp only [Bool.false_eq_true,if_false]
    rw [if_pos hw]
   rw [hq1]
   unfold BC
   have hpus:(dropU c.s ⟨0,0,q,dat,T⟩).pus=a.pus:=o4
   simp only [show ¬ (17:Int)=16 by decide,if_false,hla,if_true,hp,and_self,hpus,hv,Bool.false_eq_true]
  ·rw [if_pos rfl] at hask
   have hq1:=kX (msg:={ zeroMsg with kind:=17,pk:=⟨0,0,q,dat,T⟩ }) (K:=keyN 0) v.sd v.so v.cl v.len v.tr hask
   have hw:=iI v (SG obh)
   rw [ecl] at hw
   have hnx:NH { zeroMsg with kind:=17,pk:=⟨0,0,q,dat,T⟩,sh:=zSh } (o.past[k]'kl).st=R':=by
    unfold NH
    rw [obh]
    simp [chAt_one obh]
   have hla:iT c.s ⟨0,0,q,dat,T⟩ R' { zSh with h:=(k:Int)+1,p:=(kD (dW (o.past[k]'kl).st).1 (keyN 0)).1 }=(dropS c.s ⟨0,0,q,dat,T⟩ ⟨4,true,0,0,S,R,K⟩,0):=by
    unfold iT
    rw [if_pos hpe,if_neg (show ¬ (k:Int)+1 < T by omega),hh]
    simp only [if_true]
    rw [if_neg (by omega),if_pos hw]
   rw [hq1]
   unfold BC
   have hpus:(dropS c.s ⟨0,0,q,dat,T⟩ ⟨4,true,0,0,S,R,K⟩).pus=a.pus:=o4
   simp only [show ¬ (17:Int)=16 by decide,if_false,hnx,hla,if_true,hp,and_self,hpus,hv]
 have h0:kN c.s (showB c o { zeroMsg with kind:=17,pk:=⟨0,0,q,dat,T⟩ })=({ (if r=true then dropS c.s ⟨0,0,q,dat,T⟩ ⟨4,r,0,0,S,R,K⟩ else dropU c.s ⟨0,0,q,dat,T⟩) with pus:=pu },dE 0):=by
  unfold kN
  rw [hki,if_neg (by decide),if_neg (by decide),if_neg (by decide),if_neg (by decide),if_neg (by decide),if_neg (by decide),hst]
 obtain ⟨e1,e2⟩:=act_eq v.sd (m:=showB c o { zeroMsg with kind:=17,pk:=⟨0,0,q,dat,T⟩ }) (by rw [h0]; rfl)
 have eo:=oJ (c:=c) (o:=o) he
 rw [<- eo] at e1 e2
 rw [h0] at e1
 have hE:endsOf { (if r=true then dropS c.s ⟨0,0,q,dat,T⟩ ⟨4,r,0,0,S,R,K⟩ else dropU c.s ⟨0,0,q,dat,T⟩) with pus:=pu }=lateE a r st S R K q pu:=by
  unfold lateE dropS dropU
  cases r
  ·simp only [Bool.false_eq_true,if_false,endsOf,oc,oh,o1,o2,o3,o4,h]
  ·simp only [if_true,endsOf,oc,oh,o1,o2,o3,o4,h]; rfl
 refine ⟨by rw [e1]; rfl,e2,?_,by rw [e1]; exact hE,by rw [e1]⟩
 rw [e1]
 show (ite _ _ _:StateD).cls=_
 split <;> rfl
theorem m_close (v:View trust nm onm c o n k a b)(he:TJ e {zeroMsg with kind:=12})(h:a.cns=[⟨3,0,0,0⟩])(h':a.chs=[⟨3,r,0,0,S,R,K⟩]):MsgOk nm c o n e {a with chs:=[⟨4,r,0,0,S,R,K⟩]}:=by
 have oh:=(aT v).2.trans h';have hh:=chAt_one oh;have hen:(endCh c.s 0 3).2.2=0:=endCh_zero.2 ⟨v.sd.ok,by rw[oh];simp,by rw[hh],by rw[hh];exact over1 v h⟩;have hcl:ku c.s 0=({c.s with chs:=[⟨4,r,0,0,S,R,K⟩]},0):=by unfold ku nowCh;rw[if_pos hen,hh,oh];rfl
 have h0:kN c.s {zeroMsg with kind:=12}=({c.s with chs:=[⟨4,r,0,0,S,R,K⟩]},⟨0,0,zeroPk⟩):=by unfold kN;rw[if_neg (by simp),if_neg (by simp),if_pos (by simp)];unfold endA;simp only[show zeroMsg.ed=0 from rfl,show ¬(12:Int)=4 by decide,show ¬(12:Int)=5 by decide,show ¬(12:Int)=6 by decide,show ¬(12:Int)=7 by decide,show ¬(12:Int)=8 by decide,show ¬(12:Int)=9 by decide,show ¬(12:Int)=10 by decide,show ¬(12:Int)=11 by decide,if_false,if_true,hcl]
 obtain⟨e1,e2⟩:=act_eq v.sd (m:={zeroMsg with kind:=12}) (by rw[h0]);have eo:=Ej (c:=c) (o:=o) he;rw[<- eo]at e1 e2;rw[h0]at e1;exact⟨by rw[e1],e2,by rw[e1],by rw[e1];exact sO v _,by rw[e1]⟩
theorem m_closed (v:View trust nm onm c o n k a b)(he:iV e {zeroMsg with kind:=13})(h:a.cns=[⟨3,0,0,0⟩])(h':a.chs=[⟨3,r,0,0,S,R,K⟩]){S' R' K':Int}(hb:b.chs=[⟨4,r,0,0,S',R',K'⟩]):MsgOk nm c o n e {a with chs:=[⟨4,r,0,0,S,R,K⟩]}:=by
 have oc:=(aT v).1.trans h;have oh:=(aT v).2.trans h';have hh:=chAt_one oh;have hq:=kX (msg:={zeroMsg with kind:=13}) (K:=keyH 0) v.sd v.so v.cl v.len v.tr (by unfold gm eZ iQ;simp[oc,oh,dF oc,chAt_one oh]);have hm:=iI v (yX v hb);have hen:(endCh c.s 0 3).2.2=0:=endCh_zero.2 ⟨v.sd.ok,by rw[oh];simp,by rw[hh],by rw[hh];exact over1 v h⟩;have hf:=ko hen;rw[hh]at hf;simp only at hf;rw[dF oc]at hf;have h1:endA c.s (showB c o {zeroMsg with kind:=13})=({c.s with chs:=[⟨4,r,0,0,S,R,K⟩]},0,0):=by
  rw[hq];have e:h_ 3 4 c.s 0 {zSh with h:=(k:Int)+1,p:=(kD (dW (o.past[k]'(by have:=v.len;omega)).st).1 (keyH 0)).1}=({c.s with chs:=[⟨4,r,0,0,S,R,K⟩]},0):=by unfold h_ shownHE nowCh;rw[hf,hh];simp only;rw[if_pos trivial,if_neg (by omega)];refine(if_pos hm).trans ?_;rw[oh];rfl
  unfold endA;simp only[zeroMsg,show ¬(13:Int)=4 by decide,if_false,if_true,show ¬(13:Int)=5 by decide,show ¬(13:Int)=6 by decide,show ¬(13:Int)=7 by decide,show ¬(13:Int)=8 by decide,show ¬(13:Int)=9 by decide,show ¬(13:Int)=10 by decide,show ¬(13:Int)=11 by decide,show ¬(13:Int)=12 by decide];exact(congrArg (λq=>((q.1,0,q.2):StR)) e)
 exact mi v.sd he (by rw[hq];simp) h1 rfl (sO v _)
end
def vouA:ByteArray:=⟨#[48,47,103,111,108,100]⟩
def eveA:ByteArray:=⟨#[101,118,101]⟩
def safeA:ByteArray:=⟨#[35,48]⟩
theorem agu:Lib.itoa 0=[48]:=by rw[show(0:Int)=((0:Nat):Int)from rfl,Lib.itoa_nonneg,Lib.decDigits_one (by decide)];rfl
theorem SA:jq 0=safeA:=by unfold jq;rw[agu];rfl
theorem mk0:jC 0=⟨#[48,47]⟩:=by unfold jC;rw[agu];rfl
theorem agj:jC 0++goldA=vouA:=by rw[mk0];apply ByteArray.ext;rw[ByteArray.data_append];rfl
theorem Vn:qj vouA (jC 0)=true:=by rw[<- agj];exact Ig _ _
theorem ahn:Rs vouA (jC 0)=goldA:=by rw[mk0];apply ByteArray.ext;unfold Rs;rw[ByteArray.data_extract];rfl
theorem UQ {a b:ByteArray}(h:¬a.data.toList=b.data.toList):¬a=b:=λe=>h (by rw[e])
theorem zC {s:ByteArray}(h:¬s.data[0]?=some 35):eY s=false:=by
 unfold eY qj;by_cases hs:(⟨#[35]⟩:ByteArray).size<=s.size
 ·have h3:¬s.extract 0 (⟨#[35]⟩:ByteArray).size=⟨#[35]⟩:=λe=>by
   have h4:(s.extract 0 (⟨#[35]⟩:ByteArray).size).data[0]?=some 35:=by rw[e];rfl
   rw[ByteArray.data_extract,Array.getElem?_extract]at h4;split at h4
   ·exact h (by simpa using h4)
   ·cases h4
  have:(s.extract 0 (⟨#[35]⟩:ByteArray).size==⟨#[35]⟩)=false:=by rw[aem];exact decide_eq_false h3
  rw[this,Bool.and_false]
 ·rw[decide_eq_false hs,Bool.false_and]
theorem ann_no:eY ownA=false:=zC (by decide)
theorem eve_no:eY eveA=false:=zC (by decide)
theorem JZ:aS puA:=bM (s:=ja.1.s) iZ.a.ok iZ.a.p64
theorem JY:aS puB:=bM (s:=ja.2.s) iZ.b.ok iZ.b.p64
theorem QC {o d:ByteArray}{n:Nat}(o' d':ByteArray):amtP [⟨o,d,n⟩] o' d'=if o'=o/\d'=d then n else 0:=by
 unfold amtP;have hg:Dt [⟨o,d,n⟩] o' d'=if o'=o/\d'=d then some ⟨o,d,n⟩else none:=by
  show KL.get pk qc [⟨o,d,n⟩] (o',d')=_;rw[KL.get_cons cmpP_ok];by_cases h:o'=o/\d'=d
  ·rw[if_pos h,if_pos ((cmpP_ok.zero _ _).2 (by rw[h.1,h.2];rfl))]
  ·rw[if_neg h,if_neg (λe=>by
    have:=(cmpP_ok.zero _ _).1 e;simp only[pk,Prod.mk.injEq]at this;exact h ⟨this.1.symm,this.2.symm⟩)]
   rfl
 rw[hg];by_cases h:o'=o/\d'=d
 ·rw[if_pos h,if_pos h]
 ·rw[if_neg h,if_neg h]
theorem amt_A (o d:ByteArray):amtP puA o d=if o=ownA/\d=goldA then 1000 else 0:=QC o d
theorem aeu (o d:ByteArray):amtP puB o d=if o=zO/\d=qD then 1000 else 0:=QC o d
theorem Yb (d:ByteArray):lV puA d=if goldA=d then 1000 else 0:=by simp[lV,puA]
theorem sup_B (d:ByteArray):lV puB d=if qD=d then 1000 else 0:=by simp[lV,puB]
theorem Jj {l:List PurseD}(h:aS l){o d:ByteArray}{n:Nat}:(burnP l o d n).1.length<=l.length:=by
 unfold burnP;split
 ·simp
 ·split
  ·simp
  ·rename_i q1 q2;simp only;rw[zz h];split
   ·split<;>omega
   ·split<;>omega
theorem He {l:List PurseD}(h:aS l){o d:ByteArray}{n:Nat}:(mintP l o d n).1.length<=l.length+1:=by
 unfold mintP;split
 ·simp
 ·split
  ·simp
  ·split
   ·simp
   ·split
    ·simp
    ·simp only;rw[zz h];split
     ·split<;>omega
     ·split<;>omega
theorem Tj {l:List PurseD}(h:aS l){o t d:ByteArray}{n:Nat}:(moveP l o t d n).1.length<=l.length+1:=by
 unfold moveP;split
 ·have a:=He (jM h o d n) (o:=t) (d:=d) (n:=n);have b:=Jj h (o:=o) (d:=d) (n:=n);omega
 ·simp
theorem oK {l:List PurseD}(h:aS l){o t d:ByteArray}{n:Nat}(wo:wordOk o=true)(wt:wordOk t=true)(wd:wordOk d=true)(hn:¬n=0)(ha:n<=amtP l o d)(hs:lV l d<18446744073709551616)(hl:l.length<60):(moveP l o t d n).2=0:=by
 have hb:=AB wo wd ha;obtain⟨_,_,b3⟩:=burn_ok h hb;have b3:=b3 d;rw[if_pos rfl]at b3;have hlen:=Jj h (o:=o) (d:=d) (n:=n);unfold moveP;rw[if_pos hb];rcases mint_can (l:=(burnP l o d n).1) (n:=n) wt wd hn (by omega)with q|⟨_,q⟩
 ·exact q
 ·omega
theorem abd {α:Type}{x:α×Nat}(h:x.2=0):x=(x.1,0):=by cases x;simp_all
def goldT (n:Nat)(tw:ByteArray):dP:=⟨goldA,n,ownA,tw⟩
def vouT (n:Nat)(tw:ByteArray):dP:=⟨vouA,n,eveA,tw⟩
theorem TU:qj goldA (jC 0)=false:=Zu goldA (.inl rfl) 0
section
variable {l:List PurseD}{n:Nat}{tw:ByteArray}
theorem Cg (h:aS l)(hn:¬n=0)(ha:n<=amtP l ownA goldA)(hs:lV l goldA<18446744073709551616)(hl:l.length<60):(moveP l ownA safeA goldA n).2=0:=oK h (by decide) (by decide) (by decide) hn ha hs hl
theorem zY (hn:¬n=0)(wt:wordOk tw=true)(hs:lV l vouA+n<18446744073709551616)(hl:l.length<60):(mintP l tw vouA n).2=0:=by
 rcases mint_can (l:=l) (n:=n) wt (show wordOk vouA=true by decide) hn hs with q|⟨_,q⟩
 ·exact q
 ·omega
theorem xZ (h:aS l)(hn:¬n=0)(ha:n<=amtP l ownA goldA)(hs:lV l goldA<18446744073709551616)(hl:l.length<60):gY l 0 (goldT n tw)=((moveP l ownA safeA goldA n).1,0):=by unfold gY goldT;simp only[TU,Bool.false_eq_true,if_false,SA];exact abd (Cg h hn ha hs hl)
theorem leave_less (ha:amtP l ownA goldA<n):(gY l 0 (goldT n tw)).2=8:=by
 unfold gY goldT;simp only[TU,Bool.false_eq_true,if_false,SA];have:(burnP l ownA goldA n).2=8:=by unfold burnP;rw[if_neg (by decide),if_pos ha]
 unfold moveP;rw[if_neg (by rw[this];decide)];exact this
theorem Dc (h:aS l)(hn:¬n=0)(ha:n<=amtP l safeA goldA)(hs:lV l goldA<18446744073709551616)(hl:l.length<60):lT l 0 (goldT n tw)=((moveP l safeA ownA goldA n).1,0):=by unfold lT goldT;simp only[TU,Bool.false_eq_true,if_false,SA];exact abd (oK h (by decide) (by decide) (by decide) hn ha hs hl)
theorem wV (hn:¬n=0)(wt:wordOk tw=true)(hs:lV l vouA+n<18446744073709551616)(hl:l.length<60):nT l 0 0 (goldT n tw)=((mintP l tw vouA n).1,0):=by unfold nT goldT;simp only[TU,Bool.false_eq_true,if_false,agj];exact abd (zY hn wt hs hl)
theorem NU (ha:n<=amtP l eveA vouA):gY l 0 (vouT n tw)=((burnP l eveA vouA n).1,0):=by unfold gY vouT;simp only[Vn,if_true];exact abd (AB (by decide) (by decide) ha)
theorem Um (h:aS l)(hn:¬n=0)(wt:wordOk tw=true)(ha:n<=amtP l safeA goldA)(hs:lV l goldA<18446744073709551616)(hl:l.length<60):nT l 0 0 (vouT n tw)=((moveP l safeA tw goldA n).1,0):=by unfold nT vouT;simp only[Vn,if_true,ahn,SA];exact abd (oK h (by decide) wt (by decide) hn ha hs hl)
end
theorem gD {n:Nat}{tw:ByteArray}(hn:1<=n/\n<18446744073709551616)(wt:wordOk tw=true):aX (bytesT (goldT n tw))=(goldT n tw,0):=vZ hn.2 (by show ¬n=0;omega) (show wordOk goldA=true by decide) (show wordOk ownA=true by decide) wt
theorem BV {n:Nat}{tw:ByteArray}(hn:1<=n/\n<18446744073709551616)(wt:wordOk tw=true):aX (bytesT (vouT n tw))=(vouT n tw,0):=vZ hn.2 (by show ¬n=0;omega) (show wordOk vouA=true by decide) (show wordOk eveA=true by decide) wt
def pkOf (q:Int)(t:dP)(T:Int):dz:=⟨0,0,q,bytesT t,T⟩
theorem kY {q T:Int}{n:Nat}{tw:ByteArray}(wt:wordOk tw=true)(hq:1<=q/\q<=1000)(hT:1<=T/\T<=1000):Fv ⟨0,0,q,bytesT (goldT n tw),T⟩ :=
 ⟨by unfold N12;simp only;omega,by unfold N12;simp only;omega,by unfold N12;simp only;omega,by unfold N12;simp only;omega,fP (t:=goldT n tw) (show goldA.size<=40 by decide) (show ownA.size<=40 by decide) (wordOk_iff.1 wt).2⟩
theorem VG {q T:Int}{n:Nat}{tw:ByteArray}(wt:wordOk tw=true)(hq:1<=q/\q<=1000)(hT:1<=T/\T<=1000):Fv ⟨0,0,q,bytesT (vouT n tw),T⟩ :=
 ⟨by unfold N12;simp only;omega,by unfold N12;simp only;omega,by unfold N12;simp only;omega,by unfold N12;simp only;omega,fP (t:=vouT n tw) (show vouA.size<=40 by decide) (show eveA.size<=40 by decide) (wordOk_iff.1 wt).2⟩
structure Out (w:jw) (l:List EvD) (w':jw) (es:List Int):Prop where
 fst:(fV w l).1=w'
 snd:(fV w l).2.map (·.err)=es
theorem Out.app {w w' w'':jw}{l m:List EvD}{es fs:List Int}(h:Out w l w' es)(g:Out w' m w'' fs):Out w (l++m) w'' (es++fs):=by
 refine⟨?_,?_⟩
 ·rw[jS,h.fst];exact g.fst
 ·rw[jS,List.map_append,h.snd,h.fst,g.snd]
theorem zQ {w w':jw}{e:EvD}{x:Int}(h:(fK w e).2.err=x/\(fK w e).1=w'):Out w [e] w' [x]:=⟨by simp only[fV];exact h.2,by simp only[fV,List.map_cons,List.map_nil];rw[h.1]⟩
theorem MN {w:jw}{l:List EvD}(h:xL (fV w l).2):Out w l (fV w l).1 (List.replicate l.length 0):=by refine⟨rfl,List.eq_replicate_iff.2 ⟨by rw[List.length_map,oz],λx hx=>?_⟩⟩;obtain⟨d,hd,rfl⟩:=List.mem_map.1 hx;exact h d hd
def tickL:List EvD:=[⟨1,0,1,0,0,zeroMsg⟩,⟨1,1,1,0,0,zeroMsg⟩,⟨3,0,0,0,0,zeroMsg⟩,⟨3,1,0,0,0,zeroMsg⟩]
def oneL (k s:Int)(m:MsgD):EvD:=⟨k,s,0,0,0,m⟩
def sendM (t:dP)(T:Int):MsgD:={zeroMsg with kind:=14,tr:=t,tout:=T}
def recvM (p:dz):MsgD:={zeroMsg with kind:=15,pk:=p}
def ackM (p:dz):MsgD:={zeroMsg with kind:=16,pk:=p,ack:=[49]}
def lateM (p:dz):MsgD:={zeroMsg with kind:=17,pk:=p}
section
variable {trust x:Int}{w:jw}{n:Nat}{a b a' b' y z:EndsD}{e:EvD}
theorem o_tick (h:Lk trust w n a b y z)(h2:2<=n)(h30:n<=30)(ht:2<trust):∃w',Out w tickL w' [0,0,0,0]/\Lk trust w' (n+1) a b a b:=by obtain⟨o,l⟩:=run_tick h h2 h30 ht (e1:=⟨1,0,1,0,0,zeroMsg⟩) (e2:=⟨1,1,1,0,0,zeroMsg⟩) (e3:=⟨3,0,0,0,0,zeroMsg⟩) (e4:=⟨3,1,0,0,0,zeroMsg⟩) ⟨rfl,rfl,rfl⟩ ⟨rfl,rfl,rfl⟩ ⟨rfl,rfl,rfl⟩ ⟨rfl,rfl,rfl⟩;exact⟨_,MN o,l⟩
theorem o_ok0 (h:Lk trust w n a b y z)(k:e.side=0)(m:MsgOk nmA w.1 w.2 n e a'):∃w',Out w [e] w' [0]/\Lk trust w' n a' b y z:=by obtain⟨o,l⟩:=lk0 h k m;exact⟨_,zQ ⟨o,rfl⟩,l⟩
theorem o_ok1 (h:Lk trust w n a b y z)(k:e.side=1)(m:MsgOk nmB w.2 w.1 n e b'):∃w',Out w [e] w' [0]/\Lk trust w' n a b' y z:=by obtain⟨o,l⟩:=lk1 h k m;exact⟨_,zQ ⟨o,rfl⟩,l⟩
theorem abW (k:e.side=0)(m:Dl w.1 w.2 e x):Out w [e] w [x]:=zQ (lk0_no k m)
theorem Ng (k:e.side=1)(m:Dl w.2 w.1 e x):Out w [e] w [x]:=zQ (acE k m)
theorem view0 (h:Lk trust w n a b y z)(h2:2<=n)(ht:2<trust):View trust nmA nmB w.1 w.2 n (n-2) a z:=view_of h.a h.b h2 ht
theorem view1 (h:Lk trust w n a b y z)(h2:2<=n)(ht:2<trust):View trust nmB nmA w.2 w.1 n (n-2) b y:=view_of h.b h.a h2 ht
end
theorem o_link (r:Bool){trust:Int}(ht:2<trust/\trust<=1000000000000):Out ja (iR r trust) (mh (iR r trust)).1 (List.replicate 44 0):=MN (link_run r ht).1
theorem l50:([]:List MarkD).length<50:=by decide
theorem l60:puB.length<60:=by decide
def RA:List Int:=List.replicate 44 0
theorem o_link2 (r:Bool):∃w,Out ja (iR r 100) w RA/\Lk 100 w 10 (ends4 r puA) (ends4 r puB) (ends4 r puA) (ends4 r puB):=⟨_,o_link r (by decide),(link_run r (by decide)).2⟩
theorem pX:kF []:=⟨by simp,List.Pairwise.nil⟩
def puS (n:Nat):List PurseD:=(moveP puA ownA safeA goldA n).1
theorem VE {n:Nat}(hn:1<=n/\n<=1000):(moveP puA ownA safeA goldA n).2=0:=Cg JZ (by omega) (by rw[amt_A,if_pos ⟨rfl,rfl⟩];omega) (by rw[Yb,if_pos rfl];decide) (by decide)
theorem jU {n:Nat}(hn:1<=n/\n<=1000)(o d:ByteArray):amtP (puS n) o d=(if o=ownA/\d=goldA then 1000-n else 0)+(if o=safeA/\d=goldA then n else 0):=by
 have h:=(lg JZ (VE hn)).2.1 o d;rw[amt_A,amt_A,if_pos (show ownA=ownA/\goldA=goldA from⟨rfl,rfl⟩)]at h;unfold puS;rw[h];by_cases q:o=ownA/\d=goldA
 ·rw[if_pos q,if_pos q]
 ·rw[if_neg q,if_neg q,if_neg q]
theorem dD (n:Nat):aS (puS n):=gF JZ ..
theorem pW (n:Nat):(puS n).length<=2:=Tj JZ
theorem pV {n:Nat}(hn:1<=n/\n<=1000)(d:ByteArray):lV (puS n) d=if goldA=d then 1000 else 0:=by rw[<- Yb];exact(lg JZ (VE hn)).2.2 d
theorem ne1:¬safeA=ownA:=UQ (by decide)
theorem ne2:¬ownA=safeA:=UQ (by decide)
theorem ne3:¬vouA=qD:=UQ (by decide)
theorem ne4:¬qD=vouA:=UQ (by decide)
def A1 (r:Bool)(n:Nat)(tw:ByteArray)(T:Int):EndsD:=Mh (ends4 r puA) r 1 1 1 (pkOf 1 (goldT n tw) T) (puS n)
theorem sc_sent (r:Bool){n:Nat}{tw:ByteArray}{T:Int}(hn:1<=n/\n<=1000)(wt:wordOk tw=true)(hT:10<=T/\T<=1000):
  ∃w w0 d,Out ja (iR r 100) w0 RA/\fK w0 (oneL 4 0 (sendM (goldT n tw) T))=(w,d)/\d.err=0/\d.pk=pkOf 1 (goldT n tw) T/\Lk 100 w 10 (A1 r n tw T) (ends4 r puB) (ends4 r puA) (ends4 r puB):=by
 have hp:=gD (n:=n) (tw:=tw) ⟨hn.1,by omega⟩ wt;have hk:=kY (q:=1) (T:=T) (n:=n) wt (by omega) (by omega);obtain⟨w0,ow,l0⟩:=o_link2 r;obtain⟨ms,mp⟩:=m_send (e:=oneL 4 0 (sendM (goldT n tw) T)) (t:=goldT n tw) (T:=T) (S:=1) (R:=1) (K:=1) (view0 l0 (by decide) (by decide)) ⟨rfl,rfl⟩ rfl rfl hp ann_no hk (by omega) (show([]:List MarkD).length<50 by decide) (by decide)
  (xZ (l:=puA) JZ (by omega) (by rw[amt_A,if_pos ⟨rfl,rfl⟩];omega) (by rw[Yb,if_pos rfl];decide) (by decide))
 obtain⟨o1,l1⟩:=lk0 l0 rfl ms;refine⟨_,w0,_,ow,rfl,o1,?_,l1⟩;exact mp
theorem sc_unsent (r:Bool){n:Nat}{tw:ByteArray}{T:Int}(h64:n<18446744073709551616)(hn:¬((1<=n/\n<=1000)/\wordOk tw=true))(hT:10<=T/\T<=1000):
  ∃w0 d,Out ja (iR r 100) w0 RA/\fK w0 (oneL 4 0 (sendM (goldT n tw) T))=(w0,d)/\¬d.err=0:=by
 obtain⟨w0,ow,l0⟩:=o_link2 r;have v:=view0 l0 (by decide) (by decide);have key:∃x:Int,¬x=0/\Dl w0.1 w0.2 (oneL 4 0 (sendM (goldT n tw) T)) x:=by
  by_cases h0:(aX (bytesT (goldT n tw))).2=0
  ·have ht:=oH h0;have hq:=aaW (t:=goldT n tw) h64 h0;rw[hq]at ht;have wt:wordOk tw=true:=wordOk_iff.2 ht.r;have h1:1000<n:=Nat.lt_of_not_le λq=>hn ⟨⟨ht.n.1,q⟩,wt⟩;refine⟨8,by decide,wF (r:=r) (st:=3) (S:=1) (R:=1) (K:=1) v ⟨rfl,rfl⟩ (by decide) (.inr ⟨Prod.ext hq h0,ann_no,.inr ⟨rfl,rfl,kY wt (by omega) (by omega),by omega,(show([]:List MarkD).length<50 by decide),by decide,?_⟩⟩)⟩;rw[show(ends4 r puA).pus=puA from rfl,leave_less (by rw[amt_A,if_pos ⟨rfl,rfl⟩];omega)];rfl
  ·exact⟨_,h0,wF (r:=r) (st:=3) (S:=1) (R:=1) (K:=1) v ⟨rfl,rfl⟩ h0 (.inl rfl)⟩
 obtain⟨x,hx,m⟩:=key;obtain⟨o1,o2⟩:=lk0_no (w:=w0) rfl m;exact⟨w0,_,ow,Prod.ext o2 rfl,by rw[o1];exact hx⟩
def B1 (r:Bool)(n:Nat)(tw:ByteArray)(T:Int):EndsD:=recvE (ends4 r puB) r 1 1 1 (pkOf 1 (goldT n tw) T) (mintP puB tw vouA n).1
theorem acx {n:Nat}{tw:ByteArray}(hn:1<=n/\n<=1000)(wt:wordOk tw=true):(mintP puB tw vouA n).2=0:=zY (by omega) wt (by rw[sup_B,if_neg ne4];omega) (by decide)
theorem qV {n:Nat}{tw:ByteArray}(hn:1<=n/\n<=1000)(wt:wordOk tw=true)(o:ByteArray):amtP (mintP puB tw vouA n).1 o vouA=if o=tw then n else 0:=by
 have h:=(mint_ok JY (acx hn wt)).1 o vouA;rw[h];by_cases e:o=tw
 ·rw[if_pos ⟨e,rfl⟩,if_pos e,aeu,if_neg (λq=>ne3 q.2)];omega
 ·rw[if_neg (λq=>e q.1),if_neg e,aeu,if_neg (λq=>ne3 q.2)]
theorem sc_recv {r:Bool}{w:jw}{m:Nat}{n:Nat}{tw:ByteArray}{x y:EndsD}(hn:1<=n/\n<=1000)(wt:wordOk tw=true)(hs:eY tw=false)(hm:2<=m/\m<=100)(l:Lk 100 w m (A1 r n tw 900) (ends4 r puB) x y)(hx:x=A1 r n tw 900):
  ∃w',Out w [oneL 5 1 (recvM (pkOf 1 (goldT n tw) 900))] w' [0]/\Lk 100 w' m (A1 r n tw 900) (B1 r n tw 900) x y:=by
 have hp:=gD (n:=n) (tw:=tw) ⟨hn.1,by omega⟩ wt;have hk:=kY (q:=1) (T:=900) (n:=n) wt (by omega) (by omega);refine o_ok1 l rfl (m_recv (t:=goldT n tw) (S:=1) (R:=1) (K:=1) (q:=1) (T:=900) (view1 l hm.1 (by decide)) ⟨rfl,rfl⟩ rfl rfl hp hs hk (by omega) l50 l50 (by decide) ⟨λ_=>rfl,λ_=>rfl⟩ ?_ ?_)
 ·rw[hx];exact(KL.mem_put cmpM_ok).2 (.inr rfl)
 ·exact wV (by omega) wt (by rw[show(ends4 r puB).pus=puB from rfl,sup_B,if_neg ne4];omega) l60
theorem sent_A1 {r:Bool}{n:Nat}{tw:ByteArray}{T:Int}:getM (A1 r n tw T).sent 0 1=some ⟨0,1,digPk (pkOf 1 (goldT n tw) T)⟩:=by show getM (putM [] ⟨0,1,digPk (pkOf 1 (goldT n tw) T)⟩) 0 1=_;rw[oN pX];exact if_pos ⟨rfl,rfl⟩
theorem EO {r:Bool}{n:Nat}{tw:ByteArray}{T:Int}:jF (A1 r n tw T).sent 0 1=[]:=by
 show jF (putM [] ⟨0,1,digPk (pkOf 1 (goldT n tw) T)⟩) 0 1=[]
 simp[KL.put,mk,xB]
theorem sc_arrives (r:Bool){w:jw}{n:Nat}{tw:ByteArray}(hn:1<=n/\n<=1000)(wt:wordOk tw=true)(hs:eY tw=false)(l1:Lk 100 w 10 (A1 r n tw 900) (ends4 r puB) (ends4 r puA) (ends4 r puB)):
  ∃w',Out w (tickL++([oneL 5 1 (recvM (pkOf 1 (goldT n tw) 900))]++(tickL++[oneL 5 0 (ackM (pkOf 1 (goldT n tw) 900))]))) w' ([0,0,0,0]++([0]++([0,0,0,0]++[0]))) /\
   w'.1.s.sent=[]/\amtP w'.2.s.pus tw vouA=n/\amtP w'.1.s.pus safeA goldA=n/\amtP w'.1.s.pus ownA goldA=1000-n/\aS w'.1.s.pus/\aS w'.2.s.pus:=by
 have hk:=kY (q:=1) (T:=900) (n:=n) wt (by omega) (by omega);obtain⟨w2,o2,l2⟩:=o_tick l1 (by decide) (by decide) (by decide);obtain⟨w3,o3,l3⟩:=sc_recv hn wt hs (by decide) l2 rfl;obtain⟨w4,o4,l4⟩:=o_tick l3 (by decide) (by decide) (by decide);obtain⟨w5,o5,l5⟩:=o_ok0 (e:=oneL 5 0 (ackM (pkOf 1 (goldT n tw) 900))) l4 rfl (m_acked (S:=1+1) (R:=1) (K:=1) (q:=1) (T:=900) (view0 l4 (by decide) (by decide)) ⟨rfl,rfl⟩ rfl rfl hk sent_A1 (λ_=>rfl) (by decide) ((KL.mem_put cmpM_ok).2 (.inr rfl)));have e1:=l5.a.ends;have e2:=l5.b.ends;have p1:w5.1.s.pus=puS n:=congrArg EndsD.pus e1;have p2:w5.2.s.pus=(mintP puB tw vouA n).1:=congrArg EndsD.pus e2;have p3:w5.1.s.sent=jF (A1 r n tw 900).sent 0 1:=congrArg EndsD.sent e1;refine⟨w5,o2.app (o3.app (o4.app o5)),by rw[p3,EO],by rw[p2,qV hn wt,if_pos rfl],?_,?_,by rw[p1];exact dD n,by rw[p2];exact iD JY ..⟩
 ·rw[p1,jU hn,if_neg (λq=>ne1 q.1),if_pos ⟨rfl,rfl⟩];omega
 ·rw[p1,jU hn,if_pos ⟨rfl,rfl⟩,if_neg (λq=>ne2 q.1)];omega
theorem sc_late (r:Bool){w:jw}{n:Nat}(hn:1<=n/\n<=1000)(l1:Lk 100 w 10 (A1 r n eveA 12) (ends4 r puB) (ends4 r puA) (ends4 r puB)):
  ∃w1 w2,Out w (tickL++(tickL++(tickL++[oneL 5 1 (recvM (pkOf 1 (goldT n eveA) 12))]))) w1 ([0,0,0,0]++([0,0,0,0]++([0,0,0,0]++[11])))/\Out w1 [oneL 5 0 (lateM (pkOf 1 (goldT n eveA) 12))] w2 [0] /\
   amtP w2.1.s.pus ownA goldA=1000/\aS w2.1.s.pus/\w2.1.s.sent=[]/\w2.1.s.chs=[⟨if r=true then 4 else 3,r,0,0,2,1,1⟩]/\StOk w2.1.s:=by
 have wt:wordOk eveA=true:=by decide
 have hp:=gD (n:=n) (tw:=eveA) ⟨hn.1,by omega⟩ wt;have hk:=kY (q:=1) (T:=12) (n:=n) wt (by omega) (by omega);obtain⟨w2,o2,l2⟩:=o_tick l1 (by decide) (by decide) (by decide);obtain⟨w3,o3,l3⟩:=o_tick l2 (by decide) (by decide) (by decide);obtain⟨w4,o4,l4⟩:=o_tick l3 (by decide) (by decide) (by decide);have o5:=Ng (w:=w4) (e:=oneL 5 1 (recvM (pkOf 1 (goldT n eveA) 12))) rfl (nL (x:=11) (st:=3) (S:=1) (R:=1) (K:=1) (q:=1) (T:=12) (view1 l4 (by decide) (by decide)) ⟨rfl,rfl⟩ rfl rfl hk (.inr (.inl ⟨rfl,by decide,rfl⟩)));have hm:(moveP (puS n) safeA ownA goldA n).2=0:=oK (dD n) (by decide) (by decide) (by decide) (by omega) (by rw[jU hn,if_neg (λq=>ne1 q.1),if_pos ⟨rfl,rfl⟩];omega) (by rw[pV hn,if_pos rfl];decide) (by have:=pW n;omega);obtain⟨w6,o6,l6⟩:=o_ok0 (e:=oneL 5 0 (lateM (pkOf 1 (goldT n eveA) 12))) l4 rfl (m_late (t:=goldT n eveA) (st:=3) (S:=1+1) (R:=1) (K:=1) (q:=1) (T:=12) (pu:=(moveP (puS n) safeA ownA goldA n).1) (view0 l4 (by decide) (by decide)) ⟨rfl,rfl⟩ rfl rfl rfl hk sent_A1 (by decide) (st':=3) (S':=1) (R':=1) (K':=1) rfl (by decide) rfl rfl rfl hp
  (Dc (dD n) (by omega) (by rw[show(A1 r n eveA 12).pus=puS n from rfl,jU hn,if_neg (λq=>ne1 q.1),if_pos ⟨rfl,rfl⟩];omega) (by rw[show(A1 r n eveA 12).pus=puS n from rfl,pV hn,if_pos rfl];decide) (by have:=pW n;show(puS n).length<60;omega)))
 have e1:=l6.a.ends;have p1:w6.1.s.pus=(moveP (puS n) safeA ownA goldA n).1:=congrArg EndsD.pus e1;have p3:w6.1.s.sent=jF (A1 r n eveA 12).sent 0 1:=congrArg EndsD.sent e1;refine⟨w4,w6,o2.app (o3.app (o4.app o5)),o6,?_,by rw[p1];exact gF (dD n) ..,by rw[p3,EO],congrArg EndsD.chs e1,l6.a.sd.ok⟩;rw[p1,(lg (dD n) hm).2.1,if_neg (λq=>ne2 q.1),if_pos ⟨rfl,rfl⟩,jU hn,if_pos ⟨rfl,rfl⟩,if_neg (λq=>ne2 q.1)];omega
theorem sc_twice (r:Bool){w:jw}{n:Nat}(hn:1<=n/\n<=1000)(l1:Lk 100 w 10 (A1 r n eveA 900) (ends4 r puB) (ends4 r puA) (ends4 r puB)):
  ∃w',Out w (tickL++([oneL 5 1 (recvM (pkOf 1 (goldT n eveA) 900))]++([oneL 5 1 (recvM (pkOf 1 (goldT n eveA) 900))]++(tickL++([oneL 5 1 (recvM (pkOf 1 (goldT n eveA) 900))]++([oneL 5 0 (ackM (pkOf 1 (goldT n eveA) 900))]++([oneL 5 0 (ackM (pkOf 1 (goldT n eveA) 900))]++(tickL++[oneL 5 0 (ackM (pkOf 1 (goldT n eveA) 900))])))))))) w'
   ([0,0,0,0]++([0]++([12]++([0,0,0,0]++([12]++([0]++([6]++([0,0,0,0]++[6])))))))):=by
 have wt:wordOk eveA=true:=by decide
 have hk:=kY (q:=1) (T:=900) (n:=n) wt (by omega) (by omega);have hrec:∀{m:Nat}{w:jw}{x y z:EndsD},(2<=m/\m<900)->Lk 100 w m z (B1 r n eveA 900) x y->Out w [oneL 5 1 (recvM (pkOf 1 (goldT n eveA) 900))] w [12]:=λ{m w x y z} hm l=>by
  refine Ng rfl (nL (x:=12) (st:=3) (S:=1) (R:=if r=true then 1+1 else 1) (K:=1) (q:=1) (T:=900) (view1 l hm.1 (by decide)) ⟨rfl,rfl⟩ rfl rfl hk (.inr (.inr ⟨rfl,by omega,?_,rfl⟩)));cases r
  ·refine .inr ⟨rfl,?_⟩;show(getM (putM [] ⟨0,1,digPk (pkOf 1 (goldT n eveA) 900)⟩) 0 1).isSome=true;rw[oN pX];rfl
  ·exact .inl ⟨rfl,by decide⟩
 have hack:∀{m:Nat}{w:jw}{x y z:EndsD},2<=m->Lk 100 w m (ackE (A1 r n eveA 900) r 3 (1+1) 1 1 1) z x y->Out w [oneL 5 0 (ackM (pkOf 1 (goldT n eveA) 900))] w [6]:=λ{m w x y z} hm l =>abW rfl (Tq (r:=r) (S:=1+1) (R:=1) (K:=if r=true then 1+1 else 1) (q:=1) (T:=900) (view0 l hm (by decide)) ⟨rfl,rfl⟩ rfl rfl hk (by show getM (jF (A1 r n eveA 900).sent 0 1) 0 1=none;rw[EO];rfl))
 obtain⟨w2,o2,l2⟩:=o_tick l1 (by decide) (by decide) (by decide);obtain⟨w3,o3,l3⟩:=sc_recv hn wt eve_no (by decide) l2 rfl;have o4:=hrec (by decide) l3;obtain⟨w5,o5,l5⟩:=o_tick l3 (by decide) (by decide) (by decide);have o6:=hrec (by decide) l5;obtain⟨w7,o7,l7⟩:=o_ok0 (e:=oneL 5 0 (ackM (pkOf 1 (goldT n eveA) 900))) l5 rfl (m_acked (S:=1+1) (R:=1) (K:=1) (q:=1) (T:=900) (view0 l5 (by decide) (by decide)) ⟨rfl,rfl⟩ rfl rfl hk sent_A1 (λ_=>rfl) (by decide) ((KL.mem_put cmpM_ok).2 (.inr rfl)));have o8:=hack (by decide) l7;obtain⟨w9,o9,l9⟩:=o_tick l7 (by decide) (by decide) (by decide);have o10:=hack (by decide) l9;exact⟨w9,o2.app (o3.app (o4.app (o5.app (o6.app (o7.app (o8.app (o9.app o10)))))))⟩
end Go.Proofs.YtoifllbioldomaaGreatDoor
