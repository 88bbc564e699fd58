/- Merged texts: CoP, CoA, CoB, CoL. -/
import Derived.Test.YtdmeldhlbpdeeaaGreatDoorGMk
import Derived.Test.YtdmeldhlbpdeeaaGreatDoorGKs
set_option linter.all false
set_option maxHeartbeats 8000000
set_option maxRecDepth 20000
namespace Go.Proofs.YtdmeldhlbpdeeaaGreatDoor
open Go Go.Abs
structure bH where
 h:Int
 p:b_
 g:YA
def shD (w:bH):D:=.agg [.i (.s (.int .i64 w.h)),.i (.s (.int .i64 w.p.i)),.i (.s (.int .i64 w.p.n)),.i (bI w.p.k),.i (bI w.p.v),.i (bbI w.p.path),.i (.s (.bool w.g.hl)),.i (.s (.bool w.g.hr)),
 .i (.s (.int .i64 w.g.left.i)),.i (.s (.int .i64 w.g.left.n)),.i (bI w.g.left.k),.i (bI w.g.left.v),.i (bbI w.g.left.path),.i (.s (.int .i64 w.g.right.i)),.i (.s (.int .i64 w.g.right.n)),.i (bI w.g.right.k),.i (bI w.g.right.v),.i (bbI w.g.right.path)]
attribute [simp,go_sem] shD
def gU (s:StateD)(c:Int):aD:=s.cls.getD c.toNat kw
def overE (s:StateD)(c:Int):Int:=if c<0\/(s.cls.length:Int)<=c then 6 else if gp (gU s c) s.t=true then 0 else 12
def zeroCn:ConnD:=⟨0,0,0,0⟩
attribute [simp,go_sem] zeroCn
def cnAt (s:StateD)(i:Int):ConnD:=s.cns.getD i.toNat zeroCn
def shownE (s:StateD)(c pos:Int)(en:ConnD)(w:bH):Int:=bF (gU s c) s.t w.h (keyC pos) (kQ en) w.p
abbrev StR:=StateD×Int×Int
def pO (s:StateD)(c:ConnD):StR:=if(s.cns.length:Int)=8 then(zeroSt,0,5)else({s with cns:=s.cns++[c]},s.cns.length,0)
def mH (s:StateD)(c other:Int):StR :=
 if bq s=0 then(if overE s c=0 then(if other<0\/1000000000000<other then(zeroSt,0,3)else pO s ⟨1,c,other,-1⟩)else(zeroSt,0,overE s c))else(zeroSt,0,bq s)
def t_ (s:StateD)(c other oc:Int)(w:bH):StR :=
 if bq s=0 then(if overE s c=0 then(if other<0\/1000000000000<other\/oc<0\/1000000000000<oc then(zeroSt,0,3)else
  if shownE s c oc ⟨1,other,c,-1⟩ w=0 then pO s ⟨2,c,other,oc⟩else(zeroSt,0,shownE s c oc ⟨1,other,c,-1⟩ w))else(zeroSt,0,overE s c))else(zeroSt,0,bq s)
def endCn (s:StateD)(i want:Int):ConnD×Int :=
 if bq s=0 then(if i<0\/(s.cns.length:Int)<=i then(zeroCn,6)else if(cnAt s i).st=want then(cnAt s i,overE s (cnAt s i).cl)else(zeroCn,12))else(zeroCn,bq s)
def openCn (s:StateD)(i oc:Int):StateD:={s with cns:=s.cns.set i.toNat {cnAt s i with st:=3,on:=oc}}
def ackCn (s:StateD)(i oc:Int)(w:bH):StateD×Int :=
 if(endCn s i 1).2=0 then(if oc<0\/1000000000000<oc then(zeroSt,3)else
  if shownE s (cnAt s i).cl oc ⟨2,(cnAt s i).oc,(cnAt s i).cl,i⟩ w=0 then(openCn s i oc,0)else(zeroSt,shownE s (cnAt s i).cl oc ⟨2,(cnAt s i).oc,(cnAt s i).cl,i⟩ w))else(zeroSt,(endCn s i 1).2)
def confCn (s:StateD)(i:Int)(w:bH):StateD×Int :=
 if(endCn s i 2).2=0 then(if(cnAt s i).on<0 then(zeroSt,8)else
  if shownE s (cnAt s i).cl (cnAt s i).on ⟨3,(cnAt s i).oc,(cnAt s i).cl,i⟩ w=0 then(openCn s i (cnAt s i).on,0)else(zeroSt,shownE s (cnAt s i).cl (cnAt s i).on ⟨3,(cnAt s i).oc,(cnAt s i).cl,i⟩ w))else(zeroSt,(endCn s i 2).2)
theorem endCn_zero {s:StateD}{i want:Int}:(endCn s i want).2=0↔StOk s/\(0<=i/\i<(s.cns.length:Int))/\(cnAt s i).st=want/\overE s (cnAt s i).cl=0:=by
 unfold endCn;rw[<- aC];constructor
 ·intro h;split at h
  ·split at h
   ·cases h
   ·split at h
    ·exact⟨by assumption,by omega,by assumption,h⟩
    ·cases h
  ·exact absurd h ‹_›
 ·rintro⟨a,b,c,d⟩;rw[if_pos a,if_neg (by omega),if_pos c];exact d
theorem CS {s:StateD}{i want:Int}(h:(endCn s i want).2=0):endCn s i want=(cnAt s i,0):=by obtain⟨a,b,c,d⟩:=endCn_zero.1 h;unfold endCn;rw[if_pos (aC.2 a),if_neg (by omega),if_pos c,d]
theorem jH {s:StateD}{c:Int}:overE s c=0↔(0<=c/\c<(s.cls.length:Int))/\gp (gU s c) s.t=true:=by
 unfold overE;constructor
 ·intro h;split at h
  ·cases h
  ·split at h
   ·exact⟨by omega,by assumption⟩
   ·cases h
 ·rintro⟨a,b⟩;rw[if_neg (by omega),if_pos b]
theorem eF {s:StateD}{i:Int}(h:0<=i/\i<(s.cns.length:Int)):cnAt s i=s.cns[i.toNat]'(by omega)/\cnAt s i∈s.cns:=by
 have e:cnAt s i=s.cns[i.toNat]'(by omega):=by unfold cnAt;rw[List.getD_eq_getElem?_getD,List.getElem?_eq_getElem (by omega)];rfl
 exact⟨e,by rw[e];exact List.getElem_mem _⟩
theorem gz {s:StateD}{i:Int}(h:0<=i/\i<(s.cls.length:Int)):gU s i=s.cls[i.toNat]'(by omega)/\gU s i∈s.cls:=by
 have e:gU s i=s.cls[i.toNat]'(by omega):=by unfold gU;rw[List.getD_eq_getElem?_getD,List.getElem?_eq_getElem (by omega)];rfl
 exact⟨e,by rw[e];exact List.getElem_mem _⟩
open Go.RowKit Go.Proofs.YtdmeldhlbpdeeaaGreatDoor.Ty
theorem Fp (s:StateD)(ok:StOk s)(c:Int):PureD Tryz.prog 230 [.rp (encSt s) 0,intD c] (intD (overE s c)):=by
 refine ai λR hR=>?_;unfold overE at hR;have hl:=ok.lcl;by_cases h:c<0\/(s.cls.length:Int)<=c
 ·rw[if_pos h]at hR;clear ok;refine aa 31 Tryz.func230 ?_;exact wkl trivial
 ·have hi:c.toNat<s.cls.length:=by omega
  have s0:=aI (f:=gF) hi;have c1:=VG (ok.cls _ (List.getElem_mem hi)) ok.t;rw[if_neg h,(gz (s:=s) (i:=c) (by omega)).1]at hR;clear ok;generalize s.cls[c.toNat]=x at*;generalize gp x s.t=A at*;refine aa 31 Tryz.func230 ?_;exact wkl trivial
theorem Ay (s:StateD)(ok:StOk s)(c:Int)(hc:0<=c/\c<(s.cls.length:Int))(pos:Int)(ha:N12 0 pos)(en:ConnD)(he:N12 (-1) en.on)(w:bH):
  PureD Tryz.prog 232 [.rp (encSt s) 0,intD c,intD pos,connD en,shD w] (intD (shownE s c pos en w)):=by
 refine ai λR hR=>?_;unfold shownE at hR;have hl:=ok.lcl;have hi:c.toNat<s.cls.length:=by omega
 have s0:=aI (f:=gF) hi;have c1:=Df pos (by unfold N12 at ha;unfold gT;omega);have c2:=P_ en he;have c3:=jZ (gU s c) s.t w.h (keyC pos) (kQ en) w.p (by have:=(ok.cls _ (gz hc).2).len;omega);rw[(gz hc).1]at hR c3;clear ok ha he;generalize s.cls[c.toNat]=x at*;generalize keyC pos=K at*;generalize kQ en=V at*;generalize bF x s.t w.h K V w.p=M at*;refine aa 31 Tryz.func232 ?_;exact wkl trivial
theorem Rc (s:StateD)(ok:StOk s)(c:ConnD):PureD Tryz.prog 231 [stateD s,connD c] (.tup [stateD (pO s c).1,intD (pO s c).2.1,intD (pO s c).2.2]):=by
 refine ai λR hR=>?_;have e1:=mE s ok.sm;have hl:=ok.lcn;unfold pO at hR;have m1:s.cns.map d_++[d_ (c)]=(s.cns++[c]).map d_:=by simp
 have m2:s.cns.length+1=(s.cns++[c]).length:=by simp
 have m3:((s.cns++[c]).length:Int)-1=s.cns.length:=by simp
 simp only[d_]at m1;generalize s.cns++[c]=L at*;by_cases h:(s.cns.length:Int)=8
 ·rw[if_pos h]at hR;clear ok e1;refine aa 26 Tryz.func231 ?_;exact wkl trivial
 ·rw[if_neg h]at hR;clear ok;refine aa 26 Tryz.func231 ?_;exact wkl trivial
theorem Uq (s:StateD)(hs:StSm s)(c other:Int):PureD Tryz.prog 195 [stateD s,intD c,intD other] (.tup [stateD (mH s c other).1,intD (mH s c other).2.1,intD (mH s c other).2.2]):=by
 refine ai λR hR=>?_;have c1:=iL s hs;unfold mH at hR;by_cases h:bq s=0
 ·have ok:=aC.1 h;rw[h]at c1;rw[if_pos h]at hR;have c2:=Fp s ok c;have c3:=Rc s ok ⟨1,c,other,-1⟩;generalize overE s c=E at*;generalize pO s ⟨1,c,other,-1⟩=A at*;clear ok h hs;refine aa 38 Tryz.func195 ?_;exact wkl trivial
 ·rw[if_neg h]at hR;generalize bq s=W at*;clear hs;refine aa 38 Tryz.func195 ?_;exact wkl trivial
theorem YS (s:StateD)(hs:StSm s)(c other oc:Int)(w:bH):PureD Tryz.prog 196 [stateD s,intD c,intD other,intD oc,shD w] (.tup [stateD (t_ s c other oc w).1,intD (t_ s c other oc w).2.1,intD (t_ s c other oc w).2.2]):=by
 refine ai λR hR=>?_;have c1:=iL s hs;unfold t_ at hR;by_cases h:bq s=0
 ·have ok:=aC.1 h;rw[h]at c1;rw[if_pos h]at hR;have c2:=Fp s ok c;have c3:=Rc s ok ⟨2,c,other,oc⟩;by_cases h2:overE s c=0
  ·rw[if_pos h2]at hR;rw[h2]at c2;by_cases h3:other<0\/1000000000000<other\/oc<0\/1000000000000<oc
   ·rw[if_pos h3]at hR;clear c3 ok h hs h2;refine aa 65 Tryz.func196 ?_;exact wkl trivial
   ·rw[if_neg h3]at hR;have c4:=Ay s ok c (jH.1 h2).1 oc (by unfold N12;omega) ⟨1,other,c,-1⟩ (by unfold N12;simp) w;generalize shownE s c oc ⟨1,other,c,-1⟩ w=E at*;generalize pO s ⟨2,c,other,oc⟩=A at*;clear ok h hs h2;refine aa 65 Tryz.func196 ?_;exact wkl trivial
  ·rw[if_neg h2]at hR;generalize overE s c=E at*;clear c3 ok h hs;refine aa 65 Tryz.func196 ?_;exact wkl trivial
 ·rw[if_neg h]at hR;generalize bq s=W at*;clear hs;refine aa 65 Tryz.func196 ?_;exact wkl trivial
theorem PK (s:StateD)(hs:StSm s)(i want:Int):PureD Tryz.prog 233 [.rp (encSt s) 0,intD i,intD want] (.tup [connD (endCn s i want).1,intD (endCn s i want).2]):=by
 refine ai λR hR=>?_;have c1:=iL s hs;unfold endCn at hR;by_cases h:bq s=0
 ·have ok:=aC.1 h;have hl:=ok.lcn;rw[h]at c1;rw[if_pos h]at hR;by_cases h2:i<0\/(s.cns.length:Int)<=i
  ·rw[if_pos h2]at hR;clear ok h hs;refine aa 47 Tryz.func233 ?_;exact wkl trivial
  ·rw[if_neg h2]at hR;have hi:i.toNat<s.cns.length:=by omega
   have s0:=aI (f:=d_) hi;have c2:=Fp s ok (cnAt s i).cl;rw[(eF (s:=s) (i:=i) (by omega)).1]at hR c2;clear ok h hs;generalize s.cns[i.toNat]=x at*;generalize overE s x.cl=E at*;refine aa 47 Tryz.func233 ?_;exact wkl trivial
 ·rw[if_neg h]at hR;generalize bq s=W at*;clear hs;refine aa 47 Tryz.func233 ?_;exact wkl trivial
theorem GY (s:StateD)(ok:StOk s)(i oc:Int)(hi:0<=i/\i<(s.cns.length:Int)):PureD Tryz.prog 234 [stateD s,intD i,intD oc] (stateD (openCn s i oc)):=by
 refine ai λR hR=>?_;have e1:=mE s ok.sm;have hl:=ok.lcn;unfold openCn at hR;rw[(eF hi).1]at hR;have hi':i.toNat<s.cns.length:=by omega
 have s0:=aI (f:=d_) hi';have s1:=λx=>List.getElem?_set_self (l:=s.cns.map d_) (i:=i.toNat) (a:=x) (by simpa using hi');have s2:∀x y,((s.cns.map d_).set i.toNat x).set i.toNat y=(s.cns.map d_).set i.toNat y:=λx y=>List.set_set x;have s3:(s.cns.map d_).set i.toNat (d_ {s.cns[i.toNat]with st:=3,on:=oc})=(s.cns.set i.toNat {s.cns[i.toNat]with st:=3,on:=oc}).map d_:=List.map_set.symm;have s4:s.cns.length=(s.cns.set i.toNat {s.cns[i.toNat]with st:=3,on:=oc}).length:=by simp
 generalize s.cns.set i.toNat {s.cns[i.toNat]with st:=3,on:=oc}=L at*;generalize s.cns[i.toNat]=x at*;simp only[d_]at s3;clear ok;refine aa 22 Tryz.func234 ?_;exact wkl trivial
theorem abd (s:StateD)(hs:StSm s)(i oc:Int)(w:bH):PureD Tryz.prog 197 [stateD s,intD i,intD oc,shD w] (.tup [stateD (ackCn s i oc w).1,intD (ackCn s i oc w).2]):=by
 refine ai λR hR=>?_;have c1:=PK s hs i 1;unfold ackCn at hR;by_cases h:(endCn s i 1).2=0
 ·rw[if_pos h]at hR;obtain⟨ok,hi,hst,hov⟩:=endCn_zero.1 h;rw[CS h]at c1;by_cases h3:oc<0\/1000000000000<oc
  ·rw[if_pos h3]at hR;generalize cnAt s i=x at*;clear ok h hs hov;refine aa 50 Tryz.func197 ?_;exact wkl trivial
  ·rw[if_neg h3]at hR;have hl:=ok.lcn;have c2:=Ay s ok (cnAt s i).cl (jH.1 hov).1 oc (by unfold N12;omega) ⟨2,(cnAt s i).oc,(cnAt s i).cl,i⟩ (by unfold N12;simp only;omega) w;have c3:=GY s ok i oc hi;generalize shownE s (cnAt s i).cl oc ⟨2,(cnAt s i).oc,(cnAt s i).cl,i⟩ w=E at*;generalize openCn s i oc=A at*;generalize cnAt s i=x at*;clear ok h hs hov;refine aa 50 Tryz.func197 ?_;exact wkl trivial
 ·rw[if_neg h]at hR;generalize endCn s i 1=W at*;clear hs;refine aa 50 Tryz.func197 ?_;exact wkl trivial
theorem UQ (s:StateD)(hs:StSm s)(i:Int)(w:bH):PureD Tryz.prog 198 [stateD s,intD i,shD w] (.tup [stateD (confCn s i w).1,intD (confCn s i w).2]):=by
 refine ai λR hR=>?_;have c1:=PK s hs i 2;unfold confCn at hR;by_cases h:(endCn s i 2).2=0
 ·rw[if_pos h]at hR;obtain⟨ok,hi,hst,hov⟩:=endCn_zero.1 h;rw[CS h]at c1;have hon:=(ok.cns _ (eF hi).2).on;by_cases h3:(cnAt s i).on<0
  ·rw[if_pos h3]at hR;generalize cnAt s i=x at*;clear ok h hs hov;refine aa 47 Tryz.func198 ?_;exact wkl trivial
  ·rw[if_neg h3]at hR;have hl:=ok.lcn;have c2:=Ay s ok (cnAt s i).cl (jH.1 hov).1 (cnAt s i).on (by unfold N12 at*;omega) ⟨3,(cnAt s i).oc,(cnAt s i).cl,i⟩ (by unfold N12;simp only;omega) w;have c3:=GY s ok i (cnAt s i).on hi;generalize shownE s (cnAt s i).cl (cnAt s i).on ⟨3,(cnAt s i).oc,(cnAt s i).cl,i⟩ w=E at*;generalize openCn s i (cnAt s i).on=A at*;generalize cnAt s i=x at*;clear ok h hs hov;refine aa 47 Tryz.func198 ?_;exact wkl trivial
 ·rw[if_neg h]at hR;generalize endCn s i 2=W at*;clear hs;refine aa 47 Tryz.func198 ?_;exact wkl trivial
theorem StOk.cn {s:StateD}(h:StOk s){x:List ConnD}(hl:x.length<=8)(hx:∀c∈x,afP c):StOk {s with cns:=x} :=
 ⟨h.name,h.h,h.t,h.lcl,hl,h.lch,h.lsent,h.lgot,h.lacks,h.lpus,h.cls,hx,h.chs,h.sent,h.got,h.acks,h.pus⟩
structure CnStep (s:StateD) (pos:Int) (t:StateD):Prop where
 ok:StOk t
 same:{t with cns:=s.cns}=s
 len:s.cns.length<=t.cns.length
 keep:∀i (h:i<s.cns.length) (h':i<t.cns.length),s.cns[i].st=3\/¬(i:Int)=pos->t.cns[i]=s.cns[i]
theorem addCn_zero {s:StateD}(ok:StOk s){c:ConnD}(hc:afP c)(h:(pO s c).2.2=0)(pos:Int):CnStep s pos (pO s c).1/\(pO s c).2=((s.cns.length:Int),0)/\(pO s c).1={s with cns:=s.cns++[c]}:=by
 unfold pO at h⊢;have hl:=ok.lcn;split at h
 ·cases h
 ·rename_i hn;rw[if_neg hn];refine⟨⟨ok.cn (by simp;omega) (λx hx=>?_),rfl,by simp,λi h h' _=>?_⟩,rfl,rfl⟩
  ·rcases List.mem_append.1 hx with hx|hx
   ·exact ok.cns x hx
   ·simp only[List.mem_singleton]at hx;subst hx;exact hc
  ·simp only;rw[List.getElem_append_left h]
theorem cl_12 {s:StateD}(ok:StOk s){c:Int}(h:overE s c=0):N12 0 c:=by have:=(jH.1 h).1;have:=ok.lcl;unfold N12;omega
theorem EM {s:StateD}{c other:Int}(h:(mH s c other).2.2=0)(pos:Int):CnStep s pos (mH s c other).1/\(mH s c other).2.1=s.cns.length:=by
 unfold mH at h⊢;split at h
 ·rename_i h1;have ok:=aC.1 h1;rw[if_pos h1];split at h
  ·rename_i h2;rw[if_pos h2];split at h
   ·cases h
   ·rename_i h3;rw[if_neg h3];obtain⟨a,b,_⟩:=addCn_zero ok (c:=⟨1,c,other,-1⟩) ⟨by simp,cl_12 ok h2,by unfold N12;simp only;omega,by unfold N12;simp⟩ h pos;exact⟨a,by rw[b]⟩
  ·exact absurd h ‹_›
 ·exact absurd h ‹_›
theorem Kl {s:StateD}{c other oc:Int}{w:bH}(h:(t_ s c other oc w).2.2=0)(pos:Int):CnStep s pos (t_ s c other oc w).1/\(t_ s c other oc w).2.1=s.cns.length/\overE s c=0/\(N12 0 other/\N12 0 oc)/\shownE s c oc ⟨1,other,c,-1⟩ w=0/\StOk s:=by
 unfold t_ at h⊢;split at h
 ·rename_i h1;have ok:=aC.1 h1;rw[if_pos h1];split at h
  ·rename_i h2;rw[if_pos h2];split at h
   ·cases h
   ·rename_i h3;rw[if_neg h3];split at h
    ·rename_i h4;rw[if_pos h4];have h5:N12 0 other/\N12 0 oc:=by unfold N12;omega
     obtain⟨a,b,_⟩:=addCn_zero ok (c:=⟨2,c,other,oc⟩) ⟨by simp,cl_12 ok h2,h5.1,by have:=h5.2;unfold N12 at*;simp only;omega⟩ h pos;exact⟨a,by rw[b],h2,h5,h4,ok⟩
    ·exact absurd h ‹_›
  ·exact absurd h ‹_›
 ·exact absurd h ‹_›
theorem Ca {s:StateD}(ok:StOk s){i oc:Int}(hi:0<=i/\i<(s.cns.length:Int))(hs:¬(cnAt s i).st=3)(ho:N12 0 oc):CnStep s i (openCn s i oc):=by
 have hm:=eF hi;have hc:=ok.cns _ hm.2;refine⟨ok.cn (by have:=ok.lcn;simp;omega) (λx hx=>?_),rfl,by simp[openCn],λj h h' hk=>?_⟩
 ·rcases List.mem_or_eq_of_mem_set hx with hx|rfl
  ·exact ok.cns x hx
  ·exact⟨by simp,hc.cl,hc.oc,by unfold N12 at*;simp only;omega⟩
 ·simp only[openCn];rw[List.getElem_set_ne];intro e;rcases hk with hk|hk
  ·apply hs;rw[hm.1];simp only[e];exact hk
  ·omega
theorem Le {s:StateD}{i oc:Int}{w:bH}(h:(ackCn s i oc w).2=0):CnStep s i (ackCn s i oc w).1/\(endCn s i 1).2=0/\N12 0 oc/\shownE s (cnAt s i).cl oc ⟨2,(cnAt s i).oc,(cnAt s i).cl,i⟩ w=0/\(ackCn s i oc w).1=openCn s i oc:=by
 unfold ackCn at h⊢;split at h
 ·rename_i h1;rw[if_pos h1];obtain⟨ok,hi,hst,hov⟩:=endCn_zero.1 h1;split at h
  ·cases h
  ·rename_i h3;rw[if_neg h3];split at h
   ·rename_i h4;rw[if_pos h4];have h5:N12 0 oc:=by unfold N12;omega
    exact⟨Ca ok hi (by omega) h5,h1,h5,h4,rfl⟩
   ·exact absurd h ‹_›
 ·exact absurd h ‹_›
theorem Fs {s:StateD}{i:Int}{w:bH}(h:(confCn s i w).2=0):CnStep s i (confCn s i w).1/\(endCn s i 2).2=0/\N12 0 (cnAt s i).on/\shownE s (cnAt s i).cl (cnAt s i).on ⟨3,(cnAt s i).oc,(cnAt s i).cl,i⟩ w=0/\(confCn s i w).1=openCn s i (cnAt s i).on:=by
 unfold confCn at h⊢;split at h
 ·rename_i h1;rw[if_pos h1];obtain⟨ok,hi,hst,hov⟩:=endCn_zero.1 h1;split at h
  ·cases h
  ·rename_i h3;rw[if_neg h3];split at h
   ·rename_i h4;rw[if_pos h4];have h5:N12 0 (cnAt s i).on:=by have:=(ok.cns _ (eF hi).2).on;unfold N12 at*;omega
    exact⟨Ca ok hi (by omega) h5,h1,h5,h4,rfl⟩
   ·exact absurd h ‹_›
 ·exact absurd h ‹_›
end Go.Proofs.YtdmeldhlbpdeeaaGreatDoor
