/- Merged texts: ChP, ChA, ChB, ChL. -/
import Derived.Test.YtdmeldhlbpdeeaaGreatDoorGCo
set_option linter.all false
set_option maxHeartbeats 8000000
set_option maxRecDepth 20000
namespace Go.Proofs.YtdmeldhlbpdeeaaGreatDoor
open Go Go.Abs
def zeroCh:ChanD:=⟨0,false,0,0,0,0,0⟩
attribute [simp,go_sem] zeroCh
def chAt (s:StateD)(i:Int):ChanD:=s.chs.getD i.toNat zeroCh
def overCh (s:StateD)(i:Int):ConnD×Int :=
 if i<0\/(s.cns.length:Int)<=i then(zeroCn,6)
 else if(cnAt s i).st=3 then
  (if(cnAt s i).on<0 then(zeroCn,8)
  else if(s.cls.length:Int)<=(cnAt s i).cl then(zeroCn,6)
  else if gp (gU s (cnAt s i).cl) s.t=true then(cnAt s i,0)else(zeroCn,12))
 else(zeroCn,12)
def shownHE (s:StateD)(c:ConnD)(pos:Int)(en:ChanD)(w:bH):Int:=bF (gU s c.cl) s.t w.h (keyH pos) (kR en) w.p
def qZ (s:StateD)(c:ChanD):StR:=if(s.chs.length:Int)=8 then(zeroSt,0,5)else({s with chs:=s.chs++[{c with snd:=1,rcv:=1,ack:=1}]},s.chs.length,0)
def mI (s:StateD)(i:Int)(o:Bool):StR :=
 if bq s=0 then(if(overCh s i).2=0 then qZ s ⟨1,o,i,-1,0,0,0⟩else(zeroSt,0,(overCh s i).2))else(zeroSt,0,bq s)
def uf (s:StateD)(i:Int)(o:Bool)(other:Int)(w:bH):StR :=
 if bq s=0 then(if(overCh s i).2=0 then(if other<0\/1000000000000<other then(zeroSt,0,3)else
  if shownHE s (cnAt s i) other ⟨1,o,(cnAt s i).on,-1,0,0,0⟩ w=0 then qZ s ⟨2,o,i,other,0,0,0⟩else(zeroSt,0,shownHE s (cnAt s i) other ⟨1,o,(cnAt s i).on,-1,0,0,0⟩ w))else(zeroSt,0,(overCh s i).2))else(zeroSt,0,bq s)
def endCh (s:StateD)(i want:Int):ChanD×ConnD×Int :=
 if bq s=0 then(if i<0\/(s.chs.length:Int)<=i then(zeroCh,zeroCn,6)else if(chAt s i).st=want then(chAt s i,(overCh s (chAt s i).cn).1,(overCh s (chAt s i).cn).2)else(zeroCh,zeroCn,12))else(zeroCh,zeroCn,bq s)
def nowCh (s:StateD)(i how other:Int):StateD:={s with chs:=s.chs.set i.toNat {chAt s i with st:=how,oc:=other}}
def xe (s:StateD)(i other:Int)(w:bH):StateD×Int :=
 if(endCh s i 1).2.2=0 then(if other<0\/1000000000000<other then(zeroSt,3)else
  if shownHE s (endCh s i 1).2.1 other ⟨2,(chAt s i).ord,(endCh s i 1).2.1.on,i,0,0,0⟩ w=0 then(nowCh s i 3 other,0)else(zeroSt,shownHE s (endCh s i 1).2.1 other ⟨2,(chAt s i).ord,(endCh s i 1).2.1.on,i,0,0,0⟩ w))else(zeroSt,(endCh s i 1).2.2)
def iX (want say:Int)(s:StateD)(i:Int)(w:bH):StateD×Int :=
 if(endCh s i want).2.2=0 then(if(chAt s i).oc<0 then(zeroSt,8)else
  if shownHE s (endCh s i want).2.1 (chAt s i).oc ⟨say,(chAt s i).ord,(endCh s i want).2.1.on,i,0,0,0⟩ w=0 then(nowCh s i say (chAt s i).oc,0)else(zeroSt,shownHE s (endCh s i want).2.1 (chAt s i).oc ⟨say,(chAt s i).ord,(endCh s i want).2.1.on,i,0,0,0⟩ w))else(zeroSt,(endCh s i want).2.2)
def mh (s:StateD)(i:Int):StateD×Int:=if(endCh s i 3).2.2=0 then(nowCh s i 4 (chAt s i).oc,0)else(zeroSt,(endCh s i 3).2.2)
theorem overCh_zero {s:StateD}{i:Int}:(overCh s i).2=0↔(0<=i/\i<(s.cns.length:Int))/\(cnAt s i).st=3/\0<=(cnAt s i).on/\(cnAt s i).cl<(s.cls.length:Int)/\gp (gU s (cnAt s i).cl) s.t=true:=by
 unfold overCh;constructor
 ·intro h;split at h
  ·cases h
  ·split at h
   ·split at h
    ·cases h
    ·split at h
     ·cases h
     ·split at h
      ·exact⟨by omega,by assumption,by omega,by omega,by assumption⟩
      ·cases h
   ·cases h
 ·rintro⟨a,b,c,d,e⟩;rw[if_neg (by omega),if_pos b,if_neg (by omega),if_neg (by omega),if_pos e]
theorem rO {s:StateD}{i:Int}(h:(overCh s i).2=0):overCh s i=(cnAt s i,0):=by obtain⟨a,b,c,d,e⟩:=overCh_zero.1 h;unfold overCh;rw[if_neg (by omega),if_pos b,if_neg (by omega),if_neg (by omega),if_pos e]
theorem endCh_zero {s:StateD}{i want:Int}:(endCh s i want).2.2=0↔StOk s/\(0<=i/\i<(s.chs.length:Int))/\(chAt s i).st=want/\(overCh s (chAt s i).cn).2=0:=by
 unfold endCh;rw[<- aC];constructor
 ·intro h;split at h
  ·split at h
   ·cases h
   ·split at h
    ·exact⟨by assumption,by omega,by assumption,h⟩
    ·cases h
  ·exact absurd h ‹_›
 ·rintro⟨a,b,c,d⟩;rw[if_pos a,if_neg (by omega),if_pos c];exact d
theorem lI {s:StateD}{i want:Int}(h:(endCh s i want).2.2=0):endCh s i want=(chAt s i,cnAt s (chAt s i).cn,0):=by obtain⟨a,b,c,d⟩:=endCh_zero.1 h;unfold endCh;rw[if_pos (aC.2 a),if_neg (by omega),if_pos c,rO d]
theorem dD {s:StateD}{i:Int}(h:0<=i/\i<(s.chs.length:Int)):chAt s i=s.chs[i.toNat]'(by omega)/\chAt s i∈s.chs:=by
 have e:chAt s i=s.chs[i.toNat]'(by omega):=by unfold chAt;rw[List.getD_eq_getElem?_getD,List.getElem?_eq_getElem (by omega)];rfl
 exact⟨e,by rw[e];exact List.getElem_mem _⟩
open Go.RowKit Go.Proofs.YtdmeldhlbpdeeaaGreatDoor.Ty
theorem uQ (s:StateD)(ok:StOk s)(i:Int):PureD Tryz.prog 235 [.rp (encSt s) 0,intD i] (.tup [connD (overCh s i).1,intD (overCh s i).2]):=by
 refine ai λR hR=>?_;unfold overCh at hR;have hl:=ok.lcl;have hl2:=ok.lcn;by_cases h:i<0\/(s.cns.length:Int)<=i
 ·rw[if_pos h]at hR;clear ok;refine aa 63 Tryz.func235 ?_;exact wkl trivial
 ·rw[if_neg h]at hR;have hi:i.toNat<s.cns.length:=by omega
  have s0:=aI (f:=d_) hi;have hcm:=eF (s:=s) (i:=i) (by omega);have hcl:=(ok.cns _ hcm.2).cl;rw[hcm.1]at hR hcl;clear hcm;generalize s.cns[i.toNat]=x at*;by_cases h2:(s.cls.length:Int)<=x.cl
  ·simp only[h2,if_true]at hR;clear ok hcl;refine aa 63 Tryz.func235 ?_;exact wkl trivial
  ·simp only[h2,if_false]at hR;have hc0:0<=x.cl:=hcl.1;have hj:x.cl.toNat<s.cls.length:=by omega
   have s1:=aI (f:=gF) hj;have hm:=gz (s:=s) (i:=x.cl) (by omega);have c1:=VG (ok.cls _ hm.2) ok.t;rw[hm.1]at hR c1;clear ok hcl hm;generalize s.cls[x.cl.toNat]=y at*;generalize gp y s.t=A at*;refine aa 63 Tryz.func235 ?_;exact wkl trivial
theorem uU (s:StateD)(ok:StOk s)(c:ConnD)(hc:0<=c.cl/\c.cl<(s.cls.length:Int))(pos:Int)(ha:N12 0 pos)(en:ChanD)(he:N12 (-1) en.oc)(w:bH):
  PureD Tryz.prog 237 [.rp (encSt s) 0,connD c,intD pos,chanD en,shD w] (intD (shownHE s c pos en w)):=by
 refine ai λR hR=>?_;unfold shownHE at hR;have hl:=ok.lcl;have hi:c.cl.toNat<s.cls.length:=by omega
 have s0:=aI (f:=gF) hi;have c1:=CB pos (by unfold N12 at ha;unfold gT;omega);have c2:=Qu en he;have c3:=jZ (gU s c.cl) s.t w.h (keyH pos) (kR en) w.p (by have:=(ok.cls _ (gz hc).2).len;omega);rw[(gz hc).1]at hR c3;clear ok ha he;generalize s.cls[c.cl.toNat]=x at*;generalize keyH pos=K at*;generalize kR en=V at*;generalize bF x s.t w.h K V w.p=M at*;refine aa 32 Tryz.func237 ?_;exact wkl trivial
theorem Re (s:StateD)(ok:StOk s)(c:ChanD):PureD Tryz.prog 236 [stateD s,chanD c] (.tup [stateD (qZ s c).1,intD (qZ s c).2.1,intD (qZ s c).2.2]):=by
 refine ai λR hR=>?_;have e1:=mE s ok.sm;have hl:=ok.lch;unfold qZ at hR;have m1:s.chs.map bK++[bK ({c with snd:=1,rcv:=1,ack:=1})]=(s.chs++[{c with snd:=1,rcv:=1,ack:=1}]).map bK:=by simp
 have m2:s.chs.length+1=(s.chs++[{c with snd:=1,rcv:=1,ack:=1}]).length:=by simp
 have m3:((s.chs++[{c with snd:=1,rcv:=1,ack:=1}]).length:Int)-1=s.chs.length:=by simp
 simp only[bK]at m1;generalize s.chs++[{c with snd:=1,rcv:=1,ack:=1}]=L at*;by_cases h:(s.chs.length:Int)=8
 ·rw[if_pos h]at hR;clear ok e1;refine aa 29 Tryz.func236 ?_;exact wkl trivial
 ·rw[if_neg h]at hR;clear ok;refine aa 29 Tryz.func236 ?_;exact wkl trivial
theorem Ur (s:StateD)(hs:StSm s)(i:Int)(o:Bool):PureD Tryz.prog 199 [stateD s,intD i,boolD o] (.tup [stateD (mI s i o).1,intD (mI s i o).2.1,intD (mI s i o).2.2]):=by
 refine ai λR hR=>?_;have c1:=iL s hs;unfold mI at hR;by_cases h:bq s=0
 ·have ok:=aC.1 h;rw[h]at c1;rw[if_pos h]at hR;have c2:=uQ s ok i;have c3:=Re s ok ⟨1,o,i,-1,0,0,0⟩;generalize overCh s i=E at*;generalize qZ s ⟨1,o,i,-1,0,0,0⟩=A at*;clear ok h hs;refine aa 35 Tryz.func199 ?_;exact wkl trivial
 ·rw[if_neg h]at hR;generalize bq s=W at*;clear hs;refine aa 35 Tryz.func199 ?_;exact wkl trivial
theorem YT (s:StateD)(hs:StSm s)(i:Int)(o:Bool)(other:Int)(w:bH):PureD Tryz.prog 200 [stateD s,intD i,boolD o,intD other,shD w] (.tup [stateD (uf s i o other w).1,intD (uf s i o other w).2.1,intD (uf s i o other w).2.2]):=by
 refine ai λR hR=>?_;have c1:=iL s hs;unfold uf at hR;by_cases h:bq s=0
 ·have ok:=aC.1 h;rw[h]at c1;rw[if_pos h]at hR;have c2:=uQ s ok i;have c3:=Re s ok ⟨2,o,i,other,0,0,0⟩;by_cases h2:(overCh s i).2=0
  ·obtain⟨hi,h4,h5,h6,h7⟩:=overCh_zero.1 h2;have hcn:=ok.cns _ (eF hi).2;rw[if_pos h2]at hR;rw[rO h2]at c2;by_cases h3:other<0\/1000000000000<other
   ·rw[if_pos h3]at hR;generalize cnAt s i=x at*;clear c3 ok h hs h2 hcn h7;refine aa 62 Tryz.func200 ?_;exact wkl trivial
   ·rw[if_neg h3]at hR;have c4:=uU s ok (cnAt s i) ⟨hcn.cl.1,h6⟩ other (by unfold N12;omega) ⟨1,o,(cnAt s i).on,-1,0,0,0⟩ (by unfold N12;simp) w;generalize shownHE s (cnAt s i) other ⟨1,o,(cnAt s i).on,-1,0,0,0⟩ w=E at*;generalize qZ s ⟨2,o,i,other,0,0,0⟩=A at*;generalize cnAt s i=x at*;clear ok h hs h2 hcn h7;refine aa 62 Tryz.func200 ?_;exact wkl trivial
  ·rw[if_neg h2]at hR;generalize overCh s i=E at*;clear c3 ok h hs;refine aa 62 Tryz.func200 ?_;exact wkl trivial
 ·rw[if_neg h]at hR;generalize bq s=W at*;clear hs;refine aa 62 Tryz.func200 ?_;exact wkl trivial
theorem Aq (s:StateD)(hs:StSm s)(i want:Int):PureD Tryz.prog 238 [.rp (encSt s) 0,intD i,intD want] (.tup [chanD (endCh s i want).1,connD (endCh s i want).2.1,intD (endCh s i want).2.2]):=by
 refine ai λR hR=>?_;have c1:=iL s hs;unfold endCh at hR;by_cases h:bq s=0
 ·have ok:=aC.1 h;have hl:=ok.lch;rw[h]at c1;rw[if_pos h]at hR;by_cases h2:i<0\/(s.chs.length:Int)<=i
  ·rw[if_pos h2]at hR;clear ok h hs;refine aa 58 Tryz.func238 ?_;exact wkl trivial
  ·rw[if_neg h2]at hR;have hi:i.toNat<s.chs.length:=by omega
   have s0:=aI (f:=bK) hi;have c2:=uQ s ok (chAt s i).cn;rw[(dD (s:=s) (i:=i) (by omega)).1]at hR c2;clear ok h hs;generalize s.chs[i.toNat]=x at*;generalize overCh s x.cn=E at*;refine aa 58 Tryz.func238 ?_;exact wkl trivial
 ·rw[if_neg h]at hR;generalize bq s=W at*;clear hs;refine aa 58 Tryz.func238 ?_;exact wkl trivial
theorem zP (s:StateD)(ok:StOk s)(i how oc:Int)(hi:0<=i/\i<(s.chs.length:Int)):PureD Tryz.prog 239 [stateD s,intD i,intD how,intD oc] (stateD (nowCh s i how oc)):=by
 refine ai λR hR=>?_;have e1:=mE s ok.sm;have hl:=ok.lch;unfold nowCh at hR;rw[(dD hi).1]at hR;have hi':i.toNat<s.chs.length:=by omega
 have s0:=aI (f:=bK) hi';have s1:=λx=>List.getElem?_set_self (l:=s.chs.map bK) (i:=i.toNat) (a:=x) (by simpa using hi');have s2:∀x y,((s.chs.map bK).set i.toNat x).set i.toNat y=(s.chs.map bK).set i.toNat y:=λx y=>List.set_set x;have s3:(s.chs.map bK).set i.toNat (bK {s.chs[i.toNat]with st:=how,oc:=oc})=(s.chs.set i.toNat {s.chs[i.toNat]with st:=how,oc:=oc}).map bK:=List.map_set.symm;have s4:s.chs.length=(s.chs.set i.toNat {s.chs[i.toNat]with st:=how,oc:=oc}).length:=by simp
 generalize s.chs.set i.toNat {s.chs[i.toNat]with st:=how,oc:=oc}=L at*;generalize s.chs[i.toNat]=x at*;simp only[bK]at s3;clear ok;refine aa 25 Tryz.func239 ?_;exact wkl trivial
theorem abe (s:StateD)(hs:StSm s)(i other:Int)(w:bH):PureD Tryz.prog 201 [stateD s,intD i,intD other,shD w] (.tup [stateD (xe s i other w).1,intD (xe s i other w).2]):=by
 refine ai λR hR=>?_;have c1:=Aq s hs i 1;unfold xe at hR;by_cases h:(endCh s i 1).2.2=0
 ·rw[if_pos h]at hR;obtain⟨ok,hi,hst,hov⟩:=endCh_zero.1 h;rw[lI h]at c1 hR;simp only at hR;by_cases h3:other<0\/1000000000000<other
  ·rw[if_pos h3]at hR;generalize chAt s i=x at*;generalize cnAt s x.cn=y at*;clear ok h hs hov;refine aa 51 Tryz.func201 ?_;exact wkl trivial
  ·rw[if_neg h3]at hR;have hl:=ok.lch;obtain⟨hj,h4,h5,h6,h7⟩:=overCh_zero.1 hov;have hcn:=ok.cns _ (eF hj).2;have c2:=uU s ok (cnAt s (chAt s i).cn) ⟨hcn.cl.1,h6⟩ other (by unfold N12;omega) ⟨2,(chAt s i).ord,(cnAt s (chAt s i).cn).on,i,0,0,0⟩ (by unfold N12;simp only;omega) w;have c3:=zP s ok i 3 other hi;generalize shownHE s (cnAt s (chAt s i).cn) other ⟨2,(chAt s i).ord,(cnAt s (chAt s i).cn).on,i,0,0,0⟩ w=E at*;generalize nowCh s i 3 other=A at*;generalize chAt s i=x at*;generalize cnAt s x.cn=y at*;clear ok h hs hov h7 hcn;refine aa 51 Tryz.func201 ?_;exact wkl trivial
 ·rw[if_neg h]at hR;generalize endCh s i 1=W at*;clear hs;refine aa 51 Tryz.func201 ?_;exact wkl trivial
theorem UR (s:StateD)(hs:StSm s)(i:Int)(w:bH):PureD Tryz.prog 202 [stateD s,intD i,shD w] (.tup [stateD (iX 2 3 s i w).1,intD (iX 2 3 s i w).2]):=by
 refine ai λR hR=>?_;have c1:=Aq s hs i 2;unfold iX at hR;by_cases h:(endCh s i 2).2.2=0
 ·rw[if_pos h]at hR;obtain⟨ok,hi,hst,hov⟩:=endCh_zero.1 h;rw[lI h]at c1 hR;simp only at hR;have hch:=(ok.chs _ (dD hi).2).oc;by_cases h3:(chAt s i).oc<0
  ·rw[if_pos h3]at hR;generalize chAt s i=x at*;generalize cnAt s x.cn=y at*;clear ok h hs hov;refine aa 51 Tryz.func202 ?_;exact wkl trivial
  ·rw[if_neg h3]at hR;have hl:=ok.lch;obtain⟨hj,h4,h5,h6,h7⟩:=overCh_zero.1 hov;have hcn:=ok.cns _ (eF hj).2;have c2:=uU s ok (cnAt s (chAt s i).cn) ⟨hcn.cl.1,h6⟩ (chAt s i).oc (by unfold N12 at*;omega) ⟨3,(chAt s i).ord,(cnAt s (chAt s i).cn).on,i,0,0,0⟩ (by unfold N12;simp only;omega) w;have c3:=zP s ok i 3 (chAt s i).oc hi;generalize shownHE s (cnAt s (chAt s i).cn) (chAt s i).oc ⟨3,(chAt s i).ord,(cnAt s (chAt s i).cn).on,i,0,0,0⟩ w=E at*;generalize nowCh s i 3 (chAt s i).oc=A at*;generalize chAt s i=x at*;generalize cnAt s x.cn=y at*;clear ok h hs hov h7 hcn;refine aa 51 Tryz.func202 ?_;exact wkl trivial
 ·rw[if_neg h]at hR;generalize endCh s i 2=W at*;clear hs;refine aa 51 Tryz.func202 ?_;exact wkl trivial
theorem KX (s:StateD)(hs:StSm s)(i:Int)(w:bH):PureD Tryz.prog 204 [stateD s,intD i,shD w] (.tup [stateD (iX 3 4 s i w).1,intD (iX 3 4 s i w).2]):=by
 refine ai λR hR=>?_;have c1:=Aq s hs i 3;unfold iX at hR;by_cases h:(endCh s i 3).2.2=0
 ·rw[if_pos h]at hR;obtain⟨ok,hi,hst,hov⟩:=endCh_zero.1 h;rw[lI h]at c1 hR;simp only at hR;have hch:=(ok.chs _ (dD hi).2).oc;by_cases h3:(chAt s i).oc<0
  ·rw[if_pos h3]at hR;generalize chAt s i=x at*;generalize cnAt s x.cn=y at*;clear ok h hs hov;refine aa 51 Tryz.func204 ?_;exact wkl trivial
  ·rw[if_neg h3]at hR;have hl:=ok.lch;obtain⟨hj,h4,h5,h6,h7⟩:=overCh_zero.1 hov;have hcn:=ok.cns _ (eF hj).2;have c2:=uU s ok (cnAt s (chAt s i).cn) ⟨hcn.cl.1,h6⟩ (chAt s i).oc (by unfold N12 at*;omega) ⟨4,(chAt s i).ord,(cnAt s (chAt s i).cn).on,i,0,0,0⟩ (by unfold N12;simp only;omega) w;have c3:=zP s ok i 4 (chAt s i).oc hi;generalize shownHE s (cnAt s (chAt s i).cn) (chAt s i).oc ⟨4,(chAt s i).ord,(cnAt s (chAt s i).cn).on,i,0,0,0⟩ w=E at*;generalize nowCh s i 4 (chAt s i).oc=A at*;generalize chAt s i=x at*;generalize cnAt s x.cn=y at*;clear ok h hs hov h7 hcn;refine aa 51 Tryz.func204 ?_;exact wkl trivial
 ·rw[if_neg h]at hR;generalize endCh s i 3=W at*;clear hs;refine aa 51 Tryz.func204 ?_;exact wkl trivial
theorem Qq (s:StateD)(hs:StSm s)(i:Int):PureD Tryz.prog 203 [stateD s,intD i] (.tup [stateD (mh s i).1,intD (mh s i).2]):=by
 refine ai λR hR=>?_;have c1:=Aq s hs i 3;unfold mh at hR;by_cases h:(endCh s i 3).2.2=0
 ·rw[if_pos h]at hR;obtain⟨ok,hi,hst,hov⟩:=endCh_zero.1 h;rw[lI h]at c1;have c3:=zP s ok i 4 (chAt s i).oc hi;generalize nowCh s i 4 (chAt s i).oc=A at*;generalize chAt s i=x at*;generalize cnAt s x.cn=y at*;clear ok h hs hov;refine aa 24 Tryz.func203 ?_;exact wkl trivial
 ·rw[if_neg h]at hR;generalize endCh s i 3=W at*;clear hs;refine aa 24 Tryz.func203 ?_;exact wkl trivial
theorem StOk.ch {s:StateD}(h:StOk s){x:List ChanD}(hl:x.length<=8)(hx:∀c∈x,ChOk c):StOk {s with chs:=x} :=
 ⟨h.name,h.h,h.t,h.lcl,h.lcn,hl,h.lsent,h.lgot,h.lacks,h.lpus,h.cls,h.cns,hx,h.sent,h.got,h.acks,h.pus⟩
structure tZ (s:StateD) (pos:Int) (t:StateD):Prop where
 ok:StOk t
 same:{t with chs:=s.chs}=s
 len:s.chs.length<=t.chs.length
 keep:∀i (h:i<s.chs.length) (h':i<t.chs.length),t.chs[i].cn=s.chs[i].cn/\t.chs[i].ord=s.chs[i].ord/\s.chs[i].st<=t.chs[i].st/\(s.chs[i].st=4\/¬(i:Int)=pos->t.chs[i]=s.chs[i])
theorem yG {s:StateD}(ok:StOk s){c:ChanD}(hc:ChOk {c with snd:=1,rcv:=1,ack:=1})(h:(qZ s c).2.2=0)(pos:Int):tZ s pos (qZ s c).1/\(qZ s c).2.1=s.chs.length:=by
 unfold qZ at h⊢;have hl:=ok.lch;split at h
 ·cases h
 ·rename_i hn;rw[if_neg hn];refine⟨⟨ok.ch (by simp;omega) (λx hx=>?_),rfl,by simp,λi h h'=>?_⟩,rfl⟩
  ·rcases List.mem_append.1 hx with hx|hx
   ·exact ok.chs x hx
   ·simp only[List.mem_singleton]at hx;subst hx;exact hc
  ·simp only;rw[List.getElem_append_left h];exact⟨rfl,rfl,Int.le_refl _,λ_=>rfl⟩
theorem aeX {s:StateD}(ok:StOk s){i:Int}(h:(overCh s i).2=0):N12 0 i:=by have:=(overCh_zero.1 h).1;have:=ok.lcn;unfold N12;omega
theorem EN {s:StateD}{i:Int}{o:Bool}(h:(mI s i o).2.2=0)(pos:Int):tZ s pos (mI s i o).1/\(mI s i o).2.1=s.chs.length:=by
 unfold mI at h⊢;split at h
 ·rename_i h1;have ok:=aC.1 h1;rw[if_pos h1];split at h
  ·rename_i h2;rw[if_pos h2];exact yG ok ⟨by simp,aeX ok h2,by unfold N12;simp,by unfold N12;simp,by unfold N12;simp,by unfold N12;simp⟩ h pos
  ·exact absurd h ‹_›
 ·exact absurd h ‹_›
theorem Km {s:StateD}{i other:Int}{o:Bool}{w:bH}(h:(uf s i o other w).2.2=0)(pos:Int):tZ s pos (uf s i o other w).1/\(uf s i o other w).2.1=s.chs.length:=by
 unfold uf at h⊢;split at h
 ·rename_i h1;have ok:=aC.1 h1;rw[if_pos h1];split at h
  ·rename_i h2;rw[if_pos h2];split at h
   ·cases h
   ·rename_i h3;rw[if_neg h3];split at h
    ·rename_i h4;rw[if_pos h4];exact yG ok ⟨by simp,aeX ok h2,by unfold N12;simp only;omega,by unfold N12;simp,by unfold N12;simp,by unfold N12;simp⟩ h pos
    ·exact absurd h ‹_›
  ·exact absurd h ‹_›
 ·exact absurd h ‹_›
theorem zQ {s:StateD}(ok:StOk s){i how oc:Int}(hi:0<=i/\i<(s.chs.length:Int))(h1:(chAt s i).st<how)(h2:how<=4)(ho:N12 (-1) oc):tZ s i (nowCh s i how oc):=by
 have hm:=dD hi;have hc:=ok.chs _ hm.2;have hst:=hc.st;refine⟨ok.ch (by have:=ok.lch;simp;omega) (λx hx=>?_),rfl,by simp[nowCh],λj h h'=>?_⟩
 ·rcases List.mem_or_eq_of_mem_set hx with hx|rfl
  ·exact ok.chs x hx
  ·exact⟨⟨by simp only;omega,h2⟩,hc.cn,ho,hc.snd,hc.rcv,hc.ack⟩
 ·simp only[nowCh];by_cases e:i.toNat=j
  ·subst e;rw[List.getElem_set_self];rw[hm.1]at h1⊢;exact⟨rfl,rfl,by simp only;omega,λhk=>by rcases hk with hk|hk<;>omega⟩
  ·rw[List.getElem_set_ne e];exact⟨rfl,rfl,Int.le_refl _,λ_=>rfl⟩
theorem Lf {s:StateD}{i other:Int}{w:bH}(h:(xe s i other w).2=0):tZ s i (xe s i other w).1:=by
 unfold xe at h⊢;split at h
 ·rename_i h1;rw[if_pos h1];obtain⟨ok,hi,hst,hov⟩:=endCh_zero.1 h1;split at h
  ·cases h
  ·rename_i h3;rw[if_neg h3];split at h
   ·rename_i h4;rw[if_pos h4];exact zQ ok hi (by omega) (by omega) (by unfold N12;omega)
   ·exact absurd h ‹_›
 ·exact absurd h ‹_›
theorem wN {want say:Int}{s:StateD}{i:Int}{w:bH}(hw:want<say/\say<=4)(h:(iX want say s i w).2=0):tZ s i (iX want say s i w).1:=by
 unfold iX at h⊢;split at h
 ·rename_i h1;rw[if_pos h1];obtain⟨ok,hi,hst,hov⟩:=endCh_zero.1 h1;split at h
  ·cases h
  ·rename_i h3;rw[if_neg h3];split at h
   ·rename_i h4;rw[if_pos h4];exact zQ ok hi (by omega) hw.2 (ok.chs _ (dD hi).2).oc
   ·exact absurd h ‹_›
 ·exact absurd h ‹_›
theorem C_ {s:StateD}{i:Int}(h:(mh s i).2=0):tZ s i (mh s i).1:=by
 unfold mh at h⊢;split at h
 ·rename_i h1;rw[if_pos h1];obtain⟨ok,hi,hst,hov⟩:=endCh_zero.1 h1;exact zQ ok hi (by omega) (by omega) (ok.chs _ (dD hi).2).oc
 ·exact absurd h ‹_›
end Go.Proofs.YtdmeldhlbpdeeaaGreatDoor
