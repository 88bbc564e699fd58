/- Merged texts: ChP, ChA, ChB, ChL. -/
import Derived.Test.YtoifllbioldomaaGreatDoorGCo
set_option linter.all false
set_option maxHeartbeats 8000000
set_option maxRecDepth 20000
namespace Go.Proofs.YtoifllbioldomaaGreatDoor
open Go Go.Abs
def zeroCh:ChanD:=⟨0,false,0,0,0,0,0⟩
attribute [simp,go_sem] zeroCh
def chAt (s:StateD)(i:Int):ChanD:=s.chs.getD i.toNat zeroCh
def overCh (s:StateD)(i:Int):ConnD×Int :=
 if i<0\/(s.cns.length:Int)<=i then(zeroCn,6)
 else if(cnAt s i).st=3 then
  (if(cnAt s i).on<0 then(zeroCn,8)
  else if(s.cls.length:Int)<=(cnAt s i).cl then(zeroCn,6)
  else if gp (iL s (cnAt s i).cl) s.t=true then(cnAt s i,0)else(zeroCn,12))
 else(zeroCn,12)
def shownHE (s:StateD)(c:ConnD)(pos:Int)(en:ChanD)(w:bn):Int:=bS (iL s c.cl) s.t w.h (keyH pos) (kV en) w.p
def rC (s:StateD)(c:ChanD):StR:=if(s.chs.length:Int)=8 then(zeroSt,0,5)else({s with chs:=s.chs++[{c with snd:=1,rcv:=1,ack:=1}]},s.chs.length,0)
def mP (s:StateD)(i:Int)(o:Bool):StR :=
 if bf s=0 then(if(overCh s i).2=0 then rC s ⟨1,o,i,-1,0,0,0⟩else(zeroSt,0,(overCh s i).2))else(zeroSt,0,bf s)
def uq (s:StateD)(i:Int)(o:Bool)(other:Int)(w:bn):StR :=
 if bf s=0 then(if(overCh s i).2=0 then(if other<0\/1000000000000<other then(zeroSt,0,3)else
  if shownHE s (cnAt s i) other ⟨1,o,(cnAt s i).on,-1,0,0,0⟩ w=0 then rC s ⟨2,o,i,other,0,0,0⟩else(zeroSt,0,shownHE s (cnAt s i) other ⟨1,o,(cnAt s i).on,-1,0,0,0⟩ w))else(zeroSt,0,(overCh s i).2))else(zeroSt,0,bf s)
def endCh (s:StateD)(i want:Int):ChanD×ConnD×Int :=
 if bf s=0 then(if i<0\/(s.chs.length:Int)<=i then(zeroCh,zeroCn,6)else if(chAt s i).st=want then(chAt s i,(overCh s (chAt s i).cn).1,(overCh s (chAt s i).cn).2)else(zeroCh,zeroCn,12))else(zeroCh,zeroCn,bf s)
def nowCh (s:StateD)(i how other:Int):StateD:={s with chs:=s.chs.set i.toNat {chAt s i with st:=how,oc:=other}}
def xx (s:StateD)(i other:Int)(w:bn):StateD×Int :=
 if(endCh s i 1).2.2=0 then(if other<0\/1000000000000<other then(zeroSt,3)else
  if shownHE s (endCh s i 1).2.1 other ⟨2,(chAt s i).ord,(endCh s i 1).2.1.on,i,0,0,0⟩ w=0 then(nowCh s i 3 other,0)else(zeroSt,shownHE s (endCh s i 1).2.1 other ⟨2,(chAt s i).ord,(endCh s i 1).2.1.on,i,0,0,0⟩ w))else(zeroSt,(endCh s i 1).2.2)
def h_ (want say:Int)(s:StateD)(i:Int)(w:bn):StateD×Int :=
 if(endCh s i want).2.2=0 then(if(chAt s i).oc<0 then(zeroSt,8)else
  if shownHE s (endCh s i want).2.1 (chAt s i).oc ⟨say,(chAt s i).ord,(endCh s i want).2.1.on,i,0,0,0⟩ w=0 then(nowCh s i say (chAt s i).oc,0)else(zeroSt,shownHE s (endCh s i want).2.1 (chAt s i).oc ⟨say,(chAt s i).ord,(endCh s i want).2.1.on,i,0,0,0⟩ w))else(zeroSt,(endCh s i want).2.2)
def ku (s:StateD)(i:Int):StateD×Int:=if(endCh s i 3).2.2=0 then(nowCh s i 4 (chAt s i).oc,0)else(zeroSt,(endCh s i 3).2.2)
theorem overCh_zero {s:StateD}{i:Int}:(overCh s i).2=0↔(0<=i/\i<(s.cns.length:Int))/\(cnAt s i).st=3/\0<=(cnAt s i).on/\(cnAt s i).cl<(s.cls.length:Int)/\gp (iL s (cnAt s i).cl) s.t=true:=by
 unfold overCh;constructor
 ·intro h;split at h
  ·cases h
  ·split at h
   ·split at h
    ·cases h
    ·split at h
     ·cases h
     ·split at h
      ·exact⟨by omega,by assumption,by omega,by omega,by assumption⟩
      ·cases h
   ·cases h
 ·rintro⟨a,b,c,d,e⟩;rw[if_neg (by omega),if_pos b,if_neg (by omega),if_neg (by omega),if_pos e]
theorem rZ {s:StateD}{i:Int}(h:(overCh s i).2=0):overCh s i=(cnAt s i,0):=by obtain⟨a,b,c,d,e⟩:=overCh_zero.1 h;unfold overCh;rw[if_neg (by omega),if_pos b,if_neg (by omega),if_neg (by omega),if_pos e]
theorem endCh_zero {s:StateD}{i want:Int}:(endCh s i want).2.2=0↔StOk s/\(0<=i/\i<(s.chs.length:Int))/\(chAt s i).st=want/\(overCh s (chAt s i).cn).2=0:=by
 unfold endCh;rw[<- az];constructor
 ·intro h;split at h
  ·split at h
   ·cases h
   ·split at h
    ·exact⟨by assumption,by omega,by assumption,h⟩
    ·cases h
  ·exact absurd h ‹_›
 ·rintro⟨a,b,c,d⟩;rw[if_pos a,if_neg (by omega),if_pos c];exact d
theorem ko {s:StateD}{i want:Int}(h:(endCh s i want).2.2=0):endCh s i want=(chAt s i,cnAt s (chAt s i).cn,0):=by obtain⟨a,b,c,d⟩:=endCh_zero.1 h;unfold endCh;rw[if_pos (az.2 a),if_neg (by omega),if_pos c,rZ d]
theorem bZ {s:StateD}{i:Int}(h:0<=i/\i<(s.chs.length:Int)):chAt s i=s.chs[i.toNat]'(by omega)/\chAt s i∈s.chs:=by
 have e:chAt s i=s.chs[i.toNat]'(by omega):=by unfold chAt;rw[List.getD_eq_getElem?_getD,List.getElem?_eq_getElem (by omega)];rfl
 exact⟨e,by rw[e];exact List.getElem_mem _⟩
open Go.RowKit Go.Proofs.YtoifllbioldomaaGreatDoor.Ty
theorem uV (s:StateD)(ok:StOk s)(i:Int):PureD Tryz.prog 212 [.rp (encSt s) 0,intD i] (.tup [connD (overCh s i).1,intD (overCh s i).2]):=by
 refine af λR hR=>?_;unfold overCh at hR;have hl:=ok.lcl;have hl2:=ok.lcn;by_cases h:i<0\/(s.cns.length:Int)<=i
 ·rw[if_pos h]at hR;clear ok;refine aa 63 Tryz.func212 ?_;exact wkl trivial
 ·rw[if_neg h]at hR;have hi:i.toNat<s.cns.length:=by omega
  have s0:=ay (f:=dN) hi;have hcm:=dJ (s:=s) (i:=i) (by omega);have hcl:=(ok.cns _ hcm.2).cl;rw[hcm.1]at hR hcl;clear hcm;generalize s.cns[i.toNat]=x at*;by_cases h2:(s.cls.length:Int)<=x.cl
  ·simp only[h2,if_true]at hR;clear ok hcl;refine aa 63 Tryz.func212 ?_;exact wkl trivial
  ·simp only[h2,if_false]at hR;have hc0:0<=x.cl:=hcl.1;have hj:x.cl.toNat<s.cls.length:=by omega
   have s1:=ay (f:=gJ) hj;have hm:=fH (s:=s) (i:=x.cl) (by omega);have c1:=UZ (ok.cls _ hm.2) ok.t;rw[hm.1]at hR c1;clear ok hcl hm;generalize s.cls[x.cl.toNat]=y at*;generalize gp y s.t=A at*;refine aa 63 Tryz.func212 ?_;exact wkl trivial
theorem uZ (s:StateD)(ok:StOk s)(c:ConnD)(hc:0<=c.cl/\c.cl<(s.cls.length:Int))(pos:Int)(ha:N12 0 pos)(en:ChanD)(he:N12 (-1) en.oc)(w:bn):
  PureD Tryz.prog 214 [.rp (encSt s) 0,connD c,intD pos,chanD en,shD w] (intD (shownHE s c pos en w)):=by
 refine af λR hR=>?_;unfold shownHE at hR;have hl:=ok.lcl;have hi:c.cl.toNat<s.cls.length:=by omega
 have s0:=ay (f:=gJ) hi;have c1:=Cv pos (by unfold N12 at ha;unfold fe;omega);have c2:=PV en he;have c3:=nV (iL s c.cl) s.t w.h (keyH pos) (kV en) w.p (by have:=(ok.cls _ (fH hc).2).len;omega);rw[(fH hc).1]at hR c3;clear ok ha he;generalize s.cls[c.cl.toNat]=x at*;generalize keyH pos=K at*;generalize kV en=V at*;generalize bS x s.t w.h K V w.p=M at*;refine aa 32 Tryz.func214 ?_;exact wkl trivial
theorem QH (s:StateD)(ok:StOk s)(c:ChanD):PureD Tryz.prog 213 [stateD s,chanD c] (.tup [stateD (rC s c).1,intD (rC s c).2.1,intD (rC s c).2.2]):=by
 refine af λR hR=>?_;have e1:=mJ s ok.sm;have hl:=ok.lch;unfold rC at hR;have m1:s.chs.map bA++[bA ({c with snd:=1,rcv:=1,ack:=1})]=(s.chs++[{c with snd:=1,rcv:=1,ack:=1}]).map bA:=by simp
 have m2:s.chs.length+1=(s.chs++[{c with snd:=1,rcv:=1,ack:=1}]).length:=by simp
 have m3:((s.chs++[{c with snd:=1,rcv:=1,ack:=1}]).length:Int)-1=s.chs.length:=by simp
 simp only[bA]at m1;generalize s.chs++[{c with snd:=1,rcv:=1,ack:=1}]=L at*;by_cases h:(s.chs.length:Int)=8
 ·rw[if_pos h]at hR;clear ok e1;refine aa 29 Tryz.func213 ?_;exact wkl trivial
 ·rw[if_neg h]at hR;clear ok;refine aa 29 Tryz.func213 ?_;exact wkl trivial
theorem TP (s:StateD)(hs:StSm s)(i:Int)(o:Bool):PureD Tryz.prog 155 [stateD s,intD i,boolD o] (.tup [stateD (mP s i o).1,intD (mP s i o).2.1,intD (mP s i o).2.2]):=by
 refine af λR hR=>?_;have c1:=iJ s hs;unfold mP at hR;by_cases h:bf s=0
 ·have ok:=az.1 h;rw[h]at c1;rw[if_pos h]at hR;have c2:=uV s ok i;have c3:=QH s ok ⟨1,o,i,-1,0,0,0⟩;generalize overCh s i=E at*;generalize rC s ⟨1,o,i,-1,0,0,0⟩=A at*;clear ok h hs;refine aa 35 Tryz.func155 ?_;exact wkl trivial
 ·rw[if_neg h]at hR;generalize bf s=W at*;clear hs;refine aa 35 Tryz.func155 ?_;exact wkl trivial
theorem XZ (s:StateD)(hs:StSm s)(i:Int)(o:Bool)(other:Int)(w:bn):PureD Tryz.prog 156 [stateD s,intD i,boolD o,intD other,shD w] (.tup [stateD (uq s i o other w).1,intD (uq s i o other w).2.1,intD (uq s i o other w).2.2]):=by
 refine af λR hR=>?_;have c1:=iJ s hs;unfold uq at hR;by_cases h:bf s=0
 ·have ok:=az.1 h;rw[h]at c1;rw[if_pos h]at hR;have c2:=uV s ok i;have c3:=QH s ok ⟨2,o,i,other,0,0,0⟩;by_cases h2:(overCh s i).2=0
  ·obtain⟨hi,h4,h5,h6,h7⟩:=overCh_zero.1 h2;have hcn:=ok.cns _ (dJ hi).2;rw[if_pos h2]at hR;rw[rZ h2]at c2;by_cases h3:other<0\/1000000000000<other
   ·rw[if_pos h3]at hR;generalize cnAt s i=x at*;clear c3 ok h hs h2 hcn h7;refine aa 62 Tryz.func156 ?_;exact wkl trivial
   ·rw[if_neg h3]at hR;have c4:=uZ s ok (cnAt s i) ⟨hcn.cl.1,h6⟩ other (by unfold N12;omega) ⟨1,o,(cnAt s i).on,-1,0,0,0⟩ (by unfold N12;simp) w;generalize shownHE s (cnAt s i) other ⟨1,o,(cnAt s i).on,-1,0,0,0⟩ w=E at*;generalize rC s ⟨2,o,i,other,0,0,0⟩=A at*;generalize cnAt s i=x at*;clear ok h hs h2 hcn h7;refine aa 62 Tryz.func156 ?_;exact wkl trivial
  ·rw[if_neg h2]at hR;generalize overCh s i=E at*;clear c3 ok h hs;refine aa 62 Tryz.func156 ?_;exact wkl trivial
 ·rw[if_neg h]at hR;generalize bf s=W at*;clear hs;refine aa 62 Tryz.func156 ?_;exact wkl trivial
theorem Am (s:StateD)(hs:StSm s)(i want:Int):PureD Tryz.prog 215 [.rp (encSt s) 0,intD i,intD want] (.tup [chanD (endCh s i want).1,connD (endCh s i want).2.1,intD (endCh s i want).2.2]):=by
 refine af λR hR=>?_;have c1:=iJ s hs;unfold endCh at hR;by_cases h:bf s=0
 ·have ok:=az.1 h;have hl:=ok.lch;rw[h]at c1;rw[if_pos h]at hR;by_cases h2:i<0\/(s.chs.length:Int)<=i
  ·rw[if_pos h2]at hR;clear ok h hs;refine aa 58 Tryz.func215 ?_;exact wkl trivial
  ·rw[if_neg h2]at hR;have hi:i.toNat<s.chs.length:=by omega
   have s0:=ay (f:=bA) hi;have c2:=uV s ok (chAt s i).cn;rw[(bZ (s:=s) (i:=i) (by omega)).1]at hR c2;clear ok h hs;generalize s.chs[i.toNat]=x at*;generalize overCh s x.cn=E at*;refine aa 58 Tryz.func215 ?_;exact wkl trivial
 ·rw[if_neg h]at hR;generalize bf s=W at*;clear hs;refine aa 58 Tryz.func215 ?_;exact wkl trivial
theorem zU (s:StateD)(ok:StOk s)(i how oc:Int)(hi:0<=i/\i<(s.chs.length:Int)):PureD Tryz.prog 216 [stateD s,intD i,intD how,intD oc] (stateD (nowCh s i how oc)):=by
 refine af λR hR=>?_;have e1:=mJ s ok.sm;have hl:=ok.lch;unfold nowCh at hR;rw[(bZ hi).1]at hR;have hi':i.toNat<s.chs.length:=by omega
 have s0:=ay (f:=bA) hi';have s1:=λx=>List.getElem?_set_self (l:=s.chs.map bA) (i:=i.toNat) (a:=x) (by simpa using hi');have s2:∀x y,((s.chs.map bA).set i.toNat x).set i.toNat y=(s.chs.map bA).set i.toNat y:=λx y=>List.set_set x;have s3:(s.chs.map bA).set i.toNat (bA {s.chs[i.toNat]with st:=how,oc:=oc})=(s.chs.set i.toNat {s.chs[i.toNat]with st:=how,oc:=oc}).map bA:=List.map_set.symm;have s4:s.chs.length=(s.chs.set i.toNat {s.chs[i.toNat]with st:=how,oc:=oc}).length:=by simp
 generalize s.chs.set i.toNat {s.chs[i.toNat]with st:=how,oc:=oc}=L at*;generalize s.chs[i.toNat]=x at*;simp only[bA]at s3;clear ok;refine aa 25 Tryz.func216 ?_;exact wkl trivial
theorem aag (s:StateD)(hs:StSm s)(i other:Int)(w:bn):PureD Tryz.prog 157 [stateD s,intD i,intD other,shD w] (.tup [stateD (xx s i other w).1,intD (xx s i other w).2]):=by
 refine af λR hR=>?_;have c1:=Am s hs i 1;unfold xx at hR;by_cases h:(endCh s i 1).2.2=0
 ·rw[if_pos h]at hR;obtain⟨ok,hi,hst,hov⟩:=endCh_zero.1 h;rw[ko h]at c1 hR;simp only at hR;by_cases h3:other<0\/1000000000000<other
  ·rw[if_pos h3]at hR;generalize chAt s i=x at*;generalize cnAt s x.cn=y at*;clear ok h hs hov;refine aa 51 Tryz.func157 ?_;exact wkl trivial
  ·rw[if_neg h3]at hR;have hl:=ok.lch;obtain⟨hj,h4,h5,h6,h7⟩:=overCh_zero.1 hov;have hcn:=ok.cns _ (dJ hj).2;have c2:=uZ s ok (cnAt s (chAt s i).cn) ⟨hcn.cl.1,h6⟩ other (by unfold N12;omega) ⟨2,(chAt s i).ord,(cnAt s (chAt s i).cn).on,i,0,0,0⟩ (by unfold N12;simp only;omega) w;have c3:=zU s ok i 3 other hi;generalize shownHE s (cnAt s (chAt s i).cn) other ⟨2,(chAt s i).ord,(cnAt s (chAt s i).cn).on,i,0,0,0⟩ w=E at*;generalize nowCh s i 3 other=A at*;generalize chAt s i=x at*;generalize cnAt s x.cn=y at*;clear ok h hs hov h7 hcn;refine aa 51 Tryz.func157 ?_;exact wkl trivial
 ·rw[if_neg h]at hR;generalize endCh s i 1=W at*;clear hs;refine aa 51 Tryz.func157 ?_;exact wkl trivial
theorem Ul (s:StateD)(hs:StSm s)(i:Int)(w:bn):PureD Tryz.prog 158 [stateD s,intD i,shD w] (.tup [stateD (h_ 2 3 s i w).1,intD (h_ 2 3 s i w).2]):=by
 refine af λR hR=>?_;have c1:=Am s hs i 2;unfold h_ at hR;by_cases h:(endCh s i 2).2.2=0
 ·rw[if_pos h]at hR;obtain⟨ok,hi,hst,hov⟩:=endCh_zero.1 h;rw[ko h]at c1 hR;simp only at hR;have hch:=(ok.chs _ (bZ hi).2).oc;by_cases h3:(chAt s i).oc<0
  ·rw[if_pos h3]at hR;generalize chAt s i=x at*;generalize cnAt s x.cn=y at*;clear ok h hs hov;refine aa 51 Tryz.func158 ?_;exact wkl trivial
  ·rw[if_neg h3]at hR;have hl:=ok.lch;obtain⟨hj,h4,h5,h6,h7⟩:=overCh_zero.1 hov;have hcn:=ok.cns _ (dJ hj).2;have c2:=uZ s ok (cnAt s (chAt s i).cn) ⟨hcn.cl.1,h6⟩ (chAt s i).oc (by unfold N12 at*;omega) ⟨3,(chAt s i).ord,(cnAt s (chAt s i).cn).on,i,0,0,0⟩ (by unfold N12;simp only;omega) w;have c3:=zU s ok i 3 (chAt s i).oc hi;generalize shownHE s (cnAt s (chAt s i).cn) (chAt s i).oc ⟨3,(chAt s i).ord,(cnAt s (chAt s i).cn).on,i,0,0,0⟩ w=E at*;generalize nowCh s i 3 (chAt s i).oc=A at*;generalize chAt s i=x at*;generalize cnAt s x.cn=y at*;clear ok h hs hov h7 hcn;refine aa 51 Tryz.func158 ?_;exact wkl trivial
 ·rw[if_neg h]at hR;generalize endCh s i 2=W at*;clear hs;refine aa 51 Tryz.func158 ?_;exact wkl trivial
theorem Kw (s:StateD)(hs:StSm s)(i:Int)(w:bn):PureD Tryz.prog 160 [stateD s,intD i,shD w] (.tup [stateD (h_ 3 4 s i w).1,intD (h_ 3 4 s i w).2]):=by
 refine af λR hR=>?_;have c1:=Am s hs i 3;unfold h_ at hR;by_cases h:(endCh s i 3).2.2=0
 ·rw[if_pos h]at hR;obtain⟨ok,hi,hst,hov⟩:=endCh_zero.1 h;rw[ko h]at c1 hR;simp only at hR;have hch:=(ok.chs _ (bZ hi).2).oc;by_cases h3:(chAt s i).oc<0
  ·rw[if_pos h3]at hR;generalize chAt s i=x at*;generalize cnAt s x.cn=y at*;clear ok h hs hov;refine aa 51 Tryz.func160 ?_;exact wkl trivial
  ·rw[if_neg h3]at hR;have hl:=ok.lch;obtain⟨hj,h4,h5,h6,h7⟩:=overCh_zero.1 hov;have hcn:=ok.cns _ (dJ hj).2;have c2:=uZ s ok (cnAt s (chAt s i).cn) ⟨hcn.cl.1,h6⟩ (chAt s i).oc (by unfold N12 at*;omega) ⟨4,(chAt s i).ord,(cnAt s (chAt s i).cn).on,i,0,0,0⟩ (by unfold N12;simp only;omega) w;have c3:=zU s ok i 4 (chAt s i).oc hi;generalize shownHE s (cnAt s (chAt s i).cn) (chAt s i).oc ⟨4,(chAt s i).ord,(cnAt s (chAt s i).cn).on,i,0,0,0⟩ w=E at*;generalize nowCh s i 4 (chAt s i).oc=A at*;generalize chAt s i=x at*;generalize cnAt s x.cn=y at*;clear ok h hs hov h7 hcn;refine aa 51 Tryz.func160 ?_;exact wkl trivial
 ·rw[if_neg h]at hR;generalize endCh s i 3=W at*;clear hs;refine aa 51 Tryz.func160 ?_;exact wkl trivial
theorem PP (s:StateD)(hs:StSm s)(i:Int):PureD Tryz.prog 159 [stateD s,intD i] (.tup [stateD (ku s i).1,intD (ku s i).2]):=by
 refine af λR hR=>?_;have c1:=Am s hs i 3;unfold ku at hR;by_cases h:(endCh s i 3).2.2=0
 ·rw[if_pos h]at hR;obtain⟨ok,hi,hst,hov⟩:=endCh_zero.1 h;rw[ko h]at c1;have c3:=zU s ok i 4 (chAt s i).oc hi;generalize nowCh s i 4 (chAt s i).oc=A at*;generalize chAt s i=x at*;generalize cnAt s x.cn=y at*;clear ok h hs hov;refine aa 24 Tryz.func159 ?_;exact wkl trivial
 ·rw[if_neg h]at hR;generalize endCh s i 3=W at*;clear hs;refine aa 24 Tryz.func159 ?_;exact wkl trivial
theorem StOk.ch {s:StateD}(h:StOk s){x:List ChanD}(hl:x.length<=8)(hx:∀c∈x,ChOk c):StOk {s with chs:=x} :=
 ⟨h.name,h.h,h.t,h.lcl,h.lcn,hl,h.lsent,h.lgot,h.lacks,h.lpus,h.cls,h.cns,hx,h.sent,h.got,h.acks,h.pus⟩
structure um (s:StateD) (pos:Int) (t:StateD):Prop where
 ok:StOk t
 same:{t with chs:=s.chs}=s
 len:s.chs.length<=t.chs.length
 keep:∀i (h:i<s.chs.length) (h':i<t.chs.length),t.chs[i].cn=s.chs[i].cn/\t.chs[i].ord=s.chs[i].ord/\s.chs[i].st<=t.chs[i].st/\(s.chs[i].st=4\/¬(i:Int)=pos->t.chs[i]=s.chs[i])
theorem yM {s:StateD}(ok:StOk s){c:ChanD}(hc:ChOk {c with snd:=1,rcv:=1,ack:=1})(h:(rC s c).2.2=0)(pos:Int):um s pos (rC s c).1/\(rC s c).2.1=s.chs.length:=by
 unfold rC at h⊢;have hl:=ok.lch;split at h
 ·cases h
 ·rename_i hn;rw[if_neg hn];refine⟨⟨ok.ch (by simp;omega) (λx hx=>?_),rfl,by simp,λi h h'=>?_⟩,rfl⟩
  ·rcases List.mem_append.1 hx with hx|hx
   ·exact ok.chs x hx
   ·simp only[List.mem_singleton]at hx;subst hx;exact hc
  ·simp only;rw[List.getElem_append_left h];exact⟨rfl,rfl,Int.le_refl _,λ_=>rfl⟩
theorem aee {s:StateD}(ok:StOk s){i:Int}(h:(overCh s i).2=0):N12 0 i:=by have:=(overCh_zero.1 h).1;have:=ok.lcn;unfold N12;omega
theorem Ev {s:StateD}{i:Int}{o:Bool}(h:(mP s i o).2.2=0)(pos:Int):um s pos (mP s i o).1/\(mP s i o).2.1=s.chs.length:=by
 unfold mP at h⊢;split at h
 ·rename_i h1;have ok:=az.1 h1;rw[if_pos h1];split at h
  ·rename_i h2;rw[if_pos h2];exact yM ok ⟨by simp,aee ok h2,by unfold N12;simp,by unfold N12;simp,by unfold N12;simp,by unfold N12;simp⟩ h pos
  ·exact absurd h ‹_›
 ·exact absurd h ‹_›
theorem JP {s:StateD}{i other:Int}{o:Bool}{w:bn}(h:(uq s i o other w).2.2=0)(pos:Int):um s pos (uq s i o other w).1/\(uq s i o other w).2.1=s.chs.length:=by
 unfold uq at h⊢;split at h
 ·rename_i h1;have ok:=az.1 h1;rw[if_pos h1];split at h
  ·rename_i h2;rw[if_pos h2];split at h
   ·cases h
   ·rename_i h3;rw[if_neg h3];split at h
    ·rename_i h4;rw[if_pos h4];exact yM ok ⟨by simp,aee ok h2,by unfold N12;simp only;omega,by unfold N12;simp,by unfold N12;simp,by unfold N12;simp⟩ h pos
    ·exact absurd h ‹_›
  ·exact absurd h ‹_›
 ·exact absurd h ‹_›
theorem zV {s:StateD}(ok:StOk s){i how oc:Int}(hi:0<=i/\i<(s.chs.length:Int))(h1:(chAt s i).st<how)(h2:how<=4)(ho:N12 (-1) oc):um s i (nowCh s i how oc):=by
 have hm:=bZ hi;have hc:=ok.chs _ hm.2;have hst:=hc.st;refine⟨ok.ch (by have:=ok.lch;simp;omega) (λx hx=>?_),rfl,by simp[nowCh],λj h h'=>?_⟩
 ·rcases List.mem_or_eq_of_mem_set hx with hx|rfl
  ·exact ok.chs x hx
  ·exact⟨⟨by simp only;omega,h2⟩,hc.cn,ho,hc.snd,hc.rcv,hc.ack⟩
 ·simp only[nowCh];by_cases e:i.toNat=j
  ·subst e;rw[List.getElem_set_self];rw[hm.1]at h1⊢;exact⟨rfl,rfl,by simp only;omega,λhk=>by rcases hk with hk|hk<;>omega⟩
  ·rw[List.getElem_set_ne e];exact⟨rfl,rfl,Int.le_refl _,λ_=>rfl⟩
theorem KH {s:StateD}{i other:Int}{w:bn}(h:(xx s i other w).2=0):um s i (xx s i other w).1:=by
 unfold xx at h⊢;split at h
 ·rename_i h1;rw[if_pos h1];obtain⟨ok,hi,hst,hov⟩:=endCh_zero.1 h1;split at h
  ·cases h
  ·rename_i h3;rw[if_neg h3];split at h
   ·rename_i h4;rw[if_pos h4];exact zV ok hi (by omega) (by omega) (by unfold N12;omega)
   ·exact absurd h ‹_›
 ·exact absurd h ‹_›
theorem wU {want say:Int}{s:StateD}{i:Int}{w:bn}(hw:want<say/\say<=4)(h:(h_ want say s i w).2=0):um s i (h_ want say s i w).1:=by
 unfold h_ at h⊢;split at h
 ·rename_i h1;rw[if_pos h1];obtain⟨ok,hi,hst,hov⟩:=endCh_zero.1 h1;split at h
  ·cases h
  ·rename_i h3;rw[if_neg h3];split at h
   ·rename_i h4;rw[if_pos h4];exact zV ok hi (by omega) hw.2 (ok.chs _ (bZ hi).2).oc
   ·exact absurd h ‹_›
 ·exact absurd h ‹_›
theorem CR {s:StateD}{i:Int}(h:(ku s i).2=0):um s i (ku s i).1:=by
 unfold ku at h⊢;split at h
 ·rename_i h1;rw[if_pos h1];obtain⟨ok,hi,hst,hov⟩:=endCh_zero.1 h1;exact zV ok hi (by omega) (by omega) (ok.chs _ (bZ hi).2).oc
 ·exact absurd h ‹_›
end Go.Proofs.YtoifllbioldomaaGreatDoor
