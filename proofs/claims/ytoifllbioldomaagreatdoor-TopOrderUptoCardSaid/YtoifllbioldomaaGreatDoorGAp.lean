/- Merged texts: ApP, ApA, ApB, ApD, ApE, ApL, ApF, Law13A. -/
import Derived.Test.YtoifllbioldomaaGreatDoorGPk
import Derived.Test.YtoifllbioldomaaGreatDoorGHs
import Derived.Test.YtoifllbioldomaaGreatDoorBkR
import Derived.Test.YtoifllbioldomaaGreatDoorClM
set_option linter.all false
set_option maxHeartbeats 16000000
set_option maxRecDepth 20000
namespace Go.Proofs.YtoifllbioldomaaGreatDoor
open Go Go.Abs
structure MsgD where
 kind:Int
 chain:ByteArray
 trust:Int
 kn:aH
 cl:Int
 up:AX
 up2:AX
 other:Int
 oend:Int
 ed:Int
 ord:Bool
 sh:bn
 tr:dP
 tout:Int
 next:Int
 pk:dz
 ack:List UInt8
def encMsg (m:MsgD):List I:=[.s (.int .i64 m.kind),.s (.string m.chain),.s (.int .i64 m.trust),.s (.int .i64 m.kn.h),.s (.int .i64 m.kn.t),bI m.kn.root,bI m.kn.next,.s (.int .i64 m.cl),
 .s (.int .i64 m.up.fr),.s (.string m.up.sg.hdr.c),.s (.int .i64 m.up.sg.hdr.h),.s (.int .i64 m.up.sg.hdr.t),bI m.up.sg.hdr.root,bI m.up.sg.hdr.vals,bI m.up.sg.hdr.next,valsI m.up.sg.vals,votesI m.up.sg.votes,valsI m.up.tr,
 .s (.int .i64 m.up2.fr),.s (.string m.up2.sg.hdr.c),.s (.int .i64 m.up2.sg.hdr.h),.s (.int .i64 m.up2.sg.hdr.t),bI m.up2.sg.hdr.root,bI m.up2.sg.hdr.vals,bI m.up2.sg.hdr.next,valsI m.up2.sg.vals,votesI m.up2.sg.votes,valsI m.up2.tr,
 .s (.int .i64 m.other),.s (.int .i64 m.oend),.s (.int .i64 m.ed),.s (.bool m.ord),
 .s (.int .i64 m.sh.h),.s (.int .i64 m.sh.p.i),.s (.int .i64 m.sh.p.n),bI m.sh.p.k,bI m.sh.p.v,bbI m.sh.p.path,.s (.bool m.sh.g.hl),.s (.bool m.sh.g.hr),
 .s (.int .i64 m.sh.g.left.i),.s (.int .i64 m.sh.g.left.n),bI m.sh.g.left.k,bI m.sh.g.left.v,bbI m.sh.g.left.path,.s (.int .i64 m.sh.g.right.i),.s (.int .i64 m.sh.g.right.n),bI m.sh.g.right.k,bI m.sh.g.right.v,bbI m.sh.g.right.path,
 .s (.string m.tr.d),.s (.int .u64 m.tr.n),.s (.string m.tr.s),.s (.string m.tr.r),.s (.int .i64 m.tout),.s (.int .i64 m.next),
 .s (.int .i64 m.pk.fr),.s (.int .i64 m.pk.de),.s (.int .i64 m.pk.seq),bI m.pk.data,.s (.int .i64 m.pk.tout),bI m.ack]
def YO (m:MsgD):D:=.agg ((encMsg m).map .i)
structure tH (m:MsgD):Prop where
 kn:agi m.kn
 up:aaj m.up
 up2:aaj m.up2
 tn:m.tr.n<18446744073709551616
 td:m.tr.d.size<=1048576
 ts:m.tr.s.size<=1048576
 tr:m.tr.r.size<=1048576
 fr:fe m.pk.fr
 de:fe m.pk.de
 data:m.pk.data.length<=1048576
 ack:m.ack.length<=1048576
structure jm where
 err:Int
 num:Int
 pk:dz
def ET (d:jm):D:=.agg [.i (.s (.int .i64 d.err)),.i (.s (.int .i64 d.num)),.i (.s (.int .i64 d.pk.fr)),.i (.s (.int .i64 d.pk.de)),.i (.s (.int .i64 d.pk.seq)),.i (bI d.pk.data),.i (.s (.int .i64 d.pk.tout))]
def dE (e:Int):jm:=⟨e,0,zeroPk⟩
attribute [simp,go_sem] encMsg YO ET dE
def eY (s:ByteArray):Bool:=qj s ⟨#[35]⟩
def PQ (s:StateD)(m:MsgD):StateD×jm :=
 if m.kind=1 then
  (if(s.cls.length:Int)=4 then(s,dE 5)
  else if(Dr m.chain m.trust m.kn).2=0 then({s with cls:=s.cls++[(Dr m.chain m.trust m.kn).1]},⟨0,s.cls.length,zeroPk⟩)else(s,dE (Dr m.chain m.trust m.kn).2))
 else if m.cl<0\/(s.cls.length:Int)<=m.cl then(s,dE 6)
 else
  let r:=if m.kind=2 then fM (iL s m.cl) m.up s.t else pI (iL s m.cl) m.up m.up2 s.t
  if r.2=0 then({s with cls:=s.cls.set m.cl.toNat r.1},dE 0)else(s,dE r.2)
def endA (s:StateD)(m:MsgD):StateD×Int×Int :=
 if m.kind=4 then mO s m.cl m.other
 else if m.kind=5 then uo s m.cl m.other m.oend m.sh
 else if m.kind=6 then((ackCn s m.ed m.oend m.sh).1,0,(ackCn s m.ed m.oend m.sh).2)
 else if m.kind=7 then((confCn s m.ed m.sh).1,0,(confCn s m.ed m.sh).2)
 else if m.kind=8 then mP s m.ed m.ord
 else if m.kind=9 then uq s m.ed m.ord m.oend m.sh
 else if m.kind=10 then((xx s m.ed m.oend m.sh).1,0,(xx s m.ed m.oend m.sh).2)
 else if m.kind=11 then((h_ 2 3 s m.ed m.sh).1,0,(h_ 2 3 s m.ed m.sh).2)
 else if m.kind=12 then((ku s m.ed).1,0,(ku s m.ed).2)
 else((h_ 3 4 s m.ed m.sh).1,0,(h_ 3 4 s m.ed m.sh).2)
def Dn (s:StateD)(m:MsgD):StateD×dz×Int :=
 let q:=aX (bytesT m.tr)
 if q.2=0 then
  (if eY q.1.s=true then(s,zeroPk,7)
  else
   let r:=jR s m.ed (bytesT q.1) m.tout
   if r.2.2=0 then(let b:=gY r.1.pus m.ed q.1;if b.2=0 then({r.1 with pus:=b.1},r.2.1,0)else(s,zeroPk,(b.2:Int)))else(s,zeroPk,r.2.2))
 else(s,zeroPk,q.2)
def Xa (s:StateD)(p:dz):List UInt8×List PurseD :=
 let q:=aX p.data
 if q.2=0/\eY q.1.r=false then(let b:=nT s.pus p.de p.fr q.1;if b.2=0 then([49],b.1)else([48],s.pus))else([48],s.pus)
def Gg (s:StateD)(m:MsgD):StateD×Int :=
 let r:=kL s m.pk (Xa s m.pk).1 m.sh
 if r.2=0 then({r.1 with pus:=(Xa s m.pk).2},0)else(s,r.2)
def BC (s:StateD)(m:MsgD):StateD×Int :=
 let r:=if m.kind=16 then nX s m.pk m.ack m.sh else iT s m.pk m.next m.sh
 let back:=if m.kind=16 then decide (m.ack=[48])else true
 if r.2=0 then
  (let q:=aX m.pk.data
  if q.2=0/\back=true then(let b:=lT r.1.pus m.pk.fr q.1;if b.2=0 then({r.1 with pus:=b.1},0)else(s,(b.2:Int)))else(r.1,0))
 else(s,r.2)
def Rn (s:StateD)(t:dP):StateD×Int :=
 let q:=aX (bytesT t)
 if q.2=0 then
  (if eY q.1.s=true\/eY q.1.r=true then(s,7)
  else(let b:=moveP s.pus q.1.s q.1.r q.1.d q.1.n;if b.2=0 then({s with pus:=b.1},0)else(s,(b.2:Int))))
 else(s,q.2)
def kN (s:StateD)(m:MsgD):StateD×jm :=
 if m.kind<1\/18<m.kind then(s,dE 1)
 else if m.kind<=3 then PQ s m
 else if m.kind<=13 then((endA s m).1,⟨(endA s m).2.2,(endA s m).2.1,zeroPk⟩)
 else if m.kind=14 then((Dn s m).1,⟨(Dn s m).2.2,0,(Dn s m).2.1⟩)
 else if m.kind=15 then((Gg s m).1,dE (Gg s m).2)
 else if m.kind=18 then((Rn s m.tr).1,dE (Rn s m.tr).2)
 else((BC s m).1,dE (BC s m).2)
def doS (s:StateD)(m:MsgD):StateD×jm :=
 if bf s=0 then(if(kN s m).2.err=0 then kN s m else(s,dE (kN s m).2.err))else(zeroSt,dE (bf s))
def kZ (s:StateD)(later:Int):StateD×Int :=
 if bf s=0 then(if later<1\/1000000000000<later\/1000000000000<s.t+later\/s.h=1000000000000 then(zeroSt,3)else({s with h:=s.h+1,t:=s.t+later},0))else(zeroSt,bf s)
def Lc:AX:=⟨0,⟨⟨⟨#[]⟩,0,0,[],[],[]⟩,[],[]⟩,[]⟩
def zSh:bn:=⟨0,⟨0,0,[],[],[]⟩,⟨false,false,⟨0,0,[],[],[]⟩,⟨0,0,[],[],[]⟩⟩⟩
def zeroMsg:MsgD:=⟨0,⟨#[]⟩,0,⟨0,0,[],[]⟩,0,Lc,Lc,0,0,0,false,zSh,⟨⟨#[]⟩,0,⟨#[]⟩,⟨#[]⟩⟩,0,0,⟨0,0,0,[],0⟩,[]⟩
attribute [simp,go_sem] Lc zSh zeroMsg
theorem Fy:aaj Lc:=⟨⟨⟨by decide,by decide,by decide,by decide⟩,by decide,by simp,by simp⟩,by decide,by simp,by decide⟩
structure TOk (t:dP):Prop where
 d:1<=t.d.size/\t.d.size<=40
 s:1<=t.s.size/\t.s.size<=40
 r:1<=t.r.size/\t.r.size<=40
 n:0<t.n/\t.n<18446744073709551616
theorem words3 {a b c:ByteArray}(h:vI [a,b,c]=0):(1<=a.size/\a.size<=40)/\(1<=b.size/\b.size<=40)/\(1<=c.size/\c.size<=40):=by
 unfold vI at h;split at h
 ·rename_i q;simp only[List.all_cons,List.all_nil,Bool.and_true,Bool.and_eq_true,wordOk_iff]at q;exact q
 ·cases h
theorem oH {b:List UInt8}(h:(aX b).2=0):TOk (aX b).1:=by
 unfold aX at h⊢;by_cases he:(readF b).2=0
 ·rw[if_pos he]at h⊢;obtain⟨m,e,hm⟩:∃m e,readF b=(m,e):=⟨_,_,rfl⟩
  rw[hm]at h he⊢;simp only at he h⊢;subst he;obtain⟨_,hn⟩:=read_write hm;by_cases h4:m.length=4
  ·obtain⟨p,q,r,s,rfl⟩:=four4 m h4;have hq:=hn q (by simp);simp only[EG,CV]at h⊢;split at h
   ·rename_i hk;rw[if_pos hk];split at h
    ·rename_i hwd;rw[if_pos hwd];split at h
     ·cases h
     ·rename_i h0;rw[if_neg h0];obtain⟨w1,w2,w3⟩:=words3 hwd;exact⟨w1,w2,w3,by simp only at h0⊢;omega⟩
    ·rename_i hne;exact absurd h hne
   ·cases h
  ·rw[Iu h4]at h;cases h
 ·rw[if_neg he]at h;simp only at h;omega
def P64 (l:List PurseD):Prop:=∀p∈l,p.n<18446744073709551616
theorem bM {s:StateD}(ok:StOk s)(h:P64 s.pus):aS s.pus :=
 ⟨ok.lpus,λp hp=>(ok.pus.all p hp).o,λp hp=>(ok.pus.all p hp).d,λp hp=>⟨by have:=(ok.pus.all p hp).n;omega,h p hp⟩,ok.pus.srt⟩
open Go.RowKit Go.Proofs.YtoifllbioldomaaGreatDoor.Ty
theorem vD (s:ByteArray):PureD Tryz.prog 163 [.i (.s (.string s))] (boolD (eY s)):=by refine af λR hR=>?_;have c1:=OA s ⟨#[35]⟩;unfold eY at hR;generalize qj s ⟨#[35]⟩=B at*;refine aa 5 Tryz.func163 ?_;exact wkl trivial
theorem CS (s:StateD)(ok:StOk s)(m:MsgD)(hm:tH m):PureD Tryz.prog 92 [stateD s,.rp (encMsg m) 0] (.tup [stateD (PQ s m).1,ET (PQ s m).2]):=by
 refine af λR hR=>?_;have e1:=mJ s ok.sm;have hl:=ok.lcl;unfold PQ at hR;by_cases k1:m.kind=1
 ·rw[if_pos k1]at hR;by_cases h4:(s.cls.length:Int)=4
  ·rw[if_pos h4]at hR;clear ok e1 hm;refine aa 136 Tryz.func92 ?_;exact wkl trivial
  ·rw[if_neg h4]at hR;have c1:=Xc m.chain m.trust m.kn hm.kn;clear ok hm;by_cases h5:(Dr m.chain m.trust m.kn).2=0
   ·rw[if_pos h5]at hR;rw[h5]at c1;generalize(Dr m.chain m.trust m.kn).1=C at*;have m1:s.cls.map gJ++[gJ C]=(s.cls++[C]).map gJ:=by simp
    have m2:s.cls.length+1=(s.cls++[C]).length:=by simp
    simp only[gJ,kM]at m1;generalize s.cls++[C]=L at*;clear h5;refine aa 136 Tryz.func92 ?_;exact wkl trivial
   ·rw[if_neg h5]at hR;generalize Dr m.chain m.trust m.kn=C at*;clear e1;refine aa 136 Tryz.func92 ?_;exact wkl trivial
 ·rw[if_neg k1]at hR;by_cases h4:m.cl<0\/(s.cls.length:Int)<=m.cl
  ·rw[if_pos h4]at hR;clear ok e1 hm;refine aa 136 Tryz.func92 ?_;exact wkl trivial
  ·rw[if_neg h4]at hR;have hi:m.cl.toNat<s.cls.length:=by omega
   have hc:=(ok.cls _ (List.getElem_mem hi)).len;rw[(fH (s:=s) (i:=m.cl) (by omega)).1]at hR;have s0:=ay (f:=gJ) hi;have c1:=CX (s.cls[m.cl.toNat]'hi) m.up s.t (by omega) hm.up;have c2:=UB (s.cls[m.cl.toNat]'hi) m.up m.up2 s.t (by omega) hm.up hm.up2;have s1:=λx=>List.getElem?_set_self (l:=s.cls.map gJ) (i:=m.cl.toNat) (a:=x) (by simpa using hi);have s2:∀x y,((s.cls.map gJ).set m.cl.toNat x).set m.cl.toNat y=(s.cls.map gJ).set m.cl.toNat y:=λx y=>List.set_set x;have s3:∀C,(s.cls.map gJ).set m.cl.toNat (gJ C)=(s.cls.set m.cl.toNat C).map gJ:=λC=>List.map_set.symm;have s4:∀C,(s.cls.set m.cl.toNat C).length=s.cls.length:=λC=>by simp
   clear ok hm;generalize s.cls[m.cl.toNat]=x at*;by_cases k2:m.kind=2
   ·simp only[if_pos k2]at hR;clear c2;by_cases h5:(fM x m.up s.t).2=0
    ·rw[if_pos h5]at hR;rw[h5]at c1;generalize(fM x m.up s.t).1=C at*;have s5:=(s4 C).symm;have s3:=s3 C;simp only[gJ,kM]at s3;clear s4;generalize s.cls.set m.cl.toNat C=L at*;refine aa 136 Tryz.func92 ?_;exact wkl trivial
    ·rw[if_neg h5]at hR;generalize fM x m.up s.t=C at*;clear e1 s1 s2 s3 s4;refine aa 136 Tryz.func92 ?_;exact wkl trivial
   ·simp only[if_neg k2]at hR;clear c1;by_cases h5:(pI x m.up m.up2 s.t).2=0
    ·rw[if_pos h5]at hR;rw[h5]at c2;generalize(pI x m.up m.up2 s.t).1=C at*;have s5:=(s4 C).symm;have s3:=s3 C;simp only[gJ,kM]at s3;clear s4;generalize s.cls.set m.cl.toNat C=L at*;refine aa 136 Tryz.func92 ?_;exact wkl trivial
    ·rw[if_neg h5]at hR;generalize pI x m.up m.up2 s.t=C at*;clear e1 s1 s2 s3 s4;refine aa 136 Tryz.func92 ?_;exact wkl trivial
theorem WU (s:StateD)(hs:StSm s)(m:MsgD):PureD Tryz.prog 93 [stateD s,.rp (encMsg m) 0] (.tup [stateD (endA s m).1,intD (endA s m).2.1,intD (endA s m).2.2]):=by refine af λR hR=>?_;have c1:=TN s hs m.cl m.other;have c2:=XY s hs m.cl m.other m.oend m.sh;have c3:=aaf s hs m.ed m.oend m.sh;have c4:=Uk s hs m.ed m.sh;have c5:=TP s hs m.ed m.ord;have c6:=XZ s hs m.ed m.ord m.oend m.sh;have c7:=aag s hs m.ed m.oend m.sh;have c8:=Ul s hs m.ed m.sh;have c9:=Kw s hs m.ed m.sh;have c10:=PP s hs m.ed;unfold endA at hR;generalize mO s m.cl m.other=A1 at*;generalize uo s m.cl m.other m.oend m.sh=A2 at*;generalize ackCn s m.ed m.oend m.sh=A3 at*;generalize confCn s m.ed m.sh=A4 at*;generalize mP s m.ed m.ord=A5 at*;generalize uq s m.ed m.ord m.oend m.sh=A6 at*;generalize xx s m.ed m.oend m.sh=A7 at*;generalize h_ 2 3 s m.ed m.sh=A8 at*;generalize h_ 3 4 s m.ed m.sh=A9 at*;generalize ku s m.ed=A10 at*;clear hs;refine aa 183 Tryz.func93 ?_;exact wkl trivial
theorem sW (t:dP):(bytesT t).length<=1048576:=by have:=ol (pcsT t);unfold bytesT;omega
theorem Jq (s:StateD)(hs:StSm s)(h64:P64 s.pus)(m:MsgD)(hm:tH m):PureD Tryz.prog 94 [stateD s,.rp (encMsg m) 0] (.tup [stateD (Dn s m).1,xE (Dn s m).2.1,intD (Dn s m).2.2]):=by
 refine af λR hR=>?_;have c1:=Fh m.tr hm.tn hm.td hm.ts hm.tr;have c2:=zN (bytesT m.tr) (sW _);unfold Dn at hR;by_cases h1:(aX (bytesT m.tr)).2=0
 ·have ht:=oH h1;simp only[if_pos h1]at hR;rw[h1]at c2;generalize bytesT m.tr=B at*;generalize(aX B).1=t at*;have c3:=vD t.s;cases hsf:eY t.s
  ·rw[hsf]at c3 hR;simp only[Bool.false_eq_true,if_false]at hR;have d1:=ht.d;have d2:=ht.s;have d3:=ht.r;have c4:=Fh t ht.n.2 (by omega) (by omega) (by omega);have c5:=Su s hs m.ed (bytesT t) (sW _) m.tout;by_cases h2:(jR s m.ed (bytesT t) m.tout).2.2=0
   ·rw[if_pos h2]at hR;rw[h2]at c5;have hr:=vR.1 h2;obtain⟨ok,hi,_⟩:=endPk_ok hr.en;have hp:(jR s m.ed (bytesT t) m.tout).1.pus=s.pus:=by rw[mf hr];rfl
    have hl:=ok.lch;have c6:=YZ s.pus (bM ok h64) m.ed (by unfold fe;omega) t ht.n.2;rw[<- hp]at c6;clear hp hr ok h2 d1 d2 d3 ht h1 hs h64 hm;generalize bytesT t=B2 at*;generalize jR s m.ed B2 m.tout=A at*;generalize gY A.1.pus m.ed t=L at*;refine aa 72 Tryz.func94 ?_;exact wkl trivial
   ·rw[if_neg h2]at hR;clear d1 d2 d3 ht h1 hs h64 hm;generalize bytesT t=B2 at*;generalize jR s m.ed B2 m.tout=A at*;refine aa 72 Tryz.func94 ?_;exact wkl trivial
  ·rw[hsf]at c3 hR;simp only[if_true]at hR;clear ht h1 hs h64 hm;refine aa 72 Tryz.func94 ?_;exact wkl trivial
 ·simp only[if_neg h1]at hR;clear hs h64 hm;generalize bytesT m.tr=B at*;generalize aX B=Q at*;refine aa 72 Tryz.func94 ?_;exact wkl trivial
theorem Js (s:StateD)(ok:StOk s)(h64:P64 s.pus)(t0:dP)(h0:t0.n<18446744073709551616)(h01:t0.d.size<=1048576)(h02:t0.s.size<=1048576)(h03:t0.r.size<=1048576):
  PureD Tryz.prog 96 [stateD s,trD t0] (.tup [stateD (Rn s t0).1,intD (Rn s t0).2]):=by
 refine af λR hR=>?_;have c1:=Fh t0 h0 h01 h02 h03;have c2:=zN (bytesT t0) (sW _);unfold Rn at hR;by_cases h1:(aX (bytesT t0)).2=0
 ·have ht:=oH h1;simp only[if_pos h1]at hR;rw[h1]at c2;generalize bytesT t0=B at*;generalize(aX B).1=t at*;have c3:=vD t.s;have c4:=vD t.r;have c5:=Hd s.pus (bM ok h64) t.s t.r t.d t.n ht.n.2;have e1:=mJ s ok.sm;simp only[sD,wD,oF]at c5;clear ht h1 ok h64;generalize moveP s.pus t.s t.r t.d t.n=L at*;generalize eY t.s=p1 at*;generalize eY t.r=p2 at*;cases p1;all_goals
   cases p2;all_goals
    simp only[Bool.false_eq_true,if_false,if_true,true_or,or_true,or_false,or_self]at hR;refine aa 49 Tryz.func96 ?_;exact wkl trivial
 ·simp only[if_neg h1]at hR;clear ok h64;generalize bytesT t0=B at*;generalize aX B=Q at*;refine aa 49 Tryz.func96 ?_;exact wkl trivial
theorem Jr (s:StateD)(ok:StOk s)(h64:P64 s.pus)(m:MsgD)(hm:tH m):PureD Tryz.prog 95 [stateD s,.rp (encMsg m) 0] (.tup [stateD (Gg s m).1,intD (Gg s m).2]):=by
 refine af λR hR=>?_;have c1:=zN m.pk.data hm.data;have c4:=Gd s ok.sm m.pk hm.data [49] (by simp) m.sh;have c5:=Gd s ok.sm m.pk hm.data [48] (by simp) m.sh;unfold Gg Xa at hR;by_cases h1:(aX m.pk.data).2=0
 ·have ht:=oH h1;have d1:=ht.d;have c2:=vD (aX m.pk.data).1.r;have c3:=aeb s.pus (bM ok h64) m.pk.de m.pk.fr hm.de hm.fr (aX m.pk.data).1 ht.n.2 (by omega);simp only[h1,true_and]at hR;rw[h1]at c1;clear ht d1 h1 hm h64;generalize(aX m.pk.data).1=t at*;generalize nT s.pus m.pk.de m.pk.fr t=L at*;generalize eY t.r=p1 at*;cases p1
  ·simp only[if_true]at hR;by_cases h2:L.2=0
   ·simp only[if_pos h2]at hR;rw[h2]at c3;generalize kL s m.pk [49] m.sh=X at*;clear c5;refine aa 75 Tryz.func95 ?_;exact wkl trivial
   ·simp only[if_neg h2]at hR;generalize kL s m.pk [48] m.sh=X at*;clear c4;refine aa 75 Tryz.func95 ?_;exact wkl trivial
  ·simp only[Bool.true_eq_false,if_false]at hR;generalize kL s m.pk [48] m.sh=X at*;clear c4 c3;refine aa 75 Tryz.func95 ?_;exact wkl trivial
 ·simp only[h1,false_and,if_false]at hR;generalize aX m.pk.data=Q at*;generalize kL s m.pk [48] m.sh=X at*;clear c4 hm h64;refine aa 75 Tryz.func95 ?_;exact wkl trivial
theorem yK (s:StateD)(ok:StOk s)(h64:P64 s.pus)(m:MsgD)(hm:tH m):PureD Tryz.prog 97 [stateD s,.rp (encMsg m) 0] (.tup [stateD (BC s m).1,intD (BC s m).2]):=by
 refine af λR hR=>?_;have c1:=zN m.pk.data hm.data;unfold BC at hR;by_cases k1:m.kind=16
 ·simp only[if_pos k1]at hR;have c2:=iF m.ack [48];have c3:=aae s ok.sm m.pk hm.data m.ack hm.ack m.sh;by_cases h2:(nX s m.pk m.ack m.sh).2=0
  ·obtain⟨hp,c,_,_,_,_,he⟩:=ackPk_zero h2;have hpu:(nX s m.pk m.ack m.sh).1.pus=s.pus:=by rw[he];rfl
   have hfr:=hp.pk.fr;simp only[if_pos h2]at hR;rw[h2]at c3;by_cases h1:(aX m.pk.data).2=0
   ·have ht:=oH h1;have c4:=Xy s.pus (bM ok h64) m.pk.fr (by unfold N12 at hfr;unfold fe;omega) (aX m.pk.data).1 ht.n.2;rw[<- hpu]at c4;simp only[h1,true_and]at hR;rw[h1]at c1;clear ht h1 hm h64 hp he hpu hfr h2 ok;generalize(aX m.pk.data).1=t at*;generalize nX s m.pk m.ack m.sh=X at*;generalize lT X.1.pus m.pk.fr t=L at*;by_cases hq:m.ack=[48]
    ·simp only[decide_eq_true hq,if_true]at hR c2;refine aa 95 Tryz.func97 ?_;exact wkl trivial
    ·simp only[decide_eq_false hq,Bool.false_eq_true,if_false]at hR c2;refine aa 95 Tryz.func97 ?_;exact wkl trivial
   ·simp only[h1,false_and,if_false]at hR;clear hm h64 hp he hpu hfr h2 ok;generalize aX m.pk.data=Q at*;generalize nX s m.pk m.ack m.sh=X at*;generalize decide (m.ack=[48])=E at*;refine aa 95 Tryz.func97 ?_;exact wkl trivial
  ·simp only[if_neg h2]at hR;clear hm h64 ok;generalize nX s m.pk m.ack m.sh=X at*;generalize decide (m.ack=[48])=E at*;generalize aX m.pk.data=Q at*;refine aa 95 Tryz.func97 ?_;exact wkl trivial
 ·simp only[if_neg k1]at hR;have c3:=Tx s ok.sm m.pk hm.data m.next m.sh
  by_cases h2:(iT s m.pk m.next m.sh).2=0
  ·obtain⟨hp,c,_,_,_,_,he⟩:=latePk_zero h2;have hpu:(iT s m.pk m.next m.sh).1.pus=s.pus:=by rw[he];rfl
   have hfr:=hp.pk.fr;simp only[if_pos h2]at hR;rw[h2]at c3;by_cases h1:(aX m.pk.data).2=0
   ·have ht:=oH h1;have c4:=Xy s.pus (bM ok h64) m.pk.fr (by unfold N12 at hfr;unfold fe;omega) (aX m.pk.data).1 ht.n.2;rw[<- hpu]at c4;simp only[h1,true_and,if_true]at hR;rw[h1]at c1;clear ht h1 hm h64 hp he hpu hfr h2 ok;generalize(aX m.pk.data).1=t at*;generalize iT s m.pk m.next m.sh=X at*
    generalize lT X.1.pus m.pk.fr t=L at*;refine aa 95 Tryz.func97 ?_;exact wkl trivial
   ·simp only[h1,false_and,if_false]at hR;clear hm h64 hp he hpu hfr h2 ok;generalize aX m.pk.data=Q at*;generalize iT s m.pk m.next m.sh=X at*
    refine aa 95 Tryz.func97 ?_;exact wkl trivial
  ·simp only[if_neg h2]at hR;clear hm h64 ok;generalize iT s m.pk m.next m.sh=X at*
   generalize aX m.pk.data=Q at*;refine aa 95 Tryz.func97 ?_;exact wkl trivial
theorem StOk.cl {s:StateD}(h:StOk s){x:List ax}(hl:x.length<=4)(hx:∀c∈x,AZ c):StOk {s with cls:=x} :=
 ⟨h.name,h.h,h.t,hl,h.lcn,h.lch,h.lsent,h.lgot,h.lacks,h.lpus,hx,h.cns,h.chs,h.sent,h.got,h.acks,h.pus⟩
theorem StOk.pu {s:StateD}(h:StOk s){x:List PurseD}(hx:aS x):StOk {s with pus:=x} :=
 ⟨h.name,h.h,h.t,h.lcl,h.lcn,h.lch,h.lsent,h.lgot,h.lacks,hx.len,h.cls,h.cns,h.chs,h.sent,h.got,h.acks,⟨λp hp=>⟨hx.wo p hp,hx.wd p hp,by have:=(hx.pos p hp).1;omega⟩,hx.srt⟩⟩
theorem aS.p64 {l:List PurseD}(h:aS l):P64 l:=λp hp=>(h.pos p hp).2
def Fs (s:StateD)(kind:Int)(l:List PurseD):Prop:=∀d,lV l d=lV s.pus d\/((14<=kind/\kind<=17)/\∃i:Nat,i<s.chs.length/\qj d (jC i)=true)
structure ApStep (s:StateD) (m:MsgD) (t:StateD):Prop where
 ok:StOk t
 p64:P64 t.pus
 nm:t.name=s.name
 hh:t.h=s.h
 tt:t.t=s.t
 place:if m.kind<=3 then{t with cls:=s.cls}=s else if m.kind<=7 then{t with cns:=s.cns}=s else if m.kind<=13 then{t with chs:=s.chs}=s else if m.kind=18 then{t with pus:=s.pus}=s
  else{t with chs:=s.chs,sent:=s.sent,got:=s.got,acks:=s.acks,pus:=s.pus}=s
 sup:Fs s m.kind t.pus
theorem ou (s:StateD)(k:Int):Fs s k s.pus:=λ_=>.inl rfl
theorem YJ {c:ByteArray}{t:Int}{k:aH}(h:(Dr c t k).2=0):AZ (Dr c t k).1:=by
 unfold Dr at h⊢;split at h
 ·rename_i q;rw[if_pos q];exact dA.1 q
 ·exact absurd h ‹_›
theorem OT {c:ax}{u:AX}{now:Int}(h:(fM c u now).2=0):AZ (fM c u now).1:=by obtain⟨a,b,e⟩:=follow_zero h;rw[e];exact abJ (asked_zero.1 a).1 (be_hdr b).1
theorem UC {c:ax}{a b:AX}{now:Int}(h:(pI c a b now).2=0):AZ (pI c a b now).1:=by
 unfold pI at h⊢;split at h
 ·rename_i h1;rw[if_pos h1];split at h
  ·rename_i h2;rw[if_pos h2];split at h
   ·rename_i h3;rw[if_pos h3];split at h
    ·rename_i h4;rw[if_pos h4];have hc:=(asked_zero.1 h1).1;exact⟨hc.name,hc.trust,hc.len,hc.k,hc.rise⟩
    ·cases h
   ·rename_i h3;exact absurd h h3
  ·rename_i h2;exact absurd h h2
 ·rename_i h1;exact absurd h h1
theorem Ux {s:StateD}{m:MsgD}(ok:StOk s)(h64:P64 s.pus)(hk:m.kind<=3)(h:(PQ s m).2.err=0):ApStep s m (PQ s m).1:=by
 have fin:∀x:List ax,x.length<=4->(∀c∈x,AZ c)->ApStep s m {s with cls:=x}:=λx hl hx =>⟨ok.cl hl hx,h64,rfl,rfl,rfl,by rw[if_pos hk],ou s _⟩
 have hl:=ok.lcl;have hset:∀C,AZ C->∀c∈s.cls.set m.cl.toNat C,AZ c:=λC hC c hc=>by
  rcases List.mem_or_eq_of_mem_set hc with hc|rfl
  ·exact ok.cls c hc
  ·exact hC
 unfold PQ at h⊢;split at h
 ·rename_i k1;rw[if_pos k1];split at h
  ·cases h
  ·rename_i h4;rw[if_neg h4];split at h
   ·rename_i h5;rw[if_pos h5];refine fin _ (by simp;omega) λc hc=>?_;rcases List.mem_append.1 hc with hc|hc
    ·exact ok.cls c hc
    ·rw[List.mem_singleton.1 hc];exact YJ h5
   ·exact absurd h ‹_›
 ·rename_i k1;rw[if_neg k1];split at h
  ·cases h
  ·rename_i h4;rw[if_neg h4];by_cases k2:m.kind=2
   ·simp only[if_pos k2]at h⊢;split at h
    ·rename_i h5;rw[if_pos h5];exact fin _ (by simp;omega) (hset _ (OT h5))
    ·exact absurd h ‹_›
   ·simp only[if_neg k2]at h⊢;split at h
    ·rename_i h5;rw[if_pos h5];exact fin _ (by simp;omega) (hset _ (UC h5))
    ·exact absurd h ‹_›
theorem same_cn {s t:StateD}(h:{t with cns:=s.cns}=s):t.pus=s.pus/\t.name=s.name/\t.h=s.h/\t.t=s.t:=by rw[<- h];exact⟨rfl,rfl,rfl,rfl⟩
theorem same_ch {s t:StateD}(h:{t with chs:=s.chs}=s):t.pus=s.pus/\t.name=s.name/\t.h=s.h/\t.t=s.t:=by rw[<- h];exact⟨rfl,rfl,rfl,rfl⟩
theorem same_pk {s t:StateD}(h:{t with chs:=s.chs,sent:=s.sent,got:=s.got,acks:=s.acks}=s):t.pus=s.pus/\t.name=s.name/\t.h=s.h/\t.t=s.t:=by rw[<- h];exact⟨rfl,rfl,rfl,rfl⟩
theorem Uo {s t:StateD}{m:MsgD}{p:Int}(h64:P64 s.pus)(h1:¬m.kind<=3)(h2:m.kind<=7)(h:CnStep s p t):ApStep s m t:=by obtain⟨a,b,c,d⟩:=same_cn h.same;exact⟨h.ok,by rw[a];exact h64,b,c,d,by rw[if_neg h1,if_pos h2];exact h.same,by rw[a];exact ou s _⟩
theorem Kz {s t:StateD}{m:MsgD}{p:Int}(h64:P64 s.pus)(h1:¬m.kind<=7)(h2:m.kind<=13)(h:um s p t):ApStep s m t:=by obtain⟨a,b,c,d⟩:=same_ch h.same;exact⟨h.ok,by rw[a];exact h64,b,c,d,by rw[if_neg (by omega),if_neg h1,if_pos h2];exact h.same,by rw[a];exact ou s _⟩
theorem SQ {s t:StateD}{m:MsgD}{p:Int}(h1:14<=m.kind/\m.kind<=17)(h:JB s p t){l:List PurseD}(hl:aS l)(hs:Fs s m.kind l):ApStep s m {t with pus:=l}:=by obtain⟨a,b,c,d⟩:=same_pk h.same;refine⟨h.ok.pu hl,hl.p64,b,c,d,?_,hs⟩;rw[if_neg (by omega),if_neg (by omega),if_neg (by omega),if_neg (by omega)];have e:=h.same;simp only;rw[<- a];exact e
theorem Uc {s:StateD}{m:MsgD}(h64:P64 s.pus)(h1:¬m.kind<=3)(h2:m.kind<=13)(h:(endA s m).2.2=0):ApStep s m (endA s m).1:=by
 unfold endA at h⊢;split at h
 ·rename_i k;rw[if_pos k];exact Uo h64 h1 (by omega) (Eu h 0).1
 ·rename_i k;rw[if_neg k];split at h
  ·rename_i k;rw[if_pos k];exact Uo h64 h1 (by omega) (JO h 0).1
  ·rename_i k;rw[if_neg k];split at h
   ·rename_i k;rw[if_pos k];exact Uo h64 h1 (by omega) (KF h).1
   ·rename_i k;rw[if_neg k];split at h
    ·rename_i k;rw[if_pos k];exact Uo h64 h1 (by omega) (E_ h).1
    ·rename_i k;rw[if_neg k];split at h
     ·rename_i k;rw[if_pos k];exact Kz h64 (by omega) h2 (Ev h 0).1
     ·rename_i k;rw[if_neg k];split at h
      ·rename_i k;rw[if_pos k];exact Kz h64 (by omega) h2 (JP h 0).1
      ·rename_i k;rw[if_neg k];split at h
       ·rename_i k;rw[if_pos k];exact Kz h64 (by omega) h2 (KH h)
       ·rename_i k;rw[if_neg k];split at h
        ·rename_i k;rw[if_pos k];exact Kz h64 (by omega) h2 (wU (by omega) h)
        ·rename_i k;rw[if_neg k];split at h
         ·rename_i k;rw[if_pos k];exact Kz h64 (by omega) h2 (CR h)
         ·rename_i k;rw[if_neg k];exact Kz h64 (by omega) h2 (wU (by omega) h)
theorem Zq {s:StateD}{i:Int}(hi:0<=i/\i<(s.chs.length:Int)){d:ByteArray}(h:qj d (jC i)=true):∃j:Nat,j<s.chs.length/\qj d (jC j)=true :=
 ⟨i.toNat,by omega,by rw[show((i.toNat:Nat):Int)=i by omega];exact h⟩
theorem NV {s:StateD}(h:aS s.pus){k:Int}(hk:14<=k/\k<=17){ch:Int}(hi:0<=ch/\ch<(s.chs.length:Int)){t:dP}(he:(gY s.pus ch t).2=0):Fs s k (gY s.pus ch t).1:=by
 intro d;unfold gY at he⊢;split at he
 ·rename_i hp;rw[if_pos hp];have:=(burn_ok h he).2.2 d;by_cases hd:t.d=d
  ·subst hd;exact .inr ⟨hk,Zq hi hp⟩
  ·rw[if_neg hd]at this;exact .inl (by omega)
 ·rename_i hp;rw[if_neg hp];exact .inl ((lg h he).2.2 d)
theorem UO {s:StateD}(h:aS s.pus){k:Int}(hk:14<=k/\k<=17){ch:Int}(hi:0<=ch/\ch<(s.chs.length:Int)){t:dP}(he:(lT s.pus ch t).2=0):Fs s k (lT s.pus ch t).1:=by
 intro d;unfold lT at he⊢;split at he
 ·rename_i hp;rw[if_pos hp];have:=(mint_ok h he).2.1 d;by_cases hd:t.d=d
  ·subst hd;exact .inr ⟨hk,Zq hi hp⟩
  ·rw[if_neg hd]at this;exact .inl (by omega)
 ·rename_i hp;rw[if_neg hp];exact .inl ((lg h he).2.2 d)
theorem Un {s:StateD}(h:aS s.pus){k:Int}(hk:14<=k/\k<=17){ch other:Int}(hi:0<=ch/\ch<(s.chs.length:Int)){t:dP}(he:(nT s.pus ch other t).2=0):Fs s k (nT s.pus ch other t).1:=by
 intro d;unfold nT at he⊢;split at he
 ·rename_i hp;rw[if_pos hp];exact .inl ((lg h he).2.2 d)
 ·rename_i hp;rw[if_neg hp];have:=(mint_ok h he).2.1 d;by_cases hd:jC ch++t.d=d
  ·subst hd;exact .inr ⟨hk,Zq hi (Ig _ _)⟩
  ·rw[if_neg hd]at this;exact .inl (by omega)
theorem Si {s:StateD}{m:MsgD}(h64:P64 s.pus)(hk:m.kind=14)(h:(Dn s m).2.2=0):ApStep s m (Dn s m).1:=by
 unfold Dn at h⊢;simp only at h⊢;split at h
 ·rename_i h1;rw[if_pos h1];split at h
  ·cases h
  ·rename_i h2;rw[if_neg h2];split at h
   ·rename_i h3;rw[if_pos h3];have hr:=vR.1 h3;have hst:=Mi hr;obtain⟨ok,hi,_⟩:=endPk_ok hr.en;rw[mf hr]at h⊢;by_cases h4:(gY s.pus m.ed (aX (bytesT m.tr)).1).2=0
    ·have e:∀q,(vQ s m.ed q).pus=s.pus:=λ_=>rfl;simp only[e]at h⊢;rw[if_pos h4];have hk2:14<=m.kind/\m.kind<=17:=by omega
     exact SQ hk2 hst (Es (bM ok h64) ..) (NV (bM ok h64) hk2 hi h4)
    ·have e:∀q,(vQ s m.ed q).pus=s.pus:=λ_=>rfl;simp only[e]at h;rw[if_neg h4]at h;simp only at h;omega
   ·exact absurd h ‹_›
 ·exact absurd h ‹_›
theorem SE {s:StateD}{m:MsgD}(ok:StOk s)(h64:P64 s.pus)(hk:m.kind=15)(h:(Gg s m).2=0):ApStep s m (Gg s m).1:=by
 unfold Gg at h⊢;simp only at h⊢;split at h
 ·rename_i h3;rw[if_pos h3];have hr:=Ea.1 h3;have hst:=MB hr;obtain⟨_,hi,_⟩:=endPk_ok hr.en;have hk2:14<=m.kind/\m.kind<=17:=by omega
  have hs:aS (Xa s m.pk).2/\Fs s m.kind (Xa s m.pk).2:=by
   unfold Xa;simp only;split
   ·split
    ·rename_i he;exact⟨Ku (bM ok h64) ..,Un (bM ok h64) hk2 hi he⟩
    ·exact⟨bM ok h64,ou s _⟩
   ·exact⟨bM ok h64,ou s _⟩
  rw[vV hr];exact SQ hk2 hst hs.1 hs.2
 ·exact absurd h ‹_›
theorem BA {s:StateD}{m:MsgD}(h64:P64 s.pus)(hk:16<=m.kind/\m.kind<=17){c:ChanD}(hp:xA s m.pk)(hc:ChOk c)(back:Bool)
  (h:(if(aX m.pk.data).2=0/\back=true then(if(lT (dropS s m.pk c).pus m.pk.fr (aX m.pk.data).1).2=0 then(({dropS s m.pk c with pus:=(lT (dropS s m.pk c).pus m.pk.fr (aX m.pk.data).1).1},0):StateD×Int)else(s,((lT (dropS s m.pk c).pus m.pk.fr (aX m.pk.data).1).2:Int)))else(dropS s m.pk c,0)).2=0):
  ApStep s m (if(aX m.pk.data).2=0/\back=true then(if(lT (dropS s m.pk c).pus m.pk.fr (aX m.pk.data).1).2=0 then(({dropS s m.pk c with pus:=(lT (dropS s m.pk c).pus m.pk.fr (aX m.pk.data).1).1},0):StateD×Int)else(s,((lT (dropS s m.pk c).pus m.pk.fr (aX m.pk.data).1).2:Int)))else(dropS s m.pk c,0)).1:=by
 have hst:=Pg hp hc;obtain⟨ok,hi,_⟩:=endPk_ok hp.en;have hk2:14<=m.kind/\m.kind<=17:=by omega
 split at h
 ·rename_i h1;rw[if_pos h1];split at h
  ·rename_i h2;rw[if_pos h2];exact SQ hk2 hst (KE (bM ok h64) ..) (UO (bM ok h64) hk2 hi h2)
  ·rename_i h2;simp only at h;omega
 ·rename_i h1;rw[if_neg h1];have:=SQ hk2 hst (bM ok h64) (ou s _);exact this
theorem Sn {s:StateD}{m:MsgD}(h64:P64 s.pus)(hk:16<=m.kind/\m.kind<=17)(h:(BC s m).2=0):ApStep s m (BC s m).1:=by
 unfold BC at h⊢;by_cases k1:m.kind=16
 ·simp only[if_pos k1]at h⊢;by_cases h2:(nX s m.pk m.ack m.sh).2=0
  ·obtain⟨hp,c,hc,_,_,_,he⟩:=ackPk_zero h2;rw[if_pos h2]at h⊢;rw[he]at h⊢;exact BA h64 hk hp hc _ h
  ·rw[if_neg h2]at h;exact absurd h h2
 ·simp only[if_neg k1]at h⊢;by_cases h2:(iT s m.pk m.next m.sh).2=0
  ·obtain⟨hp,c,hc,_,_,_,he⟩:=latePk_zero h2;rw[if_pos h2]at h⊢;rw[he]at h⊢;have h2:=BA h64 hk hp hc true (by simpa only[and_true]using h);simpa only[and_true]using h2
  ·rw[if_neg h2]at h;exact absurd h h2
theorem TV {s:StateD}{m:MsgD}(ok:StOk s)(h64:P64 s.pus)(hk:m.kind=18)(h:(Rn s m.tr).2=0):ApStep s m (Rn s m.tr).1:=by
 unfold Rn at h⊢;generalize aX (bytesT m.tr)=q at*;simp only at h⊢;by_cases h1:q.2=0
 ·rw[if_pos h1]at h⊢;by_cases h2:eY q.1.s=true\/eY q.1.r=true
  ·rw[if_pos h2]at h;cases h
  ·rw[if_neg h2]at h⊢;by_cases h3:(moveP s.pus q.1.s q.1.r q.1.d q.1.n).2=0
   ·rw[if_pos h3];have hr:=gF (bM ok h64) q.1.s q.1.r q.1.d q.1.n;have hm:=(lg (bM ok h64) h3).2.2;refine⟨ok.pu hr,hr.p64,rfl,rfl,rfl,?_,λd=>.inl (hm d)⟩;rw[if_neg (by omega),if_neg (by omega),if_neg (by omega),if_pos hk]
   ·rw[if_neg h3]at h;simp only at h;omega
 ·rw[if_neg h1]at h;exact absurd h h1
theorem CL {s:StateD}{m:MsgD}(ok:StOk s)(h64:P64 s.pus)(h:(kN s m).2.err=0):ApStep s m (kN s m).1:=by
 unfold kN at h⊢;split at h
 ·cases h
 ·rename_i k0;rw[if_neg k0];split at h
  ·rename_i k;rw[if_pos k];exact Ux ok h64 k h
  ·rename_i k3;rw[if_neg k3];split at h
   ·rename_i k;rw[if_pos k];exact Uc h64 k3 k h
   ·rename_i k4;rw[if_neg k4];split at h
    ·rename_i k;rw[if_pos k];exact Si h64 k h
    ·rename_i k5;rw[if_neg k5];split at h
     ·rename_i k;rw[if_pos k];exact SE ok h64 k h
     ·rename_i k6;rw[if_neg k6];split at h
      ·rename_i k;rw[if_pos k];exact TV ok h64 k h
      ·rename_i k7;rw[if_neg k7];exact Sn h64 (by omega) h
theorem doS_done {s:StateD}{m:MsgD}(h:(doS s m).2.err=0):StOk s/\(kN s m).2.err=0/\doS s m=kN s m:=by
 unfold doS at h⊢;split at h
 ·rename_i k;rw[if_pos k];split at h
  ·rename_i k2;rw[if_pos k2];exact⟨az.1 k,k2,rfl⟩
  ·rename_i k2;exact absurd h k2
 ·exact absurd h ‹_›
theorem IC {s:StateD}{m:MsgD}(h64:P64 s.pus)(h:(doS s m).2.err=0):ApStep s m (doS s m).1:=by obtain⟨ok,h0,e⟩:=doS_done h;rw[e];exact CL ok h64 h0
theorem aes (s:StateD)(hs:StSm s)(h64:P64 s.pus)(m:MsgD)(hm:tH m):PureD Tryz.prog 48 [stateD s,YO m] (.tup [stateD (doS s m).1,ET (doS s m).2]):=by
 refine af λR hR=>?_;have c1:=iJ s hs;unfold doS at hR;by_cases h:bf s=0
 ·have ok:=az.1 h;rw[h]at c1;rw[if_pos h]at hR;have c2:=LZ s hs;have c3:(kN s m).2.err=0->PureD Tryz.prog 47 [stateD (kN s m).1] (stateD (kN s m).1):=λe=>LZ _ (CL ok h64 e).ok.sm;by_cases e:(kN s m).2.err=0
  ·rw[if_pos e]at hR;have c3:=c3 e;unfold kN at hR e c3;by_cases k0:m.kind<1\/18<m.kind
   ·rw[if_pos k0]at hR e c3;try simp only[dE]at hR e c3
    exact absurd e (by decide)
   ·rw[if_neg k0]at hR e c3;by_cases k1:m.kind<=3
    ·rw[if_pos k1]at hR e c3;have c4:=CS s ok m hm;generalize PQ s m=X at*;try simp only[dE]at hR e c3
     clear hs ok hm h h64;refine aa 99 Tryz.func48 ?_;exact wkl trivial
    ·rw[if_neg k1]at hR e c3;by_cases k2:m.kind<=13
     ·rw[if_pos k2]at hR e c3;have c4:=WU s hs m;generalize endA s m=X at*;try simp only[dE]at hR e c3
      clear hs ok hm h h64;refine aa 99 Tryz.func48 ?_;exact wkl trivial
     ·rw[if_neg k2]at hR e c3;by_cases k3:m.kind=14
      ·rw[if_pos k3]at hR e c3;have c4:=Jq s hs h64 m hm;generalize Dn s m=X at*;try simp only[dE]at hR e c3
       clear hs ok hm h h64;refine aa 99 Tryz.func48 ?_;exact wkl trivial
      ·rw[if_neg k3]at hR e c3;by_cases k4:m.kind=15
       ·rw[if_pos k4]at hR e c3;have c4:=Jr s ok h64 m hm;generalize Gg s m=X at*;try simp only[dE]at hR e c3
        clear hs ok hm h h64;refine aa 99 Tryz.func48 ?_;exact wkl trivial
       ·rw[if_neg k4]at hR e c3;by_cases k5:m.kind=18
        ·rw[if_pos k5]at hR e c3;have c4:=Js s ok h64 m.tr hm.tn hm.td hm.ts hm.tr;generalize Rn s m.tr=X at*;try simp only[dE]at hR e c3
         clear hs ok hm h h64;refine aa 99 Tryz.func48 ?_;exact wkl trivial
        ·rw[if_neg k5]at hR e c3;have c4:=yK s ok h64 m hm;generalize BC s m=X at*;try simp only[dE]at hR e c3
         clear hs ok hm h h64;refine aa 99 Tryz.func48 ?_;exact wkl trivial
  ·rw[if_neg e]at hR;clear c3;unfold kN at hR e;by_cases k0:m.kind<1\/18<m.kind
   ·rw[if_pos k0]at hR e;try simp only[dE]at hR e
    clear hs ok hm h h64;refine aa 99 Tryz.func48 ?_;exact wkl trivial
   ·rw[if_neg k0]at hR e;by_cases k1:m.kind<=3
    ·rw[if_pos k1]at hR e;have c4:=CS s ok m hm;generalize PQ s m=X at*;try simp only[dE]at hR e
     clear hs ok hm h h64;refine aa 99 Tryz.func48 ?_;exact wkl trivial
    ·rw[if_neg k1]at hR e;by_cases k2:m.kind<=13
     ·rw[if_pos k2]at hR e;have c4:=WU s hs m;generalize endA s m=X at*;try simp only[dE]at hR e
      clear hs ok hm h h64;refine aa 99 Tryz.func48 ?_;exact wkl trivial
     ·rw[if_neg k2]at hR e;by_cases k3:m.kind=14
      ·rw[if_pos k3]at hR e;have c4:=Jq s hs h64 m hm;generalize Dn s m=X at*;try simp only[dE]at hR e
       clear hs ok hm h h64;refine aa 99 Tryz.func48 ?_;exact wkl trivial
      ·rw[if_neg k3]at hR e;by_cases k4:m.kind=15
       ·rw[if_pos k4]at hR e;have c4:=Jr s ok h64 m hm;generalize Gg s m=X at*;try simp only[dE]at hR e
        clear hs ok hm h h64;refine aa 99 Tryz.func48 ?_;exact wkl trivial
       ·rw[if_neg k4]at hR e;by_cases k5:m.kind=18
        ·rw[if_pos k5]at hR e;have c4:=Js s ok h64 m.tr hm.tn hm.td hm.ts hm.tr;generalize Rn s m.tr=X at*;try simp only[dE]at hR e
         clear hs ok hm h h64;refine aa 99 Tryz.func48 ?_;exact wkl trivial
        ·rw[if_neg k5]at hR e;have c4:=yK s ok h64 m hm;generalize BC s m=X at*;try simp only[dE]at hR e
         clear hs ok hm h h64;refine aa 99 Tryz.func48 ?_;exact wkl trivial
 ·rw[if_neg h]at hR;generalize bf s=W at*;clear hs hm h64;refine aa 99 Tryz.func48 ?_;exact wkl trivial
theorem UW (s:StateD)(hs:StSm s)(later:Int):PureD Tryz.prog 46 [stateD s,intD later] (.tup [stateD (kZ s later).1,intD (kZ s later).2]):=by
 refine af λR hR=>?_;have c1:=iJ s hs;unfold kZ at hR;by_cases h:bf s=0
 ·have ok:=az.1 h;have hh:=ok.h;have ht:=ok.t;have e1:=mJ s hs;rw[h]at c1;rw[if_pos h]at hR;unfold N12 at hh ht;have w2:IntKind.i64.wrap (s.h+1)=s.h+1:=ai (by omega) (by omega);clear ok h hs;by_cases h1:later<1\/1000000000000<later
  ·rw[if_pos (by omega)]at hR;clear e1;refine aa 45 Tryz.func46 ?_;exact wkl trivial
  ·have w1:IntKind.i64.wrap (s.t+later)=s.t+later:=ai (by omega) (by omega);by_cases h2:later<1\/1000000000000<later\/1000000000000<s.t+later\/s.h=1000000000000
   ·rw[if_pos h2]at hR;clear e1;refine aa 45 Tryz.func46 ?_;exact wkl trivial
   ·rw[if_neg h2]at hR;refine aa 45 Tryz.func46 ?_;exact wkl trivial
 ·rw[if_neg h]at hR;generalize bf s=W at*;clear hs;refine aa 45 Tryz.func46 ?_;exact wkl trivial
end Go.Proofs.YtoifllbioldomaaGreatDoor
