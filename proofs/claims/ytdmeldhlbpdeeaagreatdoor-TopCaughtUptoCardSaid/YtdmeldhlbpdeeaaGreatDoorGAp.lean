/- Merged texts: ApP, ApA, ApB, ApD, ApE, ApL, ApF, Law13A. -/
import Derived.Test.YtdmeldhlbpdeeaaGreatDoorGPk
import Derived.Test.YtdmeldhlbpdeeaaGreatDoorGHs
import Derived.Test.YtdmeldhlbpdeeaaGreatDoorBkR
import Derived.Test.YtdmeldhlbpdeeaaGreatDoorClM
set_option linter.all false
set_option maxHeartbeats 16000000
set_option maxRecDepth 20000
namespace Go.Proofs.YtdmeldhlbpdeeaaGreatDoor
open Go Go.Abs
structure MsgD where
 kind:Int
 chain:ByteArray
 trust:Int
 kn:aT
 cl:Int
 up:yI
 up2:yI
 other:Int
 oend:Int
 ed:Int
 ord:Bool
 sh:bH
 tr:eX
 tout:Int
 next:Int
 pk:dX
 ack:List UInt8
def encMsg (m:MsgD):List I:=[.s (.int .i64 m.kind),.s (.string m.chain),.s (.int .i64 m.trust),.s (.int .i64 m.kn.h),.s (.int .i64 m.kn.t),bI m.kn.root,bI m.kn.next,.s (.int .i64 m.cl),
 .s (.int .i64 m.up.fr),.s (.string m.up.sg.hdr.c),.s (.int .i64 m.up.sg.hdr.h),.s (.int .i64 m.up.sg.hdr.t),bI m.up.sg.hdr.root,bI m.up.sg.hdr.vals,bI m.up.sg.hdr.next,valsI m.up.sg.vals,votesI m.up.sg.votes,valsI m.up.tr,
 .s (.int .i64 m.up2.fr),.s (.string m.up2.sg.hdr.c),.s (.int .i64 m.up2.sg.hdr.h),.s (.int .i64 m.up2.sg.hdr.t),bI m.up2.sg.hdr.root,bI m.up2.sg.hdr.vals,bI m.up2.sg.hdr.next,valsI m.up2.sg.vals,votesI m.up2.sg.votes,valsI m.up2.tr,
 .s (.int .i64 m.other),.s (.int .i64 m.oend),.s (.int .i64 m.ed),.s (.bool m.ord),
 .s (.int .i64 m.sh.h),.s (.int .i64 m.sh.p.i),.s (.int .i64 m.sh.p.n),bI m.sh.p.k,bI m.sh.p.v,bbI m.sh.p.path,.s (.bool m.sh.g.hl),.s (.bool m.sh.g.hr),
 .s (.int .i64 m.sh.g.left.i),.s (.int .i64 m.sh.g.left.n),bI m.sh.g.left.k,bI m.sh.g.left.v,bbI m.sh.g.left.path,.s (.int .i64 m.sh.g.right.i),.s (.int .i64 m.sh.g.right.n),bI m.sh.g.right.k,bI m.sh.g.right.v,bbI m.sh.g.right.path,
 .s (.string m.tr.d),.s (.int .u64 m.tr.n),.s (.string m.tr.s),.s (.string m.tr.r),.s (.int .i64 m.tout),.s (.int .i64 m.next),
 .s (.int .i64 m.pk.fr),.s (.int .i64 m.pk.de),.s (.int .i64 m.pk.seq),bI m.pk.data,.s (.int .i64 m.pk.tout),bI m.ack]
def ZH (m:MsgD):D:=.agg ((encMsg m).map .i)
structure sO (m:MsgD):Prop where
 kn:ahn m.kn
 up:Yo m.up
 up2:Yo m.up2
 tn:m.tr.n<18446744073709551616
 td:m.tr.d.size<=1048576
 ts:m.tr.s.size<=1048576
 tr:m.tr.r.size<=1048576
 fr:gT m.pk.fr
 de:gT m.pk.de
 data:m.pk.data.length<=1048576
 ack:m.ack.length<=1048576
structure jE where
 err:Int
 num:Int
 pk:dX
def Ff (d:jE):D:=.agg [.i (.s (.int .i64 d.err)),.i (.s (.int .i64 d.num)),.i (.s (.int .i64 d.pk.fr)),.i (.s (.int .i64 d.pk.de)),.i (.s (.int .i64 d.pk.seq)),.i (bI d.pk.data),.i (.s (.int .i64 d.pk.tout))]
def dE (e:Int):jE:=⟨e,0,zeroPk⟩
attribute [simp,go_sem] encMsg ZH Ff dE
def ig (s:ByteArray):Bool:=qK s ⟨#[35]⟩
def Jt (s:StateD)(m:MsgD):StateD×jE :=
 if m.kind=1 then
  (if(s.cls.length:Int)=4 then(s,dE 5)
  else if(Dy m.chain m.trust m.kn).2=0 then({s with cls:=s.cls++[(Dy m.chain m.trust m.kn).1]},⟨0,s.cls.length,zeroPk⟩)else(s,dE (Dy m.chain m.trust m.kn).2))
 else if m.cl<0\/(s.cls.length:Int)<=m.cl then(s,dE 6)
 else
  let r:=if m.kind=2 then fw (gU s m.cl) m.up s.t else kg (gU s m.cl) m.up m.up2 s.t
  if r.2=0 then({s with cls:=s.cls.set m.cl.toNat r.1},dE 0)else(s,dE r.2)
def endA (s:StateD)(m:MsgD):StateD×Int×Int :=
 if m.kind=4 then mH s m.cl m.other
 else if m.kind=5 then t_ s m.cl m.other m.oend m.sh
 else if m.kind=6 then((ackCn s m.ed m.oend m.sh).1,0,(ackCn s m.ed m.oend m.sh).2)
 else if m.kind=7 then((confCn s m.ed m.sh).1,0,(confCn s m.ed m.sh).2)
 else if m.kind=8 then mI s m.ed m.ord
 else if m.kind=9 then uf s m.ed m.ord m.oend m.sh
 else if m.kind=10 then((xe s m.ed m.oend m.sh).1,0,(xe s m.ed m.oend m.sh).2)
 else if m.kind=11 then((iX 2 3 s m.ed m.sh).1,0,(iX 2 3 s m.ed m.sh).2)
 else if m.kind=12 then((mh s m.ed).1,0,(mh s m.ed).2)
 else((iX 3 4 s m.ed m.sh).1,0,(iX 3 4 s m.ed m.sh).2)
def Gi (s:StateD)(m:MsgD):StateD×dX×Int :=
 let q:=bE (bytesT m.tr)
 if q.2=0 then
  (if ig q.1.s=true then(s,zeroPk,7)
  else
   let r:=lg s m.ed (bytesT q.1) m.tout
   if r.2.2=0 then(let b:=kK r.1.pus m.ed q.1;if b.2=0 then({r.1 with pus:=b.1},r.2.1,0)else(s,zeroPk,(b.2:Int)))else(s,zeroPk,r.2.2))
 else(s,zeroPk,q.2)
def XK (s:StateD)(p:dX):List UInt8×List PurseD :=
 let q:=bE p.data
 if q.2=0/\ig q.1.r=false then(let b:=sj s.pus p.de p.fr q.1;if b.2=0 then([49],b.1)else([48],s.pus))else([48],s.pus)
def Gu (s:StateD)(m:MsgD):StateD×Int :=
 let r:=kG s m.pk (XK s m.pk).1 m.sh
 if r.2=0 then({r.1 with pus:=(XK s m.pk).2},0)else(s,r.2)
def RO (s:StateD)(m:MsgD):StateD×Int :=
 let r:=if m.kind=16 then sM s m.pk m.ack m.sh else lC s m.pk m.next m.sh
 let back:=if m.kind=16 then decide (m.ack=[48])else true
 if r.2=0 then
  (let q:=bE m.pk.data
  if q.2=0/\back=true then(let b:=nL r.1.pus m.pk.fr q.1;if b.2=0 then({r.1 with pus:=b.1},0)else(s,(b.2:Int)))else(r.1,0))
 else(s,r.2)
def RX (s:StateD)(t:eX):StateD×Int :=
 let q:=bE (bytesT t)
 if q.2=0 then
  (if ig q.1.s=true\/ig q.1.r=true then(s,7)
  else(let b:=jQ s.pus q.1.s q.1.r q.1.d q.1.n;if b.2=0 then({s with pus:=b.1},0)else(s,(b.2:Int))))
 else(s,q.2)
def mg (s:StateD)(m:MsgD):StateD×jE :=
 if m.kind<1\/18<m.kind then(s,dE 1)
 else if m.kind<=3 then Jt s m
 else if m.kind<=13 then((endA s m).1,⟨(endA s m).2.2,(endA s m).2.1,zeroPk⟩)
 else if m.kind=14 then((Gi s m).1,⟨(Gi s m).2.2,0,(Gi s m).2.1⟩)
 else if m.kind=15 then((Gu s m).1,dE (Gu s m).2)
 else if m.kind=18 then((RX s m.tr).1,dE (RX s m.tr).2)
 else((RO s m).1,dE (RO s m).2)
def doS (s:StateD)(m:MsgD):StateD×jE :=
 if bq s=0 then(if(mg s m).2.err=0 then mg s m else(s,dE (mg s m).2.err))else(zeroSt,dE (bq s))
def kV (s:StateD)(later:Int):StateD×Int :=
 if bq s=0 then(if later<1\/1000000000000<later\/1000000000000<s.t+later\/s.h=1000000000000 then(zeroSt,3)else({s with h:=s.h+1,t:=s.t+later},0))else(zeroSt,bq s)
def LK:yI:=⟨0,⟨⟨⟨#[]⟩,0,0,[],[],[]⟩,[],[]⟩,[]⟩
def zSh:bH:=⟨0,⟨0,0,[],[],[]⟩,⟨false,false,⟨0,0,[],[],[]⟩,⟨0,0,[],[],[]⟩⟩⟩
def zeroMsg:MsgD:=⟨0,⟨#[]⟩,0,⟨0,0,[],[]⟩,0,LK,LK,0,0,0,false,zSh,⟨⟨#[]⟩,0,⟨#[]⟩,⟨#[]⟩⟩,0,0,⟨0,0,0,[],0⟩,[]⟩
attribute [simp,go_sem] LK zSh zeroMsg
theorem FJ:Yo LK:=⟨⟨⟨by decide,by decide,by decide,by decide⟩,by decide,by simp,by simp⟩,by decide,by simp,by decide⟩
structure TOk (t:eX):Prop where
 d:1<=t.d.size/\t.d.size<=40
 s:1<=t.s.size/\t.s.size<=40
 r:1<=t.r.size/\t.r.size<=40
 n:0<t.n/\t.n<18446744073709551616
theorem words3 {a b c:ByteArray}(h:vD [a,b,c]=0):(1<=a.size/\a.size<=40)/\(1<=b.size/\b.size<=40)/\(1<=c.size/\c.size<=40):=by
 unfold vD at h;split at h
 ·rename_i q;simp only[List.all_cons,List.all_nil,Bool.and_true,Bool.and_eq_true,wordOk_iff]at q;exact q
 ·cases h
theorem qE {b:List UInt8}(h:(bE b).2=0):TOk (bE b).1:=by
 unfold bE at h⊢;by_cases he:(readF b).2=0
 ·rw[if_pos he]at h⊢;obtain⟨m,e,hm⟩:∃m e,readF b=(m,e):=⟨_,_,rfl⟩
  rw[hm]at h he⊢;simp only at he h⊢;subst he;obtain⟨_,hn⟩:=read_write hm;by_cases h4:m.length=4
  ·obtain⟨p,q,r,s,rfl⟩:=four4 m h4;have hq:=hn q (by simp);simp only[KT,Jv]at h⊢;split at h
   ·rename_i hk;rw[if_pos hk];split at h
    ·rename_i hwd;rw[if_pos hwd];split at h
     ·cases h
     ·rename_i h0;rw[if_neg h0];obtain⟨w1,w2,w3⟩:=words3 hwd;exact⟨w1,w2,w3,by simp only at h0⊢;omega⟩
    ·rename_i hne;exact absurd h hne
   ·cases h
  ·rw[IQ h4]at h;cases h
 ·rw[if_neg he]at h;simp only at h;omega
def P64 (l:List PurseD):Prop:=∀p∈l,p.n<18446744073709551616
theorem dh {s:StateD}(ok:StOk s)(h:P64 s.pus):bB s.pus :=
 ⟨ok.lpus,λp hp=>(ok.pus.all p hp).o,λp hp=>(ok.pus.all p hp).d,λp hp=>⟨by have:=(ok.pus.all p hp).n;omega,h p hp⟩,ok.pus.srt⟩
open Go.RowKit Go.Proofs.YtdmeldhlbpdeeaaGreatDoor.Ty
theorem vw (s:ByteArray):PureD Tryz.prog 207 [.i (.s (.string s))] (boolD (ig s)):=by refine ai λR hR=>?_;have c1:=Ph s ⟨#[35]⟩;unfold ig at hR;generalize qK s ⟨#[35]⟩=B at*;refine aa 5 Tryz.func207 ?_;exact wkl trivial
theorem Da (s:StateD)(ok:StOk s)(m:MsgD)(hm:sO m):PureD Tryz.prog 163 [stateD s,.rp (encMsg m) 0] (.tup [stateD (Jt s m).1,Ff (Jt s m).2]):=by
 refine ai λR hR=>?_;have e1:=mE s ok.sm;have hl:=ok.lcl;unfold Jt at hR;by_cases k1:m.kind=1
 ·rw[if_pos k1]at hR;by_cases h4:(s.cls.length:Int)=4
  ·rw[if_pos h4]at hR;clear ok e1 hm;refine aa 136 Tryz.func163 ?_;exact wkl trivial
  ·rw[if_neg h4]at hR;have c1:=XM m.chain m.trust m.kn hm.kn;clear ok hm;by_cases h5:(Dy m.chain m.trust m.kn).2=0
   ·rw[if_pos h5]at hR;rw[h5]at c1;generalize(Dy m.chain m.trust m.kn).1=C at*;have m1:s.cls.map gF++[gF C]=(s.cls++[C]).map gF:=by simp
    have m2:s.cls.length+1=(s.cls++[C]).length:=by simp
    simp only[gF,jT]at m1;generalize s.cls++[C]=L at*;clear h5;refine aa 136 Tryz.func163 ?_;exact wkl trivial
   ·rw[if_neg h5]at hR;generalize Dy m.chain m.trust m.kn=C at*;clear e1;refine aa 136 Tryz.func163 ?_;exact wkl trivial
 ·rw[if_neg k1]at hR;by_cases h4:m.cl<0\/(s.cls.length:Int)<=m.cl
  ·rw[if_pos h4]at hR;clear ok e1 hm;refine aa 136 Tryz.func163 ?_;exact wkl trivial
  ·rw[if_neg h4]at hR;have hi:m.cl.toNat<s.cls.length:=by omega
   have hc:=(ok.cls _ (List.getElem_mem hi)).len;rw[(gz (s:=s) (i:=m.cl) (by omega)).1]at hR;have s0:=aI (f:=gF) hi;have c1:=Dh (s.cls[m.cl.toNat]'hi) m.up s.t (by omega) hm.up;have c2:=Vh (s.cls[m.cl.toNat]'hi) m.up m.up2 s.t (by omega) hm.up hm.up2;have s1:=λx=>List.getElem?_set_self (l:=s.cls.map gF) (i:=m.cl.toNat) (a:=x) (by simpa using hi);have s2:∀x y,((s.cls.map gF).set m.cl.toNat x).set m.cl.toNat y=(s.cls.map gF).set m.cl.toNat y:=λx y=>List.set_set x;have s3:∀C,(s.cls.map gF).set m.cl.toNat (gF C)=(s.cls.set m.cl.toNat C).map gF:=λC=>List.map_set.symm;have s4:∀C,(s.cls.set m.cl.toNat C).length=s.cls.length:=λC=>by simp
   clear ok hm;generalize s.cls[m.cl.toNat]=x at*;by_cases k2:m.kind=2
   ·simp only[if_pos k2]at hR;clear c2;by_cases h5:(fw x m.up s.t).2=0
    ·rw[if_pos h5]at hR;rw[h5]at c1;generalize(fw x m.up s.t).1=C at*;have s5:=(s4 C).symm;have s3:=s3 C;simp only[gF,jT]at s3;clear s4;generalize s.cls.set m.cl.toNat C=L at*;refine aa 136 Tryz.func163 ?_;exact wkl trivial
    ·rw[if_neg h5]at hR;generalize fw x m.up s.t=C at*;clear e1 s1 s2 s3 s4;refine aa 136 Tryz.func163 ?_;exact wkl trivial
   ·simp only[if_neg k2]at hR;clear c1;by_cases h5:(kg x m.up m.up2 s.t).2=0
    ·rw[if_pos h5]at hR;rw[h5]at c2;generalize(kg x m.up m.up2 s.t).1=C at*;have s5:=(s4 C).symm;have s3:=s3 C;simp only[gF,jT]at s3;clear s4;generalize s.cls.set m.cl.toNat C=L at*;refine aa 136 Tryz.func163 ?_;exact wkl trivial
    ·rw[if_neg h5]at hR;generalize kg x m.up m.up2 s.t=C at*;clear e1 s1 s2 s3 s4;refine aa 136 Tryz.func163 ?_;exact wkl trivial
theorem XE (s:StateD)(hs:StSm s)(m:MsgD):PureD Tryz.prog 164 [stateD s,.rp (encMsg m) 0] (.tup [stateD (endA s m).1,intD (endA s m).2.1,intD (endA s m).2.2]):=by refine ai λR hR=>?_;have c1:=Uq s hs m.cl m.other;have c2:=YS s hs m.cl m.other m.oend m.sh;have c3:=abd s hs m.ed m.oend m.sh;have c4:=UQ s hs m.ed m.sh;have c5:=Ur s hs m.ed m.ord;have c6:=YT s hs m.ed m.ord m.oend m.sh;have c7:=abe s hs m.ed m.oend m.sh;have c8:=UR s hs m.ed m.sh;have c9:=KX s hs m.ed m.sh;have c10:=Qq s hs m.ed;unfold endA at hR;generalize mH s m.cl m.other=A1 at*;generalize t_ s m.cl m.other m.oend m.sh=A2 at*;generalize ackCn s m.ed m.oend m.sh=A3 at*;generalize confCn s m.ed m.sh=A4 at*;generalize mI s m.ed m.ord=A5 at*;generalize uf s m.ed m.ord m.oend m.sh=A6 at*;generalize xe s m.ed m.oend m.sh=A7 at*;generalize iX 2 3 s m.ed m.sh=A8 at*;generalize iX 3 4 s m.ed m.sh=A9 at*;generalize mh s m.ed=A10 at*;clear hs;refine aa 183 Tryz.func164 ?_;exact wkl trivial
theorem sF (t:eX):(bytesT t).length<=1048576:=by have:=nQ (pcsT t);unfold bytesT;omega
theorem JJ (s:StateD)(hs:StSm s)(h64:P64 s.pus)(m:MsgD)(hm:sO m):PureD Tryz.prog 165 [stateD s,.rp (encMsg m) 0] (.tup [stateD (Gi s m).1,xw (Gi s m).2.1,intD (Gi s m).2.2]):=by
 refine ai λR hR=>?_;have c1:=Fz m.tr hm.tn hm.td hm.ts hm.tr;have c2:=zJ (bytesT m.tr) (sF _);unfold Gi at hR;by_cases h1:(bE (bytesT m.tr)).2=0
 ·have ht:=qE h1;simp only[if_pos h1]at hR;rw[h1]at c2;generalize bytesT m.tr=B at*;generalize(bE B).1=t at*;have c3:=vw t.s;cases hsf:ig t.s
  ·rw[hsf]at c3 hR;simp only[Bool.false_eq_true,if_false]at hR;have d1:=ht.d;have d2:=ht.s;have d3:=ht.r;have c4:=Fz t ht.n.2 (by omega) (by omega) (by omega);have c5:=Tg s hs m.ed (bytesT t) (sF _) m.tout;by_cases h2:(lg s m.ed (bytesT t) m.tout).2.2=0
   ·rw[if_pos h2]at hR;rw[h2]at c5;have hr:=vO.1 h2;obtain⟨ok,hi,_⟩:=endPk_ok hr.en;have hp:(lg s m.ed (bytesT t) m.tout).1.pus=s.pus:=by rw[pg hr];rfl
    have hl:=ok.lch;have c6:=ZT s.pus (dh ok h64) m.ed (by unfold gT;omega) t ht.n.2;rw[<- hp]at c6;clear hp hr ok h2 d1 d2 d3 ht h1 hs h64 hm;generalize bytesT t=B2 at*;generalize lg s m.ed B2 m.tout=A at*;generalize kK A.1.pus m.ed t=L at*;refine aa 72 Tryz.func165 ?_;exact wkl trivial
   ·rw[if_neg h2]at hR;clear d1 d2 d3 ht h1 hs h64 hm;generalize bytesT t=B2 at*;generalize lg s m.ed B2 m.tout=A at*;refine aa 72 Tryz.func165 ?_;exact wkl trivial
  ·rw[hsf]at c3 hR;simp only[if_true]at hR;clear ht h1 hs h64 hm;refine aa 72 Tryz.func165 ?_;exact wkl trivial
 ·simp only[if_neg h1]at hR;clear hs h64 hm;generalize bytesT m.tr=B at*;generalize bE B=Q at*;refine aa 72 Tryz.func165 ?_;exact wkl trivial
theorem JL (s:StateD)(ok:StOk s)(h64:P64 s.pus)(t0:eX)(h0:t0.n<18446744073709551616)(h01:t0.d.size<=1048576)(h02:t0.s.size<=1048576)(h03:t0.r.size<=1048576):
  PureD Tryz.prog 167 [stateD s,trD t0] (.tup [stateD (RX s t0).1,intD (RX s t0).2]):=by
 refine ai λR hR=>?_;have c1:=Fz t0 h0 h01 h02 h03;have c2:=zJ (bytesT t0) (sF _);unfold RX at hR;by_cases h1:(bE (bytesT t0)).2=0
 ·have ht:=qE h1;simp only[if_pos h1]at hR;rw[h1]at c2;generalize bytesT t0=B at*;generalize(bE B).1=t at*;have c3:=vw t.s;have c4:=vw t.r;have c5:=Ib s.pus (dh ok h64) t.s t.r t.d t.n ht.n.2;have e1:=mE s ok.sm;simp only[sD,wD,oF]at c5;clear ht h1 ok h64;generalize jQ s.pus t.s t.r t.d t.n=L at*;generalize ig t.s=p1 at*;generalize ig t.r=p2 at*;cases p1;all_goals
   cases p2;all_goals
    simp only[Bool.false_eq_true,if_false,if_true,true_or,or_true,or_false,or_self]at hR;refine aa 49 Tryz.func167 ?_;exact wkl trivial
 ·simp only[if_neg h1]at hR;clear ok h64;generalize bytesT t0=B at*;generalize bE B=Q at*;refine aa 49 Tryz.func167 ?_;exact wkl trivial
theorem JK (s:StateD)(ok:StOk s)(h64:P64 s.pus)(m:MsgD)(hm:sO m):PureD Tryz.prog 166 [stateD s,.rp (encMsg m) 0] (.tup [stateD (Gu s m).1,intD (Gu s m).2]):=by
 refine ai λR hR=>?_;have c1:=zJ m.pk.data hm.data;have c4:=Gs s ok.sm m.pk hm.data [49] (by simp) m.sh;have c5:=Gs s ok.sm m.pk hm.data [48] (by simp) m.sh;unfold Gu XK at hR;by_cases h1:(bE m.pk.data).2=0
 ·have ht:=qE h1;have d1:=ht.d;have c2:=vw (bE m.pk.data).1.r;have c3:=aeU s.pus (dh ok h64) m.pk.de m.pk.fr hm.de hm.fr (bE m.pk.data).1 ht.n.2 (by omega);simp only[h1,true_and]at hR;rw[h1]at c1;clear ht d1 h1 hm h64;generalize(bE m.pk.data).1=t at*;generalize sj s.pus m.pk.de m.pk.fr t=L at*;generalize ig t.r=p1 at*;cases p1
  ·simp only[if_true]at hR;by_cases h2:L.2=0
   ·simp only[if_pos h2]at hR;rw[h2]at c3;generalize kG s m.pk [49] m.sh=X at*;clear c5;refine aa 75 Tryz.func166 ?_;exact wkl trivial
   ·simp only[if_neg h2]at hR;generalize kG s m.pk [48] m.sh=X at*;clear c4;refine aa 75 Tryz.func166 ?_;exact wkl trivial
  ·simp only[Bool.true_eq_false,if_false]at hR;generalize kG s m.pk [48] m.sh=X at*;clear c4 c3;refine aa 75 Tryz.func166 ?_;exact wkl trivial
 ·simp only[h1,false_and,if_false]at hR;generalize bE m.pk.data=Q at*;generalize kG s m.pk [48] m.sh=X at*;clear c4 hm h64;refine aa 75 Tryz.func166 ?_;exact wkl trivial
theorem yE (s:StateD)(ok:StOk s)(h64:P64 s.pus)(m:MsgD)(hm:sO m):PureD Tryz.prog 168 [stateD s,.rp (encMsg m) 0] (.tup [stateD (RO s m).1,intD (RO s m).2]):=by
 refine ai λR hR=>?_;have c1:=zJ m.pk.data hm.data;unfold RO at hR;by_cases k1:m.kind=16
 ·simp only[if_pos k1]at hR;have c2:=iq m.ack [48];have c3:=abb s ok.sm m.pk hm.data m.ack hm.ack m.sh;by_cases h2:(sM s m.pk m.ack m.sh).2=0
  ·obtain⟨hp,c,_,_,_,_,he⟩:=ackPk_zero h2;have hpu:(sM s m.pk m.ack m.sh).1.pus=s.pus:=by rw[he];rfl
   have hfr:=hp.pk.fr;simp only[if_pos h2]at hR;rw[h2]at c3;by_cases h1:(bE m.pk.data).2=0
   ·have ht:=qE h1;have c4:=Yj s.pus (dh ok h64) m.pk.fr (by unfold N12 at hfr;unfold gT;omega) (bE m.pk.data).1 ht.n.2;rw[<- hpu]at c4;simp only[h1,true_and]at hR;rw[h1]at c1;clear ht h1 hm h64 hp he hpu hfr h2 ok;generalize(bE m.pk.data).1=t at*;generalize sM s m.pk m.ack m.sh=X at*;generalize nL X.1.pus m.pk.fr t=L at*;by_cases hq:m.ack=[48]
    ·simp only[decide_eq_true hq,if_true]at hR c2;refine aa 95 Tryz.func168 ?_;exact wkl trivial
    ·simp only[decide_eq_false hq,Bool.false_eq_true,if_false]at hR c2;refine aa 95 Tryz.func168 ?_;exact wkl trivial
   ·simp only[h1,false_and,if_false]at hR;clear hm h64 hp he hpu hfr h2 ok;generalize bE m.pk.data=Q at*;generalize sM s m.pk m.ack m.sh=X at*;generalize decide (m.ack=[48])=E at*;refine aa 95 Tryz.func168 ?_;exact wkl trivial
  ·simp only[if_neg h2]at hR;clear hm h64 ok;generalize sM s m.pk m.ack m.sh=X at*;generalize decide (m.ack=[48])=E at*;generalize bE m.pk.data=Q at*;refine aa 95 Tryz.func168 ?_;exact wkl trivial
 ·simp only[if_neg k1]at hR;have c3:=Ub s ok.sm m.pk hm.data m.next m.sh
  by_cases h2:(lC s m.pk m.next m.sh).2=0
  ·obtain⟨hp,c,_,_,_,_,he⟩:=latePk_zero h2;have hpu:(lC s m.pk m.next m.sh).1.pus=s.pus:=by rw[he];rfl
   have hfr:=hp.pk.fr;simp only[if_pos h2]at hR;rw[h2]at c3;by_cases h1:(bE m.pk.data).2=0
   ·have ht:=qE h1;have c4:=Yj s.pus (dh ok h64) m.pk.fr (by unfold N12 at hfr;unfold gT;omega) (bE m.pk.data).1 ht.n.2;rw[<- hpu]at c4;simp only[h1,true_and,if_true]at hR;rw[h1]at c1;clear ht h1 hm h64 hp he hpu hfr h2 ok;generalize(bE m.pk.data).1=t at*;generalize lC s m.pk m.next m.sh=X at*
    generalize nL X.1.pus m.pk.fr t=L at*;refine aa 95 Tryz.func168 ?_;exact wkl trivial
   ·simp only[h1,false_and,if_false]at hR;clear hm h64 hp he hpu hfr h2 ok;generalize bE m.pk.data=Q at*;generalize lC s m.pk m.next m.sh=X at*
    refine aa 95 Tryz.func168 ?_;exact wkl trivial
  ·simp only[if_neg h2]at hR;clear hm h64 ok;generalize lC s m.pk m.next m.sh=X at*
   generalize bE m.pk.data=Q at*;refine aa 95 Tryz.func168 ?_;exact wkl trivial
theorem StOk.cl {s:StateD}(h:StOk s){x:List aD}(hl:x.length<=4)(hx:∀c∈x,xD c):StOk {s with cls:=x} :=
 ⟨h.name,h.h,h.t,hl,h.lcn,h.lch,h.lsent,h.lgot,h.lacks,h.lpus,hx,h.cns,h.chs,h.sent,h.got,h.acks,h.pus⟩
theorem StOk.pu {s:StateD}(h:StOk s){x:List PurseD}(hx:bB x):StOk {s with pus:=x} :=
 ⟨h.name,h.h,h.t,h.lcl,h.lcn,h.lch,h.lsent,h.lgot,h.lacks,hx.len,h.cls,h.cns,h.chs,h.sent,h.got,h.acks,⟨λp hp=>⟨hx.wo p hp,hx.wd p hp,by have:=(hx.pos p hp).1;omega⟩,hx.srt⟩⟩
theorem bB.p64 {l:List PurseD}(h:bB l):P64 l:=λp hp=>(h.pos p hp).2
def FD (s:StateD)(kind:Int)(l:List PurseD):Prop:=∀d,mM l d=mM s.pus d\/((14<=kind/\kind<=17)/\∃i:Nat,i<s.chs.length/\qK d (jR i)=true)
structure ApStep (s:StateD) (m:MsgD) (t:StateD):Prop where
 ok:StOk t
 p64:P64 t.pus
 nm:t.name=s.name
 hh:t.h=s.h
 tt:t.t=s.t
 place:if m.kind<=3 then{t with cls:=s.cls}=s else if m.kind<=7 then{t with cns:=s.cns}=s else if m.kind<=13 then{t with chs:=s.chs}=s else if m.kind=18 then{t with pus:=s.pus}=s
  else{t with chs:=s.chs,sent:=s.sent,got:=s.got,acks:=s.acks,pus:=s.pus}=s
 sup:FD s m.kind t.pus
theorem nU (s:StateD)(k:Int):FD s k s.pus:=λ_=>.inl rfl
theorem ZB {c:ByteArray}{t:Int}{k:aT}(h:(Dy c t k).2=0):xD (Dy c t k).1:=by
 unfold Dy at h⊢;split at h
 ·rename_i q;rw[if_pos q];exact cu.1 q
 ·exact absurd h ‹_›
theorem Pw {c:aD}{u:yI}{now:Int}(h:(fw c u now).2=0):xD (fw c u now).1:=by obtain⟨a,b,e⟩:=follow_zero h;rw[e];exact acK (asked_zero.1 a).1 (be_hdr b).1
theorem Vi {c:aD}{a b:yI}{now:Int}(h:(kg c a b now).2=0):xD (kg c a b now).1:=by
 unfold kg at h⊢;split at h
 ·rename_i h1;rw[if_pos h1];split at h
  ·rename_i h2;rw[if_pos h2];split at h
   ·rename_i h3;rw[if_pos h3];split at h
    ·rename_i h4;rw[if_pos h4];have hc:=(asked_zero.1 h1).1;exact⟨hc.name,hc.trust,hc.len,hc.k,hc.rise⟩
    ·cases h
   ·rename_i h3;exact absurd h h3
  ·rename_i h2;exact absurd h h2
 ·rename_i h1;exact absurd h h1
theorem Vd {s:StateD}{m:MsgD}(ok:StOk s)(h64:P64 s.pus)(hk:m.kind<=3)(h:(Jt s m).2.err=0):ApStep s m (Jt s m).1:=by
 have fin:∀x:List aD,x.length<=4->(∀c∈x,xD c)->ApStep s m {s with cls:=x}:=λx hl hx =>⟨ok.cl hl hx,h64,rfl,rfl,rfl,by rw[if_pos hk],nU s _⟩
 have hl:=ok.lcl;have hset:∀C,xD C->∀c∈s.cls.set m.cl.toNat C,xD c:=λC hC c hc=>by
  rcases List.mem_or_eq_of_mem_set hc with hc|rfl
  ·exact ok.cls c hc
  ·exact hC
 unfold Jt at h⊢;split at h
 ·rename_i k1;rw[if_pos k1];split at h
  ·cases h
  ·rename_i h4;rw[if_neg h4];split at h
   ·rename_i h5;rw[if_pos h5];refine fin _ (by simp;omega) λc hc=>?_;rcases List.mem_append.1 hc with hc|hc
    ·exact ok.cls c hc
    ·rw[List.mem_singleton.1 hc];exact ZB h5
   ·exact absurd h ‹_›
 ·rename_i k1;rw[if_neg k1];split at h
  ·cases h
  ·rename_i h4;rw[if_neg h4];by_cases k2:m.kind=2
   ·simp only[if_pos k2]at h⊢;split at h
    ·rename_i h5;rw[if_pos h5];exact fin _ (by simp;omega) (hset _ (Pw h5))
    ·exact absurd h ‹_›
   ·simp only[if_neg k2]at h⊢;split at h
    ·rename_i h5;rw[if_pos h5];exact fin _ (by simp;omega) (hset _ (Vi h5))
    ·exact absurd h ‹_›
theorem same_cn {s t:StateD}(h:{t with cns:=s.cns}=s):t.pus=s.pus/\t.name=s.name/\t.h=s.h/\t.t=s.t:=by rw[<- h];exact⟨rfl,rfl,rfl,rfl⟩
theorem same_ch {s t:StateD}(h:{t with chs:=s.chs}=s):t.pus=s.pus/\t.name=s.name/\t.h=s.h/\t.t=s.t:=by rw[<- h];exact⟨rfl,rfl,rfl,rfl⟩
theorem same_pk {s t:StateD}(h:{t with chs:=s.chs,sent:=s.sent,got:=s.got,acks:=s.acks}=s):t.pus=s.pus/\t.name=s.name/\t.h=s.h/\t.t=s.t:=by rw[<- h];exact⟨rfl,rfl,rfl,rfl⟩
theorem UV {s t:StateD}{m:MsgD}{p:Int}(h64:P64 s.pus)(h1:¬m.kind<=3)(h2:m.kind<=7)(h:CnStep s p t):ApStep s m t:=by obtain⟨a,b,c,d⟩:=same_cn h.same;exact⟨h.ok,by rw[a];exact h64,b,c,d,by rw[if_neg h1,if_pos h2];exact h.same,by rw[a];exact nU s _⟩
theorem K_ {s t:StateD}{m:MsgD}{p:Int}(h64:P64 s.pus)(h1:¬m.kind<=7)(h2:m.kind<=13)(h:tZ s p t):ApStep s m t:=by obtain⟨a,b,c,d⟩:=same_ch h.same;exact⟨h.ok,by rw[a];exact h64,b,c,d,by rw[if_neg (by omega),if_neg h1,if_pos h2];exact h.same,by rw[a];exact nU s _⟩
theorem Tz {s t:StateD}{m:MsgD}{p:Int}(h1:14<=m.kind/\m.kind<=17)(h:JW s p t){l:List PurseD}(hl:bB l)(hs:FD s m.kind l):ApStep s m {t with pus:=l}:=by obtain⟨a,b,c,d⟩:=same_pk h.same;refine⟨h.ok.pu hl,hl.p64,b,c,d,?_,hs⟩;rw[if_neg (by omega),if_neg (by omega),if_neg (by omega),if_neg (by omega)];have e:=h.same;simp only;rw[<- a];exact e
theorem UG {s:StateD}{m:MsgD}(h64:P64 s.pus)(h1:¬m.kind<=3)(h2:m.kind<=13)(h:(endA s m).2.2=0):ApStep s m (endA s m).1:=by
 unfold endA at h⊢;split at h
 ·rename_i k;rw[if_pos k];exact UV h64 h1 (by omega) (EM h 0).1
 ·rename_i k;rw[if_neg k];split at h
  ·rename_i k;rw[if_pos k];exact UV h64 h1 (by omega) (Kl h 0).1
  ·rename_i k;rw[if_neg k];split at h
   ·rename_i k;rw[if_pos k];exact UV h64 h1 (by omega) (Le h).1
   ·rename_i k;rw[if_neg k];split at h
    ·rename_i k;rw[if_pos k];exact UV h64 h1 (by omega) (Fs h).1
    ·rename_i k;rw[if_neg k];split at h
     ·rename_i k;rw[if_pos k];exact K_ h64 (by omega) h2 (EN h 0).1
     ·rename_i k;rw[if_neg k];split at h
      ·rename_i k;rw[if_pos k];exact K_ h64 (by omega) h2 (Km h 0).1
      ·rename_i k;rw[if_neg k];split at h
       ·rename_i k;rw[if_pos k];exact K_ h64 (by omega) h2 (Lf h)
       ·rename_i k;rw[if_neg k];split at h
        ·rename_i k;rw[if_pos k];exact K_ h64 (by omega) h2 (wN (by omega) h)
        ·rename_i k;rw[if_neg k];split at h
         ·rename_i k;rw[if_pos k];exact K_ h64 (by omega) h2 (C_ h)
         ·rename_i k;rw[if_neg k];exact K_ h64 (by omega) h2 (wN (by omega) h)
theorem aak {s:StateD}{i:Int}(hi:0<=i/\i<(s.chs.length:Int)){d:ByteArray}(h:qK d (jR i)=true):∃j:Nat,j<s.chs.length/\qK d (jR j)=true :=
 ⟨i.toNat,by omega,by rw[show((i.toNat:Nat):Int)=i by omega];exact h⟩
theorem Oz {s:StateD}(h:bB s.pus){k:Int}(hk:14<=k/\k<=17){ch:Int}(hi:0<=ch/\ch<(s.chs.length:Int)){t:eX}(he:(kK s.pus ch t).2=0):FD s k (kK s.pus ch t).1:=by
 intro d;unfold kK at he⊢;split at he
 ·rename_i hp;rw[if_pos hp];have:=(burn_ok h he).2.2 d;by_cases hd:t.d=d
  ·subst hd;exact .inr ⟨hk,aak hi hp⟩
  ·rw[if_neg hd]at this;exact .inl (by omega)
 ·rename_i hp;rw[if_neg hp];exact .inl ((zT h he).2.2 d)
theorem Vx {s:StateD}(h:bB s.pus){k:Int}(hk:14<=k/\k<=17){ch:Int}(hi:0<=ch/\ch<(s.chs.length:Int)){t:eX}(he:(nL s.pus ch t).2=0):FD s k (nL s.pus ch t).1:=by
 intro d;unfold nL at he⊢;split at he
 ·rename_i hp;rw[if_pos hp];have:=(mint_ok h he).2.1 d;by_cases hd:t.d=d
  ·subst hd;exact .inr ⟨hk,aak hi hp⟩
  ·rw[if_neg hd]at this;exact .inl (by omega)
 ·rename_i hp;rw[if_neg hp];exact .inl ((zT h he).2.2 d)
theorem UT {s:StateD}(h:bB s.pus){k:Int}(hk:14<=k/\k<=17){ch other:Int}(hi:0<=ch/\ch<(s.chs.length:Int)){t:eX}(he:(sj s.pus ch other t).2=0):FD s k (sj s.pus ch other t).1:=by
 intro d;unfold sj at he⊢;split at he
 ·rename_i hp;rw[if_pos hp];exact .inl ((zT h he).2.2 d)
 ·rename_i hp;rw[if_neg hp];have:=(mint_ok h he).2.1 d;by_cases hd:jR ch++t.d=d
  ·subst hd;exact .inr ⟨hk,aak hi (Uw _ _)⟩
  ·rw[if_neg hd]at this;exact .inl (by omega)
theorem SV {s:StateD}{m:MsgD}(h64:P64 s.pus)(hk:m.kind=14)(h:(Gi s m).2.2=0):ApStep s m (Gi s m).1:=by
 unfold Gi at h⊢;simp only at h⊢;split at h
 ·rename_i h1;rw[if_pos h1];split at h
  ·cases h
  ·rename_i h2;rw[if_neg h2];split at h
   ·rename_i h3;rw[if_pos h3];have hr:=vO.1 h3;have hst:=MO hr;obtain⟨ok,hi,_⟩:=endPk_ok hr.en;rw[pg hr]at h⊢;by_cases h4:(kK s.pus m.ed (bE (bytesT m.tr)).1).2=0
    ·have e:∀q,(xq s m.ed q).pus=s.pus:=λ_=>rfl;simp only[e]at h⊢;rw[if_pos h4];have hk2:14<=m.kind/\m.kind<=17:=by omega
     exact Tz hk2 hst (EJ (dh ok h64) ..) (Oz (dh ok h64) hk2 hi h4)
    ·have e:∀q,(xq s m.ed q).pus=s.pus:=λ_=>rfl;simp only[e]at h;rw[if_neg h4]at h;simp only at h;omega
   ·exact absurd h ‹_›
 ·exact absurd h ‹_›
theorem Tt {s:StateD}{m:MsgD}(ok:StOk s)(h64:P64 s.pus)(hk:m.kind=15)(h:(Gu s m).2=0):ApStep s m (Gu s m).1:=by
 unfold Gu at h⊢;simp only at h⊢;split at h
 ·rename_i h3;rw[if_pos h3];have hr:=Ej.1 h3;have hst:=Ng hr;obtain⟨_,hi,_⟩:=endPk_ok hr.en;have hk2:14<=m.kind/\m.kind<=17:=by omega
  have hs:bB (XK s m.pk).2/\FD s m.kind (XK s m.pk).2:=by
   unfold XK;simp only;split
   ·split
    ·rename_i he;exact⟨KW (dh ok h64) ..,UT (dh ok h64) hk2 hi he⟩
    ·exact⟨dh ok h64,nU s _⟩
   ·exact⟨dh ok h64,nU s _⟩
  rw[vT hr];exact Tz hk2 hst hs.1 hs.2
 ·exact absurd h ‹_›
theorem BD {s:StateD}{m:MsgD}(h64:P64 s.pus)(hk:16<=m.kind/\m.kind<=17){c:ChanD}(hp:xm s m.pk)(hc:ChOk c)(back:Bool)
  (h:(if(bE m.pk.data).2=0/\back=true then(if(nL (lJ s m.pk c).pus m.pk.fr (bE m.pk.data).1).2=0 then(({lJ s m.pk c with pus:=(nL (lJ s m.pk c).pus m.pk.fr (bE m.pk.data).1).1},0):StateD×Int)else(s,((nL (lJ s m.pk c).pus m.pk.fr (bE m.pk.data).1).2:Int)))else(lJ s m.pk c,0)).2=0):
  ApStep s m (if(bE m.pk.data).2=0/\back=true then(if(nL (lJ s m.pk c).pus m.pk.fr (bE m.pk.data).1).2=0 then(({lJ s m.pk c with pus:=(nL (lJ s m.pk c).pus m.pk.fr (bE m.pk.data).1).1},0):StateD×Int)else(s,((nL (lJ s m.pk c).pus m.pk.fr (bE m.pk.data).1).2:Int)))else(lJ s m.pk c,0)).1:=by
 have hst:=PN hp hc;obtain⟨ok,hi,_⟩:=endPk_ok hp.en;have hk2:14<=m.kind/\m.kind<=17:=by omega
 split at h
 ·rename_i h1;rw[if_pos h1];split at h
  ·rename_i h2;rw[if_pos h2];exact Tz hk2 hst (Ld (dh ok h64) ..) (Vx (dh ok h64) hk2 hi h2)
  ·rename_i h2;simp only at h;omega
 ·rename_i h1;rw[if_neg h1];have:=Tz hk2 hst (dh ok h64) (nU s _);exact this
theorem Td {s:StateD}{m:MsgD}(h64:P64 s.pus)(hk:16<=m.kind/\m.kind<=17)(h:(RO s m).2=0):ApStep s m (RO s m).1:=by
 unfold RO at h⊢;by_cases k1:m.kind=16
 ·simp only[if_pos k1]at h⊢;by_cases h2:(sM s m.pk m.ack m.sh).2=0
  ·obtain⟨hp,c,hc,_,_,_,he⟩:=ackPk_zero h2;rw[if_pos h2]at h⊢;rw[he]at h⊢;exact BD h64 hk hp hc _ h
  ·rw[if_neg h2]at h;exact absurd h h2
 ·simp only[if_neg k1]at h⊢;by_cases h2:(lC s m.pk m.next m.sh).2=0
  ·obtain⟨hp,c,hc,_,_,_,he⟩:=latePk_zero h2;rw[if_pos h2]at h⊢;rw[he]at h⊢;have h2:=BD h64 hk hp hc true (by simpa only[and_true]using h);simpa only[and_true]using h2
  ·rw[if_neg h2]at h;exact absurd h h2
theorem Ux {s:StateD}{m:MsgD}(ok:StOk s)(h64:P64 s.pus)(hk:m.kind=18)(h:(RX s m.tr).2=0):ApStep s m (RX s m.tr).1:=by
 unfold RX at h⊢;generalize bE (bytesT m.tr)=q at*;simp only at h⊢;by_cases h1:q.2=0
 ·rw[if_pos h1]at h⊢;by_cases h2:ig q.1.s=true\/ig q.1.r=true
  ·rw[if_pos h2]at h;cases h
  ·rw[if_neg h2]at h⊢;by_cases h3:(jQ s.pus q.1.s q.1.r q.1.d q.1.n).2=0
   ·rw[if_pos h3];have hr:=oq (dh ok h64) q.1.s q.1.r q.1.d q.1.n;have hm:=(zT (dh ok h64) h3).2.2;refine⟨ok.pu hr,hr.p64,rfl,rfl,rfl,?_,λd=>.inl (hm d)⟩;rw[if_neg (by omega),if_neg (by omega),if_neg (by omega),if_pos hk]
   ·rw[if_neg h3]at h;simp only at h;omega
 ·rw[if_neg h1]at h;exact absurd h h1
theorem CU {s:StateD}{m:MsgD}(ok:StOk s)(h64:P64 s.pus)(h:(mg s m).2.err=0):ApStep s m (mg s m).1:=by
 unfold mg at h⊢;split at h
 ·cases h
 ·rename_i k0;rw[if_neg k0];split at h
  ·rename_i k;rw[if_pos k];exact Vd ok h64 k h
  ·rename_i k3;rw[if_neg k3];split at h
   ·rename_i k;rw[if_pos k];exact UG h64 k3 k h
   ·rename_i k4;rw[if_neg k4];split at h
    ·rename_i k;rw[if_pos k];exact SV h64 k h
    ·rename_i k5;rw[if_neg k5];split at h
     ·rename_i k;rw[if_pos k];exact Tt ok h64 k h
     ·rename_i k6;rw[if_neg k6];split at h
      ·rename_i k;rw[if_pos k];exact Ux ok h64 k h
      ·rename_i k7;rw[if_neg k7];exact Td h64 (by omega) h
theorem doS_done {s:StateD}{m:MsgD}(h:(doS s m).2.err=0):StOk s/\(mg s m).2.err=0/\doS s m=mg s m:=by
 unfold doS at h⊢;split at h
 ·rename_i k;rw[if_pos k];split at h
  ·rename_i k2;rw[if_pos k2];exact⟨aC.1 k,k2,rfl⟩
  ·rename_i k2;exact absurd h k2
 ·exact absurd h ‹_›
theorem Ja {s:StateD}{m:MsgD}(h64:P64 s.pus)(h:(doS s m).2.err=0):ApStep s m (doS s m).1:=by obtain⟨ok,h0,e⟩:=doS_done h;rw[e];exact CU ok h64 h0
theorem afl (s:StateD)(hs:StSm s)(h64:P64 s.pus)(m:MsgD)(hm:sO m):PureD Tryz.prog 120 [stateD s,ZH m] (.tup [stateD (doS s m).1,Ff (doS s m).2]):=by
 refine ai λR hR=>?_;have c1:=iL s hs;unfold doS at hR;by_cases h:bq s=0
 ·have ok:=aC.1 h;rw[h]at c1;rw[if_pos h]at hR;have c2:=MF s hs;have c3:(mg s m).2.err=0->PureD Tryz.prog 119 [stateD (mg s m).1] (stateD (mg s m).1):=λe=>MF _ (CU ok h64 e).ok.sm;by_cases e:(mg s m).2.err=0
  ·rw[if_pos e]at hR;have c3:=c3 e;unfold mg at hR e c3;by_cases k0:m.kind<1\/18<m.kind
   ·rw[if_pos k0]at hR e c3;try simp only[dE]at hR e c3
    exact absurd e (by decide)
   ·rw[if_neg k0]at hR e c3;by_cases k1:m.kind<=3
    ·rw[if_pos k1]at hR e c3;have c4:=Da s ok m hm;generalize Jt s m=X at*;try simp only[dE]at hR e c3
     clear hs ok hm h h64;refine aa 99 Tryz.func120 ?_;exact wkl trivial
    ·rw[if_neg k1]at hR e c3;by_cases k2:m.kind<=13
     ·rw[if_pos k2]at hR e c3;have c4:=XE s hs m;generalize endA s m=X at*;try simp only[dE]at hR e c3
      clear hs ok hm h h64;refine aa 99 Tryz.func120 ?_;exact wkl trivial
     ·rw[if_neg k2]at hR e c3;by_cases k3:m.kind=14
      ·rw[if_pos k3]at hR e c3;have c4:=JJ s hs h64 m hm;generalize Gi s m=X at*;try simp only[dE]at hR e c3
       clear hs ok hm h h64;refine aa 99 Tryz.func120 ?_;exact wkl trivial
      ·rw[if_neg k3]at hR e c3;by_cases k4:m.kind=15
       ·rw[if_pos k4]at hR e c3;have c4:=JK s ok h64 m hm;generalize Gu s m=X at*;try simp only[dE]at hR e c3
        clear hs ok hm h h64;refine aa 99 Tryz.func120 ?_;exact wkl trivial
       ·rw[if_neg k4]at hR e c3;by_cases k5:m.kind=18
        ·rw[if_pos k5]at hR e c3;have c4:=JL s ok h64 m.tr hm.tn hm.td hm.ts hm.tr;generalize RX s m.tr=X at*;try simp only[dE]at hR e c3
         clear hs ok hm h h64;refine aa 99 Tryz.func120 ?_;exact wkl trivial
        ·rw[if_neg k5]at hR e c3;have c4:=yE s ok h64 m hm;generalize RO s m=X at*;try simp only[dE]at hR e c3
         clear hs ok hm h h64;refine aa 99 Tryz.func120 ?_;exact wkl trivial
  ·rw[if_neg e]at hR;clear c3;unfold mg at hR e;by_cases k0:m.kind<1\/18<m.kind
   ·rw[if_pos k0]at hR e;try simp only[dE]at hR e
    clear hs ok hm h h64;refine aa 99 Tryz.func120 ?_;exact wkl trivial
   ·rw[if_neg k0]at hR e;by_cases k1:m.kind<=3
    ·rw[if_pos k1]at hR e;have c4:=Da s ok m hm;generalize Jt s m=X at*;try simp only[dE]at hR e
     clear hs ok hm h h64;refine aa 99 Tryz.func120 ?_;exact wkl trivial
    ·rw[if_neg k1]at hR e;by_cases k2:m.kind<=13
     ·rw[if_pos k2]at hR e;have c4:=XE s hs m;generalize endA s m=X at*;try simp only[dE]at hR e
      clear hs ok hm h h64;refine aa 99 Tryz.func120 ?_;exact wkl trivial
     ·rw[if_neg k2]at hR e;by_cases k3:m.kind=14
      ·rw[if_pos k3]at hR e;have c4:=JJ s hs h64 m hm;generalize Gi s m=X at*;try simp only[dE]at hR e
       clear hs ok hm h h64;refine aa 99 Tryz.func120 ?_;exact wkl trivial
      ·rw[if_neg k3]at hR e;by_cases k4:m.kind=15
       ·rw[if_pos k4]at hR e;have c4:=JK s ok h64 m hm;generalize Gu s m=X at*;try simp only[dE]at hR e
        clear hs ok hm h h64;refine aa 99 Tryz.func120 ?_;exact wkl trivial
       ·rw[if_neg k4]at hR e;by_cases k5:m.kind=18
        ·rw[if_pos k5]at hR e;have c4:=JL s ok h64 m.tr hm.tn hm.td hm.ts hm.tr;generalize RX s m.tr=X at*;try simp only[dE]at hR e
         clear hs ok hm h h64;refine aa 99 Tryz.func120 ?_;exact wkl trivial
        ·rw[if_neg k5]at hR e;have c4:=yE s ok h64 m hm;generalize RO s m=X at*;try simp only[dE]at hR e
         clear hs ok hm h h64;refine aa 99 Tryz.func120 ?_;exact wkl trivial
 ·rw[if_neg h]at hR;generalize bq s=W at*;clear hs hm h64;refine aa 99 Tryz.func120 ?_;exact wkl trivial
theorem VB (s:StateD)(hs:StSm s)(later:Int):PureD Tryz.prog 118 [stateD s,intD later] (.tup [stateD (kV s later).1,intD (kV s later).2]):=by
 refine ai λR hR=>?_;have c1:=iL s hs;unfold kV at hR;by_cases h:bq s=0
 ·have ok:=aC.1 h;have hh:=ok.h;have ht:=ok.t;have e1:=mE s hs;rw[h]at c1;rw[if_pos h]at hR;unfold N12 at hh ht;have w2:IntKind.i64.wrap (s.h+1)=s.h+1:=au (by omega) (by omega);clear ok h hs;by_cases h1:later<1\/1000000000000<later
  ·rw[if_pos (by omega)]at hR;clear e1;refine aa 45 Tryz.func118 ?_;exact wkl trivial
  ·have w1:IntKind.i64.wrap (s.t+later)=s.t+later:=au (by omega) (by omega);by_cases h2:later<1\/1000000000000<later\/1000000000000<s.t+later\/s.h=1000000000000
   ·rw[if_pos h2]at hR;clear e1;refine aa 45 Tryz.func118 ?_;exact wkl trivial
   ·rw[if_neg h2]at hR;refine aa 45 Tryz.func118 ?_;exact wkl trivial
 ·rw[if_neg h]at hR;generalize bq s=W at*;clear hs;refine aa 45 Tryz.func118 ?_;exact wkl trivial
end Go.Proofs.YtdmeldhlbpdeeaaGreatDoor
