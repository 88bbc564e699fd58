/- Merged texts: ApP, ApA, ApB, ApD, ApE, ApL, ApF, Law13A. -/
import Derived.Test.YtkbbipgjmoanhaaGreatDoorGPk
import Derived.Test.YtkbbipgjmoanhaaGreatDoorGHs
import Derived.Test.YtkbbipgjmoanhaaGreatDoorBkR
import Derived.Test.YtkbbipgjmoanhaaGreatDoorClM
set_option linter.all false
set_option maxHeartbeats 16000000
set_option maxRecDepth 20000
namespace Go.Proofs.YtkbbipgjmoanhaaGreatDoor
open Go Go.Abs
structure MsgD where
 kind:Int
 chain:ByteArray
 trust:Int
 kn:aP
 cl:Int
 up:yV
 up2:yV
 other:Int
 oend:Int
 ed:Int
 ord:Bool
 sh:bJ
 tr:gV
 tout:Int
 next:Int
 pk:dG
 ack:List UInt8
def encMsg (m:MsgD):List I:=[.s (.int .i64 m.kind),.s (.string m.chain),.s (.int .i64 m.trust),.s (.int .i64 m.kn.h),.s (.int .i64 m.kn.t),bI m.kn.root,bI m.kn.next,.s (.int .i64 m.cl),
 .s (.int .i64 m.up.fr),.s (.string m.up.sg.hdr.c),.s (.int .i64 m.up.sg.hdr.h),.s (.int .i64 m.up.sg.hdr.t),bI m.up.sg.hdr.root,bI m.up.sg.hdr.vals,bI m.up.sg.hdr.next,valsI m.up.sg.vals,votesI m.up.sg.votes,valsI m.up.tr,
 .s (.int .i64 m.up2.fr),.s (.string m.up2.sg.hdr.c),.s (.int .i64 m.up2.sg.hdr.h),.s (.int .i64 m.up2.sg.hdr.t),bI m.up2.sg.hdr.root,bI m.up2.sg.hdr.vals,bI m.up2.sg.hdr.next,valsI m.up2.sg.vals,votesI m.up2.sg.votes,valsI m.up2.tr,
 .s (.int .i64 m.other),.s (.int .i64 m.oend),.s (.int .i64 m.ed),.s (.bool m.ord),
 .s (.int .i64 m.sh.h),.s (.int .i64 m.sh.p.i),.s (.int .i64 m.sh.p.n),bI m.sh.p.k,bI m.sh.p.v,bbI m.sh.p.path,.s (.bool m.sh.g.hl),.s (.bool m.sh.g.hr),
 .s (.int .i64 m.sh.g.left.i),.s (.int .i64 m.sh.g.left.n),bI m.sh.g.left.k,bI m.sh.g.left.v,bbI m.sh.g.left.path,.s (.int .i64 m.sh.g.right.i),.s (.int .i64 m.sh.g.right.n),bI m.sh.g.right.k,bI m.sh.g.right.v,bbI m.sh.g.right.path,
 .s (.string m.tr.d),.s (.int .u64 m.tr.n),.s (.string m.tr.s),.s (.string m.tr.r),.s (.int .i64 m.tout),.s (.int .i64 m.next),
 .s (.int .i64 m.pk.fr),.s (.int .i64 m.pk.de),.s (.int .i64 m.pk.seq),bI m.pk.data,.s (.int .i64 m.pk.tout),bI m.ack]
def WE (m:MsgD):D:=.agg ((encMsg m).map .i)
structure oh (m:MsgD):Prop where
 kn:Zn m.kn
 up:UB m.up
 up2:UB m.up2
 tn:m.tr.n < 18446744073709551616
 td:m.tr.d.size<=1048576
 ts:m.tr.s.size<=1048576
 tr:m.tr.r.size<=1048576
 fr:gK m.pk.fr
 de:gK m.pk.de
 data:m.pk.data.length<=1048576
 ack:m.ack.length<=1048576
structure kz where
 err:Int
 num:Int
 pk:dG
def yj (d:kz):D:=.agg [.i (.s (.int .i64 d.err)),.i (.s (.int .i64 d.num)),.i (.s (.int .i64 d.pk.fr)),.i (.s (.int .i64 d.pk.de)),.i (.s (.int .i64 d.pk.seq)),.i (bI d.pk.data),.i (.s (.int .i64 d.pk.tout))]
def dE (e:Int):kz:=⟨e,0,zeroPk⟩
attribute [simp,go_sem] encMsg WE yj dE
def j_ (s:ByteArray):Bool:=oZ s ⟨#[35]⟩
def PL (s:StateD) (m:MsgD):StateD × kz :=
 if m.kind=1 then
  (if (s.cls.length:Int)=4 then (s,dE 5)
  else if (GY m.chain m.trust m.kn).2=0 then ({ s with cls:=s.cls++[(GY m.chain m.trust m.kn).1] },⟨0,s.cls.length,zeroPk⟩) else (s,dE (GY m.chain m.trust m.kn).2))
 else if m.cl < 0\/(s.cls.length:Int)<=m.cl then (s,dE 6)
 else
  let r:=if m.kind=2 then g_ (kC s m.cl) m.up s.t else mF (kC s m.cl) m.up m.up2 s.t
  if r.2=0 then ({ s with cls:=s.cls.set m.cl.toNat r.1 },dE 0) else (s,dE r.2)
def endA (s:StateD) (m:MsgD):StateD × Int × Int :=
 if m.kind=4 then mo s m.cl m.other
 else if m.kind=5 then uB s m.cl m.other m.oend m.sh
 else if m.kind=6 then ((ackCn s m.ed m.oend m.sh).1,0,(ackCn s m.ed m.oend m.sh).2)
 else if m.kind=7 then ((confCn s m.ed m.sh).1,0,(confCn s m.ed m.sh).2)
 else if m.kind=8 then mq s m.ed m.ord
 else if m.kind=9 then uC s m.ed m.ord m.oend m.sh
 else if m.kind=10 then ((yS s m.ed m.oend m.sh).1,0,(yS s m.ed m.oend m.sh).2)
 else if m.kind=11 then ((iR 2 3 s m.ed m.sh).1,0,(iR 2 3 s m.ed m.sh).2)
 else if m.kind=12 then ((jT s m.ed).1,0,(jT s m.ed).2)
 else ((iR 3 4 s m.ed m.sh).1,0,(iR 3 4 s m.ed m.sh).2)
def GX (s:StateD) (m:MsgD):StateD × dG × Int :=
 let q:=bF (fq m.tr)
 if q.2=0 then
  (if j_ q.1.s=true then (s,zeroPk,7)
  else
   let r:=jy s m.ed (fq q.1) m.tout
   if r.2.2=0 then (let b:=kR r.1.pus m.ed q.1; if b.2=0 then ({ r.1 with pus:=b.1 },r.2.1,0) else (s,zeroPk,(b.2:Int))) else (s,zeroPk,r.2.2))
 else (s,zeroPk,q.2)
def Ve (s:StateD) (p:dG):List UInt8 × List az :=
 let q:=bF p.data
 if q.2=0/\j_ q.1.r=false then (let b:=uI s.pus p.de p.fr q.1; if b.2=0 then ([49],b.1) else ([48],s.pus)) else ([48],s.pus)
def Nb (s:StateD) (m:MsgD):StateD × Int :=
 let r:=jX s m.pk (Ve s m.pk).1 m.sh
 if r.2=0 then ({ r.1 with pus:=(Ve s m.pk).2 },0) else (s,r.2)
def Na (s:StateD) (m:MsgD):StateD × Int :=
 let r:=if m.kind=16 then qb s m.pk m.ack m.sh else jE s m.pk m.next m.sh
 let back:=if m.kind=16 then decide (m.ack=[48]) else true
 if r.2=0 then
  (let q:=bF m.pk.data
  if q.2=0/\back=true then (let b:=lu r.1.pus m.pk.fr q.1; if b.2=0 then ({ r.1 with pus:=b.1 },0) else (s,(b.2:Int))) else (r.1,0))
 else (s,r.2)
def Ni (s:StateD) (t:gV):StateD × Int :=
 let q:=bF (fq t)
 if q.2=0 then
  (if j_ q.1.s=true\/j_ q.1.r=true then (s,7)
  else (let b:=kv s.pus q.1.s q.1.r q.1.d q.1.n; if b.2=0 then ({ s with pus:=b.1 },0) else (s,(b.2:Int))))
 else (s,q.2)
def ET (s:StateD) (m:MsgD):StateD × kz :=
 if m.kind < 1\/18 < m.kind then (s,dE 1)
 else if m.kind<=3 then PL s m
 else if m.kind<=13 then ((endA s m).1,⟨(endA s m).2.2,(endA s m).2.1,zeroPk⟩)
 else if m.kind=14 then ((GX s m).1,⟨(GX s m).2.2,0,(GX s m).2.1⟩)
 else if m.kind=15 then ((Nb s m).1,dE (Nb s m).2)
 else if m.kind=18 then ((Ni s m.tr).1,dE (Ni s m.tr).2)
 else ((Na s m).1,dE (Na s m).2)
def doS (s:StateD) (m:MsgD):StateD × kz :=
 if bg s=0 then (if (ET s m).2.err=0 then ET s m else (s,dE (ET s m).2.err)) else (zeroSt,dE (bg s))
def jh (s:StateD) (later:Int):StateD × Int :=
 if bg s=0 then (if later < 1\/1000000000000 < later\/1000000000000 < s.t+later\/s.h=1000000000000 then (zeroSt,3) else ({ s with h:=s.h+1,t:=s.t+later },0)) else (zeroSt,bg s)
def Nr:yV:=⟨0,⟨⟨⟨#[]⟩,0,0,[],[],[]⟩,[],[]⟩,[]⟩
def zSh:bJ:=⟨0,⟨0,0,[],[],[]⟩,⟨false,false,⟨0,0,[],[],[]⟩,⟨0,0,[],[],[]⟩⟩⟩
def rE:MsgD:=⟨0,⟨#[]⟩,0,⟨0,0,[],[]⟩,0,Nr,Nr,0,0,0,false,zSh,⟨⟨#[]⟩,0,⟨#[]⟩,⟨#[]⟩⟩,0,0,⟨0,0,0,[],0⟩,[]⟩
attribute [simp,go_sem] Nr zSh rE
theorem DR:UB Nr:=⟨⟨⟨by decide,by decide,by decide,by decide⟩,by decide,by simp,by simp⟩,by decide,by simp,by decide⟩
structure TOk (t:gV):Prop where
 d:1<=t.d.size/\t.d.size<=40
 s:1<=t.s.size/\t.s.size<=40
 r:1<=t.r.size/\t.r.size<=40
 n:0 < t.n/\t.n < 18446744073709551616
theorem words3 {a b c:ByteArray} (h:uP [a,b,c]=0):(1<=a.size/\a.size<=40)/\(1<=b.size/\b.size<=40)/\(1<=c.size/\c.size<=40):=by
 unfold uP at h
 split at h
 ·rename_i q
  simp only [List.all_cons,List.all_nil,Bool.and_true,Bool.and_eq_true,wordOk_iff] at q
  exact q
 ·cases h
theorem nO {b:List UInt8} (h:(bF b).2=0):TOk (bF b).1:=by
 unfold bF at h ⊢
 by_cases he:(readF b).2=0
 ·rw [if_pos he] at h ⊢
  obtain ⟨m,e,hm⟩:∃ m e,readF b=(m,e):=⟨_,_,rfl⟩
  rw [hm] at h he ⊢
  simp only at he h ⊢
  subst he
  obtain ⟨_,hn⟩:=read_write hm
  by_cases h4:m.length=4
  ·obtain ⟨p,q,r,s,rfl⟩:=four4 m h4
   have hq:=hn q (by simp)
   simp only [Ku,Lg] at h ⊢
   split at h
   ·rename_i hk
    rw [if_pos hk]
    split at h
    ·rename_i hwd
     rw [if_pos hwd]
     split at h
     ·cases h
     ·rename_i h0
      rw [if_neg h0]
      obtain ⟨w1,w2,w3⟩:=words3 hwd
      exact ⟨w1,w2,w3,by simp only at h0 ⊢; omega⟩
    ·rename_i hne; exact absurd h hne
   ·cases h
  ·rw [EO h4] at h; cases h
 ·rw [if_neg he] at h; simp only at h; omega
def P64 (l:List az):Prop:=∀ p∈l,p.n < 18446744073709551616
theorem bT {s:StateD} (ok:StOk s) (h:P64 s.pus):bB s.pus :=
 ⟨ok.lpus,fun p hp=>(ok.pus.all p hp).o,fun p hp=>(ok.pus.all p hp).d,fun p hp=>⟨by have:=(ok.pus.all p hp).n; omega,h p hp⟩,ok.pus.srt⟩
open Go.RowKit Go.Proofs.YtkbbipgjmoanhaaGreatDoor.Ty
theorem rA (s:ByteArray):PureD Tryz.prog 131 [.i (.s (.string s))] (boolD (j_ s)):=by
 refine aj fun R hR=>?_
 have c1:=Kb s ⟨#[35]⟩
 unfold j_ at hR
 generalize oZ s ⟨#[35]⟩=B at *
 refine aa 5 Tryz.func131 rfl rfl rfl (fun _ _=>rfl) ?_
 exact wkl trivial
theorem Ai (s:StateD) (ok:StOk s) (m:MsgD) (hm:oh m):PureD Tryz.prog 67 [stateD s,.rp (encMsg m) 0] (.tup [stateD (PL s m).1,yj (PL s m).2]):=by
 refine aj fun R hR=>?_
 have e1:=jW s ok.sm
 have hl:=ok.lcl
 unfold PL at hR
 by_cases k1:m.kind=1
 ·rw [if_pos k1] at hR
  by_cases h4:(s.cls.length:Int)=4
  ·rw [if_pos h4] at hR
   clear ok e1 hm
   refine aa 136 Tryz.func67 rfl rfl rfl (fun _ _=>rfl) ?_
   exact wkl trivial
  ·rw [if_neg h4] at hR
   have c1:=XE m.chain m.trust m.kn hm.kn
   clear ok hm
   by_cases h5:(GY m.chain m.trust m.kn).2=0
   ·rw [if_pos h5] at hR
    rw [h5] at c1
    generalize (GY m.chain m.trust m.kn).1=C at *
    have m1:s.cls.map fM++[fM C]=(s.cls++[C]).map fM:=by simp
    have m2:s.cls.length+1=(s.cls++[C]).length:=by simp
    simp only [fM,jF] at m1
    generalize s.cls++[C]=L at *
    clear h5
    refine aa 136 Tryz.func67 rfl rfl rfl (fun _ _=>rfl) ?_
    exact wkl trivial
   ·rw [if_neg h5] at hR
    generalize GY m.chain m.trust m.kn=C at *
    clear e1
    refine aa 136 Tryz.func67 rfl rfl rfl (fun _ _=>rfl) ?_
    exact wkl trivial
 ·rw [if_neg k1] at hR
  by_cases h4:m.cl < 0\/(s.cls.length:Int)<=m.cl
  ·rw [if_pos h4] at hR
   clear ok e1 hm
   refine aa 136 Tryz.func67 rfl rfl rfl (fun _ _=>rfl) ?_
   exact wkl trivial
  ·rw [if_neg h4] at hR
   have hi:m.cl.toNat < s.cls.length:=by omega
   have hc:=(ok.cls _ (List.getElem_mem hi)).len
   rw [(eZ (s:=s) (i:=m.cl) (by omega)).1] at hR
   have s0:=get_lt (f:=fM) hi
   have c1:=Ll (s.cls[m.cl.toNat]'hi) m.up s.t (by omega) hm.up
   have c2:=PP (s.cls[m.cl.toNat]'hi) m.up m.up2 s.t (by omega) hm.up hm.up2
   have s1:=fun x=>List.getElem?_set_self (l:=s.cls.map fM) (i:=m.cl.toNat) (a:=x) (by simpa using hi)
   have s2:∀ x y,((s.cls.map fM).set m.cl.toNat x).set m.cl.toNat y=(s.cls.map fM).set m.cl.toNat y:=fun x y=>List.set_set x
   have s3:∀ C,(s.cls.map fM).set m.cl.toNat (fM C)=(s.cls.set m.cl.toNat C).map fM:=fun C=>List.map_set.symm
   have s4:∀ C,(s.cls.set m.cl.toNat C).length=s.cls.length:=fun C=>by simp
   clear ok hm
   generalize s.cls[m.cl.toNat]=x at *
   by_cases k2:m.kind=2
   ·simp only [if_pos k2] at hR
    clear c2
    by_cases h5:(g_ x m.up s.t).2=0
    ·rw [if_pos h5] at hR
     rw [h5] at c1
     generalize (g_ x m.up s.t).1=C at *
     have s5:=(s4 C).symm
     have s3:=s3 C
     simp only [fM,jF] at s3
     clear s4
     generalize s.cls.set m.cl.toNat C=L at *
     refine aa 136 Tryz.func67 rfl rfl rfl (fun _ _=>rfl) ?_
     exact wkl trivial
    ·rw [if_neg h5] at hR
     generalize g_ x m.up s.t=C at *
     clear e1 s1 s2 s3 s4
     refine aa 136 Tryz.func67 rfl rfl rfl (fun _ _=>rfl) ?_
     exact wkl trivial
   ·simp only [if_neg k2] at hR
    clear c1
    by_cases h5:(mF x m.up m.up2 s.t).2=0
    ·rw [if_pos h5] at hR
     rw [h5] at c2
     generalize (mF x m.up m.up2 s.t).1=C at *
     have s5:=(s4 C).symm
     have s3:=s3 C
     simp only [fM,jF] at s3
     clear s4
     generalize s.cls.set m.cl.toNat C=L at *
     refine aa 136 Tryz.func67 rfl rfl rfl (fun _ _=>rfl) ?_
     exact wkl trivial
    ·rw [if_neg h5] at hR
     generalize mF x m.up m.up2 s.t=C at *
     clear e1 s1 s2 s3 s4
     refine aa 136 Tryz.func67 rfl rfl rfl (fun _ _=>rfl) ?_
     exact wkl trivial
theorem QW (s:StateD) (hs:StSm s) (m:MsgD):PureD Tryz.prog 68 [stateD s,.rp (encMsg m) 0] (.tup [stateD (endA s m).1,intD (endA s m).2.1,intD (endA s m).2.2]):=by
 refine aj fun R hR=>?_
 have c1:=OT s hs m.cl m.other
 have c2:=Ru s hs m.cl m.other m.oend m.sh
 have c3:=Ux s hs m.ed m.oend m.sh
 have c4:=Pv s hs m.ed m.sh
 have c5:=OU s hs m.ed m.ord
 have c6:=Rv s hs m.ed m.ord m.oend m.sh
 have c7:=Uy s hs m.ed m.oend m.sh
 have c8:=Pw s hs m.ed m.sh
 have c9:=Gx s hs m.ed m.sh
 have c10:=Ld s hs m.ed
 unfold endA at hR
 generalize mo s m.cl m.other=A1 at *
 generalize uB s m.cl m.other m.oend m.sh=A2 at *
 generalize ackCn s m.ed m.oend m.sh=A3 at *
 generalize confCn s m.ed m.sh=A4 at *
 generalize mq s m.ed m.ord=A5 at *
 generalize uC s m.ed m.ord m.oend m.sh=A6 at *
 generalize yS s m.ed m.oend m.sh=A7 at *
 generalize iR 2 3 s m.ed m.sh=A8 at *
 generalize iR 3 4 s m.ed m.sh=A9 at *
 generalize jT s m.ed=A10 at *
 clear hs
 refine aa 183 Tryz.func68 rfl rfl rfl (fun _ _=>rfl) ?_
 exact wkl trivial
theorem pM (t:gV):(fq t).length<=1048576:=by have:=lD (QG t); unfold fq; omega
theorem Fz (s:StateD) (hs:StSm s) (h64:P64 s.pus) (m:MsgD) (hm:oh m):PureD Tryz.prog 69 [stateD s,.rp (encMsg m) 0] (.tup [stateD (GX s m).1,uF (GX s m).2.1,intD (GX s m).2.2]):=by
 refine aj fun R hR=>?_
 have c1:=Dn m.tr hm.tn hm.td hm.ts hm.tr
 have c2:=wQ (fq m.tr) (pM _)
 unfold GX at hR
 by_cases h1:(bF (fq m.tr)).2=0
 ·have ht:=nO h1
  simp only [if_pos h1] at hR
  rw [h1] at c2
  generalize fq m.tr=B at *
  generalize (bF B).1=t at *
  have c3:=rA t.s
  cases hsf:j_ t.s
  ·rw [hsf] at c3 hR
   simp only [Bool.false_eq_true,if_false] at hR
   have d1:=ht.d
   have d2:=ht.s
   have d3:=ht.r
   have c4:=Dn t ht.n.2 (by omega) (by omega) (by omega)
   have c5:=NR s hs m.ed (fq t) (pM _) m.tout
   by_cases h2:(jy s m.ed (fq t) m.tout).2.2=0
   ·rw [if_pos h2] at hR
    rw [h2] at c5
    have hr:=rT.1 h2
    obtain ⟨ok,hi,_⟩:=endPk_ok hr.en
    have hp:(jy s m.ed (fq t) m.tout).1.pus=s.pus:=by rw [rU hr]; rfl
    have hl:=ok.lch
    have c6:=SS s.pus (bT ok h64) m.ed (by unfold gK; omega) t ht.n.2
    rw [<- hp] at c6
    clear hp hr ok h2 d1 d2 d3 ht h1 hs h64 hm
    generalize fq t=B2 at *
    generalize jy s m.ed B2 m.tout=A at *
    generalize kR A.1.pus m.ed t=L at *
    refine aa 72 Tryz.func69 rfl rfl rfl (fun _ _=>rfl) ?_
    exact wkl trivial
   ·rw [if_neg h2] at hR
    clear d1 d2 d3 ht h1 hs h64 hm
    generalize fq t=B2 at *
    generalize jy s m.ed B2 m.tout=A at *
    refine aa 72 Tryz.func69 rfl rfl rfl (fun _ _=>rfl) ?_
    exact wkl trivial
  ·rw [hsf] at c3 hR
   simp only [if_true] at hR
   clear ht h1 hs h64 hm
   refine aa 72 Tryz.func69 rfl rfl rfl (fun _ _=>rfl) ?_
   exact wkl trivial
 ·simp only [if_neg h1] at hR
  clear hs h64 hm
  generalize fq m.tr=B at *
  generalize bF B=Q at *
  refine aa 72 Tryz.func69 rfl rfl rfl (fun _ _=>rfl) ?_
  exact wkl trivial
theorem FC (s:StateD) (ok:StOk s) (h64:P64 s.pus) (t0:gV) (h0:t0.n < 18446744073709551616) (h01:t0.d.size<=1048576) (h02:t0.s.size<=1048576) (h03:t0.r.size<=1048576) :
  PureD Tryz.prog 71 [stateD s,trD t0] (.tup [stateD (Ni s t0).1,intD (Ni s t0).2]):=by
 refine aj fun R hR=>?_
 have c1:=Dn t0 h0 h01 h02 h03
 have c2:=wQ (fq t0) (pM _)
 unfold Ni at hR
 by_cases h1:(bF (fq t0)).2=0
 ·have ht:=nO h1
  simp only [if_pos h1] at hR
  rw [h1] at c2
  generalize fq t0=B at *
  generalize (bF B).1=t at *
  have c3:=rA t.s
  have c4:=rA t.r
  have c5:=EC s.pus (bT ok h64) t.s t.r t.d t.n ht.n.2
  have e1:=jW s ok.sm
  simp only [sD,wD,jB] at c5
  clear ht h1 ok h64
  generalize kv s.pus t.s t.r t.d t.n=L at *
  generalize j_ t.s=p1 at *
  generalize j_ t.r=p2 at *
  cases p1
  all_goals
   cases p2
   all_goals
    simp only [Bool.false_eq_true,if_false,if_true,true_or,or_true,or_false,or_self] at hR
    refine aa 49 Tryz.func71 rfl rfl rfl (fun _ _=>rfl) ?_
    exact wkl trivial
 ·simp only [if_neg h1] at hR
  clear ok h64
  generalize fq t0=B at *
  generalize bF B=Q at *
  refine aa 49 Tryz.func71 rfl rfl rfl (fun _ _=>rfl) ?_
  exact wkl trivial
theorem FB (s:StateD) (ok:StOk s) (h64:P64 s.pus) (m:MsgD) (hm:oh m):PureD Tryz.prog 70 [stateD s,.rp (encMsg m) 0] (.tup [stateD (Nb s m).1,intD (Nb s m).2]):=by
 refine aj fun R hR=>?_
 have c1:=wQ m.pk.data hm.data
 have c4:=Eh s ok.sm m.pk hm.data [49] (by simp) m.sh
 have c5:=Eh s ok.sm m.pk hm.data [48] (by simp) m.sh
 unfold Nb Ve at hR
 by_cases h1:(bF m.pk.data).2=0
 ·have ht:=nO h1
  have d1:=ht.d
  have c2:=rA (bF m.pk.data).1.r
  have c3:=XB s.pus (bT ok h64) m.pk.de m.pk.fr hm.de hm.fr (bF m.pk.data).1 ht.n.2 (by omega)
  simp only [h1,true_and] at hR
  rw [h1] at c1
  clear ht d1 h1 hm h64
  generalize (bF m.pk.data).1=t at *
  generalize uI s.pus m.pk.de m.pk.fr t=L at *
  generalize j_ t.r=p1 at *
  cases p1
  ·simp only [if_true] at hR
   by_cases h2:L.2=0
   ·simp only [if_pos h2] at hR
    rw [h2] at c3
    generalize jX s m.pk [49] m.sh=X at *
    clear c5
    refine aa 75 Tryz.func70 rfl rfl rfl (fun _ _=>rfl) ?_
    exact wkl trivial
   ·simp only [if_neg h2] at hR
    generalize jX s m.pk [48] m.sh=X at *
    clear c4
    refine aa 75 Tryz.func70 rfl rfl rfl (fun _ _=>rfl) ?_
    exact wkl trivial
  ·simp only [Bool.true_eq_false,if_false] at hR
   generalize jX s m.pk [48] m.sh=X at *
   clear c4 c3
   refine aa 75 Tryz.func70 rfl rfl rfl (fun _ _=>rfl) ?_
   exact wkl trivial
 ·simp only [h1,false_and,if_false] at hR
  generalize bF m.pk.data=Q at *
  generalize jX s m.pk [48] m.sh=X at *
  clear c4 hm h64
  refine aa 75 Tryz.func70 rfl rfl rfl (fun _ _=>rfl) ?_
  exact wkl trivial
theorem vD (s:StateD) (ok:StOk s) (h64:P64 s.pus) (m:MsgD) (hm:oh m):PureD Tryz.prog 72 [stateD s,.rp (encMsg m) 0] (.tup [stateD (Na s m).1,intD (Na s m).2]):=by
 refine aj fun R hR=>?_
 have c1:=wQ m.pk.data hm.data
 unfold Na at hR
 by_cases k1:m.kind=16
 ·simp only [if_pos k1] at hR
  have c2:=fZ m.ack [48]
  have c3:=Uw s ok.sm m.pk hm.data m.ack hm.ack m.sh
  by_cases h2:(qb s m.pk m.ack m.sh).2=0
  ·obtain ⟨hp,c,_,_,_,_,he⟩:=ackPk_zero h2
   have hpu:(qb s m.pk m.ack m.sh).1.pus=s.pus:=by rw [he]; rfl
   have hfr:=hp.pk.fr
   simp only [if_pos h2] at hR
   rw [h2] at c3
   by_cases h1:(bF m.pk.data).2=0
   ·have ht:=nO h1
    have c4:=Re s.pus (bT ok h64) m.pk.fr (by unfold N12 at hfr; unfold gK; omega) (bF m.pk.data).1 ht.n.2
    rw [<- hpu] at c4
    simp only [h1,true_and] at hR
    rw [h1] at c1
    clear ht h1 hm h64 hp he hpu hfr h2 ok
    generalize (bF m.pk.data).1=t at *
    generalize qb s m.pk m.ack m.sh=X at *
    generalize lu X.1.pus m.pk.fr t=L at *
    by_cases hq:m.ack=[48]
    ·simp only [decide_eq_true hq,if_true] at hR c2
     refine aa 95 Tryz.func72 rfl rfl rfl (fun _ _=>rfl) ?_
     exact wkl trivial
    ·simp only [decide_eq_false hq,Bool.false_eq_true,if_false] at hR c2
     refine aa 95 Tryz.func72 rfl rfl rfl (fun _ _=>rfl) ?_
     exact wkl trivial
   ·simp only [h1,false_and,if_false] at hR
    clear hm h64 hp he hpu hfr h2 ok
    generalize bF m.pk.data=Q at *
    generalize qb s m.pk m.ack m.sh=X at *
    generalize decide (m.ack=[48])=E at *
    refine aa 95 Tryz.func72 rfl rfl rfl (fun _ _=>rfl) ?_
    exact wkl trivial
  ·simp only [if_neg h2] at hR
   clear hm h64 ok
   generalize qb s m.pk m.ack m.sh=X at *
   generalize decide (m.ack=[48])=E at *
   generalize bF m.pk.data=Q at *
   refine aa 95 Tryz.func72 rfl rfl rfl (fun _ _=>rfl) ?_
   exact wkl trivial
 ·simp only [if_neg k1] at hR
  have c3:=OA s ok.sm m.pk hm.data m.next m.sh
  by_cases h2:(jE s m.pk m.next m.sh).2=0
  ·obtain ⟨hp,c,_,_,_,_,he⟩:=latePk_zero h2
   have hpu:(jE s m.pk m.next m.sh).1.pus=s.pus:=by rw [he]; rfl
   have hfr:=hp.pk.fr
   simp only [if_pos h2] at hR
   rw [h2] at c3
   by_cases h1:(bF m.pk.data).2=0
   ·have ht:=nO h1
    have c4:=Re s.pus (bT ok h64) m.pk.fr (by unfold N12 at hfr; unfold gK; omega) (bF m.pk.data).1 ht.n.2
    rw [<- hpu] at c4
    simp only [h1,true_and,if_true] at hR
    rw [h1] at c1
    clear ht h1 hm h64 hp he hpu hfr h2 ok
    generalize (bF m.pk.data).1=t at *
    generalize jE s m.pk m.next m.sh=X at *
    generalize lu X.1.pus m.pk.fr t=L at *
    refine aa 95 Tryz.func72 rfl rfl rfl (fun _ _=>rfl) ?_
    exact wkl trivial
   ·simp only [h1,false_and,if_false] at hR
    clear hm h64 hp he hpu hfr h2 ok
    generalize bF m.pk.data=Q at *
    generalize jE s m.pk m.next m.sh=X at *
    refine aa 95 Tryz.func72 rfl rfl rfl (fun _ _=>rfl) ?_
    exact wkl trivial
  ·simp only [if_neg h2] at hR
   clear hm h64 ok
   generalize jE s m.pk m.next m.sh=X at *
   generalize bF m.pk.data=Q at *
   refine aa 95 Tryz.func72 rfl rfl rfl (fun _ _=>rfl) ?_
   exact wkl trivial
theorem StOk.cl {s:StateD} (h:StOk s) {x:List aD} (hl:x.length<=4) (hx:∀ c∈x,AP c):StOk { s with cls:=x } :=
 ⟨h.name,h.h,h.t,hl,h.lcn,h.lch,h.lsent,h.lgot,h.lacks,h.lpus,hx,h.cns,h.chs,h.sent,h.got,h.acks,h.pus⟩
theorem StOk.pu {s:StateD} (h:StOk s) {x:List az} (hx:bB x):StOk { s with pus:=x } :=
 ⟨h.name,h.h,h.t,h.lcl,h.lcn,h.lch,h.lsent,h.lgot,h.lacks,hx.len,h.cls,h.cns,h.chs,h.sent,h.got,h.acks,⟨fun p hp=>⟨hx.wo p hp,hx.wd p hp,by have:=(hx.pos p hp).1; omega⟩,hx.srt⟩⟩
theorem bB.p64 {l:List az} (h:bB l):P64 l:=fun p hp=>(h.pos p hp).2
def Dz (s:StateD) (kind:Int) (l:List az):Prop:=∀ d,jv l d=jv s.pus d\/((14<=kind/\kind<=17)/\∃ i:Nat,i < s.chs.length/\oZ d (ji i)=true)
structure ApStep (s:StateD) (m:MsgD) (t:StateD):Prop where
 ok:StOk t
 p64:P64 t.pus
 nm:t.name=s.name
 hh:t.h=s.h
 tt:t.t=s.t
 place:if m.kind<=3 then { t with cls:=s.cls }=s else if m.kind<=7 then { t with cns:=s.cns }=s else if m.kind<=13 then { t with chs:=s.chs }=s else if m.kind=18 then { t with pus:=s.pus }=s
  else { t with chs:=s.chs,sent:=s.sent,got:=s.got,acks:=s.acks,pus:=s.pus }=s
 sup:Dz s m.kind t.pus
theorem lG (s:StateD) (k:Int):Dz s k s.pus:=fun _=>.inl rfl
theorem SB {c:ByteArray} {t:Int} {k:aP} (h:(GY c t k).2=0):AP (GY c t k).1:=by
 unfold GY at h ⊢
 split at h
 ·rename_i q; rw [if_pos q]; exact iF.1 q
 ·exact absurd h ‹_›
theorem Kv {c:aD} {u:yV} {now:Int} (h:(g_ c u now).2=0):AP (g_ c u now).1:=by
 obtain ⟨a,b,e⟩:=follow_zero h
 rw [e]
 exact We (asked_zero.1 a).1 (be_hdr b).1
theorem PQ {c:aD} {a b:yV} {now:Int} (h:(mF c a b now).2=0):AP (mF c a b now).1:=by
 unfold mF at h ⊢
 split at h
 ·rename_i h1
  rw [if_pos h1]
  split at h
  ·rename_i h2
   rw [if_pos h2]
   split at h
   ·rename_i h3
    rw [if_pos h3]
    split at h
    ·rename_i h4
     rw [if_pos h4]
     have hc:=(asked_zero.1 h1).1
     exact ⟨hc.name,hc.trust,hc.len,hc.k,hc.rise⟩
    ·cases h
   ·rename_i h3; exact absurd h h3
  ·rename_i h2; exact absurd h h2
 ·rename_i h1; exact absurd h h1
theorem PK {s:StateD} {m:MsgD} (ok:StOk s) (h64:P64 s.pus) (hk:m.kind<=3) (h:(PL s m).2.err=0):ApStep s m (PL s m).1:=by
 have fin:∀ x:List aD,x.length<=4->(∀ c∈x,AP c)->ApStep s m { s with cls:=x }:=fun x hl hx =>
  ⟨ok.cl hl hx,h64,rfl,rfl,rfl,by rw [if_pos hk],lG s _⟩
 have hl:=ok.lcl
 have hset:∀ C,AP C->∀ c∈s.cls.set m.cl.toNat C,AP c:=fun C hC c hc=>by
  rcases List.mem_or_eq_of_mem_set hc with hc | rfl
  ·exact ok.cls c hc
  ·exact hC
 unfold PL at h ⊢
 split at h
 ·rename_i k1
  rw [if_pos k1]
  split at h
  ·cases h
  ·rename_i h4
   rw [if_neg h4]
   split at h
   ·rename_i h5
    rw [if_pos h5]
    refine fin _ (by simp; omega) fun c hc=>?_
    rcases List.mem_append.1 hc with hc | hc
    ·exact ok.cls c hc
    ·rw [List.mem_singleton.1 hc]; exact SB h5
   ·exact absurd h ‹_›
 ·rename_i k1
  rw [if_neg k1]
  split at h
  ·cases h
  ·rename_i h4
   rw [if_neg h4]
   by_cases k2:m.kind=2
   ·simp only [if_pos k2] at h ⊢
    split at h
    ·rename_i h5
     rw [if_pos h5]
     exact fin _ (by simp; omega) (hset _ (Kv h5))
    ·exact absurd h ‹_›
   ·simp only [if_neg k2] at h ⊢
    split at h
    ·rename_i h5
     rw [if_pos h5]
     exact fin _ (by simp; omega) (hset _ (PQ h5))
    ·exact absurd h ‹_›
theorem same_cn {s t:StateD} (h:{ t with cns:=s.cns }=s):t.pus=s.pus/\t.name=s.name/\t.h=s.h/\t.t=s.t:=by
 rw [<- h]; exact ⟨rfl,rfl,rfl,rfl⟩
theorem same_ch {s t:StateD} (h:{ t with chs:=s.chs }=s):t.pus=s.pus/\t.name=s.name/\t.h=s.h/\t.t=s.t:=by
 rw [<- h]; exact ⟨rfl,rfl,rfl,rfl⟩
theorem same_pk {s t:StateD} (h:{ t with chs:=s.chs,sent:=s.sent,got:=s.got,acks:=s.acks }=s):t.pus=s.pus/\t.name=s.name/\t.h=s.h/\t.t=s.t:=by
 rw [<- h]; exact ⟨rfl,rfl,rfl,rfl⟩
theorem Py {s t:StateD} {m:MsgD} {p:Int} (h64:P64 s.pus) (h1:¬ m.kind<=3) (h2:m.kind<=7) (h:CnStep s p t):ApStep s m t:=by
 obtain ⟨a,b,c,d⟩:=same_cn h.same
 exact ⟨h.ok,by rw [a]; exact h64,b,c,d,by rw [if_neg h1,if_pos h2]; exact h.same,by rw [a]; exact lG s _⟩
theorem Gy {s t:StateD} {m:MsgD} {p:Int} (h64:P64 s.pus) (h1:¬ m.kind<=7) (h2:m.kind<=13) (h:qp s p t):ApStep s m t:=by
 obtain ⟨a,b,c,d⟩:=same_ch h.same
 exact ⟨h.ok,by rw [a]; exact h64,b,c,d,by rw [if_neg (by omega),if_neg h1,if_pos h2]; exact h.same,by rw [a]; exact lG s _⟩
theorem Oa {s t:StateD} {m:MsgD} {p:Int} (h1:14<=m.kind/\m.kind<=17) (h:FK s p t) {l:List az} (hl:bB l) (hs:Dz s m.kind l):ApStep s m { t with pus:=l }:=by
 obtain ⟨a,b,c,d⟩:=same_pk h.same
 refine ⟨h.ok.pu hl,hl.p64,b,c,d,?_,hs⟩
 rw [if_neg (by omega),if_neg (by omega),if_neg (by omega),if_neg (by omega)]
 have e:=h.same
 simp only
 rw [<- a]; exact e
theorem Pj {s:StateD} {m:MsgD} (h64:P64 s.pus) (h1:¬ m.kind<=3) (h2:m.kind<=13) (h:(endA s m).2.2=0):ApStep s m (endA s m).1:=by
 unfold endA at h ⊢
 split at h
 ·rename_i k; rw [if_pos k]; exact Py h64 h1 (by omega) (Cj h 0).1
 ·rename_i k; rw [if_neg k]; split at h
  ·rename_i k; rw [if_pos k]; exact Py h64 h1 (by omega) (FU h 0).1
  ·rename_i k; rw [if_neg k]; split at h
   ·rename_i k; rw [if_pos k]; exact Py h64 h1 (by omega) (GH h).1
   ·rename_i k; rw [if_neg k]; split at h
    ·rename_i k; rw [if_pos k]; exact Py h64 h1 (by omega) (CV h).1
    ·rename_i k; rw [if_neg k]; split at h
     ·rename_i k; rw [if_pos k]; exact Gy h64 (by omega) h2 (Ck h 0).1
     ·rename_i k; rw [if_neg k]; split at h
      ·rename_i k; rw [if_pos k]; exact Gy h64 (by omega) h2 (FV h 0).1
      ·rename_i k; rw [if_neg k]; split at h
       ·rename_i k; rw [if_pos k]; exact Gy h64 (by omega) h2 (GI h)
       ·rename_i k; rw [if_neg k]; split at h
        ·rename_i k; rw [if_pos k]; exact Gy h64 (by omega) h2 (tZ (by omega) h)
        ·rename_i k; rw [if_neg k]; split at h
         ·rename_i k; rw [if_pos k]; exact Gy h64 (by omega) h2 (Ah h)
         ·rename_i k; rw [if_neg k]; exact Gy h64 (by omega) h2 (tZ (by omega) h)
theorem TI {s:StateD} {i:Int} (hi:0<=i/\i < (s.chs.length:Int)) {d:ByteArray} (h:oZ d (ji i)=true):∃ j:Nat,j < s.chs.length/\oZ d (ji j)=true :=
 ⟨i.toNat,by omega,by rw [show ((i.toNat:Nat):Int)=i by omega]; exact h⟩
theorem JJ {s:StateD} (h:bB s.pus) {k:Int} (hk:14<=k/\k<=17) {ch:Int} (hi:0<=ch/\ch < (s.chs.length:Int)) {t:gV} (he:(kR s.pus ch t).2=0):Dz s k (kR s.pus ch t).1:=by
 intro d
 unfold kR at he ⊢
 split at he
 ·rename_i hp
  rw [if_pos hp]
  have:=(burn_ok h he).2.2 d
  by_cases hd:t.d=d
  ·subst hd; exact .inr ⟨hk,TI hi hp⟩
  ·rw [if_neg hd] at this; exact .inl (by omega)
 ·rename_i hp
  rw [if_neg hp]
  exact .inl ((xz h he).2.2 d)
theorem P_ {s:StateD} (h:bB s.pus) {k:Int} (hk:14<=k/\k<=17) {ch:Int} (hi:0<=ch/\ch < (s.chs.length:Int)) {t:gV} (he:(lu s.pus ch t).2=0):Dz s k (lu s.pus ch t).1:=by
 intro d
 unfold lu at he ⊢
 split at he
 ·rename_i hp
  rw [if_pos hp]
  have:=(mint_ok h he).2.1 d
  by_cases hd:t.d=d
  ·subst hd; exact .inr ⟨hk,TI hi hp⟩
  ·rw [if_neg hd] at this; exact .inl (by omega)
 ·rename_i hp
  rw [if_neg hp]
  exact .inl ((xz h he).2.2 d)
theorem Px {s:StateD} (h:bB s.pus) {k:Int} (hk:14<=k/\k<=17) {ch other:Int} (hi:0<=ch/\ch < (s.chs.length:Int)) {t:gV} (he:(uI s.pus ch other t).2=0):Dz s k (uI s.pus ch other t).1:=by
 intro d
 unfold uI at he ⊢
 split at he
 ·rename_i hp
  rw [if_pos hp]
  exact .inl ((xz h he).2.2 d)
 ·rename_i hp
  rw [if_neg hp]
  have:=(mint_ok h he).2.1 d
  by_cases hd:ji ch++t.d=d
  ·subst hd; exact .inr ⟨hk,TI hi (OZ _ _)⟩
  ·rw [if_neg hd] at this; exact .inl (by omega)
theorem NL {s:StateD} {m:MsgD} (h64:P64 s.pus) (hk:m.kind=14) (h:(GX s m).2.2=0):ApStep s m (GX s m).1:=by
 unfold GX at h ⊢
 simp only at h ⊢
 split at h
 ·rename_i h1
  rw [if_pos h1]
  split at h
  ·cases h
  ·rename_i h2
   rw [if_neg h2]
   split at h
   ·rename_i h3
    rw [if_pos h3]
    have hr:=rT.1 h3
    have hst:=Ip hr
    obtain ⟨ok,hi,_⟩:=endPk_ok hr.en
    rw [rU hr] at h ⊢
    by_cases h4:(kR s.pus m.ed (bF (fq m.tr)).1).2=0
    ·have e:∀ q,(Bn s m.ed q).pus=s.pus:=fun _=>rfl
     simp only [e] at h ⊢
     rw [if_pos h4]
     have hk2:14<=m.kind/\m.kind<=17:=by omega
     exact Oa hk2 hst (Cg (bT ok h64) ..) (JJ (bT ok h64) hk2 hi h4)
    ·have e:∀ q,(Bn s m.ed q).pus=s.pus:=fun _=>rfl
     simp only [e] at h
     rw [if_neg h4] at h
     simp only at h; omega
   ·exact absurd h ‹_›
 ·exact absurd h ‹_›
theorem NW {s:StateD} {m:MsgD} (ok:StOk s) (h64:P64 s.pus) (hk:m.kind=15) (h:(Nb s m).2=0):ApStep s m (Nb s m).1:=by
 unfold Nb at h ⊢
 simp only at h ⊢
 split at h
 ·rename_i h3
  rw [if_pos h3]
  have hr:=Bo.1 h3
  have hst:=IA hr
  obtain ⟨_,hi,_⟩:=endPk_ok hr.en
  have hk2:14<=m.kind/\m.kind<=17:=by omega
  have hs:bB (Ve s m.pk).2/\Dz s m.kind (Ve s m.pk).2:=by
   unfold Ve
   simp only
   split
   ·split
    ·rename_i he
     exact ⟨Gu (bT ok h64) ..,Px (bT ok h64) hk2 hi he⟩
    ·exact ⟨bT ok h64,lG s _⟩
   ·exact ⟨bT ok h64,lG s _⟩
  rw [Bp hr]
  exact Oa hk2 hst hs.1 hs.2
 ·exact absurd h ‹_›
theorem zt {s:StateD} {m:MsgD} (h64:P64 s.pus) (hk:16<=m.kind/\m.kind<=17) {c:ChanD} (hp:uA s m.pk) (hc:ChOk c) (back:Bool)
  (h:(if (bF m.pk.data).2=0/\back=true then (if (lu (jG s m.pk c).pus m.pk.fr (bF m.pk.data).1).2=0 then (({ jG s m.pk c with pus:=(lu (jG s m.pk c).pus m.pk.fr (bF m.pk.data).1).1 },0):StateD × Int) else (s,((lu (jG s m.pk c).pus m.pk.fr (bF m.pk.data).1).2:Int))) else (jG s m.pk c,0)).2=0) :
  ApStep s m (if (bF m.pk.data).2=0/\back=true then (if (lu (jG s m.pk c).pus m.pk.fr (bF m.pk.data).1).2=0 then (({ jG s m.pk c with pus:=(lu (jG s m.pk c).pus m.pk.fr (bF m.pk.data).1).1 },0):StateD × Int) else (s,((lu (jG s m.pk c).pus m.pk.fr (bF m.pk.data).1).2:Int))) else (jG s m.pk c,0)).1:=by
 have hst:=KF hp hc
 obtain ⟨ok,hi,_⟩:=endPk_ok hp.en
 have hk2:14<=m.kind/\m.kind<=17:=by omega
 split at h
 ·rename_i h1
  rw [if_pos h1]
  split at h
  ·rename_i h2
   rw [if_pos h2]
   exact Oa hk2 hst (GG (bT ok h64) ..) (P_ (bT ok h64) hk2 hi h2)
  ·rename_i h2; simp only at h; omega
 ·rename_i h1
  rw [if_neg h1]
  have:=Oa hk2 hst (bT ok h64) (lG s _)
  exact this
theorem NN {s:StateD} {m:MsgD} (h64:P64 s.pus) (hk:16<=m.kind/\m.kind<=17) (h:(Na s m).2=0):ApStep s m (Na s m).1:=by
 unfold Na at h ⊢
 by_cases k1:m.kind=16
 ·simp only [if_pos k1] at h ⊢
  by_cases h2:(qb s m.pk m.ack m.sh).2=0
  ·obtain ⟨hp,c,hc,_,_,_,he⟩:=ackPk_zero h2
   rw [if_pos h2] at h ⊢
   rw [he] at h ⊢
   exact zt h64 hk hp hc _ h
  ·rw [if_neg h2] at h; exact absurd h h2
 ·simp only [if_neg k1] at h ⊢
  by_cases h2:(jE s m.pk m.next m.sh).2=0
  ·obtain ⟨hp,c,hc,_,_,_,he⟩:=latePk_zero h2
   rw [if_pos h2] at h ⊢
   rw [he] at h ⊢
   have h2:=zt h64 hk hp hc true (by simpa only [and_true] using h)
   simpa only [and_true] using h2
  ·rw [if_neg h2] at h; exact absurd h h2
theorem Pb {s:StateD} {m:MsgD} (ok:StOk s) (h64:P64 s.pus) (hk:m.kind=18) (h:(Ni s m.tr).2=0):ApStep s m (Ni s m.tr).1:=by
 unfold Ni at h ⊢
 generalize bF (fq m.tr)=q at *
 simp only at h ⊢
 by_cases h1:q.2=0
 ·rw [if_pos h1] at h ⊢
  by_cases h2:j_ q.1.s=true\/j_ q.1.r=true
  ·rw [if_pos h2] at h; cases h
  ·rw [if_neg h2] at h ⊢
   by_cases h3:(kv s.pus q.1.s q.1.r q.1.d q.1.n).2=0
   ·rw [if_pos h3]
    have hr:=lN (bT ok h64) q.1.s q.1.r q.1.d q.1.n
    have hm:=(xz (bT ok h64) h3).2.2
    refine ⟨ok.pu hr,hr.p64,rfl,rfl,rfl,?_,fun d=>.inl (hm d)⟩
    rw [if_neg (by omega),if_neg (by omega),if_neg (by omega),if_pos hk]
   ·rw [if_neg h3] at h
    simp only at h; omega
 ·rw [if_neg h1] at h; exact absurd h h1
theorem Af {s:StateD} {m:MsgD} (ok:StOk s) (h64:P64 s.pus) (h:(ET s m).2.err=0):ApStep s m (ET s m).1:=by
 unfold ET at h ⊢
 split at h
 ·cases h
 ·rename_i k0; rw [if_neg k0]; split at h
  ·rename_i k; rw [if_pos k]; exact PK ok h64 k h
  ·rename_i k3; rw [if_neg k3]; split at h
   ·rename_i k; rw [if_pos k]; exact Pj h64 k3 k h
   ·rename_i k4; rw [if_neg k4]; split at h
    ·rename_i k; rw [if_pos k]; exact NL h64 k h
    ·rename_i k5; rw [if_neg k5]; split at h
     ·rename_i k; rw [if_pos k]; exact NW ok h64 k h
     ·rename_i k6; rw [if_neg k6]; split at h
      ·rename_i k; rw [if_pos k]; exact Pb ok h64 k h
      ·rename_i k7; rw [if_neg k7]; exact NN h64 (by omega) h
theorem doS_done {s:StateD} {m:MsgD} (h:(doS s m).2.err=0):StOk s/\(ET s m).2.err=0/\doS s m=ET s m:=by
 unfold doS at h ⊢
 split at h
 ·rename_i k; rw [if_pos k]; split at h
  ·rename_i k2; rw [if_pos k2]; exact ⟨aG.1 k,k2,rfl⟩
  ·rename_i k2; exact absurd h k2
 ·exact absurd h ‹_›
theorem doS_step {s:StateD} {m:MsgD} (h64:P64 s.pus) (h:(doS s m).2.err=0):ApStep s m (doS s m).1:=by
 obtain ⟨ok,h0,e⟩:=doS_done h
 rw [e]; exact Af ok h64 h0
theorem XQ (s:StateD) (hs:StSm s) (h64:P64 s.pus) (m:MsgD) (hm:oh m):PureD Tryz.prog 35 [stateD s,WE m] (.tup [stateD (doS s m).1,yj (doS s m).2]):=by
 refine aj fun R hR=>?_
 have c1:=gI s hs
 unfold doS at hR
 by_cases h:bg s=0
 ·have ok:=aG.1 h
  rw [h] at c1
  rw [if_pos h] at hR
  have c2:=Ih s hs
  have c3:(ET s m).2.err=0->PureD Tryz.prog 34 [stateD (ET s m).1] (stateD (ET s m).1):=fun e=>Ih _ (Af ok h64 e).ok.sm
  by_cases e:(ET s m).2.err=0
  ·rw [if_pos e] at hR
   have c3:=c3 e
   unfold ET at hR e c3
   by_cases k0:m.kind < 1\/18 < m.kind
   ·rw [if_pos k0] at hR e c3
    try simp only [dE] at hR e c3
    exact absurd e (by decide)
   ·rw [if_neg k0] at hR e c3
    by_cases k1:m.kind<=3
    ·rw [if_pos k1] at hR e c3
     have c4:=Ai s ok m hm
     generalize PL s m=X at *
     try simp only [dE] at hR e c3
     clear hs ok hm h h64
     refine aa 99 Tryz.func35 rfl rfl rfl (fun _ _=>rfl) ?_
     exact wkl trivial
    ·rw [if_neg k1] at hR e c3
     by_cases k2:m.kind<=13
     ·rw [if_pos k2] at hR e c3
      have c4:=QW s hs m
      generalize endA s m=X at *
      try simp only [dE] at hR e c3
      clear hs ok hm h h64
      refine aa 99 Tryz.func35 rfl rfl rfl (fun _ _=>rfl) ?_
      exact wkl trivial
     ·rw [if_neg k2] at hR e c3
      by_cases k3:m.kind=14
      ·rw [if_pos k3] at hR e c3
       have c4:=Fz s hs h64 m hm
       generalize GX s m=X at *
       try simp only [dE] at hR e c3
       clear hs ok hm h h64
       refine aa 99 Tryz.func35 rfl rfl rfl (fun _ _=>rfl) ?_
       exact wkl trivial
      ·rw [if_neg k3] at hR e c3
       by_cases k4:m.kind=15
       ·rw [if_pos k4] at hR e c3
        have c4:=FB s ok h64 m hm
        generalize Nb s m=X at *
        try simp only [dE] at hR e c3
        clear hs ok hm h h64
        refine aa 99 Tryz.func35 rfl rfl rfl (fun _ _=>rfl) ?_
        exact wkl trivial
       ·rw [if_neg k4] at hR e c3
        by_cases k5:m.kind=18
        ·rw [if_pos k5] at hR e c3
         have c4:=FC s ok h64 m.tr hm.tn hm.td hm.ts hm.tr
         generalize Ni s m.tr=X at *
         try simp only [dE] at hR e c3
         clear hs ok hm h h64
         refine aa 99 Tryz.func35 rfl rfl rfl (fun _ _=>rfl) ?_
         exact wkl trivial
        ·rw [if_neg k5] at hR e c3
         have c4:=vD s ok h64 m hm
         generalize Na s m=X at *
         try simp only [dE] at hR e c3
         clear hs ok hm h h64
         refine aa 99 Tryz.func35 rfl rfl rfl (fun _ _=>rfl) ?_
         exact wkl trivial
  ·rw [if_neg e] at hR
   clear c3
   unfold ET at hR e
   by_cases k0:m.kind < 1\/18 < m.kind
   ·rw [if_pos k0] at hR e
    try simp only [dE] at hR e
    clear hs ok hm h h64
    refine aa 99 Tryz.func35 rfl rfl rfl (fun _ _=>rfl) ?_
    exact wkl trivial
   ·rw [if_neg k0] at hR e
    by_cases k1:m.kind<=3
    ·rw [if_pos k1] at hR e
     have c4:=Ai s ok m hm
     generalize PL s m=X at *
     try simp only [dE] at hR e
     clear hs ok hm h h64
     refine aa 99 Tryz.func35 rfl rfl rfl (fun _ _=>rfl) ?_
     exact wkl trivial
    ·rw [if_neg k1] at hR e
     by_cases k2:m.kind<=13
     ·rw [if_pos k2] at hR e
      have c4:=QW s hs m
      generalize endA s m=X at *
      try simp only [dE] at hR e
      clear hs ok hm h h64
      refine aa 99 Tryz.func35 rfl rfl rfl (fun _ _=>rfl) ?_
      exact wkl trivial
     ·rw [if_neg k2] at hR e
      by_cases k3:m.kind=14
      ·rw [if_pos k3] at hR e
       have c4:=Fz s hs h64 m hm
       generalize GX s m=X at *
       try simp only [dE] at hR e
       clear hs ok hm h h64
       refine aa 99 Tryz.func35 rfl rfl rfl (fun _ _=>rfl) ?_
       exact wkl trivial
      ·rw [if_neg k3] at hR e
       by_cases k4:m.kind=15
       ·rw [if_pos k4] at hR e
        have c4:=FB s ok h64 m hm
        generalize Nb s m=X at *
        try simp only [dE] at hR e
        clear hs ok hm h h64
        refine aa 99 Tryz.func35 rfl rfl rfl (fun _ _=>rfl) ?_
        exact wkl trivial
       ·rw [if_neg k4] at hR e
        by_cases k5:m.kind=18
        ·rw [if_pos k5] at hR e
         have c4:=FC s ok h64 m.tr hm.tn hm.td hm.ts hm.tr
         generalize Ni s m.tr=X at *
         try simp only [dE] at hR e
         clear hs ok hm h h64
         refine aa 99 Tryz.func35 rfl rfl rfl (fun _ _=>rfl) ?_
         exact wkl trivial
        ·rw [if_neg k5] at hR e
         have c4:=vD s ok h64 m hm
         generalize Na s m=X at *
         try simp only [dE] at hR e
         clear hs ok hm h h64
         refine aa 99 Tryz.func35 rfl rfl rfl (fun _ _=>rfl) ?_
         exact wkl trivial
 ·rw [if_neg h] at hR
  generalize bg s=W at *
  clear hs hm h64
  refine aa 99 Tryz.func35 rfl rfl rfl (fun _ _=>rfl) ?_
  exact wkl trivial
theorem Qb (s:StateD) (hs:StSm s) (later:Int):PureD Tryz.prog 30 [stateD s,intD later] (.tup [stateD (jh s later).1,intD (jh s later).2]):=by
 refine aj fun R hR=>?_
 have c1:=gI s hs
 unfold jh at hR
 by_cases h:bg s=0
 ·have ok:=aG.1 h
  have hh:=ok.h
  have ht:=ok.t
  have e1:=jW s hs
  rw [h] at c1
  rw [if_pos h] at hR
  unfold N12 at hh ht
  have w2:IntKind.i64.wrap (s.h+1)=s.h+1:=ay (by omega) (by omega)
  clear ok h hs
  by_cases h1:later < 1\/1000000000000 < later
  ·rw [if_pos (by omega)] at hR
   clear e1
   refine aa 45 Tryz.func30 rfl rfl rfl (fun _ _=>rfl) ?_
   exact wkl trivial
  ·have w1:IntKind.i64.wrap (s.t+later)=s.t+later:=ay (by omega) (by omega)
   by_cases h2:later < 1\/1000000000000 < later\/1000000000000 < s.t+later\/s.h=1000000000000
   ·rw [if_pos h2] at hR
    clear e1
    refine aa 45 Tryz.func30 rfl rfl rfl (fun _ _=>rfl) ?_
    exact wkl trivial
   ·rw [if_neg h2] at hR
    refine aa 45 Tryz.func30 rfl rfl rfl (fun _ _=>rfl) ?_
    exact wkl trivial
 ·rw [if_neg h] at hR
  generalize bg s=W at *
  clear hs
  refine aa 45 Tryz.func30 rfl rfl rfl (fun _ _=>rfl) ?_
  exact wkl trivial
end Go.Proofs.YtkbbipgjmoanhaaGreatDoor
