/- Merged texts: ApP, ApA, ApB, ApD, ApE, ApL, ApF, Law13A. -/
import Derived.Test.YtfenipelcpmkpaaGreatDoorGPk
import Derived.Test.YtfenipelcpmkpaaGreatDoorGHs
import Derived.Test.YtfenipelcpmkpaaGreatDoorBkR
import Derived.Test.YtfenipelcpmkpaaGreatDoorClM
set_option linter.all false
set_option maxHeartbeats 16000000
set_option maxRecDepth 20000
namespace Go.Proofs.YtfenipelcpmkpaaGreatDoor
open Go Go.Abs
structure MsgD where
 kind:Int
 chain:ByteArray
 trust:Int
 kn:aS
 cl:Int
 up:zu
 up2:zu
 other:Int
 oend:Int
 ed:Int
 ord:Bool
 sh:bP
 tr:iw
 tout:Int
 next:Int
 pk:dW
 ack:List UInt8
def encMsg (m:MsgD):List I:=[.s (.int .i64 m.kind),.s (.string m.chain),.s (.int .i64 m.trust),.s (.int .i64 m.kn.h),.s (.int .i64 m.kn.t),bI m.kn.root,bI m.kn.next,.s (.int .i64 m.cl),
 .s (.int .i64 m.up.fr),.s (.string m.up.sg.hdr.c),.s (.int .i64 m.up.sg.hdr.h),.s (.int .i64 m.up.sg.hdr.t),bI m.up.sg.hdr.root,bI m.up.sg.hdr.vals,bI m.up.sg.hdr.next,valsI m.up.sg.vals,votesI m.up.sg.votes,valsI m.up.tr,
 .s (.int .i64 m.up2.fr),.s (.string m.up2.sg.hdr.c),.s (.int .i64 m.up2.sg.hdr.h),.s (.int .i64 m.up2.sg.hdr.t),bI m.up2.sg.hdr.root,bI m.up2.sg.hdr.vals,bI m.up2.sg.hdr.next,valsI m.up2.sg.vals,votesI m.up2.sg.votes,valsI m.up2.tr,
 .s (.int .i64 m.other),.s (.int .i64 m.oend),.s (.int .i64 m.ed),.s (.bool m.ord),
 .s (.int .i64 m.sh.h),.s (.int .i64 m.sh.p.i),.s (.int .i64 m.sh.p.n),bI m.sh.p.k,bI m.sh.p.v,bbI m.sh.p.path,.s (.bool m.sh.g.hl),.s (.bool m.sh.g.hr),
 .s (.int .i64 m.sh.g.left.i),.s (.int .i64 m.sh.g.left.n),bI m.sh.g.left.k,bI m.sh.g.left.v,bbI m.sh.g.left.path,.s (.int .i64 m.sh.g.right.i),.s (.int .i64 m.sh.g.right.n),bI m.sh.g.right.k,bI m.sh.g.right.v,bbI m.sh.g.right.path,
 .s (.string m.tr.d),.s (.int .u64 m.tr.n),.s (.string m.tr.s),.s (.string m.tr.r),.s (.int .i64 m.tout),.s (.int .i64 m.next),
 .s (.int .i64 m.pk.fr),.s (.int .i64 m.pk.de),.s (.int .i64 m.pk.seq),bI m.pk.data,.s (.int .i64 m.pk.tout),bI m.ack]
def XL (m:MsgD):D:=.agg ((encMsg m).map .i)
structure oD (m:MsgD):Prop where
 kn:aaL m.kn
 up:VF m.up
 up2:VF m.up2
 tn:m.tr.n < 18446744073709551616
 td:m.tr.d.size<=1048576
 ts:m.tr.s.size<=1048576
 tr:m.tr.r.size<=1048576
 fr:gZ m.pk.fr
 de:gZ m.pk.de
 data:m.pk.data.length<=1048576
 ack:m.ack.length<=1048576
structure lN where
 err:Int
 num:Int
 pk:dW
def Dp (d:lN):D:=.agg [.i (.s (.int .i64 d.err)),.i (.s (.int .i64 d.num)),.i (.s (.int .i64 d.pk.fr)),.i (.s (.int .i64 d.pk.de)),.i (.s (.int .i64 d.pk.seq)),.i (bI d.pk.data),.i (.s (.int .i64 d.pk.tout))]
def dE (e:Int):lN:=⟨e,0,zeroPk⟩
attribute [simp,go_sem] encMsg XL Dp dE
def kD (s:ByteArray):Bool:=qU s ⟨#[35]⟩
def Me (s:StateD) (m:MsgD):StateD × lN :=
 if m.kind=1 then
  (if (s.cls.length:Int)=4 then (s,dE 5)
  else if (Ha m.chain m.trust m.kn).2=0 then ({ s with cls:=s.cls++[(Ha m.chain m.trust m.kn).1] },⟨0,s.cls.length,zeroPk⟩) else (s,dE (Ha m.chain m.trust m.kn).2))
 else if m.cl < 0\/(s.cls.length:Int)<=m.cl then (s,dE 6)
 else
  let r:=if m.kind=2 then iF (kG s m.cl) m.up s.t else mQ (kG s m.cl) m.up m.up2 s.t
  if r.2=0 then ({ s with cls:=s.cls.set m.cl.toNat r.1 },dE 0) else (s,dE r.2)
def endA (s:StateD) (m:MsgD):StateD × Int × Int :=
 if m.kind=4 then mI s m.cl m.other
 else if m.kind=5 then uX s m.cl m.other m.oend m.sh
 else if m.kind=6 then ((ackCn s m.ed m.oend m.sh).1,0,(ackCn s m.ed m.oend m.sh).2)
 else if m.kind=7 then ((confCn s m.ed m.sh).1,0,(confCn s m.ed m.sh).2)
 else if m.kind=8 then mJ s m.ed m.ord
 else if m.kind=9 then uY s m.ed m.ord m.oend m.sh
 else if m.kind=10 then ((zo s m.ed m.oend m.sh).1,0,(zo s m.ed m.oend m.sh).2)
 else if m.kind=11 then ((je 2 3 s m.ed m.sh).1,0,(je 2 3 s m.ed m.sh).2)
 else if m.kind=12 then ((kr s m.ed).1,0,(kr s m.ed).2)
 else ((je 3 4 s m.ed m.sh).1,0,(je 3 4 s m.ed m.sh).2)
def Io (s:StateD) (m:MsgD):StateD × dW × Int :=
 let q:=bJ (fC m.tr)
 if q.2=0 then
  (if kD q.1.s=true then (s,zeroPk,7)
  else
   let r:=jK s m.ed (fC q.1) m.tout
   if r.2.2=0 then (let b:=lg r.1.pus m.ed q.1; if b.2=0 then ({ r.1 with pus:=b.1 },r.2.1,0) else (s,zeroPk,(b.2:Int))) else (s,zeroPk,r.2.2))
 else (s,zeroPk,q.2)
def Wp (s:StateD) (p:dW):List UInt8 × List aA :=
 let q:=bJ p.data
 if q.2=0/\kD q.1.r=false then (let b:=vw s.pus p.de p.fr q.1; if b.2=0 then ([49],b.1) else ([48],s.pus)) else ([48],s.pus)
def NT (s:StateD) (m:MsgD):StateD × Int :=
 let r:=kz s m.pk (Wp s m.pk).1 m.sh
 if r.2=0 then ({ r.1 with pus:=(Wp s m.pk).2 },0) else (s,r.2)
def NS (s:StateD) (m:MsgD):StateD × Int :=
 let r:=if m.kind=16 then qy s m.pk m.ack m.sh else jO s m.pk m.next m.sh
 let back:=if m.kind=16 then decide (m.ack=[48]) else true
 if r.2=0 then
  (let q:=bJ m.pk.data
  if q.2=0/\back=true then (let b:=lM r.1.pus m.pk.fr q.1; if b.2=0 then ({ r.1 with pus:=b.1 },0) else (s,(b.2:Int))) else (r.1,0))
 else (s,r.2)
def Oa (s:StateD) (t:iw):StateD × Int :=
 let q:=bJ (fC t)
 if q.2=0 then
  (if kD q.1.s=true\/kD q.1.r=true then (s,7)
  else (let b:=kM s.pus q.1.s q.1.r q.1.d q.1.n; if b.2=0 then ({ s with pus:=b.1 },0) else (s,(b.2:Int))))
 else (s,q.2)
def Bl (s:StateD) (m:MsgD):StateD × lN :=
 if m.kind < 1\/18 < m.kind then (s,dE 1)
 else if m.kind<=3 then Me s m
 else if m.kind<=13 then ((endA s m).1,⟨(endA s m).2.2,(endA s m).2.1,zeroPk⟩)
 else if m.kind=14 then ((Io s m).1,⟨(Io s m).2.2,0,(Io s m).2.1⟩)
 else if m.kind=15 then ((NT s m).1,dE (NT s m).2)
 else if m.kind=18 then ((Oa s m.tr).1,dE (Oa s m.tr).2)
 else ((NS s m).1,dE (NS s m).2)
def doS (s:StateD) (m:MsgD):StateD × lN :=
 if bu s=0 then (if (Bl s m).2.err=0 then Bl s m else (s,dE (Bl s m).2.err)) else (zeroSt,dE (bu s))
def jD (s:StateD) (later:Int):StateD × Int :=
 if bu s=0 then (if later < 1\/1000000000000 < later\/1000000000000 < s.t+later\/s.h=1000000000000 then (zeroSt,3) else ({ s with h:=s.h+1,t:=s.t+later },0)) else (zeroSt,bu s)
def Oi:zu:=⟨0,⟨⟨⟨#[]⟩,0,0,[],[],[]⟩,[],[]⟩,[]⟩
def zSh:bP:=⟨0,⟨0,0,[],[],[]⟩,⟨false,false,⟨0,0,[],[],[]⟩,⟨0,0,[],[],[]⟩⟩⟩
def r_:MsgD:=⟨0,⟨#[]⟩,0,⟨0,0,[],[]⟩,0,Oi,Oi,0,0,0,false,zSh,⟨⟨#[]⟩,0,⟨#[]⟩,⟨#[]⟩⟩,0,0,⟨0,0,0,[],0⟩,[]⟩
attribute [simp,go_sem] Oi zSh r_
theorem Es:VF Oi:=⟨⟨⟨by decide,by decide,by decide,by decide⟩,by decide,by simp,by simp⟩,by decide,by simp,by decide⟩
structure TOk (t:iw):Prop where
 d:1<=t.d.size/\t.d.size<=40
 s:1<=t.s.size/\t.s.size<=40
 r:1<=t.r.size/\t.r.size<=40
 n:0 < t.n/\t.n < 18446744073709551616
theorem words3 {a b c:ByteArray} (h:vE [a,b,c]=0):(1<=a.size/\a.size<=40)/\(1<=b.size/\b.size<=40)/\(1<=c.size/\c.size<=40):=by
 unfold vE at h
 split at h
 ·rename_i q
  simp only [List.all_cons,List.all_nil,Bool.and_true,Bool.and_eq_true,wordOk_iff] at q
  exact q
 ·cases h
theorem nW {b:List UInt8} (h:(bJ b).2=0):TOk (bJ b).1:=by
 unfold bJ at h ⊢
 by_cases he:(readF b).2=0
 ·rw [if_pos he] at h ⊢
  obtain ⟨m,e,hm⟩:∃ m e,readF b=(m,e):=⟨_,_,rfl⟩
  rw [hm] at h he ⊢
  simp only at he h ⊢
  subst he
  obtain ⟨_,hn⟩:=read_write hm
  by_cases h4:m.length=4
  ·obtain ⟨p,q,r,s,rfl⟩:=four4 m h4
   have hq:=hn q (by simp)
   simp only [Lj,Mh] at h ⊢
   split at h
   ·rename_i hk
    rw [if_pos hk]
    split at h
    ·rename_i hwd
     rw [if_pos hwd]
     split at h
     ·cases h
     ·rename_i h0
      rw [if_neg h0]
      obtain ⟨w1,w2,w3⟩:=words3 hwd
      exact ⟨w1,w2,w3,by simp only at h0 ⊢; omega⟩
    ·rename_i hne; exact absurd h hne
   ·cases h
  ·rw [FB h4] at h; cases h
 ·rw [if_neg he] at h; simp only at h; omega
def P64 (l:List aA):Prop:=∀ p∈l,p.n < 18446744073709551616
theorem cu {s:StateD} (ok:StOk s) (h:P64 s.pus):bF s.pus :=
 ⟨ok.lpus,fun p hp=>(ok.pus.all p hp).o,fun p hp=>(ok.pus.all p hp).d,fun p hp=>⟨by have:=(ok.pus.all p hp).n; omega,h p hp⟩,ok.pus.srt⟩
open Go.RowKit Go.Proofs.YtfenipelcpmkpaaGreatDoor.Ty
theorem rX (s:ByteArray):PureD Tryz.prog 217 [.i (.s (.string s))] (boolD (kD s)):=by
 refine au fun R hR=>?_
 have c1:=KX s ⟨#[35]⟩
 unfold kD at hR
 generalize qU s ⟨#[35]⟩=B at *
 refine aa 5 Tryz.func217 rfl rfl rfl (fun _ _=>rfl) ?_
 exact wkl trivial
theorem AO (s:StateD) (ok:StOk s) (m:MsgD) (hm:oD m):PureD Tryz.prog 172 [stateD s,.rp (encMsg m) 0] (.tup [stateD (Me s m).1,Dp (Me s m).2]):=by
 refine au fun R hR=>?_
 have e1:=ky s ok.sm
 have hl:=ok.lcl
 unfold Me at hR
 by_cases k1:m.kind=1
 ·rw [if_pos k1] at hR
  by_cases h4:(s.cls.length:Int)=4
  ·rw [if_pos h4] at hR
   clear ok e1 hm
   refine aa 136 Tryz.func172 rfl rfl rfl (fun _ _=>rfl) ?_
   exact wkl trivial
  ·rw [if_neg h4] at hR
   have c1:=YR m.chain m.trust m.kn hm.kn
   clear ok hm
   by_cases h5:(Ha m.chain m.trust m.kn).2=0
   ·rw [if_pos h5] at hR
    rw [h5] at c1
    generalize (Ha m.chain m.trust m.kn).1=C at *
    have m1:s.cls.map fZ++[fZ C]=(s.cls++[C]).map fZ:=by simp
    have m2:s.cls.length+1=(s.cls++[C]).length:=by simp
    simp only [fZ,lh] at m1
    generalize s.cls++[C]=L at *
    clear h5
    refine aa 136 Tryz.func172 rfl rfl rfl (fun _ _=>rfl) ?_
    exact wkl trivial
   ·rw [if_neg h5] at hR
    generalize Ha m.chain m.trust m.kn=C at *
    clear e1
    refine aa 136 Tryz.func172 rfl rfl rfl (fun _ _=>rfl) ?_
    exact wkl trivial
 ·rw [if_neg k1] at hR
  by_cases h4:m.cl < 0\/(s.cls.length:Int)<=m.cl
  ·rw [if_pos h4] at hR
   clear ok e1 hm
   refine aa 136 Tryz.func172 rfl rfl rfl (fun _ _=>rfl) ?_
   exact wkl trivial
  ·rw [if_neg h4] at hR
   have hi:m.cl.toNat < s.cls.length:=by omega
   have hc:=(ok.cls _ (List.getElem_mem hi)).len
   rw [(eT (s:=s) (i:=m.cl) (by omega)).1] at hR
   have s0:=aF (f:=fZ) hi
   have c1:=Ml (s.cls[m.cl.toNat]'hi) m.up s.t (by omega) hm.up
   have c2:=QG (s.cls[m.cl.toNat]'hi) m.up m.up2 s.t (by omega) hm.up hm.up2
   have s1:=fun x=>List.getElem?_set_self (l:=s.cls.map fZ) (i:=m.cl.toNat) (a:=x) (by simpa using hi)
   have s2:∀ x y,((s.cls.map fZ).set m.cl.toNat x).set m.cl.toNat y=(s.cls.map fZ).set m.cl.toNat y:=fun x y=>List.set_set x
   have s3:∀ C,(s.cls.map fZ).set m.cl.toNat (fZ C)=(s.cls.set m.cl.toNat C).map fZ:=fun C=>List.map_set.symm
   have s4:∀ C,(s.cls.set m.cl.toNat C).length=s.cls.length:=fun C=>by simp
   clear ok hm
   generalize s.cls[m.cl.toNat]=x at *
   by_cases k2:m.kind=2
   ·simp only [if_pos k2] at hR
    clear c2
    by_cases h5:(iF x m.up s.t).2=0
    ·rw [if_pos h5] at hR
     rw [h5] at c1
     generalize (iF x m.up s.t).1=C at *
     have s5:=(s4 C).symm
     have s3:=s3 C
     simp only [fZ,lh] at s3
     clear s4
     generalize s.cls.set m.cl.toNat C=L at *
     refine aa 136 Tryz.func172 rfl rfl rfl (fun _ _=>rfl) ?_
     exact wkl trivial
    ·rw [if_neg h5] at hR
     generalize iF x m.up s.t=C at *
     clear e1 s1 s2 s3 s4
     refine aa 136 Tryz.func172 rfl rfl rfl (fun _ _=>rfl) ?_
     exact wkl trivial
   ·simp only [if_neg k2] at hR
    clear c1
    by_cases h5:(mQ x m.up m.up2 s.t).2=0
    ·rw [if_pos h5] at hR
     rw [h5] at c2
     generalize (mQ x m.up m.up2 s.t).1=C at *
     have s5:=(s4 C).symm
     have s3:=s3 C
     simp only [fZ,lh] at s3
     clear s4
     generalize s.cls.set m.cl.toNat C=L at *
     refine aa 136 Tryz.func172 rfl rfl rfl (fun _ _=>rfl) ?_
     exact wkl trivial
    ·rw [if_neg h5] at hR
     generalize mQ x m.up m.up2 s.t=C at *
     clear e1 s1 s2 s3 s4
     refine aa 136 Tryz.func172 rfl rfl rfl (fun _ _=>rfl) ?_
     exact wkl trivial
theorem Sn (s:StateD) (hs:StSm s) (m:MsgD):PureD Tryz.prog 173 [stateD s,.rp (encMsg m) 0] (.tup [stateD (endA s m).1,intD (endA s m).2.1,intD (endA s m).2.2]):=by
 refine au fun R hR=>?_
 have c1:=PS s hs m.cl m.other
 have c2:=SV s hs m.cl m.other m.oend m.sh
 have c3:=VA s hs m.ed m.oend m.sh
 have c4:=Qq s hs m.ed m.sh
 have c5:=PT s hs m.ed m.ord
 have c6:=SX s hs m.ed m.ord m.oend m.sh
 have c7:=VB s hs m.ed m.oend m.sh
 have c8:=Qr s hs m.ed m.sh
 have c9:=Hy s hs m.ed m.sh
 have c10:=Md s hs m.ed
 unfold endA at hR
 generalize mI s m.cl m.other=A1 at *
 generalize uX s m.cl m.other m.oend m.sh=A2 at *
 generalize ackCn s m.ed m.oend m.sh=A3 at *
 generalize confCn s m.ed m.sh=A4 at *
 generalize mJ s m.ed m.ord=A5 at *
 generalize uY s m.ed m.ord m.oend m.sh=A6 at *
 generalize zo s m.ed m.oend m.sh=A7 at *
 generalize je 2 3 s m.ed m.sh=A8 at *
 generalize je 3 4 s m.ed m.sh=A9 at *
 generalize kr s m.ed=A10 at *
 clear hs
 refine aa 183 Tryz.func173 rfl rfl rfl (fun _ _=>rfl) ?_
 exact wkl trivial
theorem qd (t:iw):(fC t).length<=1048576:=by have:=lQ (RJ t); unfold fC; omega
theorem Gh (s:StateD) (hs:StSm s) (h64:P64 s.pus) (m:MsgD) (hm:oD m):PureD Tryz.prog 174 [stateD s,.rp (encMsg m) 0] (.tup [stateD (Io s m).1,Af (Io s m).2.1,intD (Io s m).2.2]):=by
 refine au fun R hR=>?_
 have c1:=DW m.tr hm.tn hm.td hm.ts hm.tr
 have c2:=xu (fC m.tr) (qd _)
 unfold Io at hR
 by_cases h1:(bJ (fC m.tr)).2=0
 ·have ht:=nW h1
  simp only [if_pos h1] at hR
  rw [h1] at c2
  generalize fC m.tr=B at *
  generalize (bJ B).1=t at *
  have c3:=rX t.s
  cases hsf:kD t.s
  ·rw [hsf] at c3 hR
   simp only [Bool.false_eq_true,if_false] at hR
   have d1:=ht.d
   have d2:=ht.s
   have d3:=ht.r
   have c4:=DW t ht.n.2 (by omega) (by omega) (by omega)
   have c5:=OP s hs m.ed (fC t) (qd _) m.tout
   by_cases h2:(jK s m.ed (fC t) m.tout).2.2=0
   ·rw [if_pos h2] at hR
    rw [h2] at c5
    have hr:=sJ.1 h2
    obtain ⟨ok,hi,_⟩:=endPk_ok hr.en
    have hp:(jK s m.ed (fC t) m.tout).1.pus=s.pus:=by rw [sK hr]; rfl
    have hl:=ok.lch
    have c6:=Uf s.pus (cu ok h64) m.ed (by unfold gZ; omega) t ht.n.2
    rw [<- hp] at c6
    clear hp hr ok h2 d1 d2 d3 ht h1 hs h64 hm
    generalize fC t=B2 at *
    generalize jK s m.ed B2 m.tout=A at *
    generalize lg A.1.pus m.ed t=L at *
    refine aa 72 Tryz.func174 rfl rfl rfl (fun _ _=>rfl) ?_
    exact wkl trivial
   ·rw [if_neg h2] at hR
    clear d1 d2 d3 ht h1 hs h64 hm
    generalize fC t=B2 at *
    generalize jK s m.ed B2 m.tout=A at *
    refine aa 72 Tryz.func174 rfl rfl rfl (fun _ _=>rfl) ?_
    exact wkl trivial
  ·rw [hsf] at c3 hR
   simp only [if_true] at hR
   clear ht h1 hs h64 hm
   refine aa 72 Tryz.func174 rfl rfl rfl (fun _ _=>rfl) ?_
   exact wkl trivial
 ·simp only [if_neg h1] at hR
  clear hs h64 hm
  generalize fC m.tr=B at *
  generalize bJ B=Q at *
  refine aa 72 Tryz.func174 rfl rfl rfl (fun _ _=>rfl) ?_
  exact wkl trivial
theorem Gj (s:StateD) (ok:StOk s) (h64:P64 s.pus) (t0:iw) (h0:t0.n < 18446744073709551616) (h01:t0.d.size<=1048576) (h02:t0.s.size<=1048576) (h03:t0.r.size<=1048576) :
  PureD Tryz.prog 176 [stateD s,trD t0] (.tup [stateD (Oa s t0).1,intD (Oa s t0).2]):=by
 refine au fun R hR=>?_
 have c1:=DW t0 h0 h01 h02 h03
 have c2:=xu (fC t0) (qd _)
 unfold Oa at hR
 by_cases h1:(bJ (fC t0)).2=0
 ·have ht:=nW h1
  simp only [if_pos h1] at hR
  rw [h1] at c2
  generalize fC t0=B at *
  generalize (bJ B).1=t at *
  have c3:=rX t.s
  have c4:=rX t.r
  have c5:=Ff s.pus (cu ok h64) t.s t.r t.d t.n ht.n.2
  have e1:=ky s ok.sm
  simp only [sD,wD,ek] at c5
  clear ht h1 ok h64
  generalize kM s.pus t.s t.r t.d t.n=L at *
  generalize kD t.s=p1 at *
  generalize kD t.r=p2 at *
  cases p1
  all_goals
   cases p2
   all_goals
    simp only [Bool.false_eq_true,if_false,if_true,true_or,or_true,or_false,or_self] at hR
    refine aa 49 Tryz.func176 rfl rfl rfl (fun _ _=>rfl) ?_
    exact wkl trivial
 ·simp only [if_neg h1] at hR
  clear ok h64
  generalize fC t0=B at *
  generalize bJ B=Q at *
  refine aa 49 Tryz.func176 rfl rfl rfl (fun _ _=>rfl) ?_
  exact wkl trivial
theorem Gi (s:StateD) (ok:StOk s) (h64:P64 s.pus) (m:MsgD) (hm:oD m):PureD Tryz.prog 175 [stateD s,.rp (encMsg m) 0] (.tup [stateD (NT s m).1,intD (NT s m).2]):=by
 refine au fun R hR=>?_
 have c1:=xu m.pk.data hm.data
 have c4:=EM s ok.sm m.pk hm.data [49] (by simp) m.sh
 have c5:=EM s ok.sm m.pk hm.data [48] (by simp) m.sh
 unfold NT Wp at hR
 by_cases h1:(bJ m.pk.data).2=0
 ·have ht:=nW h1
  have d1:=ht.d
  have c2:=rX (bJ m.pk.data).1.r
  have c3:=YO s.pus (cu ok h64) m.pk.de m.pk.fr hm.de hm.fr (bJ m.pk.data).1 ht.n.2 (by omega)
  simp only [h1,true_and] at hR
  rw [h1] at c1
  clear ht d1 h1 hm h64
  generalize (bJ m.pk.data).1=t at *
  generalize vw s.pus m.pk.de m.pk.fr t=L at *
  generalize kD t.r=p1 at *
  cases p1
  ·simp only [if_true] at hR
   by_cases h2:L.2=0
   ·simp only [if_pos h2] at hR
    rw [h2] at c3
    generalize kz s m.pk [49] m.sh=X at *
    clear c5
    refine aa 75 Tryz.func175 rfl rfl rfl (fun _ _=>rfl) ?_
    exact wkl trivial
   ·simp only [if_neg h2] at hR
    generalize kz s m.pk [48] m.sh=X at *
    clear c4
    refine aa 75 Tryz.func175 rfl rfl rfl (fun _ _=>rfl) ?_
    exact wkl trivial
  ·simp only [Bool.true_eq_false,if_false] at hR
   generalize kz s m.pk [48] m.sh=X at *
   clear c4 c3
   refine aa 75 Tryz.func175 rfl rfl rfl (fun _ _=>rfl) ?_
   exact wkl trivial
 ·simp only [h1,false_and,if_false] at hR
  generalize bJ m.pk.data=Q at *
  generalize kz s m.pk [48] m.sh=X at *
  clear c4 hm h64
  refine aa 75 Tryz.func175 rfl rfl rfl (fun _ _=>rfl) ?_
  exact wkl trivial
theorem vW (s:StateD) (ok:StOk s) (h64:P64 s.pus) (m:MsgD) (hm:oD m):PureD Tryz.prog 177 [stateD s,.rp (encMsg m) 0] (.tup [stateD (NS s m).1,intD (NS s m).2]):=by
 refine au fun R hR=>?_
 have c1:=xu m.pk.data hm.data
 unfold NS at hR
 by_cases k1:m.kind=16
 ·simp only [if_pos k1] at hR
  have c2:=gD m.ack [48]
  have c3:=Vz s ok.sm m.pk hm.data m.ack hm.ack m.sh
  by_cases h2:(qy s m.pk m.ack m.sh).2=0
  ·obtain ⟨hp,c,_,_,_,_,he⟩:=ackPk_zero h2
   have hpu:(qy s m.pk m.ack m.sh).1.pus=s.pus:=by rw [he]; rfl
   have hfr:=hp.pk.fr
   simp only [if_pos h2] at hR
   rw [h2] at c3
   by_cases h1:(bJ m.pk.data).2=0
   ·have ht:=nW h1
    have c4:=SA s.pus (cu ok h64) m.pk.fr (by unfold N12 at hfr; unfold gZ; omega) (bJ m.pk.data).1 ht.n.2
    rw [<- hpu] at c4
    simp only [h1,true_and] at hR
    rw [h1] at c1
    clear ht h1 hm h64 hp he hpu hfr h2 ok
    generalize (bJ m.pk.data).1=t at *
    generalize qy s m.pk m.ack m.sh=X at *
    generalize lM X.1.pus m.pk.fr t=L at *
    by_cases hq:m.ack=[48]
    ·simp only [decide_eq_true hq,if_true] at hR c2
     refine aa 95 Tryz.func177 rfl rfl rfl (fun _ _=>rfl) ?_
     exact wkl trivial
    ·simp only [decide_eq_false hq,Bool.false_eq_true,if_false] at hR c2
     refine aa 95 Tryz.func177 rfl rfl rfl (fun _ _=>rfl) ?_
     exact wkl trivial
   ·simp only [h1,false_and,if_false] at hR
    clear hm h64 hp he hpu hfr h2 ok
    generalize bJ m.pk.data=Q at *
    generalize qy s m.pk m.ack m.sh=X at *
    generalize decide (m.ack=[48])=E at *
    refine aa 95 Tryz.func177 rfl rfl rfl (fun _ _=>rfl) ?_
    exact wkl trivial
  ·simp only [if_neg h2] at hR
   clear hm h64 ok
   generalize qy s m.pk m.ack m.sh=X at *
   generalize decide (m.ack=[48])=E at *
   generalize bJ m.pk.data=Q at *
   refine aa 95 Tryz.func177 rfl rfl rfl (fun _ _=>rfl) ?_
   exact wkl trivial
 ·simp only [if_neg k1] at hR
  have c3:=Px s ok.sm m.pk hm.data m.next m.sh
  by_cases h2:(jO s m.pk m.next m.sh).2=0
  ·obtain ⟨hp,c,_,_,_,_,he⟩:=latePk_zero h2
   have hpu:(jO s m.pk m.next m.sh).1.pus=s.pus:=by rw [he]; rfl
   have hfr:=hp.pk.fr
   simp only [if_pos h2] at hR
   rw [h2] at c3
   by_cases h1:(bJ m.pk.data).2=0
   ·have ht:=nW h1
    have c4:=SA s.pus (cu ok h64) m.pk.fr (by unfold N12 at hfr; unfold gZ; omega) (bJ m.pk.data).1 ht.n.2
    rw [<- hpu] at c4
    simp only [h1,true_and,if_true] at hR
    rw [h1] at c1
    clear ht h1 hm h64 hp he hpu hfr h2 ok
    generalize (bJ m.pk.data).1=t at *
    generalize jO s m.pk m.next m.sh=X at *
    generalize lM X.1.pus m.pk.fr t=L at *
    refine aa 95 Tryz.func177 rfl rfl rfl (fun _ _=>rfl) ?_
    exact wkl trivial
   ·simp only [h1,false_and,if_false] at hR
    clear hm h64 hp he hpu hfr h2 ok
    generalize bJ m.pk.data=Q at *
    generalize jO s m.pk m.next m.sh=X at *
    refine aa 95 Tryz.func177 rfl rfl rfl (fun _ _=>rfl) ?_
    exact wkl trivial
  ·simp only [if_neg h2] at hR
   clear hm h64 ok
   generalize jO s m.pk m.next m.sh=X at *
   generalize bJ m.pk.data=Q at *
   refine aa 95 Tryz.func177 rfl rfl rfl (fun _ _=>rfl) ?_
   exact wkl trivial
theorem StOk.cl {s:StateD} (h:StOk s) {x:List aG} (hl:x.length<=4) (hx:∀ c∈x,Bn c):StOk { s with cls:=x } :=
 ⟨h.name,h.h,h.t,hl,h.lcn,h.lch,h.lsent,h.lgot,h.lacks,h.lpus,hx,h.cns,h.chs,h.sent,h.got,h.acks,h.pus⟩
theorem StOk.pu {s:StateD} (h:StOk s) {x:List aA} (hx:bF x):StOk { s with pus:=x } :=
 ⟨h.name,h.h,h.t,h.lcl,h.lcn,h.lch,h.lsent,h.lgot,h.lacks,hx.len,h.cls,h.cns,h.chs,h.sent,h.got,h.acks,⟨fun p hp=>⟨hx.wo p hp,hx.wd p hp,by have:=(hx.pos p hp).1; omega⟩,hx.srt⟩⟩
theorem bF.p64 {l:List aA} (h:bF l):P64 l:=fun p hp=>(h.pos p hp).2
def Eh (s:StateD) (kind:Int) (l:List aA):Prop:=∀ d,oQ l d=oQ s.pus d\/((14<=kind/\kind<=17)/\∃ i:Nat,i < s.chs.length/\qU d (mX i)=true)
structure ApStep (s:StateD) (m:MsgD) (t:StateD):Prop where
 ok:StOk t
 p64:P64 t.pus
 nm:t.name=s.name
 hh:t.h=s.h
 tt:t.t=s.t
 place:if m.kind<=3 then { t with cls:=s.cls }=s else if m.kind<=7 then { t with cns:=s.cns }=s else if m.kind<=13 then { t with chs:=s.chs }=s else if m.kind=18 then { t with pus:=s.pus }=s
  else { t with chs:=s.chs,sent:=s.sent,got:=s.got,acks:=s.acks,pus:=s.pus }=s
 sup:Eh s m.kind t.pus
theorem lT (s:StateD) (k:Int):Eh s k s.pus:=fun _=>.inl rfl
theorem TU {c:ByteArray} {t:Int} {k:aS} (h:(Ha c t k).2=0):Bn (Ha c t k).1:=by
 unfold Ha at h ⊢
 split at h
 ·rename_i q; rw [if_pos q]; exact iT.1 q
 ·exact absurd h ‹_›
theorem Ll {c:aG} {u:zu} {now:Int} (h:(iF c u now).2=0):Bn (iF c u now).1:=by
 obtain ⟨a,b,e⟩:=follow_zero h
 rw [e]
 exact Xo (asked_zero.1 a).1 (be_hdr b).1
theorem QH {c:aG} {a b:zu} {now:Int} (h:(mQ c a b now).2=0):Bn (mQ c a b now).1:=by
 unfold mQ at h ⊢
 split at h
 ·rename_i h1
  rw [if_pos h1]
  split at h
  ·rename_i h2
   rw [if_pos h2]
   split at h
   ·rename_i h3
    rw [if_pos h3]
    split at h
    ·rename_i h4
     rw [if_pos h4]
     have hc:=(asked_zero.1 h1).1
     exact ⟨hc.name,hc.trust,hc.len,hc.k,hc.rise⟩
    ·cases h
   ·rename_i h3; exact absurd h h3
  ·rename_i h2; exact absurd h h2
 ·rename_i h1; exact absurd h h1
theorem QC {s:StateD} {m:MsgD} (ok:StOk s) (h64:P64 s.pus) (hk:m.kind<=3) (h:(Me s m).2.err=0):ApStep s m (Me s m).1:=by
 have fin:∀ x:List aG,x.length<=4->(∀ c∈x,Bn c)->ApStep s m { s with cls:=x }:=fun x hl hx =>
  ⟨ok.cl hl hx,h64,rfl,rfl,rfl,by rw [if_pos hk],lT s _⟩
 have hl:=ok.lcl
 have hset:∀ C,Bn C->∀ c∈s.cls.set m.cl.toNat C,Bn c:=fun C hC c hc=>by
  rcases List.mem_or_eq_of_mem_set hc with hc | rfl
  ·exact ok.cls c hc
  ·exact hC
 unfold Me at h ⊢
 split at h
 ·rename_i k1
  rw [if_pos k1]
  split at h
  ·cases h
  ·rename_i h4
   rw [if_neg h4]
   split at h
   ·rename_i h5
    rw [if_pos h5]
    refine fin _ (by simp; omega) fun c hc=>?_
    rcases List.mem_append.1 hc with hc | hc
    ·exact ok.cls c hc
    ·rw [List.mem_singleton.1 hc]; exact TU h5
   ·exact absurd h ‹_›
 ·rename_i k1
  rw [if_neg k1]
  split at h
  ·cases h
  ·rename_i h4
   rw [if_neg h4]
   by_cases k2:m.kind=2
   ·simp only [if_pos k2] at h ⊢
    split at h
    ·rename_i h5
     rw [if_pos h5]
     exact fin _ (by simp; omega) (hset _ (Ll h5))
    ·exact absurd h ‹_›
   ·simp only [if_neg k2] at h ⊢
    split at h
    ·rename_i h5
     rw [if_pos h5]
     exact fin _ (by simp; omega) (hset _ (QH h5))
    ·exact absurd h ‹_›
theorem same_cn {s t:StateD} (h:{ t with cns:=s.cns }=s):t.pus=s.pus/\t.name=s.name/\t.h=s.h/\t.t=s.t:=by
 rw [<- h]; exact ⟨rfl,rfl,rfl,rfl⟩
theorem same_ch {s t:StateD} (h:{ t with chs:=s.chs }=s):t.pus=s.pus/\t.name=s.name/\t.h=s.h/\t.t=s.t:=by
 rw [<- h]; exact ⟨rfl,rfl,rfl,rfl⟩
theorem same_pk {s t:StateD} (h:{ t with chs:=s.chs,sent:=s.sent,got:=s.got,acks:=s.acks }=s):t.pus=s.pus/\t.name=s.name/\t.h=s.h/\t.t=s.t:=by
 rw [<- h]; exact ⟨rfl,rfl,rfl,rfl⟩
theorem Qt {s t:StateD} {m:MsgD} {p:Int} (h64:P64 s.pus) (h1:¬ m.kind<=3) (h2:m.kind<=7) (h:CnStep s p t):ApStep s m t:=by
 obtain ⟨a,b,c,d⟩:=same_cn h.same
 exact ⟨h.ok,by rw [a]; exact h64,b,c,d,by rw [if_neg h1,if_pos h2]; exact h.same,by rw [a]; exact lT s _⟩
theorem Hz {s t:StateD} {m:MsgD} {p:Int} (h64:P64 s.pus) (h1:¬ m.kind<=7) (h2:m.kind<=13) (h:qM s p t):ApStep s m t:=by
 obtain ⟨a,b,c,d⟩:=same_ch h.same
 exact ⟨h.ok,by rw [a]; exact h64,b,c,d,by rw [if_neg (by omega),if_neg h1,if_pos h2]; exact h.same,by rw [a]; exact lT s _⟩
theorem O_ {s t:StateD} {m:MsgD} {p:Int} (h1:14<=m.kind/\m.kind<=17) (h:Gq s p t) {l:List aA} (hl:bF l) (hs:Eh s m.kind l):ApStep s m { t with pus:=l }:=by
 obtain ⟨a,b,c,d⟩:=same_pk h.same
 refine ⟨h.ok.pu hl,hl.p64,b,c,d,?_,hs⟩
 rw [if_neg (by omega),if_neg (by omega),if_neg (by omega),if_neg (by omega)]
 have e:=h.same
 simp only
 rw [<- a]; exact e
theorem Qh {s:StateD} {m:MsgD} (h64:P64 s.pus) (h1:¬ m.kind<=3) (h2:m.kind<=13) (h:(endA s m).2.2=0):ApStep s m (endA s m).1:=by
 unfold endA at h ⊢
 split at h
 ·rename_i k; rw [if_pos k]; exact Qt h64 h1 (by omega) (CK h 0).1
 ·rename_i k; rw [if_neg k]; split at h
  ·rename_i k; rw [if_pos k]; exact Qt h64 h1 (by omega) (GA h 0).1
  ·rename_i k; rw [if_neg k]; split at h
   ·rename_i k; rw [if_pos k]; exact Qt h64 h1 (by omega) (Ia h).1
   ·rename_i k; rw [if_neg k]; split at h
    ·rename_i k; rw [if_pos k]; exact Qt h64 h1 (by omega) (Dv h).1
    ·rename_i k; rw [if_neg k]; split at h
     ·rename_i k; rw [if_pos k]; exact Hz h64 (by omega) h2 (CL h 0).1
     ·rename_i k; rw [if_neg k]; split at h
      ·rename_i k; rw [if_pos k]; exact Hz h64 (by omega) h2 (GD h 0).1
      ·rename_i k; rw [if_neg k]; split at h
       ·rename_i k; rw [if_pos k]; exact Hz h64 (by omega) h2 (Ib h)
       ·rename_i k; rw [if_neg k]; split at h
        ·rename_i k; rw [if_pos k]; exact Hz h64 (by omega) h2 (uA (by omega) h)
        ·rename_i k; rw [if_neg k]; split at h
         ·rename_i k; rw [if_pos k]; exact Hz h64 (by omega) h2 (AL h)
         ·rename_i k; rw [if_neg k]; exact Hz h64 (by omega) h2 (uA (by omega) h)
theorem UM {s:StateD} {i:Int} (hi:0<=i/\i < (s.chs.length:Int)) {d:ByteArray} (h:qU d (mX i)=true):∃ j:Nat,j < s.chs.length/\qU d (mX j)=true :=
 ⟨i.toNat,by omega,by rw [show ((i.toNat:Nat):Int)=i by omega]; exact h⟩
theorem Kz {s:StateD} (h:bF s.pus) {k:Int} (hk:14<=k/\k<=17) {ch:Int} (hi:0<=ch/\ch < (s.chs.length:Int)) {t:iw} (he:(lg s.pus ch t).2=0):Eh s k (lg s.pus ch t).1:=by
 intro d
 unfold lg at he ⊢
 split at he
 ·rename_i hp
  rw [if_pos hp]
  have:=(burn_ok h he).2.2 d
  by_cases hd:t.d=d
  ·subst hd; exact .inr ⟨hk,UM hi hp⟩
  ·rw [if_neg hd] at this; exact .inl (by omega)
 ·rename_i hp
  rw [if_neg hp]
  exact .inl ((xU h he).2.2 d)
theorem QR {s:StateD} (h:bF s.pus) {k:Int} (hk:14<=k/\k<=17) {ch:Int} (hi:0<=ch/\ch < (s.chs.length:Int)) {t:iw} (he:(lM s.pus ch t).2=0):Eh s k (lM s.pus ch t).1:=by
 intro d
 unfold lM at he ⊢
 split at he
 ·rename_i hp
  rw [if_pos hp]
  have:=(mint_ok h he).2.1 d
  by_cases hd:t.d=d
  ·subst hd; exact .inr ⟨hk,UM hi hp⟩
  ·rw [if_neg hd] at this; exact .inl (by omega)
 ·rename_i hp
  rw [if_neg hp]
  exact .inl ((xU h he).2.2 d)
theorem Qs {s:StateD} (h:bF s.pus) {k:Int} (hk:14<=k/\k<=17) {ch other:Int} (hi:0<=ch/\ch < (s.chs.length:Int)) {t:iw} (he:(vw s.pus ch other t).2=0):Eh s k (vw s.pus ch other t).1:=by
 intro d
 unfold vw at he ⊢
 split at he
 ·rename_i hp
  rw [if_pos hp]
  exact .inl ((xU h he).2.2 d)
 ·rename_i hp
  rw [if_neg hp]
  have:=(mint_ok h he).2.1 d
  by_cases hd:mX ch++t.d=d
  ·subst hd; exact .inr ⟨hk,UM hi (PY _ _)⟩
  ·rw [if_neg hd] at this; exact .inl (by omega)
theorem OI {s:StateD} {m:MsgD} (h64:P64 s.pus) (hk:m.kind=14) (h:(Io s m).2.2=0):ApStep s m (Io s m).1:=by
 unfold Io at h ⊢
 simp only at h ⊢
 split at h
 ·rename_i h1
  rw [if_pos h1]
  split at h
  ·cases h
  ·rename_i h2
   rw [if_neg h2]
   split at h
   ·rename_i h3
    rw [if_pos h3]
    have hr:=sJ.1 h3
    have hst:=Jj hr
    obtain ⟨ok,hi,_⟩:=endPk_ok hr.en
    rw [sK hr] at h ⊢
    by_cases h4:(lg s.pus m.ed (bJ (fC m.tr)).1).2=0
    ·have e:∀ q,(BM s m.ed q).pus=s.pus:=fun _=>rfl
     simp only [e] at h ⊢
     rw [if_pos h4]
     have hk2:14<=m.kind/\m.kind<=17:=by omega
     exact O_ hk2 hst (CG (cu ok h64) ..) (Kz (cu ok h64) hk2 hi h4)
    ·have e:∀ q,(BM s m.ed q).pus=s.pus:=fun _=>rfl
     simp only [e] at h
     rw [if_neg h4] at h
     simp only at h; omega
   ·exact absurd h ‹_›
 ·exact absurd h ‹_›
theorem OV {s:StateD} {m:MsgD} (ok:StOk s) (h64:P64 s.pus) (hk:m.kind=15) (h:(NT s m).2=0):ApStep s m (NT s m).1:=by
 unfold NT at h ⊢
 simp only at h ⊢
 split at h
 ·rename_i h3
  rw [if_pos h3]
  have hr:=BN.1 h3
  have hst:=Jp hr
  obtain ⟨_,hi,_⟩:=endPk_ok hr.en
  have hk2:14<=m.kind/\m.kind<=17:=by omega
  have hs:bF (Wp s m.pk).2/\Eh s m.kind (Wp s m.pk).2:=by
   unfold Wp
   simp only
   split
   ·split
    ·rename_i he
     exact ⟨Ht (cu ok h64) ..,Qs (cu ok h64) hk2 hi he⟩
    ·exact ⟨cu ok h64,lT s _⟩
   ·exact ⟨cu ok h64,lT s _⟩
  rw [BO hr]
  exact O_ hk2 hst hs.1 hs.2
 ·exact absurd h ‹_›
theorem zQ {s:StateD} {m:MsgD} (h64:P64 s.pus) (hk:16<=m.kind/\m.kind<=17) {c:ChanD} (hp:uW s m.pk) (hc:ChOk c) (back:Bool)
  (h:(if (bJ m.pk.data).2=0/\back=true then (if (lM (jP s m.pk c).pus m.pk.fr (bJ m.pk.data).1).2=0 then (({ jP s m.pk c with pus:=(lM (jP s m.pk c).pus m.pk.fr (bJ m.pk.data).1).1 },0):StateD × Int) else (s,((lM (jP s m.pk c).pus m.pk.fr (bJ m.pk.data).1).2:Int))) else (jP s m.pk c,0)).2=0) :
  ApStep s m (if (bJ m.pk.data).2=0/\back=true then (if (lM (jP s m.pk c).pus m.pk.fr (bJ m.pk.data).1).2=0 then (({ jP s m.pk c with pus:=(lM (jP s m.pk c).pus m.pk.fr (bJ m.pk.data).1).1 },0):StateD × Int) else (s,((lM (jP s m.pk c).pus m.pk.fr (bJ m.pk.data).1).2:Int))) else (jP s m.pk c,0)).1:=by
 have hst:=LA hp hc
 obtain ⟨ok,hi,_⟩:=endPk_ok hp.en
 have hk2:14<=m.kind/\m.kind<=17:=by omega
 split at h
 ·rename_i h1
  rw [if_pos h1]
  split at h
  ·rename_i h2
   rw [if_pos h2]
   exact O_ hk2 hst (H_ (cu ok h64) ..) (QR (cu ok h64) hk2 hi h2)
  ·rename_i h2; simp only at h; omega
 ·rename_i h1
  rw [if_neg h1]
  have:=O_ hk2 hst (cu ok h64) (lT s _)
  exact this
theorem OL {s:StateD} {m:MsgD} (h64:P64 s.pus) (hk:16<=m.kind/\m.kind<=17) (h:(NS s m).2=0):ApStep s m (NS s m).1:=by
 unfold NS at h ⊢
 by_cases k1:m.kind=16
 ·simp only [if_pos k1] at h ⊢
  by_cases h2:(qy s m.pk m.ack m.sh).2=0
  ·obtain ⟨hp,c,hc,_,_,_,he⟩:=ackPk_zero h2
   rw [if_pos h2] at h ⊢
   rw [he] at h ⊢
   exact zQ h64 hk hp hc _ h
  ·rw [if_neg h2] at h; exact absurd h h2
 ·simp only [if_neg k1] at h ⊢
  by_cases h2:(jO s m.pk m.next m.sh).2=0
  ·obtain ⟨hp,c,hc,_,_,_,he⟩:=latePk_zero h2
   rw [if_pos h2] at h ⊢
   rw [he] at h ⊢
   have h2:=zQ h64 hk hp hc true (by simpa only [and_true] using h)
   simpa only [and_true] using h2
  ·rw [if_neg h2] at h; exact absurd h h2
theorem P_ {s:StateD} {m:MsgD} (ok:StOk s) (h64:P64 s.pus) (hk:m.kind=18) (h:(Oa s m.tr).2=0):ApStep s m (Oa s m.tr).1:=by
 unfold Oa at h ⊢
 generalize bJ (fC m.tr)=q at *
 simp only at h ⊢
 by_cases h1:q.2=0
 ·rw [if_pos h1] at h ⊢
  by_cases h2:kD q.1.s=true\/kD q.1.r=true
  ·rw [if_pos h2] at h; cases h
  ·rw [if_neg h2] at h ⊢
   by_cases h3:(kM s.pus q.1.s q.1.r q.1.d q.1.n).2=0
   ·rw [if_pos h3]
    have hr:=l_ (cu ok h64) q.1.s q.1.r q.1.d q.1.n
    have hm:=(xU (cu ok h64) h3).2.2
    refine ⟨ok.pu hr,hr.p64,rfl,rfl,rfl,?_,fun d=>.inl (hm d)⟩
    rw [if_neg (by omega),if_neg (by omega),if_neg (by omega),if_pos hk]
   ·rw [if_neg h3] at h
    simp only at h; omega
 ·rw [if_neg h1] at h; exact absurd h h1
theorem AC {s:StateD} {m:MsgD} (ok:StOk s) (h64:P64 s.pus) (h:(Bl s m).2.err=0):ApStep s m (Bl s m).1:=by
 unfold Bl at h ⊢
 split at h
 ·cases h
 ·rename_i k0; rw [if_neg k0]; split at h
  ·rename_i k; rw [if_pos k]; exact QC ok h64 k h
  ·rename_i k3; rw [if_neg k3]; split at h
   ·rename_i k; rw [if_pos k]; exact Qh h64 k3 k h
   ·rename_i k4; rw [if_neg k4]; split at h
    ·rename_i k; rw [if_pos k]; exact OI h64 k h
    ·rename_i k5; rw [if_neg k5]; split at h
     ·rename_i k; rw [if_pos k]; exact OV ok h64 k h
     ·rename_i k6; rw [if_neg k6]; split at h
      ·rename_i k; rw [if_pos k]; exact P_ ok h64 k h
      ·rename_i k7; rw [if_neg k7]; exact OL h64 (by omega) h
theorem doS_done {s:StateD} {m:MsgD} (h:(doS s m).2.err=0):StOk s/\(Bl s m).2.err=0/\doS s m=Bl s m:=by
 unfold doS at h ⊢
 split at h
 ·rename_i k; rw [if_pos k]; split at h
  ·rename_i k2; rw [if_pos k2]; exact ⟨aM.1 k,k2,rfl⟩
  ·rename_i k2; exact absurd h k2
 ·exact absurd h ‹_›
theorem yJ {s:StateD} {m:MsgD} (h64:P64 s.pus) (h:(doS s m).2.err=0):ApStep s m (doS s m).1:=by
 obtain ⟨ok,h0,e⟩:=doS_done h
 rw [e]; exact AC ok h64 h0
theorem Zc (s:StateD) (hs:StSm s) (h64:P64 s.pus) (m:MsgD) (hm:oD m):PureD Tryz.prog 122 [stateD s,XL m] (.tup [stateD (doS s m).1,Dp (doS s m).2]):=by
 refine au fun R hR=>?_
 have c1:=gV s hs
 unfold doS at hR
 by_cases h:bu s=0
 ·have ok:=aM.1 h
  rw [h] at c1
  rw [if_pos h] at hR
  have c2:=Ja s hs
  have c3:(Bl s m).2.err=0->PureD Tryz.prog 121 [stateD (Bl s m).1] (stateD (Bl s m).1):=fun e=>Ja _ (AC ok h64 e).ok.sm
  by_cases e:(Bl s m).2.err=0
  ·rw [if_pos e] at hR
   have c3:=c3 e
   unfold Bl at hR e c3
   by_cases k0:m.kind < 1\/18 < m.kind
   ·rw [if_pos k0] at hR e c3
    try simp only [dE] at hR e c3
    exact absurd e (by decide)
   ·rw [if_neg k0] at hR e c3
    by_cases k1:m.kind<=3
    ·rw [if_pos k1] at hR e c3
     have c4:=AO s ok m hm
     generalize Me s m=X at *
     try simp only [dE] at hR e c3
     clear hs ok hm h h64
     refine aa 99 Tryz.func122 rfl rfl rfl (fun _ _=>rfl) ?_
     exact wkl trivial
    ·rw [if_neg k1] at hR e c3
     by_cases k2:m.kind<=13
     ·rw [if_pos k2] at hR e c3
      have c4:=Sn s hs m
      generalize endA s m=X at *
      try simp only [dE] at hR e c3
      clear hs ok hm h h64
      refine aa 99 Tryz.func122 rfl rfl rfl (fun _ _=>rfl) ?_
      exact wkl trivial
     ·rw [if_neg k2] at hR e c3
      by_cases k3:m.kind=14
      ·rw [if_pos k3] at hR e c3
       have c4:=Gh s hs h64 m hm
       generalize Io s m=X at *
       try simp only [dE] at hR e c3
       clear hs ok hm h h64
       refine aa 99 Tryz.func122 rfl rfl rfl (fun _ _=>rfl) ?_
       exact wkl trivial
      ·rw [if_neg k3] at hR e c3
       by_cases k4:m.kind=15
       ·rw [if_pos k4] at hR e c3
        have c4:=Gi s ok h64 m hm
        generalize NT s m=X at *
        try simp only [dE] at hR e c3
        clear hs ok hm h h64
        refine aa 99 Tryz.func122 rfl rfl rfl (fun _ _=>rfl) ?_
        exact wkl trivial
       ·rw [if_neg k4] at hR e c3
        by_cases k5:m.kind=18
        ·rw [if_pos k5] at hR e c3
         have c4:=Gj s ok h64 m.tr hm.tn hm.td hm.ts hm.tr
         generalize Oa s m.tr=X at *
         try simp only [dE] at hR e c3
         clear hs ok hm h h64
         refine aa 99 Tryz.func122 rfl rfl rfl (fun _ _=>rfl) ?_
         exact wkl trivial
        ·rw [if_neg k5] at hR e c3
         have c4:=vW s ok h64 m hm
         generalize NS s m=X at *
         try simp only [dE] at hR e c3
         clear hs ok hm h h64
         refine aa 99 Tryz.func122 rfl rfl rfl (fun _ _=>rfl) ?_
         exact wkl trivial
  ·rw [if_neg e] at hR
   clear c3
   unfold Bl at hR e
   by_cases k0:m.kind < 1\/18 < m.kind
   ·rw [if_pos k0] at hR e
    try simp only [dE] at hR e
    clear hs ok hm h h64
    refine aa 99 Tryz.func122 rfl rfl rfl (fun _ _=>rfl) ?_
    exact wkl trivial
   ·rw [if_neg k0] at hR e
    by_cases k1:m.kind<=3
    ·rw [if_pos k1] at hR e
     have c4:=AO s ok m hm
     generalize Me s m=X at *
     try simp only [dE] at hR e
     clear hs ok hm h h64
     refine aa 99 Tryz.func122 rfl rfl rfl (fun _ _=>rfl) ?_
     exact wkl trivial
    ·rw [if_neg k1] at hR e
     by_cases k2:m.kind<=13
     ·rw [if_pos k2] at hR e
      have c4:=Sn s hs m
      generalize endA s m=X at *
      try simp only [dE] at hR e
      clear hs ok hm h h64
      refine aa 99 Tryz.func122 rfl rfl rfl (fun _ _=>rfl) ?_
      exact wkl trivial
     ·rw [if_neg k2] at hR e
      by_cases k3:m.kind=14
      ·rw [if_pos k3] at hR e
       have c4:=Gh s hs h64 m hm
       generalize Io s m=X at *
       try simp only [dE] at hR e
       clear hs ok hm h h64
       refine aa 99 Tryz.func122 rfl rfl rfl (fun _ _=>rfl) ?_
       exact wkl trivial
      ·rw [if_neg k3] at hR e
       by_cases k4:m.kind=15
       ·rw [if_pos k4] at hR e
        have c4:=Gi s ok h64 m hm
        generalize NT s m=X at *
        try simp only [dE] at hR e
        clear hs ok hm h h64
        refine aa 99 Tryz.func122 rfl rfl rfl (fun _ _=>rfl) ?_
        exact wkl trivial
       ·rw [if_neg k4] at hR e
        by_cases k5:m.kind=18
        ·rw [if_pos k5] at hR e
         have c4:=Gj s ok h64 m.tr hm.tn hm.td hm.ts hm.tr
         generalize Oa s m.tr=X at *
         try simp only [dE] at hR e
         clear hs ok hm h h64
         refine aa 99 Tryz.func122 rfl rfl rfl (fun _ _=>rfl) ?_
         exact wkl trivial
        ·rw [if_neg k5] at hR e
         have c4:=vW s ok h64 m hm
         generalize NS s m=X at *
         try simp only [dE] at hR e
         clear hs ok hm h h64
         refine aa 99 Tryz.func122 rfl rfl rfl (fun _ _=>rfl) ?_
         exact wkl trivial
 ·rw [if_neg h] at hR
  generalize bu s=W at *
  clear hs hm h64
  refine aa 99 Tryz.func122 rfl rfl rfl (fun _ _=>rfl) ?_
  exact wkl trivial
theorem QT (s:StateD) (hs:StSm s) (later:Int):PureD Tryz.prog 120 [stateD s,intD later] (.tup [stateD (jD s later).1,intD (jD s later).2]):=by
 refine au fun R hR=>?_
 have c1:=gV s hs
 unfold jD at hR
 by_cases h:bu s=0
 ·have ok:=aM.1 h
  have hh:=ok.h
  have ht:=ok.t
  have e1:=ky s hs
  rw [h] at c1
  rw [if_pos h] at hR
  unfold N12 at hh ht
  have w2:IntKind.i64.wrap (s.h+1)=s.h+1:=aC (by omega) (by omega)
  clear ok h hs
  by_cases h1:later < 1\/1000000000000 < later
  ·rw [if_pos (by omega)] at hR
   clear e1
   refine aa 45 Tryz.func120 rfl rfl rfl (fun _ _=>rfl) ?_
   exact wkl trivial
  ·have w1:IntKind.i64.wrap (s.t+later)=s.t+later:=aC (by omega) (by omega)
   by_cases h2:later < 1\/1000000000000 < later\/1000000000000 < s.t+later\/s.h=1000000000000
   ·rw [if_pos h2] at hR
    clear e1
    refine aa 45 Tryz.func120 rfl rfl rfl (fun _ _=>rfl) ?_
    exact wkl trivial
   ·rw [if_neg h2] at hR
    refine aa 45 Tryz.func120 rfl rfl rfl (fun _ _=>rfl) ?_
    exact wkl trivial
 ·rw [if_neg h] at hR
  generalize bu s=W at *
  clear hs
  refine aa 45 Tryz.func120 rfl rfl rfl (fun _ _=>rfl) ?_
  exact wkl trivial
end Go.Proofs.YtfenipelcpmkpaaGreatDoor
