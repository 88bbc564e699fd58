/- Merged texts: ApP, ApA, ApB, ApD, ApE, ApL, ApF, Law13A. -/
import Derived.Test.YtfenipelcpmkpaaGreatDoorGPk
import Derived.Test.YtfenipelcpmkpaaGreatDoorGHs
import Derived.Test.YtfenipelcpmkpaaGreatDoorBkR
import Derived.Test.YtfenipelcpmkpaaGreatDoorClM
set_option linter.all false
set_option maxHeartbeats 16000000
set_option maxRecDepth 20000
namespace Go.Proofs.YtfenipelcpmkpaaGreatDoor
open Go Go.Abs
structure MsgD where
 kind:Int
 chain:ByteArray
 trust:Int
 kn:aS
 cl:Int
 up:zt
 up2:zt
 other:Int
 oend:Int
 ed:Int
 ord:Bool
 sh:bD
 tr:ig
 tout:Int
 next:Int
 pk:dK
 ack:List UInt8
def encMsg (m:MsgD):List I:=[.s (.int .i64 m.kind),.s (.string m.chain),.s (.int .i64 m.trust),.s (.int .i64 m.kn.h),.s (.int .i64 m.kn.t),bI m.kn.root,bI m.kn.next,.s (.int .i64 m.cl),
 .s (.int .i64 m.up.fr),.s (.string m.up.sg.hdr.c),.s (.int .i64 m.up.sg.hdr.h),.s (.int .i64 m.up.sg.hdr.t),bI m.up.sg.hdr.root,bI m.up.sg.hdr.vals,bI m.up.sg.hdr.next,valsI m.up.sg.vals,votesI m.up.sg.votes,valsI m.up.tr,
 .s (.int .i64 m.up2.fr),.s (.string m.up2.sg.hdr.c),.s (.int .i64 m.up2.sg.hdr.h),.s (.int .i64 m.up2.sg.hdr.t),bI m.up2.sg.hdr.root,bI m.up2.sg.hdr.vals,bI m.up2.sg.hdr.next,valsI m.up2.sg.vals,votesI m.up2.sg.votes,valsI m.up2.tr,
 .s (.int .i64 m.other),.s (.int .i64 m.oend),.s (.int .i64 m.ed),.s (.bool m.ord),
 .s (.int .i64 m.sh.h),.s (.int .i64 m.sh.p.i),.s (.int .i64 m.sh.p.n),bI m.sh.p.k,bI m.sh.p.v,bbI m.sh.p.path,.s (.bool m.sh.g.hl),.s (.bool m.sh.g.hr),
 .s (.int .i64 m.sh.g.left.i),.s (.int .i64 m.sh.g.left.n),bI m.sh.g.left.k,bI m.sh.g.left.v,bbI m.sh.g.left.path,.s (.int .i64 m.sh.g.right.i),.s (.int .i64 m.sh.g.right.n),bI m.sh.g.right.k,bI m.sh.g.right.v,bbI m.sh.g.right.path,
 .s (.string m.tr.d),.s (.int .u64 m.tr.n),.s (.string m.tr.s),.s (.string m.tr.r),.s (.int .i64 m.tout),.s (.int .i64 m.next),
 .s (.int .i64 m.pk.fr),.s (.int .i64 m.pk.de),.s (.int .i64 m.pk.seq),bI m.pk.data,.s (.int .i64 m.pk.tout),bI m.ack]
def XL (m:MsgD):D:=.agg ((encMsg m).map .i)
structure oJ (m:MsgD):Prop where
 kn:aaL m.kn
 up:VH m.up
 up2:VH m.up2
 tn:m.tr.n < 18446744073709551616
 td:m.tr.d.size<=1048576
 ts:m.tr.s.size<=1048576
 tr:m.tr.r.size<=1048576
 fr:gW m.pk.fr
 de:gW m.pk.de
 data:m.pk.data.length<=1048576
 ack:m.ack.length<=1048576
structure jN where
 err:Int
 num:Int
 pk:dK
def Du (d:jN):D:=.agg [.i (.s (.int .i64 d.err)),.i (.s (.int .i64 d.num)),.i (.s (.int .i64 d.pk.fr)),.i (.s (.int .i64 d.pk.de)),.i (.s (.int .i64 d.pk.seq)),.i (bI d.pk.data),.i (.s (.int .i64 d.pk.tout))]
def dE (e:Int):jN:=⟨e,0,zeroPk⟩
attribute [simp,go_sem] encMsg XL Du dE
def kz (s:ByteArray):Bool:=qW s ⟨#[35]⟩
def QA (s:StateD) (m:MsgD):StateD × jN :=
 if m.kind=1 then
  (if (s.cls.length:Int)=4 then (s,dE 5)
  else if (Iw m.chain m.trust m.kn).2=0 then ({ s with cls:=s.cls++[(Iw m.chain m.trust m.kn).1] },⟨0,s.cls.length,zeroPk⟩) else (s,dE (Iw m.chain m.trust m.kn).2))
 else if m.cl < 0\/(s.cls.length:Int)<=m.cl then (s,dE 6)
 else
  let r:=if m.kind=2 then iy (kN s m.cl) m.up s.t else mP (kN s m.cl) m.up m.up2 s.t
  if r.2=0 then ({ s with cls:=s.cls.set m.cl.toNat r.1 },dE 0) else (s,dE r.2)
def endA (s:StateD) (m:MsgD):StateD × Int × Int :=
 if m.kind=4 then mI s m.cl m.other
 else if m.kind=5 then uX s m.cl m.other m.oend m.sh
 else if m.kind=6 then ((ackCn s m.ed m.oend m.sh).1,0,(ackCn s m.ed m.oend m.sh).2)
 else if m.kind=7 then ((confCn s m.ed m.sh).1,0,(confCn s m.ed m.sh).2)
 else if m.kind=8 then jI s m.ed m.ord
 else if m.kind=9 then oW s m.ed m.ord m.oend m.sh
 else if m.kind=10 then ((ackCh s m.ed m.oend m.sh).1,0,(ackCh s m.ed m.oend m.sh).2)
 else if m.kind=11 then ((confCh 2 3 s m.ed m.sh).1,0,(confCh 2 3 s m.ed m.sh).2)
 else if m.kind=12 then ((closeCh s m.ed).1,0,(closeCh s m.ed).2)
 else ((confCh 3 4 s m.ed m.sh).1,0,(confCh 3 4 s m.ed m.sh).2)
def BN (s:StateD) (m:MsgD):StateD × dK × Int :=
 let q:=bB (eT m.tr)
 if q.2=0 then
  (if kz q.1.s=true then (s,zeroPk,7)
  else
   let r:=jE s m.ed (eT q.1) m.tout
   if r.2.2=0 then (let b:=lc r.1.pus m.ed q.1; if b.2=0 then ({ r.1 with pus:=b.1 },r.2.1,0) else (s,zeroPk,(b.2:Int))) else (s,zeroPk,r.2.2))
 else (s,zeroPk,q.2)
def Wq (s:StateD) (p:dK):List UInt8 × List az :=
 let q:=bB p.data
 if q.2=0/\kz q.1.r=false then (let b:=vw s.pus p.de p.fr q.1; if b.2=0 then ([49],b.1) else ([48],s.pus)) else ([48],s.pus)
def GZ (s:StateD) (m:MsgD):StateD × Int :=
 let r:=kw s m.pk (Wq s m.pk).1 m.sh
 if r.2=0 then ({ r.1 with pus:=(Wq s m.pk).2 },0) else (s,r.2)
def zR (s:StateD) (m:MsgD):StateD × Int :=
 let r:=if m.kind=16 then jL s m.pk m.ack m.sh else fQ s m.pk m.next m.sh
 let back:=if m.kind=16 then decide (m.ack=[48]) else true
 if r.2=0 then
  (let q:=bB m.pk.data
  if q.2=0/\back=true then (let b:=kL r.1.pus m.pk.fr q.1; if b.2=0 then ({ r.1 with pus:=b.1 },0) else (s,(b.2:Int))) else (r.1,0))
 else (s,r.2)
def NZ (s:StateD) (t:ig):StateD × Int :=
 let q:=bB (eT t)
 if q.2=0 then
  (if kz q.1.s=true\/kz q.1.r=true then (s,7)
  else (let b:=kI s.pus q.1.s q.1.r q.1.d q.1.n; if b.2=0 then ({ s with pus:=b.1 },0) else (s,(b.2:Int))))
 else (s,q.2)
def Dv (s:StateD) (m:MsgD):StateD × jN :=
 if m.kind < 1\/18 < m.kind then (s,dE 1)
 else if m.kind<=3 then QA s m
 else if m.kind<=13 then ((endA s m).1,⟨(endA s m).2.2,(endA s m).2.1,zeroPk⟩)
 else if m.kind=14 then ((BN s m).1,⟨(BN s m).2.2,0,(BN s m).2.1⟩)
 else if m.kind=15 then ((GZ s m).1,dE (GZ s m).2)
 else if m.kind=18 then ((NZ s m.tr).1,dE (NZ s m.tr).2)
 else ((zR s m).1,dE (zR s m).2)
def doS (s:StateD) (m:MsgD):StateD × jN :=
 if bu s=0 then (if (Dv s m).2.err=0 then Dv s m else (s,dE (Dv s m).2.err)) else (zeroSt,dE (bu s))
def jr (s:StateD) (later:Int):StateD × Int :=
 if bu s=0 then (if later < 1\/1000000000000 < later\/1000000000000 < s.t+later\/s.h=1000000000000 then (zeroSt,3) else ({ s with h:=s.h+1,t:=s.t+later },0)) else (zeroSt,bu s)
def Oh:zt:=⟨0,⟨⟨⟨#[]⟩,0,0,[],[],[]⟩,[],[]⟩,[]⟩
def zSh:bD:=⟨0,⟨0,0,[],[],[]⟩,⟨false,false,⟨0,0,[],[],[]⟩,⟨0,0,[],[],[]⟩⟩⟩
def oP:MsgD:=⟨0,⟨#[]⟩,0,⟨0,0,[],[]⟩,0,Oh,Oh,0,0,0,false,zSh,⟨⟨#[]⟩,0,⟨#[]⟩,⟨#[]⟩⟩,0,0,⟨0,0,0,[],0⟩,[]⟩
attribute [simp,go_sem] Oh zSh oP
theorem Ev:VH Oh:=⟨⟨⟨by decide,by decide,by decide,by decide⟩,by decide,by simp,by simp⟩,by decide,by simp,by decide⟩
structure TOk (t:ig):Prop where
 d:1<=t.d.size/\t.d.size<=40
 s:1<=t.s.size/\t.s.size<=40
 r:1<=t.r.size/\t.r.size<=40
 n:0 < t.n/\t.n < 18446744073709551616
theorem words3 {a b c:ByteArray} (h:vE [a,b,c]=0):(1<=a.size/\a.size<=40)/\(1<=b.size/\b.size<=40)/\(1<=c.size/\c.size<=40):=by
 unfold vE at h
 split at h
 ·rename_i q
  simp only [List.all_cons,List.all_nil,Bool.and_true,Bool.and_eq_true,wordOk_iff] at q
  exact q
 ·cases h
theorem oh {b:List UInt8} (h:(bB b).2=0):TOk (bB b).1:=by
 unfold bB at h ⊢
 by_cases he:(readF b).2=0
 ·rw [if_pos he] at h ⊢
  obtain ⟨m,e,hm⟩:∃ m e,readF b=(m,e):=⟨_,_,rfl⟩
  rw [hm] at h he ⊢
  simp only at he h ⊢
  subst he
  obtain ⟨_,hn⟩:=read_write hm
  by_cases h4:m.length=4
  ·obtain ⟨p,q,r,s,rfl⟩:=four4 m h4
   have hq:=hn q (by simp)
   simp only [Lj,Mg] at h ⊢
   split at h
   ·rename_i hk
    rw [if_pos hk]
    split at h
    ·rename_i hwd
     rw [if_pos hwd]
     split at h
     ·cases h
     ·rename_i h0
      rw [if_neg h0]
      obtain ⟨w1,w2,w3⟩:=words3 hwd
      exact ⟨w1,w2,w3,by simp only at h0 ⊢; omega⟩
    ·rename_i hne; exact absurd h hne
   ·cases h
  ·rw [FI h4] at h; cases h
 ·rw [if_neg he] at h; simp only at h; omega
def P64 (l:List az):Prop:=∀ p∈l,p.n < 18446744073709551616
theorem b_ {s:StateD} (ok:StOk s) (h:P64 s.pus):bJ s.pus :=
 ⟨ok.lpus,fun p hp=>(ok.pus.all p hp).o,fun p hp=>(ok.pus.all p hp).d,fun p hp=>⟨by have:=(ok.pus.all p hp).n; omega,h p hp⟩,ok.pus.srt⟩
open Go.RowKit Go.Proofs.YtfenipelcpmkpaaGreatDoor.Ty
theorem r_ (s:ByteArray):PureD Tryz.prog 217 [.i (.s (.string s))] (boolD (kz s)):=by
 refine ak fun R hR=>?_
 have c1:=KX s ⟨#[35]⟩
 unfold kz at hR
 generalize qW s ⟨#[35]⟩=B at *
 refine aa 5 Tryz.func217 rfl rfl rfl (fun _ _=>rfl) ?_
 exact wkl trivial
theorem AQ (s:StateD) (ok:StOk s) (m:MsgD) (hm:oJ m):PureD Tryz.prog 172 [stateD s,.rp (encMsg m) 0] (.tup [stateD (QA s m).1,Du (QA s m).2]):=by
 refine ak fun R hR=>?_
 have e1:=kv s ok.sm
 have hl:=ok.lcl
 unfold QA at hR
 by_cases k1:m.kind=1
 ·rw [if_pos k1] at hR
  by_cases h4:(s.cls.length:Int)=4
  ·rw [if_pos h4] at hR
   clear ok e1 hm
   refine aa 136 Tryz.func172 rfl rfl rfl (fun _ _=>rfl) ?_
   exact wkl trivial
  ·rw [if_neg h4] at hR
   have c1:=YQ m.chain m.trust m.kn hm.kn
   clear ok hm
   by_cases h5:(Iw m.chain m.trust m.kn).2=0
   ·rw [if_pos h5] at hR
    rw [h5] at c1
    generalize (Iw m.chain m.trust m.kn).1=C at *
    have m1:s.cls.map gG++[gG C]=(s.cls++[C]).map gG:=by simp
    have m2:s.cls.length+1=(s.cls++[C]).length:=by simp
    simp only [gG,lg] at m1
    generalize s.cls++[C]=L at *
    clear h5
    refine aa 136 Tryz.func172 rfl rfl rfl (fun _ _=>rfl) ?_
    exact wkl trivial
   ·rw [if_neg h5] at hR
    generalize Iw m.chain m.trust m.kn=C at *
    clear e1
    refine aa 136 Tryz.func172 rfl rfl rfl (fun _ _=>rfl) ?_
    exact wkl trivial
 ·rw [if_neg k1] at hR
  by_cases h4:m.cl < 0\/(s.cls.length:Int)<=m.cl
  ·rw [if_pos h4] at hR
   clear ok e1 hm
   refine aa 136 Tryz.func172 rfl rfl rfl (fun _ _=>rfl) ?_
   exact wkl trivial
  ·rw [if_neg h4] at hR
   have hi:m.cl.toNat < s.cls.length:=by omega
   have hc:=(ok.cls _ (List.getElem_mem hi)).len
   rw [(fA (s:=s) (i:=m.cl) (by omega)).1] at hR
   have s0:=aF (f:=gG) hi
   have c1:=Mk (s.cls[m.cl.toNat]'hi) m.up s.t (by omega) hm.up
   have c2:=QE (s.cls[m.cl.toNat]'hi) m.up m.up2 s.t (by omega) hm.up hm.up2
   have s1:=fun x=>List.getElem?_set_self (l:=s.cls.map gG) (i:=m.cl.toNat) (a:=x) (by simpa using hi)
   have s2:∀ x y,((s.cls.map gG).set m.cl.toNat x).set m.cl.toNat y=(s.cls.map gG).set m.cl.toNat y:=fun x y=>List.set_set x
   have s3:∀ C,(s.cls.map gG).set m.cl.toNat (gG C)=(s.cls.set m.cl.toNat C).map gG:=fun C=>List.map_set.symm
   have s4:∀ C,(s.cls.set m.cl.toNat C).length=s.cls.length:=fun C=>by simp
   clear ok hm
   generalize s.cls[m.cl.toNat]=x at *
   by_cases k2:m.kind=2
   ·simp only [if_pos k2] at hR
    clear c2
    by_cases h5:(iy x m.up s.t).2=0
    ·rw [if_pos h5] at hR
     rw [h5] at c1
     generalize (iy x m.up s.t).1=C at *
     have s5:=(s4 C).symm
     have s3:=s3 C
     simp only [gG,lg] at s3
     clear s4
     generalize s.cls.set m.cl.toNat C=L at *
     refine aa 136 Tryz.func172 rfl rfl rfl (fun _ _=>rfl) ?_
     exact wkl trivial
    ·rw [if_neg h5] at hR
     generalize iy x m.up s.t=C at *
     clear e1 s1 s2 s3 s4
     refine aa 136 Tryz.func172 rfl rfl rfl (fun _ _=>rfl) ?_
     exact wkl trivial
   ·simp only [if_neg k2] at hR
    clear c1
    by_cases h5:(mP x m.up m.up2 s.t).2=0
    ·rw [if_pos h5] at hR
     rw [h5] at c2
     generalize (mP x m.up m.up2 s.t).1=C at *
     have s5:=(s4 C).symm
     have s3:=s3 C
     simp only [gG,lg] at s3
     clear s4
     generalize s.cls.set m.cl.toNat C=L at *
     refine aa 136 Tryz.func172 rfl rfl rfl (fun _ _=>rfl) ?_
     exact wkl trivial
    ·rw [if_neg h5] at hR
     generalize mP x m.up m.up2 s.t=C at *
     clear e1 s1 s2 s3 s4
     refine aa 136 Tryz.func172 rfl rfl rfl (fun _ _=>rfl) ?_
     exact wkl trivial
theorem Sj (s:StateD) (hs:StSm s) (m:MsgD):PureD Tryz.prog 173 [stateD s,.rp (encMsg m) 0] (.tup [stateD (endA s m).1,intD (endA s m).2.1,intD (endA s m).2.2]):=by
 refine ak fun R hR=>?_
 have c1:=PQ s hs m.cl m.other
 have c2:=SL s hs m.cl m.other m.oend m.sh
 have c3:=VC s hs m.ed m.oend m.sh
 have c4:=Qo s hs m.ed m.sh
 have c5:=PR s hs m.ed m.ord
 have c6:=SN s hs m.ed m.ord m.oend m.sh
 have c7:=VE s hs m.ed m.oend m.sh
 have c8:=Qp s hs m.ed m.sh
 have c9:=HZ s hs m.ed m.sh
 have c10:=Md s hs m.ed
 unfold endA at hR
 generalize mI s m.cl m.other=A1 at *
 generalize uX s m.cl m.other m.oend m.sh=A2 at *
 generalize ackCn s m.ed m.oend m.sh=A3 at *
 generalize confCn s m.ed m.sh=A4 at *
 generalize jI s m.ed m.ord=A5 at *
 generalize oW s m.ed m.ord m.oend m.sh=A6 at *
 generalize ackCh s m.ed m.oend m.sh=A7 at *
 generalize confCh 2 3 s m.ed m.sh=A8 at *
 generalize confCh 3 4 s m.ed m.sh=A9 at *
 generalize closeCh s m.ed=A10 at *
 clear hs
 refine aa 183 Tryz.func173 rfl rfl rfl (fun _ _=>rfl) ?_
 exact wkl trivial
theorem ql (t:ig):(eT t).length<=1048576:=by have:=lL (RB t); unfold eT; omega
theorem Gn (s:StateD) (hs:StSm s) (h64:P64 s.pus) (m:MsgD) (hm:oJ m):PureD Tryz.prog 174 [stateD s,.rp (encMsg m) 0] (.tup [stateD (BN s m).1,Ah (BN s m).2.1,intD (BN s m).2.2]):=by
 refine ak fun R hR=>?_
 have c1:=Ea m.tr hm.tn hm.td hm.ts hm.tr
 have c2:=xu (eT m.tr) (ql _)
 unfold BN at hR
 by_cases h1:(bB (eT m.tr)).2=0
 ·have ht:=oh h1
  simp only [if_pos h1] at hR
  rw [h1] at c2
  generalize eT m.tr=B at *
  generalize (bB B).1=t at *
  have c3:=r_ t.s
  cases hsf:kz t.s
  ·rw [hsf] at c3 hR
   simp only [Bool.false_eq_true,if_false] at hR
   have d1:=ht.d
   have d2:=ht.s
   have d3:=ht.r
   have c4:=Ea t ht.n.2 (by omega) (by omega) (by omega)
   have c5:=OP s hs m.ed (eT t) (ql _) m.tout
   by_cases h2:(jE s m.ed (eT t) m.tout).2.2=0
   ·rw [if_pos h2] at hR
    rw [h2] at c5
    have hr:=mW.1 h2
    obtain ⟨ok,hi,_⟩:=endPk_ok hr.en
    have hp:(jE s m.ed (eT t) m.tout).1.pus=s.pus:=by rw [mX hr]; rfl
    have hl:=ok.lch
    have c6:=Uf s.pus (b_ ok h64) m.ed (by unfold gW; omega) t ht.n.2
    rw [<- hp] at c6
    clear hp hr ok h2 d1 d2 d3 ht h1 hs h64 hm
    generalize eT t=B2 at *
    generalize jE s m.ed B2 m.tout=A at *
    generalize lc A.1.pus m.ed t=L at *
    refine aa 72 Tryz.func174 rfl rfl rfl (fun _ _=>rfl) ?_
    exact wkl trivial
   ·rw [if_neg h2] at hR
    clear d1 d2 d3 ht h1 hs h64 hm
    generalize eT t=B2 at *
    generalize jE s m.ed B2 m.tout=A at *
    refine aa 72 Tryz.func174 rfl rfl rfl (fun _ _=>rfl) ?_
    exact wkl trivial
  ·rw [hsf] at c3 hR
   simp only [if_true] at hR
   clear ht h1 hs h64 hm
   refine aa 72 Tryz.func174 rfl rfl rfl (fun _ _=>rfl) ?_
   exact wkl trivial
 ·simp only [if_neg h1] at hR
  clear hs h64 hm
  generalize eT m.tr=B at *
  generalize bB B=Q at *
  refine aa 72 Tryz.func174 rfl rfl rfl (fun _ _=>rfl) ?_
  exact wkl trivial
theorem Gq (s:StateD) (ok:StOk s) (h64:P64 s.pus) (t0:ig) (h0:t0.n < 18446744073709551616) (h01:t0.d.size<=1048576) (h02:t0.s.size<=1048576) (h03:t0.r.size<=1048576) :
  PureD Tryz.prog 176 [stateD s,trD t0] (.tup [stateD (NZ s t0).1,intD (NZ s t0).2]):=by
 refine ak fun R hR=>?_
 have c1:=Ea t0 h0 h01 h02 h03
 have c2:=xu (eT t0) (ql _)
 unfold NZ at hR
 by_cases h1:(bB (eT t0)).2=0
 ·have ht:=oh h1
  simp only [if_pos h1] at hR
  rw [h1] at c2
  generalize eT t0=B at *
  generalize (bB B).1=t at *
  have c3:=r_ t.s
  have c4:=r_ t.r
  have c5:=Fp s.pus (b_ ok h64) t.s t.r t.d t.n ht.n.2
  have e1:=kv s ok.sm
  simp only [sD,wD,ek] at c5
  clear ht h1 ok h64
  generalize kI s.pus t.s t.r t.d t.n=L at *
  generalize kz t.s=p1 at *
  generalize kz t.r=p2 at *
  cases p1
  all_goals
   cases p2
   all_goals
    simp only [Bool.false_eq_true,if_false,if_true,true_or,or_true,or_false,or_self] at hR
    refine aa 49 Tryz.func176 rfl rfl rfl (fun _ _=>rfl) ?_
    exact wkl trivial
 ·simp only [if_neg h1] at hR
  clear ok h64
  generalize eT t0=B at *
  generalize bB B=Q at *
  refine aa 49 Tryz.func176 rfl rfl rfl (fun _ _=>rfl) ?_
  exact wkl trivial
theorem Gp (s:StateD) (ok:StOk s) (h64:P64 s.pus) (m:MsgD) (hm:oJ m):PureD Tryz.prog 175 [stateD s,.rp (encMsg m) 0] (.tup [stateD (GZ s m).1,intD (GZ s m).2]):=by
 refine ak fun R hR=>?_
 have c1:=xu m.pk.data hm.data
 have c4:=EP s ok.sm m.pk hm.data [49] (by simp) m.sh
 have c5:=EP s ok.sm m.pk hm.data [48] (by simp) m.sh
 unfold GZ Wq at hR
 by_cases h1:(bB m.pk.data).2=0
 ·have ht:=oh h1
  have d1:=ht.d
  have c2:=r_ (bB m.pk.data).1.r
  have c3:=YN s.pus (b_ ok h64) m.pk.de m.pk.fr hm.de hm.fr (bB m.pk.data).1 ht.n.2 (by omega)
  simp only [h1,true_and] at hR
  rw [h1] at c1
  clear ht d1 h1 hm h64
  generalize (bB m.pk.data).1=t at *
  generalize vw s.pus m.pk.de m.pk.fr t=L at *
  generalize kz t.r=p1 at *
  cases p1
  ·simp only [if_true] at hR
   by_cases h2:L.2=0
   ·simp only [if_pos h2] at hR
    rw [h2] at c3
    generalize kw s m.pk [49] m.sh=X at *
    clear c5
    refine aa 75 Tryz.func175 rfl rfl rfl (fun _ _=>rfl) ?_
    exact wkl trivial
   ·simp only [if_neg h2] at hR
    generalize kw s m.pk [48] m.sh=X at *
    clear c4
    refine aa 75 Tryz.func175 rfl rfl rfl (fun _ _=>rfl) ?_
    exact wkl trivial
  ·simp only [Bool.true_eq_false,if_false] at hR
   generalize kw s m.pk [48] m.sh=X at *
   clear c4 c3
   refine aa 75 Tryz.func175 rfl rfl rfl (fun _ _=>rfl) ?_
   exact wkl trivial
 ·simp only [h1,false_and,if_false] at hR
  generalize bB m.pk.data=Q at *
  generalize kw s m.pk [48] m.sh=X at *
  clear c4 hm h64
  refine aa 75 Tryz.func175 rfl rfl rfl (fun _ _=>rfl) ?_
  exact wkl trivial
theorem vX (s:StateD) (ok:StOk s) (h64:P64 s.pus) (m:MsgD) (hm:oJ m):PureD Tryz.prog 177 [stateD s,.rp (encMsg m) 0] (.tup [stateD (zR s m).1,intD (zR s m).2]):=by
 refine ak fun R hR=>?_
 have c1:=xu m.pk.data hm.data
 unfold zR at hR
 by_cases k1:m.kind=16
 ·simp only [if_pos k1] at hR
  have c2:=gz m.ack [48]
  have c3:=VB s ok.sm m.pk hm.data m.ack hm.ack m.sh
  by_cases h2:(jL s m.pk m.ack m.sh).2=0
  ·obtain ⟨hp,c,_,_,_,_,he⟩:=ackPk_zero h2
   have hpu:(jL s m.pk m.ack m.sh).1.pus=s.pus:=by rw [he]; rfl
   have hfr:=hp.pk.fr
   simp only [if_pos h2] at hR
   rw [h2] at c3
   by_cases h1:(bB m.pk.data).2=0
   ·have ht:=oh h1
    have c4:=Sw s.pus (b_ ok h64) m.pk.fr (by unfold N12 at hfr; unfold gW; omega) (bB m.pk.data).1 ht.n.2
    rw [<- hpu] at c4
    simp only [h1,true_and] at hR
    rw [h1] at c1
    clear ht h1 hm h64 hp he hpu hfr h2 ok
    generalize (bB m.pk.data).1=t at *
    generalize jL s m.pk m.ack m.sh=X at *
    generalize kL X.1.pus m.pk.fr t=L at *
    by_cases hq:m.ack=[48]
    ·simp only [decide_eq_true hq,if_true] at hR c2
     refine aa 95 Tryz.func177 rfl rfl rfl (fun _ _=>rfl) ?_
     exact wkl trivial
    ·simp only [decide_eq_false hq,Bool.false_eq_true,if_false] at hR c2
     refine aa 95 Tryz.func177 rfl rfl rfl (fun _ _=>rfl) ?_
     exact wkl trivial
   ·simp only [h1,false_and,if_false] at hR
    clear hm h64 hp he hpu hfr h2 ok
    generalize bB m.pk.data=Q at *
    generalize jL s m.pk m.ack m.sh=X at *
    generalize decide (m.ack=[48])=E at *
    refine aa 95 Tryz.func177 rfl rfl rfl (fun _ _=>rfl) ?_
    exact wkl trivial
  ·simp only [if_neg h2] at hR
   clear hm h64 ok
   generalize jL s m.pk m.ack m.sh=X at *
   generalize decide (m.ack=[48])=E at *
   generalize bB m.pk.data=Q at *
   refine aa 95 Tryz.func177 rfl rfl rfl (fun _ _=>rfl) ?_
   exact wkl trivial
 ·simp only [if_neg k1] at hR
  have c3:=Pw s ok.sm m.pk hm.data m.next m.sh
  by_cases h2:(fQ s m.pk m.next m.sh).2=0
  ·obtain ⟨hp,c,_,_,_,_,he⟩:=latePk_zero h2
   have hpu:(fQ s m.pk m.next m.sh).1.pus=s.pus:=by rw [he]; rfl
   have hfr:=hp.pk.fr
   simp only [if_pos h2] at hR
   rw [h2] at c3
   by_cases h1:(bB m.pk.data).2=0
   ·have ht:=oh h1
    have c4:=Sw s.pus (b_ ok h64) m.pk.fr (by unfold N12 at hfr; unfold gW; omega) (bB m.pk.data).1 ht.n.2
    rw [<- hpu] at c4
    simp only [h1,true_and,if_true] at hR
    rw [h1] at c1
    clear ht h1 hm h64 hp he hpu hfr h2 ok
    generalize (bB m.pk.data).1=t at *
    generalize fQ s m.pk m.next m.sh=X at *
    generalize kL X.1.pus m.pk.fr t=L at *
    refine aa 95 Tryz.func177 rfl rfl rfl (fun _ _=>rfl) ?_
    exact wkl trivial
   ·simp only [h1,false_and,if_false] at hR
    clear hm h64 hp he hpu hfr h2 ok
    generalize bB m.pk.data=Q at *
    generalize fQ s m.pk m.next m.sh=X at *
    refine aa 95 Tryz.func177 rfl rfl rfl (fun _ _=>rfl) ?_
    exact wkl trivial
  ·simp only [if_neg h2] at hR
   clear hm h64 ok
   generalize fQ s m.pk m.next m.sh=X at *
   generalize bB m.pk.data=Q at *
   refine aa 95 Tryz.func177 rfl rfl rfl (fun _ _=>rfl) ?_
   exact wkl trivial
theorem StOk.cl {s:StateD} (h:StOk s) {x:List aG} (hl:x.length<=4) (hx:∀ c∈x,Bp c):StOk { s with cls:=x } :=
 ⟨h.name,h.h,h.t,hl,h.lcn,h.lch,h.lsent,h.lgot,h.lacks,h.lpus,hx,h.cns,h.chs,h.sent,h.got,h.acks,h.pus⟩
theorem StOk.pu {s:StateD} (h:StOk s) {x:List az} (hx:bJ x):StOk { s with pus:=x } :=
 ⟨h.name,h.h,h.t,h.lcl,h.lcn,h.lch,h.lsent,h.lgot,h.lacks,hx.len,h.cls,h.cns,h.chs,h.sent,h.got,h.acks,⟨fun p hp=>⟨hx.wo p hp,hx.wd p hp,by have:=(hx.pos p hp).1; omega⟩,hx.srt⟩⟩
theorem bJ.p64 {l:List az} (h:bJ l):P64 l:=fun p hp=>(h.pos p hp).2
def El (s:StateD) (kind:Int) (l:List az):Prop:=∀ d,o_ l d=o_ s.pus d\/((14<=kind/\kind<=17)/\∃ i:Nat,i < s.chs.length/\qW d (ni i)=true)
structure ApStep (s:StateD) (m:MsgD) (t:StateD):Prop where
 ok:StOk t
 p64:P64 t.pus
 nm:t.name=s.name
 hh:t.h=s.h
 tt:t.t=s.t
 place:if m.kind<=3 then { t with cls:=s.cls }=s else if m.kind<=7 then { t with cns:=s.cns }=s else if m.kind<=13 then { t with chs:=s.chs }=s else if m.kind=18 then { t with pus:=s.pus }=s
  else { t with chs:=s.chs,sent:=s.sent,got:=s.got,acks:=s.acks,pus:=s.pus }=s
 sup:El s m.kind t.pus
theorem lN (s:StateD) (k:Int):El s k s.pus:=fun _=>.inl rfl
theorem TU {c:ByteArray} {t:Int} {k:aS} (h:(Iw c t k).2=0):Bp (Iw c t k).1:=by
 unfold Iw at h ⊢
 split at h
 ·rename_i q; rw [if_pos q]; exact iM.1 q
 ·exact absurd h ‹_›
theorem Ll {c:aG} {u:zt} {now:Int} (h:(iy c u now).2=0):Bp (iy c u now).1:=by
 obtain ⟨a,b,e⟩:=follow_zero h
 rw [e]
 exact Xo (asked_zero.1 a).1 (be_hdr b).1
theorem QF {c:aG} {a b:zt} {now:Int} (h:(mP c a b now).2=0):Bp (mP c a b now).1:=by
 unfold mP at h ⊢
 split at h
 ·rename_i h1
  rw [if_pos h1]
  split at h
  ·rename_i h2
   rw [if_pos h2]
   split at h
   ·rename_i h3
    rw [if_pos h3]
    split at h
    ·rename_i h4
     rw [if_pos h4]
     have hc:=(asked_zero.1 h1).1
     exact ⟨hc.name,hc.trust,hc.len,hc.k,hc.rise⟩
    ·cases h
   ·rename_i h3; exact absurd h h3
  ·rename_i h2; exact absurd h h2
 ·rename_i h1; exact absurd h h1
theorem Qz {s:StateD} {m:MsgD} (ok:StOk s) (h64:P64 s.pus) (hk:m.kind<=3) (h:(QA s m).2.err=0):ApStep s m (QA s m).1:=by
 have fin:∀ x:List aG,x.length<=4->(∀ c∈x,Bp c)->ApStep s m { s with cls:=x }:=fun x hl hx =>
  ⟨ok.cl hl hx,h64,rfl,rfl,rfl,by rw [if_pos hk],lN s _⟩
 have hl:=ok.lcl
 have hset:∀ C,Bp C->∀ c∈s.cls.set m.cl.toNat C,Bp c:=fun C hC c hc=>by
  rcases List.mem_or_eq_of_mem_set hc with hc | rfl
  ·exact ok.cls c hc
  ·exact hC
 unfold QA at h ⊢
 split at h
 ·rename_i k1
  rw [if_pos k1]
  split at h
  ·cases h
  ·rename_i h4
   rw [if_neg h4]
   split at h
   ·rename_i h5
    rw [if_pos h5]
    refine fin _ (by simp; omega) fun c hc=>?_
    rcases List.mem_append.1 hc with hc | hc
    ·exact ok.cls c hc
    ·rw [List.mem_singleton.1 hc]; exact TU h5
   ·exact absurd h ‹_›
 ·rename_i k1
  rw [if_neg k1]
  split at h
  ·cases h
  ·rename_i h4
   rw [if_neg h4]
   by_cases k2:m.kind=2
   ·simp only [if_pos k2] at h ⊢
    split at h
    ·rename_i h5
     rw [if_pos h5]
     exact fin _ (by simp; omega) (hset _ (Ll h5))
    ·exact absurd h ‹_›
   ·simp only [if_neg k2] at h ⊢
    split at h
    ·rename_i h5
     rw [if_pos h5]
     exact fin _ (by simp; omega) (hset _ (QF h5))
    ·exact absurd h ‹_›
theorem same_cn {s t:StateD} (h:{ t with cns:=s.cns }=s):t.pus=s.pus/\t.name=s.name/\t.h=s.h/\t.t=s.t:=by
 rw [<- h]; exact ⟨rfl,rfl,rfl,rfl⟩
theorem same_ch {s t:StateD} (h:{ t with chs:=s.chs }=s):t.pus=s.pus/\t.name=s.name/\t.h=s.h/\t.t=s.t:=by
 rw [<- h]; exact ⟨rfl,rfl,rfl,rfl⟩
theorem same_pk {s t:StateD} (h:{ t with chs:=s.chs,sent:=s.sent,got:=s.got,acks:=s.acks }=s):t.pus=s.pus/\t.name=s.name/\t.h=s.h/\t.t=s.t:=by
 rw [<- h]; exact ⟨rfl,rfl,rfl,rfl⟩
theorem Qr {s t:StateD} {m:MsgD} {p:Int} (h64:P64 s.pus) (h1:¬ m.kind<=3) (h2:m.kind<=7) (h:CnStep s p t):ApStep s m t:=by
 obtain ⟨a,b,c,d⟩:=same_cn h.same
 exact ⟨h.ok,by rw [a]; exact h64,b,c,d,by rw [if_neg h1,if_pos h2]; exact h.same,by rw [a]; exact lN s _⟩
theorem H_ {s t:StateD} {m:MsgD} {p:Int} (h64:P64 s.pus) (h1:¬ m.kind<=7) (h2:m.kind<=13) (h:qP s p t):ApStep s m t:=by
 obtain ⟨a,b,c,d⟩:=same_ch h.same
 exact ⟨h.ok,by rw [a]; exact h64,b,c,d,by rw [if_neg (by omega),if_neg h1,if_pos h2]; exact h.same,by rw [a]; exact lN s _⟩
theorem OZ {s t:StateD} {m:MsgD} {p:Int} (h1:14<=m.kind/\m.kind<=17) (h:Gv s p t) {l:List az} (hl:bJ l) (hs:El s m.kind l):ApStep s m { t with pus:=l }:=by
 obtain ⟨a,b,c,d⟩:=same_pk h.same
 refine ⟨h.ok.pu hl,hl.p64,b,c,d,?_,hs⟩
 rw [if_neg (by omega),if_neg (by omega),if_neg (by omega),if_neg (by omega)]
 have e:=h.same
 simp only
 rw [<- a]; exact e
theorem Qf {s:StateD} {m:MsgD} (h64:P64 s.pus) (h1:¬ m.kind<=3) (h2:m.kind<=13) (h:(endA s m).2.2=0):ApStep s m (endA s m).1:=by
 unfold endA at h ⊢
 split at h
 ·rename_i k; rw [if_pos k]; exact Qr h64 h1 (by omega) (CQ h 0).1
 ·rename_i k; rw [if_neg k]; split at h
  ·rename_i k; rw [if_pos k]; exact Qr h64 h1 (by omega) (GI h 0).1
  ·rename_i k; rw [if_neg k]; split at h
   ·rename_i k; rw [if_pos k]; exact Qr h64 h1 (by omega) (Ig h).1
   ·rename_i k; rw [if_neg k]; split at h
    ·rename_i k; rw [if_pos k]; exact Qr h64 h1 (by omega) (DC h).1
    ·rename_i k; rw [if_neg k]; split at h
     ·rename_i k; rw [if_pos k]; exact H_ h64 (by omega) h2 (CR h 0).1
     ·rename_i k; rw [if_neg k]; split at h
      ·rename_i k; rw [if_pos k]; exact H_ h64 (by omega) h2 (GJ h 0).1
      ·rename_i k; rw [if_neg k]; split at h
       ·rename_i k; rw [if_pos k]; exact H_ h64 (by omega) h2 (Ih h)
       ·rename_i k; rw [if_neg k]; split at h
        ·rename_i k; rw [if_pos k]; exact H_ h64 (by omega) h2 (uC (by omega) h)
        ·rename_i k; rw [if_neg k]; split at h
         ·rename_i k; rw [if_pos k]; exact H_ h64 (by omega) h2 (AP h)
         ·rename_i k; rw [if_neg k]; exact H_ h64 (by omega) h2 (uC (by omega) h)
theorem UM {s:StateD} {i:Int} (hi:0<=i/\i < (s.chs.length:Int)) {d:ByteArray} (h:qW d (ni i)=true):∃ j:Nat,j < s.chs.length/\qW d (ni j)=true :=
 ⟨i.toNat,by omega,by rw [show ((i.toNat:Nat):Int)=i by omega]; exact h⟩
theorem KA {s:StateD} (h:bJ s.pus) {k:Int} (hk:14<=k/\k<=17) {ch:Int} (hi:0<=ch/\ch < (s.chs.length:Int)) {t:ig} (he:(lc s.pus ch t).2=0):El s k (lc s.pus ch t).1:=by
 intro d
 unfold lc at he ⊢
 split at he
 ·rename_i hp
  rw [if_pos hp]
  have:=(burn_ok h he).2.2 d
  by_cases hd:t.d=d
  ·subst hd; exact .inr ⟨hk,UM hi hp⟩
  ·rw [if_neg hd] at this; exact .inl (by omega)
 ·rename_i hp
  rw [if_neg hp]
  exact .inl ((xU h he).2.2 d)
theorem QP {s:StateD} (h:bJ s.pus) {k:Int} (hk:14<=k/\k<=17) {ch:Int} (hi:0<=ch/\ch < (s.chs.length:Int)) {t:ig} (he:(kL s.pus ch t).2=0):El s k (kL s.pus ch t).1:=by
 intro d
 unfold kL at he ⊢
 split at he
 ·rename_i hp
  rw [if_pos hp]
  have:=(mint_ok h he).2.1 d
  by_cases hd:t.d=d
  ·subst hd; exact .inr ⟨hk,UM hi hp⟩
  ·rw [if_neg hd] at this; exact .inl (by omega)
 ·rename_i hp
  rw [if_neg hp]
  exact .inl ((xU h he).2.2 d)
theorem Qq {s:StateD} (h:bJ s.pus) {k:Int} (hk:14<=k/\k<=17) {ch other:Int} (hi:0<=ch/\ch < (s.chs.length:Int)) {t:ig} (he:(vw s.pus ch other t).2=0):El s k (vw s.pus ch other t).1:=by
 intro d
 unfold vw at he ⊢
 split at he
 ·rename_i hp
  rw [if_pos hp]
  exact .inl ((xU h he).2.2 d)
 ·rename_i hp
  rw [if_neg hp]
  have:=(mint_ok h he).2.1 d
  by_cases hd:ni ch++t.d=d
  ·subst hd; exact .inr ⟨hk,UM hi (PX _ _)⟩
  ·rw [if_neg hd] at this; exact .inl (by omega)
theorem OI {s:StateD} {m:MsgD} (h64:P64 s.pus) (hk:m.kind=14) (h:(BN s m).2.2=0):ApStep s m (BN s m).1:=by
 unfold BN at h ⊢
 simp only at h ⊢
 split at h
 ·rename_i h1
  rw [if_pos h1]
  split at h
  ·cases h
  ·rename_i h2
   rw [if_neg h2]
   split at h
   ·rename_i h3
    rw [if_pos h3]
    have hr:=mW.1 h3
    have hst:=Jl hr
    obtain ⟨ok,hi,_⟩:=endPk_ok hr.en
    rw [mX hr] at h ⊢
    by_cases h4:(lc s.pus m.ed (bB (eT m.tr)).1).2=0
    ·have e:∀ q,(zS s m.ed q).pus=s.pus:=fun _=>rfl
     simp only [e] at h ⊢
     rw [if_pos h4]
     have hk2:14<=m.kind/\m.kind<=17:=by omega
     exact OZ hk2 hst (CL (b_ ok h64) ..) (KA (b_ ok h64) hk2 hi h4)
    ·have e:∀ q,(zS s m.ed q).pus=s.pus:=fun _=>rfl
     simp only [e] at h
     rw [if_neg h4] at h
     simp only at h; omega
   ·exact absurd h ‹_›
 ·exact absurd h ‹_›
theorem OV {s:StateD} {m:MsgD} (ok:StOk s) (h64:P64 s.pus) (hk:m.kind=15) (h:(GZ s m).2=0):ApStep s m (GZ s m).1:=by
 unfold GZ at h ⊢
 simp only at h ⊢
 split at h
 ·rename_i h3
  rw [if_pos h3]
  have hr:=sU.1 h3
  have hst:=Jq hr
  obtain ⟨_,hi,_⟩:=endPk_ok hr.en
  have hk2:14<=m.kind/\m.kind<=17:=by omega
  have hs:bJ (Wq s m.pk).2/\El s m.kind (Wq s m.pk).2:=by
   unfold Wq
   simp only
   split
   ·split
    ·rename_i he
     exact ⟨Hz (b_ ok h64) ..,Qq (b_ ok h64) hk2 hi he⟩
    ·exact ⟨b_ ok h64,lN s _⟩
   ·exact ⟨b_ ok h64,lN s _⟩
  rw [sV hr]
  exact OZ hk2 hst hs.1 hs.2
 ·exact absurd h ‹_›
theorem zP {s:StateD} {m:MsgD} (h64:P64 s.pus) (hk:16<=m.kind/\m.kind<=17) {c:ChanD} (hp:mR s m.pk) (hc:ChOk c) (back:Bool)
  (h:(if (bB m.pk.data).2=0/\back=true then (if (kL (jJ s m.pk c).pus m.pk.fr (bB m.pk.data).1).2=0 then (({ jJ s m.pk c with pus:=(kL (jJ s m.pk c).pus m.pk.fr (bB m.pk.data).1).1 },0):StateD × Int) else (s,((kL (jJ s m.pk c).pus m.pk.fr (bB m.pk.data).1).2:Int))) else (jJ s m.pk c,0)).2=0) :
  ApStep s m (if (bB m.pk.data).2=0/\back=true then (if (kL (jJ s m.pk c).pus m.pk.fr (bB m.pk.data).1).2=0 then (({ jJ s m.pk c with pus:=(kL (jJ s m.pk c).pus m.pk.fr (bB m.pk.data).1).1 },0):StateD × Int) else (s,((kL (jJ s m.pk c).pus m.pk.fr (bB m.pk.data).1).2:Int))) else (jJ s m.pk c,0)).1:=by
 have hst:=LA hp hc
 obtain ⟨ok,hi,_⟩:=endPk_ok hp.en
 have hk2:14<=m.kind/\m.kind<=17:=by omega
 split at h
 ·rename_i h1
  rw [if_pos h1]
  split at h
  ·rename_i h2
   rw [if_pos h2]
   exact OZ hk2 hst (Ie (b_ ok h64) ..) (QP (b_ ok h64) hk2 hi h2)
  ·rename_i h2; simp only at h; omega
 ·rename_i h1
  rw [if_neg h1]
  have:=OZ hk2 hst (b_ ok h64) (lN s _)
  exact this
theorem OL {s:StateD} {m:MsgD} (h64:P64 s.pus) (hk:16<=m.kind/\m.kind<=17) (h:(zR s m).2=0):ApStep s m (zR s m).1:=by
 unfold zR at h ⊢
 by_cases k1:m.kind=16
 ·simp only [if_pos k1] at h ⊢
  by_cases h2:(jL s m.pk m.ack m.sh).2=0
  ·obtain ⟨hp,c,hc,_,_,_,he⟩:=ackPk_zero h2
   rw [if_pos h2] at h ⊢
   rw [he] at h ⊢
   exact zP h64 hk hp hc _ h
  ·rw [if_neg h2] at h; exact absurd h h2
 ·simp only [if_neg k1] at h ⊢
  by_cases h2:(fQ s m.pk m.next m.sh).2=0
  ·obtain ⟨hp,c,hc,_,_,_,he⟩:=latePk_zero h2
   rw [if_pos h2] at h ⊢
   rw [he] at h ⊢
   have h2:=zP h64 hk hp hc true (by simpa only [and_true] using h)
   simpa only [and_true] using h2
  ·rw [if_neg h2] at h; exact absurd h h2
theorem PZ {s:StateD} {m:MsgD} (ok:StOk s) (h64:P64 s.pus) (hk:m.kind=18) (h:(NZ s m.tr).2=0):ApStep s m (NZ s m.tr).1:=by
 unfold NZ at h ⊢
 generalize bB (eT m.tr)=q at *
 simp only at h ⊢
 by_cases h1:q.2=0
 ·rw [if_pos h1] at h ⊢
  by_cases h2:kz q.1.s=true\/kz q.1.r=true
  ·rw [if_pos h2] at h; cases h
  ·rw [if_neg h2] at h ⊢
   by_cases h3:(kI s.pus q.1.s q.1.r q.1.d q.1.n).2=0
   ·rw [if_pos h3]
    have hr:=lX (b_ ok h64) q.1.s q.1.r q.1.d q.1.n
    have hm:=(xU (b_ ok h64) h3).2.2
    refine ⟨ok.pu hr,hr.p64,rfl,rfl,rfl,?_,fun d=>.inl (hm d)⟩
    rw [if_neg (by omega),if_neg (by omega),if_neg (by omega),if_pos hk]
   ·rw [if_neg h3] at h
    simp only at h; omega
 ·rw [if_neg h1] at h; exact absurd h h1
theorem AL {s:StateD} {m:MsgD} (ok:StOk s) (h64:P64 s.pus) (h:(Dv s m).2.err=0):ApStep s m (Dv s m).1:=by
 unfold Dv at h ⊢
 split at h
 ·cases h
 ·rename_i k0; rw [if_neg k0]; split at h
  ·rename_i k; rw [if_pos k]; exact Qz ok h64 k h
  ·rename_i k3; rw [if_neg k3]; split at h
   ·rename_i k; rw [if_pos k]; exact Qf h64 k3 k h
   ·rename_i k4; rw [if_neg k4]; split at h
    ·rename_i k; rw [if_pos k]; exact OI h64 k h
    ·rename_i k5; rw [if_neg k5]; split at h
     ·rename_i k; rw [if_pos k]; exact OV ok h64 k h
     ·rename_i k6; rw [if_neg k6]; split at h
      ·rename_i k; rw [if_pos k]; exact PZ ok h64 k h
      ·rename_i k7; rw [if_neg k7]; exact OL h64 (by omega) h
theorem doS_done {s:StateD} {m:MsgD} (h:(doS s m).2.err=0):StOk s/\(Dv s m).2.err=0/\doS s m=Dv s m:=by
 unfold doS at h ⊢
 split at h
 ·rename_i k; rw [if_pos k]; split at h
  ·rename_i k2; rw [if_pos k2]; exact ⟨aL.1 k,k2,rfl⟩
  ·rename_i k2; exact absurd h k2
 ·exact absurd h ‹_›
theorem FO {s:StateD} {m:MsgD} (h64:P64 s.pus) (h:(doS s m).2.err=0):ApStep s m (doS s m).1:=by
 obtain ⟨ok,h0,e⟩:=doS_done h
 rw [e]; exact AL ok h64 h0
theorem Zb (s:StateD) (hs:StSm s) (h64:P64 s.pus) (m:MsgD) (hm:oJ m):PureD Tryz.prog 122 [stateD s,XL m] (.tup [stateD (doS s m).1,Du (doS s m).2]):=by
 refine ak fun R hR=>?_
 have c1:=gT s hs
 unfold doS at hR
 by_cases h:bu s=0
 ·have ok:=aL.1 h
  rw [h] at c1
  rw [if_pos h] at hR
  have c2:=Je s hs
  have c3:(Dv s m).2.err=0->PureD Tryz.prog 121 [stateD (Dv s m).1] (stateD (Dv s m).1):=fun e=>Je _ (AL ok h64 e).ok.sm
  by_cases e:(Dv s m).2.err=0
  ·rw [if_pos e] at hR
   have c3:=c3 e
   unfold Dv at hR e c3
   by_cases k0:m.kind < 1\/18 < m.kind
   ·rw [if_pos k0] at hR e c3
    try simp only [dE] at hR e c3
    exact absurd e (by decide)
   ·rw [if_neg k0] at hR e c3
    by_cases k1:m.kind<=3
    ·rw [if_pos k1] at hR e c3
     have c4:=AQ s ok m hm
     generalize QA s m=X at *
     try simp only [dE] at hR e c3
     clear hs ok hm h h64
     refine aa 99 Tryz.func122 rfl rfl rfl (fun _ _=>rfl) ?_
     exact wkl trivial
    ·rw [if_neg k1] at hR e c3
     by_cases k2:m.kind<=13
     ·rw [if_pos k2] at hR e c3
      have c4:=Sj s hs m
      generalize endA s m=X at *
      try simp only [dE] at hR e c3
      clear hs ok hm h h64
      refine aa 99 Tryz.func122 rfl rfl rfl (fun _ _=>rfl) ?_
      exact wkl trivial
     ·rw [if_neg k2] at hR e c3
      by_cases k3:m.kind=14
      ·rw [if_pos k3] at hR e c3
       have c4:=Gn s hs h64 m hm
       generalize BN s m=X at *
       try simp only [dE] at hR e c3
       clear hs ok hm h h64
       refine aa 99 Tryz.func122 rfl rfl rfl (fun _ _=>rfl) ?_
       exact wkl trivial
      ·rw [if_neg k3] at hR e c3
       by_cases k4:m.kind=15
       ·rw [if_pos k4] at hR e c3
        have c4:=Gp s ok h64 m hm
        generalize GZ s m=X at *
        try simp only [dE] at hR e c3
        clear hs ok hm h h64
        refine aa 99 Tryz.func122 rfl rfl rfl (fun _ _=>rfl) ?_
        exact wkl trivial
       ·rw [if_neg k4] at hR e c3
        by_cases k5:m.kind=18
        ·rw [if_pos k5] at hR e c3
         have c4:=Gq s ok h64 m.tr hm.tn hm.td hm.ts hm.tr
         generalize NZ s m.tr=X at *
         try simp only [dE] at hR e c3
         clear hs ok hm h h64
         refine aa 99 Tryz.func122 rfl rfl rfl (fun _ _=>rfl) ?_
         exact wkl trivial
        ·rw [if_neg k5] at hR e c3
         have c4:=vX s ok h64 m hm
         generalize zR s m=X at *
         try simp only [dE] at hR e c3
         clear hs ok hm h h64
         refine aa 99 Tryz.func122 rfl rfl rfl (fun _ _=>rfl) ?_
         exact wkl trivial
  ·rw [if_neg e] at hR
   clear c3
   unfold Dv at hR e
   by_cases k0:m.kind < 1\/18 < m.kind
   ·rw [if_pos k0] at hR e
    try simp only [dE] at hR e
    clear hs ok hm h h64
    refine aa 99 Tryz.func122 rfl rfl rfl (fun _ _=>rfl) ?_
    exact wkl trivial
   ·rw [if_neg k0] at hR e
    by_cases k1:m.kind<=3
    ·rw [if_pos k1] at hR e
     have c4:=AQ s ok m hm
     generalize QA s m=X at *
     try simp only [dE] at hR e
     clear hs ok hm h h64
     refine aa 99 Tryz.func122 rfl rfl rfl (fun _ _=>rfl) ?_
     exact wkl trivial
    ·rw [if_neg k1] at hR e
     by_cases k2:m.kind<=13
     ·rw [if_pos k2] at hR e
      have c4:=Sj s hs m
      generalize endA s m=X at *
      try simp only [dE] at hR e
      clear hs ok hm h h64
      refine aa 99 Tryz.func122 rfl rfl rfl (fun _ _=>rfl) ?_
      exact wkl trivial
     ·rw [if_neg k2] at hR e
      by_cases k3:m.kind=14
      ·rw [if_pos k3] at hR e
       have c4:=Gn s hs h64 m hm
       generalize BN s m=X at *
       try simp only [dE] at hR e
       clear hs ok hm h h64
       refine aa 99 Tryz.func122 rfl rfl rfl (fun _ _=>rfl) ?_
       exact wkl trivial
      ·rw [if_neg k3] at hR e
       by_cases k4:m.kind=15
       ·rw [if_pos k4] at hR e
        have c4:=Gp s ok h64 m hm
        generalize GZ s m=X at *
        try simp only [dE] at hR e
        clear hs ok hm h h64
        refine aa 99 Tryz.func122 rfl rfl rfl (fun _ _=>rfl) ?_
        exact wkl trivial
       ·rw [if_neg k4] at hR e
        by_cases k5:m.kind=18
        ·rw [if_pos k5] at hR e
         have c4:=Gq s ok h64 m.tr hm.tn hm.td hm.ts hm.tr
         generalize NZ s m.tr=X at *
         try simp only [dE] at hR e
         clear hs ok hm h h64
         refine aa 99 Tryz.func122 rfl rfl rfl (fun _ _=>rfl) ?_
         exact wkl trivial
        ·rw [if_neg k5] at hR e
         have c4:=vX s ok h64 m hm
         generalize zR s m=X at *
         try simp only [dE] at hR e
         clear hs ok hm h h64
         refine aa 99 Tryz.func122 rfl rfl rfl (fun _ _=>rfl) ?_
         exact wkl trivial
 ·rw [if_neg h] at hR
  generalize bu s=W at *
  clear hs hm h64
  refine aa 99 Tryz.func122 rfl rfl rfl (fun _ _=>rfl) ?_
  exact wkl trivial
theorem QR (s:StateD) (hs:StSm s) (later:Int):PureD Tryz.prog 120 [stateD s,intD later] (.tup [stateD (jr s later).1,intD (jr s later).2]):=by
 refine ak fun R hR=>?_
 have c1:=gT s hs
 unfold jr at hR
 by_cases h:bu s=0
 ·have ok:=aL.1 h
  have hh:=ok.h
  have ht:=ok.t
  have e1:=kv s hs
  rw [h] at c1
  rw [if_pos h] at hR
  unfold N12 at hh ht
  have w2:IntKind.i64.wrap (s.h+1)=s.h+1:=aB (by omega) (by omega)
  clear ok h hs
  by_cases h1:later < 1\/1000000000000 < later
  ·rw [if_pos (by omega)] at hR
   clear e1
   refine aa 45 Tryz.func120 rfl rfl rfl (fun _ _=>rfl) ?_
   exact wkl trivial
  ·have w1:IntKind.i64.wrap (s.t+later)=s.t+later:=aB (by omega) (by omega)
   by_cases h2:later < 1\/1000000000000 < later\/1000000000000 < s.t+later\/s.h=1000000000000
   ·rw [if_pos h2] at hR
    clear e1
    refine aa 45 Tryz.func120 rfl rfl rfl (fun _ _=>rfl) ?_
    exact wkl trivial
   ·rw [if_neg h2] at hR
    refine aa 45 Tryz.func120 rfl rfl rfl (fun _ _=>rfl) ?_
    exact wkl trivial
 ·rw [if_neg h] at hR
  generalize bu s=W at *
  clear hs
  refine aa 45 Tryz.func120 rfl rfl rfl (fun _ _=>rfl) ?_
  exact wkl trivial
end Go.Proofs.YtfenipelcpmkpaaGreatDoor
