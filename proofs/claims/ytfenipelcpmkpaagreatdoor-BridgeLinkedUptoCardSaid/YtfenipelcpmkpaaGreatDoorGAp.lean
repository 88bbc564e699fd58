/- Merged texts: ApP, ApA, ApB, ApD, ApE, ApL, ApF, Law13A. -/
import Derived.Test.YtfenipelcpmkpaaGreatDoorGPk
import Derived.Test.YtfenipelcpmkpaaGreatDoorGHs
import Derived.Test.YtfenipelcpmkpaaGreatDoorBkR
import Derived.Test.YtfenipelcpmkpaaGreatDoorClM
set_option linter.all false
set_option maxHeartbeats 16000000
set_option maxRecDepth 20000
namespace Go.Proofs.YtfenipelcpmkpaaGreatDoor
open Go Go.Abs
structure MsgD where
 kind:Int
 chain:ByteArray
 trust:Int
 kn:aU
 cl:Int
 up:Ab
 up2:Ab
 other:Int
 oend:Int
 ed:Int
 ord:Bool
 sh:bB
 tr:iF
 tout:Int
 next:Int
 pk:d_
 ack:List UInt8
def encMsg (m:MsgD):List I:=[.s (.int .i64 m.kind),.s (.string m.chain),.s (.int .i64 m.trust),.s (.int .i64 m.kn.h),.s (.int .i64 m.kn.t),bI m.kn.root,bI m.kn.next,.s (.int .i64 m.cl),
 .s (.int .i64 m.up.fr),.s (.string m.up.sg.hdr.c),.s (.int .i64 m.up.sg.hdr.h),.s (.int .i64 m.up.sg.hdr.t),bI m.up.sg.hdr.root,bI m.up.sg.hdr.vals,bI m.up.sg.hdr.next,valsI m.up.sg.vals,votesI m.up.sg.votes,valsI m.up.tr,
 .s (.int .i64 m.up2.fr),.s (.string m.up2.sg.hdr.c),.s (.int .i64 m.up2.sg.hdr.h),.s (.int .i64 m.up2.sg.hdr.t),bI m.up2.sg.hdr.root,bI m.up2.sg.hdr.vals,bI m.up2.sg.hdr.next,valsI m.up2.sg.vals,votesI m.up2.sg.votes,valsI m.up2.tr,
 .s (.int .i64 m.other),.s (.int .i64 m.oend),.s (.int .i64 m.ed),.s (.bool m.ord),
 .s (.int .i64 m.sh.h),.s (.int .i64 m.sh.p.i),.s (.int .i64 m.sh.p.n),bI m.sh.p.k,bI m.sh.p.v,bbI m.sh.p.path,.s (.bool m.sh.g.hl),.s (.bool m.sh.g.hr),
 .s (.int .i64 m.sh.g.left.i),.s (.int .i64 m.sh.g.left.n),bI m.sh.g.left.k,bI m.sh.g.left.v,bbI m.sh.g.left.path,.s (.int .i64 m.sh.g.right.i),.s (.int .i64 m.sh.g.right.n),bI m.sh.g.right.k,bI m.sh.g.right.v,bbI m.sh.g.right.path,
 .s (.string m.tr.d),.s (.int .u64 m.tr.n),.s (.string m.tr.s),.s (.string m.tr.r),.s (.int .i64 m.tout),.s (.int .i64 m.next),
 .s (.int .i64 m.pk.fr),.s (.int .i64 m.pk.de),.s (.int .i64 m.pk.seq),bI m.pk.data,.s (.int .i64 m.pk.tout),bI m.ack]
def Xq (m:MsgD):D:=.agg ((encMsg m).map .i)
structure rq (m:MsgD):Prop where
 kn:abS m.kn
 up:WQ m.up
 up2:WQ m.up2
 tn:m.tr.n < 18446744073709551616
 td:m.tr.d.size<=1048576
 ts:m.tr.s.size<=1048576
 tr:m.tr.r.size<=1048576
 fr:iG m.pk.fr
 de:iG m.pk.de
 data:m.pk.data.length<=1048576
 ack:m.ack.length<=1048576
structure ll where
 err:Int
 num:Int
 pk:d_
def Ed (d:ll):D:=.agg [.i (.s (.int .i64 d.err)),.i (.s (.int .i64 d.num)),.i (.s (.int .i64 d.pk.fr)),.i (.s (.int .i64 d.pk.de)),.i (.s (.int .i64 d.pk.seq)),.i (bI d.pk.data),.i (.s (.int .i64 d.pk.tout))]
def dE (e:Int):ll:=⟨e,0,zeroPk⟩
attribute [simp,go_sem] encMsg Xq Ed dE
def kR (s:ByteArray):Bool:=rY s ⟨#[35]⟩
def Nh (s:StateD) (m:MsgD):StateD × ll :=
 if m.kind=1 then
  (if (s.cls.length:Int)=4 then (s,dE 5)
  else if (FX m.chain m.trust m.kn).2=0 then ({ s with cls:=s.cls++[(FX m.chain m.trust m.kn).1] },⟨0,s.cls.length,zeroPk⟩) else (s,dE (FX m.chain m.trust m.kn).2))
 else if m.cl < 0\/(s.cls.length:Int)<=m.cl then (s,dE 6)
 else
  let r:=if m.kind=2 then gM (iQ s m.cl) m.up s.t else nG (iQ s m.cl) m.up m.up2 s.t
  if r.2=0 then ({ s with cls:=s.cls.set m.cl.toNat r.1 },dE 0) else (s,dE r.2)
def endA (s:StateD) (m:MsgD):StateD × Int × Int :=
 if m.kind=4 then kS s m.cl m.other
 else if m.kind=5 then rR s m.cl m.other m.oend m.sh
 else if m.kind=6 then ((ackCn s m.ed m.oend m.sh).1,0,(ackCn s m.ed m.oend m.sh).2)
 else if m.kind=7 then ((confCn s m.ed m.sh).1,0,(confCn s m.ed m.sh).2)
 else if m.kind=8 then kT s m.ed m.ord
 else if m.kind=9 then rT s m.ed m.ord m.oend m.sh
 else if m.kind=10 then ((vQ s m.ed m.oend m.sh).1,0,(vQ s m.ed m.oend m.sh).2)
 else if m.kind=11 then ((iE 2 3 s m.ed m.sh).1,0,(iE 2 3 s m.ed m.sh).2)
 else if m.kind=12 then ((kJ s m.ed).1,0,(kJ s m.ed).2)
 else ((iE 3 4 s m.ed m.sh).1,0,(iE 3 4 s m.ed m.sh).2)
def Jm (s:StateD) (m:MsgD):StateD × d_ × Int :=
 let q:=bL (fP m.tr)
 if q.2=0 then
  (if kR q.1.s=true then (s,zeroPk,7)
  else
   let r:=jR s m.ed (fP q.1) m.tout
   if r.2.2=0 then (let b:=lN r.1.pus m.ed q.1; if b.2=0 then ({ r.1 with pus:=b.1 },r.2.1,0) else (s,zeroPk,(b.2:Int))) else (s,zeroPk,r.2.2))
 else (s,zeroPk,q.2)
def Xx (s:StateD) (p:d_):List UInt8 × List PurseD :=
 let q:=bL p.data
 if q.2=0/\kR q.1.r=false then (let b:=vZ s.pus p.de p.fr q.1; if b.2=0 then ([49],b.1) else ([48],s.pus)) else ([48],s.pus)
def Pb (s:StateD) (m:MsgD):StateD × Int :=
 let r:=kP s m.pk (Xx s m.pk).1 m.sh
 if r.2=0 then ({ r.1 with pus:=(Xx s m.pk).2 },0) else (s,r.2)
def O_ (s:StateD) (m:MsgD):StateD × Int :=
 let r:=if m.kind=16 then rf s m.pk m.ack m.sh else jW s m.pk m.next m.sh
 let back:=if m.kind=16 then decide (m.ack=[48]) else true
 if r.2=0 then
  (let q:=bL m.pk.data
  if q.2=0/\back=true then (let b:=mi r.1.pus m.pk.fr q.1; if b.2=0 then ({ r.1 with pus:=b.1 },0) else (s,(b.2:Int))) else (r.1,0))
 else (s,r.2)
def Pj (s:StateD) (t:iF):StateD × Int :=
 let q:=bL (fP t)
 if q.2=0 then
  (if kR q.1.s=true\/kR q.1.r=true then (s,7)
  else (let b:=kZ s.pus q.1.s q.1.r q.1.d q.1.n; if b.2=0 then ({ s with pus:=b.1 },0) else (s,(b.2:Int))))
 else (s,q.2)
def qE (s:StateD) (m:MsgD):StateD × ll :=
 if m.kind < 1\/18 < m.kind then (s,dE 1)
 else if m.kind<=3 then Nh s m
 else if m.kind<=13 then ((endA s m).1,⟨(endA s m).2.2,(endA s m).2.1,zeroPk⟩)
 else if m.kind=14 then ((Jm s m).1,⟨(Jm s m).2.2,0,(Jm s m).2.1⟩)
 else if m.kind=15 then ((Pb s m).1,dE (Pb s m).2)
 else if m.kind=18 then ((Pj s m.tr).1,dE (Pj s m.tr).2)
 else ((O_ s m).1,dE (O_ s m).2)
def doS (s:StateD) (m:MsgD):StateD × ll :=
 if bu s=0 then (if (qE s m).2.err=0 then qE s m else (s,dE (qE s m).2.err)) else (zeroSt,dE (bu s))
def ji (s:StateD) (later:Int):StateD × Int :=
 if bu s=0 then (if later < 1\/1000000000000 < later\/1000000000000 < s.t+later\/s.h=1000000000000 then (zeroSt,3) else ({ s with h:=s.h+1,t:=s.t+later },0)) else (zeroSt,bu s)
def Jq:Ab:=⟨0,⟨⟨⟨#[]⟩,0,0,[],[],[]⟩,[],[]⟩,[]⟩
def zSh:bB:=⟨0,⟨0,0,[],[],[]⟩,⟨false,false,⟨0,0,[],[],[]⟩,⟨0,0,[],[],[]⟩⟩⟩
def zeroMsg:MsgD:=⟨0,⟨#[]⟩,0,⟨0,0,[],[]⟩,0,Jq,Jq,0,0,0,false,zSh,⟨⟨#[]⟩,0,⟨#[]⟩,⟨#[]⟩⟩,0,0,⟨0,0,0,[],0⟩,[]⟩
attribute [simp,go_sem] Jq zSh zeroMsg
theorem EY:WQ Jq:=⟨⟨⟨by decide,by decide,by decide,by decide⟩,by decide,by simp,by simp⟩,by decide,by simp,by decide⟩
structure TOk (t:iF):Prop where
 d:1<=t.d.size/\t.d.size<=40
 s:1<=t.s.size/\t.s.size<=40
 r:1<=t.r.size/\t.r.size<=40
 n:0 < t.n/\t.n < 18446744073709551616
theorem words3 {a b c:ByteArray} (h:wC [a,b,c]=0):(1<=a.size/\a.size<=40)/\(1<=b.size/\b.size<=40)/\(1<=c.size/\c.size<=40):=by
 unfold wC at h
 split at h
 ·rename_i q
  simp only [List.all_cons,List.all_nil,Bool.and_true,Bool.and_eq_true,wordOk_iff] at q
  exact q
 ·cases h
theorem oP {b:List UInt8} (h:(bL b).2=0):TOk (bL b).1:=by
 unfold bL at h ⊢
 by_cases he:(readF b).2=0
 ·rw [if_pos he] at h ⊢
  obtain ⟨m,e,hm⟩:∃ m e,readF b=(m,e):=⟨_,_,rfl⟩
  rw [hm] at h he ⊢
  simp only at he h ⊢
  subst he
  obtain ⟨_,hn⟩:=read_write hm
  by_cases h4:m.length=4
  ·obtain ⟨p,q,r,s,rfl⟩:=four4 m h4
   have hq:=hn q (by simp)
   simp only [Ms,Nk] at h ⊢
   split at h
   ·rename_i hk
    rw [if_pos hk]
    split at h
    ·rename_i hwd
     rw [if_pos hwd]
     split at h
     ·cases h
     ·rename_i h0
      rw [if_neg h0]
      obtain ⟨w1,w2,w3⟩:=words3 hwd
      exact ⟨w1,w2,w3,by simp only at h0 ⊢; omega⟩
    ·rename_i hne; exact absurd h hne
   ·cases h
  ·rw [Gw h4] at h; cases h
 ·rw [if_neg he] at h; simp only at h; omega
def P64 (l:List PurseD):Prop:=∀ p∈l,p.n < 18446744073709551616
theorem di {s:StateD} (ok:StOk s) (h:P64 s.pus):bH s.pus :=
 ⟨ok.lpus,fun p hp=>(ok.pus.all p hp).o,fun p hp=>(ok.pus.all p hp).d,fun p hp=>⟨by have:=(ok.pus.all p hp).n; omega,h p hp⟩,ok.pus.srt⟩
open Go.RowKit Go.Proofs.YtfenipelcpmkpaaGreatDoor.Ty
theorem tO (s:ByteArray):PureD Tryz.prog 217 [.i (.s (.string s))] (boolD (kR s)):=by
 refine ak fun R hR=>?_
 have c1:=Me s ⟨#[35]⟩
 unfold kR at hR
 generalize rY s ⟨#[35]⟩=B at *
 refine aa 5 Tryz.func217 rfl rfl rfl (fun _ _=>rfl) ?_
 exact wkl trivial
theorem Bz (s:StateD) (ok:StOk s) (m:MsgD) (hm:rq m):PureD Tryz.prog 172 [stateD s,.rp (encMsg m) 0] (.tup [stateD (Nh s m).1,Ed (Nh s m).2]):=by
 refine ak fun R hR=>?_
 have e1:=kN s ok.sm
 have hl:=ok.lcl
 unfold Nh at hR
 by_cases k1:m.kind=1
 ·rw [if_pos k1] at hR
  by_cases h4:(s.cls.length:Int)=4
  ·rw [if_pos h4] at hR
   clear ok e1 hm
   refine aa 136 Tryz.func172 rfl rfl rfl (fun _ _=>rfl) ?_
   exact wkl trivial
  ·rw [if_neg h4] at hR
   have c1:=ZX m.chain m.trust m.kn hm.kn
   clear ok hm
   by_cases h5:(FX m.chain m.trust m.kn).2=0
   ·rw [if_pos h5] at hR
    rw [h5] at c1
    generalize (FX m.chain m.trust m.kn).1=C at *
    have m1:s.cls.map gW++[gW C]=(s.cls++[C]).map gW:=by simp
    have m2:s.cls.length+1=(s.cls++[C]).length:=by simp
    simp only [gW,lQ] at m1
    generalize s.cls++[C]=L at *
    clear h5
    refine aa 136 Tryz.func172 rfl rfl rfl (fun _ _=>rfl) ?_
    exact wkl trivial
   ·rw [if_neg h5] at hR
    generalize FX m.chain m.trust m.kn=C at *
    clear e1
    refine aa 136 Tryz.func172 rfl rfl rfl (fun _ _=>rfl) ?_
    exact wkl trivial
 ·rw [if_neg k1] at hR
  by_cases h4:m.cl < 0\/(s.cls.length:Int)<=m.cl
  ·rw [if_pos h4] at hR
   clear ok e1 hm
   refine aa 136 Tryz.func172 rfl rfl rfl (fun _ _=>rfl) ?_
   exact wkl trivial
  ·rw [if_neg h4] at hR
   have hi:m.cl.toNat < s.cls.length:=by omega
   have hc:=(ok.cls _ (List.getElem_mem hi)).len
   rw [(fM (s:=s) (i:=m.cl) (by omega)).1] at hR
   have s0:=aH (f:=gW) hi
   have c1:=Nq (s.cls[m.cl.toNat]'hi) m.up s.t (by omega) hm.up
   have c2:=RN (s.cls[m.cl.toNat]'hi) m.up m.up2 s.t (by omega) hm.up hm.up2
   have s1:=fun x=>List.getElem?_set_self (l:=s.cls.map gW) (i:=m.cl.toNat) (a:=x) (by simpa using hi)
   have s2:∀ x y,((s.cls.map gW).set m.cl.toNat x).set m.cl.toNat y=(s.cls.map gW).set m.cl.toNat y:=fun x y=>List.set_set x
   have s3:∀ C,(s.cls.map gW).set m.cl.toNat (gW C)=(s.cls.set m.cl.toNat C).map gW:=fun C=>List.map_set.symm
   have s4:∀ C,(s.cls.set m.cl.toNat C).length=s.cls.length:=fun C=>by simp
   clear ok hm
   generalize s.cls[m.cl.toNat]=x at *
   by_cases k2:m.kind=2
   ·simp only [if_pos k2] at hR
    clear c2
    by_cases h5:(gM x m.up s.t).2=0
    ·rw [if_pos h5] at hR
     rw [h5] at c1
     generalize (gM x m.up s.t).1=C at *
     have s5:=(s4 C).symm
     have s3:=s3 C
     simp only [gW,lQ] at s3
     clear s4
     generalize s.cls.set m.cl.toNat C=L at *
     refine aa 136 Tryz.func172 rfl rfl rfl (fun _ _=>rfl) ?_
     exact wkl trivial
    ·rw [if_neg h5] at hR
     generalize gM x m.up s.t=C at *
     clear e1 s1 s2 s3 s4
     refine aa 136 Tryz.func172 rfl rfl rfl (fun _ _=>rfl) ?_
     exact wkl trivial
   ·simp only [if_neg k2] at hR
    clear c1
    by_cases h5:(nG x m.up m.up2 s.t).2=0
    ·rw [if_pos h5] at hR
     rw [h5] at c2
     generalize (nG x m.up m.up2 s.t).1=C at *
     have s5:=(s4 C).symm
     have s3:=s3 C
     simp only [gW,lQ] at s3
     clear s4
     generalize s.cls.set m.cl.toNat C=L at *
     refine aa 136 Tryz.func172 rfl rfl rfl (fun _ _=>rfl) ?_
     exact wkl trivial
    ·rw [if_neg h5] at hR
     generalize nG x m.up m.up2 s.t=C at *
     clear e1 s1 s2 s3 s4
     refine aa 136 Tryz.func172 rfl rfl rfl (fun _ _=>rfl) ?_
     exact wkl trivial
theorem TF (s:StateD) (hs:StSm s) (m:MsgD):PureD Tryz.prog 173 [stateD s,.rp (encMsg m) 0] (.tup [stateD (endA s m).1,intD (endA s m).2.1,intD (endA s m).2.2]):=by
 refine ak fun R hR=>?_
 have c1:=QU s hs m.cl m.other
 have c2:=Ub s hs m.cl m.other m.oend m.sh
 have c3:=WM s hs m.ed m.oend m.sh
 have c4:=Rt s hs m.ed m.sh
 have c5:=QV s hs m.ed m.ord
 have c6:=Uc s hs m.ed m.ord m.oend m.sh
 have c7:=WN s hs m.ed m.oend m.sh
 have c8:=Ru s hs m.ed m.sh
 have c9:=IQ s hs m.ed m.sh
 have c10:=Ng s hs m.ed
 unfold endA at hR
 generalize kS s m.cl m.other=A1 at *
 generalize rR s m.cl m.other m.oend m.sh=A2 at *
 generalize ackCn s m.ed m.oend m.sh=A3 at *
 generalize confCn s m.ed m.sh=A4 at *
 generalize kT s m.ed m.ord=A5 at *
 generalize rT s m.ed m.ord m.oend m.sh=A6 at *
 generalize vQ s m.ed m.oend m.sh=A7 at *
 generalize iE 2 3 s m.ed m.sh=A8 at *
 generalize iE 3 4 s m.ed m.sh=A9 at *
 generalize kJ s m.ed=A10 at *
 clear hs
 refine aa 183 Tryz.func173 rfl rfl rfl (fun _ _=>rfl) ?_
 exact wkl trivial
theorem qO (t:iF):(fP t).length<=1048576:=by have:=mr (Tf t); unfold fP; omega
theorem Ho (s:StateD) (hs:StSm s) (h64:P64 s.pus) (m:MsgD) (hm:rq m):PureD Tryz.prog 174 [stateD s,.rp (encMsg m) 0] (.tup [stateD (Jm s m).1,AY (Jm s m).2.1,intD (Jm s m).2.2]):=by
 refine ak fun R hR=>?_
 have c1:=ED m.tr hm.tn hm.td hm.ts hm.tr
 have c2:=yf (fP m.tr) (qO _)
 unfold Jm at hR
 by_cases h1:(bL (fP m.tr)).2=0
 ·have ht:=oP h1
  simp only [if_pos h1] at hR
  rw [h1] at c2
  generalize fP m.tr=B at *
  generalize (bL B).1=t at *
  have c3:=tO t.s
  cases hsf:kR t.s
  ·rw [hsf] at c3 hR
   simp only [Bool.false_eq_true,if_false] at hR
   have d1:=ht.d
   have d2:=ht.s
   have d3:=ht.r
   have c4:=ED t ht.n.2 (by omega) (by omega) (by omega)
   have c5:=PY s hs m.ed (fP t) (qO _) m.tout
   by_cases h2:(jR s m.ed (fP t) m.tout).2.2=0
   ·rw [if_pos h2] at hR
    rw [h2] at c5
    have hr:=uk.1 h2
    obtain ⟨ok,hi,_⟩:=endPk_ok hr.en
    have hp:(jR s m.ed (fP t) m.tout).1.pus=s.pus:=by rw [ul hr]; rfl
    have hl:=ok.lch
    have c6:=Vk s.pus (di ok h64) m.ed (by unfold iG; omega) t ht.n.2
    rw [<- hp] at c6
    clear hp hr ok h2 d1 d2 d3 ht h1 hs h64 hm
    generalize fP t=B2 at *
    generalize jR s m.ed B2 m.tout=A at *
    generalize lN A.1.pus m.ed t=L at *
    refine aa 72 Tryz.func174 rfl rfl rfl (fun _ _=>rfl) ?_
    exact wkl trivial
   ·rw [if_neg h2] at hR
    clear d1 d2 d3 ht h1 hs h64 hm
    generalize fP t=B2 at *
    generalize jR s m.ed B2 m.tout=A at *
    refine aa 72 Tryz.func174 rfl rfl rfl (fun _ _=>rfl) ?_
    exact wkl trivial
  ·rw [hsf] at c3 hR
   simp only [if_true] at hR
   clear ht h1 hs h64 hm
   refine aa 72 Tryz.func174 rfl rfl rfl (fun _ _=>rfl) ?_
   exact wkl trivial
 ·simp only [if_neg h1] at hR
  clear hs h64 hm
  generalize fP m.tr=B at *
  generalize bL B=Q at *
  refine aa 72 Tryz.func174 rfl rfl rfl (fun _ _=>rfl) ?_
  exact wkl trivial
theorem Hu (s:StateD) (ok:StOk s) (h64:P64 s.pus) (t0:iF) (h0:t0.n < 18446744073709551616) (h01:t0.d.size<=1048576) (h02:t0.s.size<=1048576) (h03:t0.r.size<=1048576) :
  PureD Tryz.prog 176 [stateD s,trD t0] (.tup [stateD (Pj s t0).1,intD (Pj s t0).2]):=by
 refine ak fun R hR=>?_
 have c1:=ED t0 h0 h01 h02 h03
 have c2:=yf (fP t0) (qO _)
 unfold Pj at hR
 by_cases h1:(bL (fP t0)).2=0
 ·have ht:=oP h1
  simp only [if_pos h1] at hR
  rw [h1] at c2
  generalize fP t0=B at *
  generalize (bL B).1=t at *
  have c3:=tO t.s
  have c4:=tO t.r
  have c5:=FZ s.pus (di ok h64) t.s t.r t.d t.n ht.n.2
  have e1:=kN s ok.sm
  simp only [sD,wD,eO] at c5
  clear ht h1 ok h64
  generalize kZ s.pus t.s t.r t.d t.n=L at *
  generalize kR t.s=p1 at *
  generalize kR t.r=p2 at *
  cases p1
  all_goals
   cases p2
   all_goals
    simp only [Bool.false_eq_true,if_false,if_true,true_or,or_true,or_false,or_self] at hR
    refine aa 49 Tryz.func176 rfl rfl rfl (fun _ _=>rfl) ?_
    exact wkl trivial
 ·simp only [if_neg h1] at hR
  clear ok h64
  generalize fP t0=B at *
  generalize bL B=Q at *
  refine aa 49 Tryz.func176 rfl rfl rfl (fun _ _=>rfl) ?_
  exact wkl trivial
theorem Ht (s:StateD) (ok:StOk s) (h64:P64 s.pus) (m:MsgD) (hm:rq m):PureD Tryz.prog 175 [stateD s,.rp (encMsg m) 0] (.tup [stateD (Pb s m).1,intD (Pb s m).2]):=by
 refine ak fun R hR=>?_
 have c1:=yf m.pk.data hm.data
 have c4:=FB s ok.sm m.pk hm.data [49] (by simp) m.sh
 have c5:=FB s ok.sm m.pk hm.data [48] (by simp) m.sh
 unfold Pb Xx at hR
 by_cases h1:(bL m.pk.data).2=0
 ·have ht:=oP h1
  have d1:=ht.d
  have c2:=tO (bL m.pk.data).1.r
  have c3:=ZU s.pus (di ok h64) m.pk.de m.pk.fr hm.de hm.fr (bL m.pk.data).1 ht.n.2 (by omega)
  simp only [h1,true_and] at hR
  rw [h1] at c1
  clear ht d1 h1 hm h64
  generalize (bL m.pk.data).1=t at *
  generalize vZ s.pus m.pk.de m.pk.fr t=L at *
  generalize kR t.r=p1 at *
  cases p1
  ·simp only [if_true] at hR
   by_cases h2:L.2=0
   ·simp only [if_pos h2] at hR
    rw [h2] at c3
    generalize kP s m.pk [49] m.sh=X at *
    clear c5
    refine aa 75 Tryz.func175 rfl rfl rfl (fun _ _=>rfl) ?_
    exact wkl trivial
   ·simp only [if_neg h2] at hR
    generalize kP s m.pk [48] m.sh=X at *
    clear c4
    refine aa 75 Tryz.func175 rfl rfl rfl (fun _ _=>rfl) ?_
    exact wkl trivial
  ·simp only [Bool.true_eq_false,if_false] at hR
   generalize kP s m.pk [48] m.sh=X at *
   clear c4 c3
   refine aa 75 Tryz.func175 rfl rfl rfl (fun _ _=>rfl) ?_
   exact wkl trivial
 ·simp only [h1,false_and,if_false] at hR
  generalize bL m.pk.data=Q at *
  generalize kP s m.pk [48] m.sh=X at *
  clear c4 hm h64
  refine aa 75 Tryz.func175 rfl rfl rfl (fun _ _=>rfl) ?_
  exact wkl trivial
theorem wW (s:StateD) (ok:StOk s) (h64:P64 s.pus) (m:MsgD) (hm:rq m):PureD Tryz.prog 177 [stateD s,.rp (encMsg m) 0] (.tup [stateD (O_ s m).1,intD (O_ s m).2]):=by
 refine ak fun R hR=>?_
 have c1:=yf m.pk.data hm.data
 unfold O_ at hR
 by_cases k1:m.kind=16
 ·simp only [if_pos k1] at hR
  have c2:=gN m.ack [48]
  have c3:=WL s ok.sm m.pk hm.data m.ack hm.ack m.sh
  by_cases h2:(rf s m.pk m.ack m.sh).2=0
  ·obtain ⟨hp,c,_,_,_,_,he⟩:=ackPk_zero h2
   have hpu:(rf s m.pk m.ack m.sh).1.pus=s.pus:=by rw [he]; rfl
   have hfr:=hp.pk.fr
   simp only [if_pos h2] at hR
   rw [h2] at c3
   by_cases h1:(bL m.pk.data).2=0
   ·have ht:=oP h1
    have c4:=TN s.pus (di ok h64) m.pk.fr (by unfold N12 at hfr; unfold iG; omega) (bL m.pk.data).1 ht.n.2
    rw [<- hpu] at c4
    simp only [h1,true_and] at hR
    rw [h1] at c1
    clear ht h1 hm h64 hp he hpu hfr h2 ok
    generalize (bL m.pk.data).1=t at *
    generalize rf s m.pk m.ack m.sh=X at *
    generalize mi X.1.pus m.pk.fr t=L at *
    by_cases hq:m.ack=[48]
    ·simp only [decide_eq_true hq,if_true] at hR c2
     refine aa 95 Tryz.func177 rfl rfl rfl (fun _ _=>rfl) ?_
     exact wkl trivial
    ·simp only [decide_eq_false hq,Bool.false_eq_true,if_false] at hR c2
     refine aa 95 Tryz.func177 rfl rfl rfl (fun _ _=>rfl) ?_
     exact wkl trivial
   ·simp only [h1,false_and,if_false] at hR
    clear hm h64 hp he hpu hfr h2 ok
    generalize bL m.pk.data=Q at *
    generalize rf s m.pk m.ack m.sh=X at *
    generalize decide (m.ack=[48])=E at *
    refine aa 95 Tryz.func177 rfl rfl rfl (fun _ _=>rfl) ?_
    exact wkl trivial
  ·simp only [if_neg h2] at hR
   clear hm h64 ok
   generalize rf s m.pk m.ack m.sh=X at *
   generalize decide (m.ack=[48])=E at *
   generalize bL m.pk.data=Q at *
   refine aa 95 Tryz.func177 rfl rfl rfl (fun _ _=>rfl) ?_
   exact wkl trivial
 ·simp only [if_neg k1] at hR
  have c3:=QD s ok.sm m.pk hm.data m.next m.sh
  by_cases h2:(jW s m.pk m.next m.sh).2=0
  ·obtain ⟨hp,c,_,_,_,_,he⟩:=latePk_zero h2
   have hpu:(jW s m.pk m.next m.sh).1.pus=s.pus:=by rw [he]; rfl
   have hfr:=hp.pk.fr
   simp only [if_pos h2] at hR
   rw [h2] at c3
   by_cases h1:(bL m.pk.data).2=0
   ·have ht:=oP h1
    have c4:=TN s.pus (di ok h64) m.pk.fr (by unfold N12 at hfr; unfold iG; omega) (bL m.pk.data).1 ht.n.2
    rw [<- hpu] at c4
    simp only [h1,true_and,if_true] at hR
    rw [h1] at c1
    clear ht h1 hm h64 hp he hpu hfr h2 ok
    generalize (bL m.pk.data).1=t at *
    generalize jW s m.pk m.next m.sh=X at *
    generalize mi X.1.pus m.pk.fr t=L at *
    refine aa 95 Tryz.func177 rfl rfl rfl (fun _ _=>rfl) ?_
    exact wkl trivial
   ·simp only [h1,false_and,if_false] at hR
    clear hm h64 hp he hpu hfr h2 ok
    generalize bL m.pk.data=Q at *
    generalize jW s m.pk m.next m.sh=X at *
    refine aa 95 Tryz.func177 rfl rfl rfl (fun _ _=>rfl) ?_
    exact wkl trivial
  ·simp only [if_neg h2] at hR
   clear hm h64 ok
   generalize jW s m.pk m.next m.sh=X at *
   generalize bL m.pk.data=Q at *
   refine aa 95 Tryz.func177 rfl rfl rfl (fun _ _=>rfl) ?_
   exact wkl trivial
theorem StOk.cl {s:StateD} (h:StOk s) {x:List aG} (hl:x.length<=4) (hx:∀ c∈x,BN c):StOk { s with cls:=x } :=
 ⟨h.name,h.h,h.t,hl,h.lcn,h.lch,h.lsent,h.lgot,h.lacks,h.lpus,hx,h.cns,h.chs,h.sent,h.got,h.acks,h.pus⟩
theorem StOk.pu {s:StateD} (h:StOk s) {x:List PurseD} (hx:bH x):StOk { s with pus:=x } :=
 ⟨h.name,h.h,h.t,h.lcl,h.lcn,h.lch,h.lsent,h.lgot,h.lacks,hx.len,h.cls,h.cns,h.chs,h.sent,h.got,h.acks,⟨fun p hp=>⟨hx.wo p hp,hx.wd p hp,by have:=(hx.pos p hp).1; omega⟩,hx.srt⟩⟩
theorem bH.p64 {l:List PurseD} (h:bH l):P64 l:=fun p hp=>(h.pos p hp).2
def EO (s:StateD) (kind:Int) (l:List PurseD):Prop:=∀ d,pV l d=pV s.pus d\/((14<=kind/\kind<=17)/\∃ i:Nat,i < s.chs.length/\rY d (nN i)=true)
structure ApStep (s:StateD) (m:MsgD) (t:StateD):Prop where
 ok:StOk t
 p64:P64 t.pus
 nm:t.name=s.name
 hh:t.h=s.h
 tt:t.t=s.t
 place:if m.kind<=3 then { t with cls:=s.cls }=s else if m.kind<=7 then { t with cns:=s.cns }=s else if m.kind<=13 then { t with chs:=s.chs }=s else if m.kind=18 then { t with pus:=s.pus }=s
  else { t with chs:=s.chs,sent:=s.sent,got:=s.got,acks:=s.acks,pus:=s.pus }=s
 sup:EO s m.kind t.pus
theorem mF (s:StateD) (k:Int):EO s k s.pus:=fun _=>.inl rfl
theorem UZ {c:ByteArray} {t:Int} {k:aU} (h:(FX c t k).2=0):BN (FX c t k).1:=by
 unfold FX at h ⊢
 split at h
 ·rename_i q; rw [if_pos q]; exact fu.1 q
 ·exact absurd h ‹_›
theorem Mv {c:aG} {u:Ab} {now:Int} (h:(gM c u now).2=0):BN (gM c u now).1:=by
 obtain ⟨a,b,e⟩:=follow_zero h
 rw [e]
 exact Yv (asked_zero.1 a).1 (be_hdr b).1
theorem RO {c:aG} {a b:Ab} {now:Int} (h:(nG c a b now).2=0):BN (nG c a b now).1:=by
 unfold nG at h ⊢
 split at h
 ·rename_i h1
  rw [if_pos h1]
  split at h
  ·rename_i h2
   rw [if_pos h2]
   split at h
   ·rename_i h3
    rw [if_pos h3]
    split at h
    ·rename_i h4
     rw [if_pos h4]
     have hc:=(asked_zero.1 h1).1
     exact ⟨hc.name,hc.trust,hc.len,hc.k,hc.rise⟩
    ·cases h
   ·rename_i h3; exact absurd h h3
  ·rename_i h2; exact absurd h h2
 ·rename_i h1; exact absurd h h1
theorem RF {s:StateD} {m:MsgD} (ok:StOk s) (h64:P64 s.pus) (hk:m.kind<=3) (h:(Nh s m).2.err=0):ApStep s m (Nh s m).1:=by
 have fin:∀ x:List aG,x.length<=4->(∀ c∈x,BN c)->ApStep s m { s with cls:=x }:=fun x hl hx =>
  ⟨ok.cl hl hx,h64,rfl,rfl,rfl,by rw [if_pos hk],mF s _⟩
 have hl:=ok.lcl
 have hset:∀ C,BN C->∀ c∈s.cls.set m.cl.toNat C,BN c:=fun C hC c hc=>by
  rcases List.mem_or_eq_of_mem_set hc with hc | rfl
  ·exact ok.cls c hc
  ·exact hC
 unfold Nh at h ⊢
 split at h
 ·rename_i k1
  rw [if_pos k1]
  split at h
  ·cases h
  ·rename_i h4
   rw [if_neg h4]
   split at h
   ·rename_i h5
    rw [if_pos h5]
    refine fin _ (by simp; omega) fun c hc=>?_
    rcases List.mem_append.1 hc with hc | hc
    ·exact ok.cls c hc
    ·rw [List.mem_singleton.1 hc]; exact UZ h5
   ·exact absurd h ‹_›
 ·rename_i k1
  rw [if_neg k1]
  split at h
  ·cases h
  ·rename_i h4
   rw [if_neg h4]
   by_cases k2:m.kind=2
   ·simp only [if_pos k2] at h ⊢
    split at h
    ·rename_i h5
     rw [if_pos h5]
     exact fin _ (by simp; omega) (hset _ (Mv h5))
    ·exact absurd h ‹_›
   ·simp only [if_neg k2] at h ⊢
    split at h
    ·rename_i h5
     rw [if_pos h5]
     exact fin _ (by simp; omega) (hset _ (RO h5))
    ·exact absurd h ‹_›
theorem same_cn {s t:StateD} (h:{ t with cns:=s.cns }=s):t.pus=s.pus/\t.name=s.name/\t.h=s.h/\t.t=s.t:=by
 rw [<- h]; exact ⟨rfl,rfl,rfl,rfl⟩
theorem same_ch {s t:StateD} (h:{ t with chs:=s.chs }=s):t.pus=s.pus/\t.name=s.name/\t.h=s.h/\t.t=s.t:=by
 rw [<- h]; exact ⟨rfl,rfl,rfl,rfl⟩
theorem same_pk {s t:StateD} (h:{ t with chs:=s.chs,sent:=s.sent,got:=s.got,acks:=s.acks }=s):t.pus=s.pus/\t.name=s.name/\t.h=s.h/\t.t=s.t:=by
 rw [<- h]; exact ⟨rfl,rfl,rfl,rfl⟩
theorem Rw {s t:StateD} {m:MsgD} {p:Int} (h64:P64 s.pus) (h1:¬ m.kind<=3) (h2:m.kind<=7) (h:CnStep s p t):ApStep s m t:=by
 obtain ⟨a,b,c,d⟩:=same_cn h.same
 exact ⟨h.ok,by rw [a]; exact h64,b,c,d,by rw [if_neg h1,if_pos h2]; exact h.same,by rw [a]; exact mF s _⟩
theorem IU {s t:StateD} {m:MsgD} {p:Int} (h64:P64 s.pus) (h1:¬ m.kind<=7) (h2:m.kind<=13) (h:rQ s p t):ApStep s m t:=by
 obtain ⟨a,b,c,d⟩:=same_ch h.same
 exact ⟨h.ok,by rw [a]; exact h64,b,c,d,by rw [if_neg (by omega),if_neg h1,if_pos h2]; exact h.same,by rw [a]; exact mF s _⟩
theorem Qf {s t:StateD} {m:MsgD} {p:Int} (h1:14<=m.kind/\m.kind<=17) (h:HV s p t) {l:List PurseD} (hl:bH l) (hs:EO s m.kind l):ApStep s m { t with pus:=l }:=by
 obtain ⟨a,b,c,d⟩:=same_pk h.same
 refine ⟨h.ok.pu hl,hl.p64,b,c,d,?_,hs⟩
 rw [if_neg (by omega),if_neg (by omega),if_neg (by omega),if_neg (by omega)]
 have e:=h.same
 simp only
 rw [<- a]; exact e
theorem Rj {s:StateD} {m:MsgD} (h64:P64 s.pus) (h1:¬ m.kind<=3) (h2:m.kind<=13) (h:(endA s m).2.2=0):ApStep s m (endA s m).1:=by
 unfold endA at h ⊢
 split at h
 ·rename_i k; rw [if_pos k]; exact Rw h64 h1 (by omega) (Dv h 0).1
 ·rename_i k; rw [if_neg k]; split at h
  ·rename_i k; rw [if_pos k]; exact Rw h64 h1 (by omega) (Ih h 0).1
  ·rename_i k; rw [if_neg k]; split at h
   ·rename_i k; rw [if_pos k]; exact Rw h64 h1 (by omega) (I_ h).1
   ·rename_i k; rw [if_neg k]; split at h
    ·rename_i k; rw [if_pos k]; exact Rw h64 h1 (by omega) (Ei h).1
    ·rename_i k; rw [if_neg k]; split at h
     ·rename_i k; rw [if_pos k]; exact IU h64 (by omega) h2 (Dw h 0).1
     ·rename_i k; rw [if_neg k]; split at h
      ·rename_i k; rw [if_pos k]; exact IU h64 (by omega) h2 (Ii h 0).1
      ·rename_i k; rw [if_neg k]; split at h
       ·rename_i k; rw [if_pos k]; exact IU h64 (by omega) h2 (Ja h)
       ·rename_i k; rw [if_neg k]; split at h
        ·rename_i k; rw [if_pos k]; exact IU h64 (by omega) h2 (vD (by omega) h)
        ·rename_i k; rw [if_neg k]; split at h
         ·rename_i k; rw [if_pos k]; exact IU h64 (by omega) h2 (Bw h)
         ·rename_i k; rw [if_neg k]; exact IU h64 (by omega) h2 (vD (by omega) h)
theorem VR {s:StateD} {i:Int} (hi:0<=i/\i < (s.chs.length:Int)) {d:ByteArray} (h:rY d (nN i)=true):∃ j:Nat,j < s.chs.length/\rY d (nN j)=true :=
 ⟨i.toNat,by omega,by rw [show ((i.toNat:Nat):Int)=i by omega]; exact h⟩
theorem LB {s:StateD} (h:bH s.pus) {k:Int} (hk:14<=k/\k<=17) {ch:Int} (hi:0<=ch/\ch < (s.chs.length:Int)) {t:iF} (he:(lN s.pus ch t).2=0):EO s k (lN s.pus ch t).1:=by
 intro d
 unfold lN at he ⊢
 split at he
 ·rename_i hp
  rw [if_pos hp]
  have:=(burn_ok h he).2.2 d
  by_cases hd:t.d=d
  ·subst hd; exact .inr ⟨hk,VR hi hp⟩
  ·rw [if_neg hd] at this; exact .inl (by omega)
 ·rename_i hp
  rw [if_neg hp]
  exact .inl ((yM h he).2.2 d)
theorem Sb {s:StateD} (h:bH s.pus) {k:Int} (hk:14<=k/\k<=17) {ch:Int} (hi:0<=ch/\ch < (s.chs.length:Int)) {t:iF} (he:(mi s.pus ch t).2=0):EO s k (mi s.pus ch t).1:=by
 intro d
 unfold mi at he ⊢
 split at he
 ·rename_i hp
  rw [if_pos hp]
  have:=(mint_ok h he).2.1 d
  by_cases hd:t.d=d
  ·subst hd; exact .inr ⟨hk,VR hi hp⟩
  ·rw [if_neg hd] at this; exact .inl (by omega)
 ·rename_i hp
  rw [if_neg hp]
  exact .inl ((yM h he).2.2 d)
theorem Rv {s:StateD} (h:bH s.pus) {k:Int} (hk:14<=k/\k<=17) {ch other:Int} (hi:0<=ch/\ch < (s.chs.length:Int)) {t:iF} (he:(vZ s.pus ch other t).2=0):EO s k (vZ s.pus ch other t).1:=by
 intro d
 unfold vZ at he ⊢
 split at he
 ·rename_i hp
  rw [if_pos hp]
  exact .inl ((yM h he).2.2 d)
 ·rename_i hp
  rw [if_neg hp]
  have:=(mint_ok h he).2.1 d
  by_cases hd:nN ch++t.d=d
  ·subst hd; exact .inr ⟨hk,VR hi (Q_ _ _)⟩
  ·rw [if_neg hd] at this; exact .inl (by omega)
theorem PS {s:StateD} {m:MsgD} (h64:P64 s.pus) (hk:m.kind=14) (h:(Jm s m).2.2=0):ApStep s m (Jm s m).1:=by
 unfold Jm at h ⊢
 simp only at h ⊢
 split at h
 ·rename_i h1
  rw [if_pos h1]
  split at h
  ·cases h
  ·rename_i h2
   rw [if_neg h2]
   split at h
   ·rename_i h3
    rw [if_pos h3]
    have hr:=uk.1 h3
    have hst:=JY hr
    obtain ⟨ok,hi,_⟩:=endPk_ok hr.en
    rw [ul hr] at h ⊢
    by_cases h4:(lN s.pus m.ed (bL (fP m.tr)).1).2=0
    ·have e:∀ q,(Cu s m.ed q).pus=s.pus:=fun _=>rfl
     simp only [e] at h ⊢
     rw [if_pos h4]
     have hk2:14<=m.kind/\m.kind<=17:=by omega
     exact Qf hk2 hst (Dr (di ok h64) ..) (LB (di ok h64) hk2 hi h4)
    ·have e:∀ q,(Cu s m.ed q).pus=s.pus:=fun _=>rfl
     simp only [e] at h
     rw [if_neg h4] at h
     simp only at h; omega
   ·exact absurd h ‹_›
 ·exact absurd h ‹_›
theorem Qb {s:StateD} {m:MsgD} (ok:StOk s) (h64:P64 s.pus) (hk:m.kind=15) (h:(Pb s m).2=0):ApStep s m (Pb s m).1:=by
 unfold Pb at h ⊢
 simp only at h ⊢
 split at h
 ·rename_i h3
  rw [if_pos h3]
  have hr:=Cw.1 h3
  have hst:=Ke hr
  obtain ⟨_,hi,_⟩:=endPk_ok hr.en
  have hk2:14<=m.kind/\m.kind<=17:=by omega
  have hs:bH (Xx s m.pk).2/\EO s m.kind (Xx s m.pk).2:=by
   unfold Xx
   simp only
   split
   ·split
    ·rename_i he
     exact ⟨IL (di ok h64) ..,Rv (di ok h64) hk2 hi he⟩
    ·exact ⟨di ok h64,mF s _⟩
   ·exact ⟨di ok h64,mF s _⟩
  rw [Cx hr]
  exact Qf hk2 hst hs.1 hs.2
 ·exact absurd h ‹_›
theorem Av {s:StateD} {m:MsgD} (h64:P64 s.pus) (hk:16<=m.kind/\m.kind<=17) {c:ChanD} (hp:vT s m.pk) (hc:ChOk c) (back:Bool)
  (h:(if (bL m.pk.data).2=0/\back=true then (if (mi (j_ s m.pk c).pus m.pk.fr (bL m.pk.data).1).2=0 then (({ j_ s m.pk c with pus:=(mi (j_ s m.pk c).pus m.pk.fr (bL m.pk.data).1).1 },0):StateD × Int) else (s,((mi (j_ s m.pk c).pus m.pk.fr (bL m.pk.data).1).2:Int))) else (j_ s m.pk c,0)).2=0) :
  ApStep s m (if (bL m.pk.data).2=0/\back=true then (if (mi (j_ s m.pk c).pus m.pk.fr (bL m.pk.data).1).2=0 then (({ j_ s m.pk c with pus:=(mi (j_ s m.pk c).pus m.pk.fr (bL m.pk.data).1).1 },0):StateD × Int) else (s,((mi (j_ s m.pk c).pus m.pk.fr (bL m.pk.data).1).2:Int))) else (j_ s m.pk c,0)).1:=by
 have hst:=MI hp hc
 obtain ⟨ok,hi,_⟩:=endPk_ok hp.en
 have hk2:14<=m.kind/\m.kind<=17:=by omega
 split at h
 ·rename_i h1
  rw [if_pos h1]
  split at h
  ·rename_i h2
   rw [if_pos h2]
   exact Qf hk2 hst (IZ (di ok h64) ..) (Sb (di ok h64) hk2 hi h2)
  ·rename_i h2; simp only at h; omega
 ·rename_i h1
  rw [if_neg h1]
  have:=Qf hk2 hst (di ok h64) (mF s _)
  exact this
theorem PV {s:StateD} {m:MsgD} (h64:P64 s.pus) (hk:16<=m.kind/\m.kind<=17) (h:(O_ s m).2=0):ApStep s m (O_ s m).1:=by
 unfold O_ at h ⊢
 by_cases k1:m.kind=16
 ·simp only [if_pos k1] at h ⊢
  by_cases h2:(rf s m.pk m.ack m.sh).2=0
  ·obtain ⟨hp,c,hc,_,_,_,he⟩:=ackPk_zero h2
   rw [if_pos h2] at h ⊢
   rw [he] at h ⊢
   exact Av h64 hk hp hc _ h
  ·rw [if_neg h2] at h; exact absurd h h2
 ·simp only [if_neg k1] at h ⊢
  by_cases h2:(jW s m.pk m.next m.sh).2=0
  ·obtain ⟨hp,c,hc,_,_,_,he⟩:=latePk_zero h2
   rw [if_pos h2] at h ⊢
   rw [he] at h ⊢
   have h2:=Av h64 hk hp hc true (by simpa only [and_true] using h)
   simpa only [and_true] using h2
  ·rw [if_neg h2] at h; exact absurd h h2
theorem Ra {s:StateD} {m:MsgD} (ok:StOk s) (h64:P64 s.pus) (hk:m.kind=18) (h:(Pj s m.tr).2=0):ApStep s m (Pj s m.tr).1:=by
 unfold Pj at h ⊢
 generalize bL (fP m.tr)=q at *
 simp only at h ⊢
 by_cases h1:q.2=0
 ·rw [if_pos h1] at h ⊢
  by_cases h2:kR q.1.s=true\/kR q.1.r=true
  ·rw [if_pos h2] at h; cases h
  ·rw [if_neg h2] at h ⊢
   by_cases h3:(kZ s.pus q.1.s q.1.r q.1.d q.1.n).2=0
   ·rw [if_pos h3]
    have hr:=mO (di ok h64) q.1.s q.1.r q.1.d q.1.n
    have hm:=(yM (di ok h64) h3).2.2
    refine ⟨ok.pu hr,hr.p64,rfl,rfl,rfl,?_,fun d=>.inl (hm d)⟩
    rw [if_neg (by omega),if_neg (by omega),if_neg (by omega),if_pos hk]
   ·rw [if_neg h3] at h
    simp only at h; omega
 ·rw [if_neg h1] at h; exact absurd h h1
theorem Bu {s:StateD} {m:MsgD} (ok:StOk s) (h64:P64 s.pus) (h:(qE s m).2.err=0):ApStep s m (qE s m).1:=by
 unfold qE at h ⊢
 split at h
 ·cases h
 ·rename_i k0; rw [if_neg k0]; split at h
  ·rename_i k; rw [if_pos k]; exact RF ok h64 k h
  ·rename_i k3; rw [if_neg k3]; split at h
   ·rename_i k; rw [if_pos k]; exact Rj h64 k3 k h
   ·rename_i k4; rw [if_neg k4]; split at h
    ·rename_i k; rw [if_pos k]; exact PS h64 k h
    ·rename_i k5; rw [if_neg k5]; split at h
     ·rename_i k; rw [if_pos k]; exact Qb ok h64 k h
     ·rename_i k6; rw [if_neg k6]; split at h
      ·rename_i k; rw [if_pos k]; exact Ra ok h64 k h
      ·rename_i k7; rw [if_neg k7]; exact PV h64 (by omega) h
theorem doS_done {s:StateD} {m:MsgD} (h:(doS s m).2.err=0):StOk s/\(qE s m).2.err=0/\doS s m=qE s m:=by
 unfold doS at h ⊢
 split at h
 ·rename_i k; rw [if_pos k]; split at h
  ·rename_i k2; rw [if_pos k2]; exact ⟨aB.1 k,k2,rfl⟩
  ·rename_i k2; exact absurd h k2
 ·exact absurd h ‹_›
theorem GD {s:StateD} {m:MsgD} (h64:P64 s.pus) (h:(doS s m).2.err=0):ApStep s m (doS s m).1:=by
 obtain ⟨ok,h0,e⟩:=doS_done h
 rw [e]; exact Bu ok h64 h0
theorem aai (s:StateD) (hs:StSm s) (h64:P64 s.pus) (m:MsgD) (hm:rq m):PureD Tryz.prog 122 [stateD s,Xq m] (.tup [stateD (doS s m).1,Ed (doS s m).2]):=by
 refine ak fun R hR=>?_
 have c1:=ik s hs
 unfold doS at hR
 by_cases h:bu s=0
 ·have ok:=aB.1 h
  rw [h] at c1
  rw [if_pos h] at hR
  have c2:=JP s hs
  have c3:(qE s m).2.err=0->PureD Tryz.prog 121 [stateD (qE s m).1] (stateD (qE s m).1):=fun e=>JP _ (Bu ok h64 e).ok.sm
  by_cases e:(qE s m).2.err=0
  ·rw [if_pos e] at hR
   have c3:=c3 e
   unfold qE at hR e c3
   by_cases k0:m.kind < 1\/18 < m.kind
   ·rw [if_pos k0] at hR e c3
    try simp only [dE] at hR e c3
    exact absurd e (by decide)
   ·rw [if_neg k0] at hR e c3
    by_cases k1:m.kind<=3
    ·rw [if_pos k1] at hR e c3
     have c4:=Bz s ok m hm
     generalize Nh s m=X at *
     try simp only [dE] at hR e c3
     clear hs ok hm h h64
     refine aa 99 Tryz.func122 rfl rfl rfl (fun _ _=>rfl) ?_
     exact wkl trivial
    ·rw [if_neg k1] at hR e c3
     by_cases k2:m.kind<=13
     ·rw [if_pos k2] at hR e c3
      have c4:=TF s hs m
      generalize endA s m=X at *
      try simp only [dE] at hR e c3
      clear hs ok hm h h64
      refine aa 99 Tryz.func122 rfl rfl rfl (fun _ _=>rfl) ?_
      exact wkl trivial
     ·rw [if_neg k2] at hR e c3
      by_cases k3:m.kind=14
      ·rw [if_pos k3] at hR e c3
       have c4:=Ho s hs h64 m hm
       generalize Jm s m=X at *
       try simp only [dE] at hR e c3
       clear hs ok hm h h64
       refine aa 99 Tryz.func122 rfl rfl rfl (fun _ _=>rfl) ?_
       exact wkl trivial
      ·rw [if_neg k3] at hR e c3
       by_cases k4:m.kind=15
       ·rw [if_pos k4] at hR e c3
        have c4:=Ht s ok h64 m hm
        generalize Pb s m=X at *
        try simp only [dE] at hR e c3
        clear hs ok hm h h64
        refine aa 99 Tryz.func122 rfl rfl rfl (fun _ _=>rfl) ?_
        exact wkl trivial
       ·rw [if_neg k4] at hR e c3
        by_cases k5:m.kind=18
        ·rw [if_pos k5] at hR e c3
         have c4:=Hu s ok h64 m.tr hm.tn hm.td hm.ts hm.tr
         generalize Pj s m.tr=X at *
         try simp only [dE] at hR e c3
         clear hs ok hm h h64
         refine aa 99 Tryz.func122 rfl rfl rfl (fun _ _=>rfl) ?_
         exact wkl trivial
        ·rw [if_neg k5] at hR e c3
         have c4:=wW s ok h64 m hm
         generalize O_ s m=X at *
         try simp only [dE] at hR e c3
         clear hs ok hm h h64
         refine aa 99 Tryz.func122 rfl rfl rfl (fun _ _=>rfl) ?_
         exact wkl trivial
  ·rw [if_neg e] at hR
   clear c3
   unfold qE at hR e
   by_cases k0:m.kind < 1\/18 < m.kind
   ·rw [if_pos k0] at hR e
    try simp only [dE] at hR e
    clear hs ok hm h h64
    refine aa 99 Tryz.func122 rfl rfl rfl (fun _ _=>rfl) ?_
    exact wkl trivial
   ·rw [if_neg k0] at hR e
    by_cases k1:m.kind<=3
    ·rw [if_pos k1] at hR e
     have c4:=Bz s ok m hm
     generalize Nh s m=X at *
     try simp only [dE] at hR e
     clear hs ok hm h h64
     refine aa 99 Tryz.func122 rfl rfl rfl (fun _ _=>rfl) ?_
     exact wkl trivial
    ·rw [if_neg k1] at hR e
     by_cases k2:m.kind<=13
     ·rw [if_pos k2] at hR e
      have c4:=TF s hs m
      generalize endA s m=X at *
      try simp only [dE] at hR e
      clear hs ok hm h h64
      refine aa 99 Tryz.func122 rfl rfl rfl (fun _ _=>rfl) ?_
      exact wkl trivial
     ·rw [if_neg k2] at hR e
      by_cases k3:m.kind=14
      ·rw [if_pos k3] at hR e
       have c4:=Ho s hs h64 m hm
       generalize Jm s m=X at *
       try simp only [dE] at hR e
       clear hs ok hm h h64
       refine aa 99 Tryz.func122 rfl rfl rfl (fun _ _=>rfl) ?_
       exact wkl trivial
      ·rw [if_neg k3] at hR e
       by_cases k4:m.kind=15
       ·rw [if_pos k4] at hR e
        have c4:=Ht s ok h64 m hm
        generalize Pb s m=X at *
        try simp only [dE] at hR e
        clear hs ok hm h h64
        refine aa 99 Tryz.func122 rfl rfl rfl (fun _ _=>rfl) ?_
        exact wkl trivial
       ·rw [if_neg k4] at hR e
        by_cases k5:m.kind=18
        ·rw [if_pos k5] at hR e
         have c4:=Hu s ok h64 m.tr hm.tn hm.td hm.ts hm.tr
         generalize Pj s m.tr=X at *
         try simp only [dE] at hR e
         clear hs ok hm h h64
         refine aa 99 Tryz.func122 rfl rfl rfl (fun _ _=>rfl) ?_
         exact wkl trivial
        ·rw [if_neg k5] at hR e
         have c4:=wW s ok h64 m hm
         generalize O_ s m=X at *
         try simp only [dE] at hR e
         clear hs ok hm h h64
         refine aa 99 Tryz.func122 rfl rfl rfl (fun _ _=>rfl) ?_
         exact wkl trivial
 ·rw [if_neg h] at hR
  generalize bu s=W at *
  clear hs hm h64
  refine aa 99 Tryz.func122 rfl rfl rfl (fun _ _=>rfl) ?_
  exact wkl trivial
theorem Si (s:StateD) (hs:StSm s) (later:Int):PureD Tryz.prog 120 [stateD s,intD later] (.tup [stateD (ji s later).1,intD (ji s later).2]):=by
 refine ak fun R hR=>?_
 have c1:=ik s hs
 unfold ji at hR
 by_cases h:bu s=0
 ·have ok:=aB.1 h
  have hh:=ok.h
  have ht:=ok.t
  have e1:=kN s hs
  rw [h] at c1
  rw [if_pos h] at hR
  unfold N12 at hh ht
  have w2:IntKind.i64.wrap (s.h+1)=s.h+1:=aD (by omega) (by omega)
  clear ok h hs
  by_cases h1:later < 1\/1000000000000 < later
  ·rw [if_pos (by omega)] at hR
   clear e1
   refine aa 45 Tryz.func120 rfl rfl rfl (fun _ _=>rfl) ?_
   exact wkl trivial
  ·have w1:IntKind.i64.wrap (s.t+later)=s.t+later:=aD (by omega) (by omega)
   by_cases h2:later < 1\/1000000000000 < later\/1000000000000 < s.t+later\/s.h=1000000000000
   ·rw [if_pos h2] at hR
    clear e1
    refine aa 45 Tryz.func120 rfl rfl rfl (fun _ _=>rfl) ?_
    exact wkl trivial
   ·rw [if_neg h2] at hR
    refine aa 45 Tryz.func120 rfl rfl rfl (fun _ _=>rfl) ?_
    exact wkl trivial
 ·rw [if_neg h] at hR
  generalize bu s=W at *
  clear hs
  refine aa 45 Tryz.func120 rfl rfl rfl (fun _ _=>rfl) ?_
  exact wkl trivial
end Go.Proofs.YtfenipelcpmkpaaGreatDoor
