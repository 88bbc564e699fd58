/- Merged texts: ApP, ApA, ApB, ApD, ApE, ApL, ApF, Law13A. -/
import Derived.Test.YtadoaljnfeoecaaGreatDoorGPk
import Derived.Test.YtadoaljnfeoecaaGreatDoorGCo
import Derived.Test.YtadoaljnfeoecaaGreatDoorGBk
import Derived.Test.YtadoaljnfeoecaaGreatDoorGHs
import Derived.Test.YtadoaljnfeoecaaGreatDoorGSt
import Derived.Test.YtadoaljnfeoecaaGreatDoorBkR
import Derived.Test.YtadoaljnfeoecaaGreatDoorGCh
import Derived.Test.YtadoaljnfeoecaaGreatDoorGHd
import Derived.Test.YtadoaljnfeoecaaGreatDoorClM
set_option linter.all false
namespace Go.Proofs.YtadoaljnfeoecaaGreatDoor
open Go Go.Abs
structure MsgD where
 kind:Int
 chain:ByteArray
 trust:Int
 kn:KnownD
 cl:Int
 up:UpdD
 up2:UpdD
 other:Int
 oend:Int
 ed:Int
 ord:Bool
 sh:ShownD
 tr:TranD
 tout:Int
 next:Int
 pk:PackD
 ack:List UInt8
def encMsg (m:MsgD):List I:=[.s (.int .i64 m.kind),.s (.string m.chain),.s (.int .i64 m.trust),.s (.int .i64 m.kn.h),.s (.int .i64 m.kn.t),bI m.kn.root,bI m.kn.next,.s (.int .i64 m.cl),
 .s (.int .i64 m.up.fr),.s (.string m.up.sg.hdr.c),.s (.int .i64 m.up.sg.hdr.h),.s (.int .i64 m.up.sg.hdr.t),bI m.up.sg.hdr.root,bI m.up.sg.hdr.vals,bI m.up.sg.hdr.next,valsI m.up.sg.vals,votesI m.up.sg.votes,valsI m.up.tr,
 .s (.int .i64 m.up2.fr),.s (.string m.up2.sg.hdr.c),.s (.int .i64 m.up2.sg.hdr.h),.s (.int .i64 m.up2.sg.hdr.t),bI m.up2.sg.hdr.root,bI m.up2.sg.hdr.vals,bI m.up2.sg.hdr.next,valsI m.up2.sg.vals,votesI m.up2.sg.votes,valsI m.up2.tr,
 .s (.int .i64 m.other),.s (.int .i64 m.oend),.s (.int .i64 m.ed),.s (.bool m.ord),
 .s (.int .i64 m.sh.h),.s (.int .i64 m.sh.p.i),.s (.int .i64 m.sh.p.n),bI m.sh.p.k,bI m.sh.p.v,bbI m.sh.p.path,.s (.bool m.sh.g.hl),.s (.bool m.sh.g.hr),
 .s (.int .i64 m.sh.g.left.i),.s (.int .i64 m.sh.g.left.n),bI m.sh.g.left.k,bI m.sh.g.left.v,bbI m.sh.g.left.path,.s (.int .i64 m.sh.g.right.i),.s (.int .i64 m.sh.g.right.n),bI m.sh.g.right.k,bI m.sh.g.right.v,bbI m.sh.g.right.path,
 .s (.string m.tr.d),.s (.int .u64 m.tr.n),.s (.string m.tr.s),.s (.string m.tr.r),.s (.int .i64 m.tout),.s (.int .i64 m.next),
 .s (.int .i64 m.pk.fr),.s (.int .i64 m.pk.de),.s (.int .i64 m.pk.seq),bI m.pk.data,.s (.int .i64 m.pk.tout),bI m.ack]
def msgD (m:MsgD):D:=.agg ((encMsg m).map .i)
structure MsgSm (m:MsgD):Prop where
 kn:KnSm m.kn
 up:UpSm m.up
 up2:UpSm m.up2
 tn:m.tr.n < 18446744073709551616
 td:m.tr.d.size≤1048576
 ts:m.tr.s.size≤1048576
 tr:m.tr.r.size≤1048576
 fr:Num6 m.pk.fr
 de:Num6 m.pk.de
 data:m.pk.data.length≤1048576
 ack:m.ack.length≤1048576
structure DoneD where
 err:Int
 num:Int
 pk:PackD
def doneD (d:DoneD):D:=.agg [.i (.s (.int .i64 d.err)),.i (.s (.int .i64 d.num)),.i (.s (.int .i64 d.pk.fr)),.i (.s (.int .i64 d.pk.de)),.i (.s (.int .i64 d.pk.seq)),.i (bI d.pk.data),.i (.s (.int .i64 d.pk.tout))]
def dE (e:Int):DoneD:=⟨e,0,zeroPk⟩
attribute [simp,go_sem] encMsg msgD doneD dE
def isSafe (s:ByteArray):Bool:=hasP s ⟨#[35]⟩
def cliS (s:StateD) (m:MsgD):StateD × DoneD :=
 if m.kind=1 then
  (if (s.cls.length:Int)=4 then (s,dE 5)
  else if (newC m.chain m.trust m.kn).2=0 then ({ s with cls:=s.cls++[(newC m.chain m.trust m.kn).1] },⟨0,s.cls.length,zeroPk⟩) else (s,dE (newC m.chain m.trust m.kn).2))
 else if m.cl < 0∨(s.cls.length:Int)≤m.cl then (s,dE 6)
 else
  let r:=if m.kind=2 then followC (clAt s m.cl) m.up s.t else catchC (clAt s m.cl) m.up m.up2 s.t
  if r.2=0 then ({ s with cls:=s.cls.set m.cl.toNat r.1 },dE 0) else (s,dE r.2)
def endA (s:StateD) (m:MsgD):StateD × Int × Int :=
 if m.kind=4 then initCn s m.cl m.other
 else if m.kind=5 then tryCn s m.cl m.other m.oend m.sh
 else if m.kind=6 then ((ackCn s m.ed m.oend m.sh).1,0,(ackCn s m.ed m.oend m.sh).2)
 else if m.kind=7 then ((confCn s m.ed m.sh).1,0,(confCn s m.ed m.sh).2)
 else if m.kind=8 then initCh s m.ed m.ord
 else if m.kind=9 then tryCh s m.ed m.ord m.oend m.sh
 else if m.kind=10 then ((ackCh s m.ed m.oend m.sh).1,0,(ackCh s m.ed m.oend m.sh).2)
 else if m.kind=11 then ((confCh 2 3 s m.ed m.sh).1,0,(confCh 2 3 s m.ed m.sh).2)
 else if m.kind=12 then ((closeCh s m.ed).1,0,(closeCh s m.ed).2)
 else ((confCh 3 4 s m.ed m.sh).1,0,(confCh 3 4 s m.ed m.sh).2)
def sndA (s:StateD) (m:MsgD):StateD × PackD × Int :=
 let q:=parseT (bytesT m.tr)
 if q.2=0 then
  (if isSafe q.1.s=true then (s,zeroPk,7)
  else
   let r:=sendPk s m.ed (bytesT q.1) m.tout
   if r.2.2=0 then (let b:=leaveP r.1.pus m.ed q.1; if b.2=0 then ({ r.1 with pus:=b.1 },r.2.1,0) else (s,zeroPk,(b.2:Int))) else (s,zeroPk,r.2.2))
 else (s,zeroPk,q.2)
def comA (s:StateD) (p:PackD):List UInt8 × List PurseD :=
 let q:=parseT p.data
 if q.2=0∧isSafe q.1.r=false then (let b:=comeP s.pus p.de p.fr q.1; if b.2=0 then ([49],b.1) else ([48],s.pus)) else ([48],s.pus)
def rcvA (s:StateD) (m:MsgD):StateD × Int :=
 let r:=recvPk s m.pk (comA s m.pk).1 m.sh
 if r.2=0 then ({ r.1 with pus:=(comA s m.pk).2 },0) else (s,r.2)
def setA (s:StateD) (m:MsgD):StateD × Int :=
 let r:=if m.kind=16 then ackPk s m.pk m.ack m.sh else latePk s m.pk m.next m.sh
 let back:=if m.kind=16 then decide (m.ack=[48]) else true
 if r.2=0 then
  (let q:=parseT m.pk.data
  if q.2=0∧back=true then (let b:=backP r.1.pus m.pk.fr q.1; if b.2=0 then ({ r.1 with pus:=b.1 },0) else (s,(b.2:Int))) else (r.1,0))
 else (s,r.2)
def givA (s:StateD) (t:TranD):StateD × Int :=
 let q:=parseT (bytesT t)
 if q.2=0 then
  (if isSafe q.1.s=true∨isSafe q.1.r=true then (s,7)
  else (let b:=moveP s.pus q.1.s q.1.r q.1.d q.1.n; if b.2=0 then ({ s with pus:=b.1 },0) else (s,(b.2:Int))))
 else (s,q.2)
def doS0 (s:StateD) (m:MsgD):StateD × DoneD :=
 if m.kind < 1∨18 < m.kind then (s,dE 1)
 else if m.kind≤3 then cliS s m
 else if m.kind≤13 then ((endA s m).1,⟨(endA s m).2.2,(endA s m).2.1,zeroPk⟩)
 else if m.kind=14 then ((sndA s m).1,⟨(sndA s m).2.2,0,(sndA s m).2.1⟩)
 else if m.kind=15 then ((rcvA s m).1,dE (rcvA s m).2)
 else if m.kind=18 then ((givA s m.tr).1,dE (givA s m.tr).2)
 else ((setA s m).1,dE (setA s m).2)
def doS (s:StateD) (m:MsgD):StateD × DoneD :=
 if wrongS s=0 then (if (doS0 s m).2.err=0 then doS0 s m else (s,dE (doS0 s m).2.err)) else (zeroSt,dE (wrongS s))
def nextS (s:StateD) (later:Int):StateD × Int :=
 if wrongS s=0 then (if later < 1∨1000000000000 < later∨1000000000000 < s.t+later∨s.h=1000000000000 then (zeroSt,3) else ({ s with h:=s.h+1,t:=s.t+later },0)) else (zeroSt,wrongS s)
structure TOk (t:TranD):Prop where
 d:1≤t.d.size∧t.d.size≤40
 s:1≤t.s.size∧t.s.size≤40
 r:1≤t.r.size∧t.r.size≤40
 n:0 < t.n∧t.n < 18446744073709551616
theorem words3 {a b c:ByteArray} (h:wordsE [a,b,c]=0):(1≤a.size∧a.size≤40)∧(1≤b.size∧b.size≤40)∧(1≤c.size∧c.size≤40):=by
 unfold wordsE at h
 split at h
 ·rename_i q
  simp only [List.all_cons,List.all_nil,Bool.and_true,Bool.and_eq_true,wordOk_iff] at q
  exact q
 ·cases h
theorem parse_ok {b:List UInt8} (h:(parseT b).2=0):TOk (parseT b).1:=by
 unfold parseT at h ⊢
 by_cases he:(readF b).2=0
 ·rw [if_pos he] at h ⊢
  obtain ⟨m,e,hm⟩:∃ m e,readF b=(m,e):=⟨_,_,rfl⟩
  rw [hm] at h he ⊢
  simp only at he h ⊢
  subst he
  obtain ⟨_,hn⟩:=read_write hm
  by_cases h4:m.length=4
  ·obtain ⟨p,q,r,s,rfl⟩:=four4 m h4
   have hq:=hn q (by simp)
   simp only [formT,checkT] at h ⊢
   split at h
   ·rename_i hk
    rw [if_pos hk]
    split at h
    ·rename_i hwd
     rw [if_pos hwd]
     split at h
     ·cases h
     ·rename_i h0
      rw [if_neg h0]
      obtain ⟨w1,w2,w3⟩:=words3 hwd
      exact ⟨w1,w2,w3,by simp only at h0 ⊢; omega⟩
    ·rename_i hne; exact absurd h hne
   ·cases h
  ·rw [formT_no h4] at h; cases h
 ·rw [if_neg he] at h; simp only at h; omega
def P64 (l:List PurseD):Prop:=∀ p∈l,p.n < 18446744073709551616
theorem rightP_of {s:StateD} (ok:StOk s) (h:P64 s.pus):RightP s.pus :=
 ⟨ok.lpus,fun p hp=>(ok.pus.all p hp).o,fun p hp=>(ok.pus.all p hp).d,fun p hp=>⟨by have:=(ok.pus.all p hp).n; omega,h p hp⟩,ok.pus.srt⟩
end Go.Proofs.YtadoaljnfeoecaaGreatDoor
set_option linter.all false
namespace Go.Proofs.YtadoaljnfeoecaaGreatDoor
open Go Go.Abs Go.RowKit Go.Proofs.YtadoaljnfeoecaaGreatDoor.Ty
set_option maxHeartbeats 16000000
set_option maxRecDepth 20000
theorem apsafe_A (s:ByteArray):PureD Tryz.prog 52 [.i (.s (.string s))] (boolD (isSafe s)):=by
 refine hide_r fun R hR=>?_
 have c1:=hasp_A s ⟨#[35]⟩
 unfold isSafe at hR
 generalize hasP s ⟨#[35]⟩=B at *
 refine callD_W 5 Tryz.func52 rfl rfl rfl (fun _ _=>rfl) ?_
 exact wkl trivial
theorem clients_A (s:StateD) (ok:StOk s) (m:MsgD) (hm:MsgSm m):PureD Tryz.prog 22 [stateD s,.rp (encMsg m) 0] (.tup [stateD (cliS s m).1,doneD (cliS s m).2]):=by
 refine hide_r fun R hR=>?_
 have e1:=sown_D s ok.sm
 have hl:=ok.lcl
 unfold cliS at hR
 by_cases k1:m.kind=1
 ·rw [if_pos k1] at hR
  by_cases h4:(s.cls.length:Int)=4
  ·rw [if_pos h4] at hR
   clear ok e1 hm
   refine callD_W 136 Tryz.func22 rfl rfl rfl (fun _ _=>rfl) ?_
   exact wkl trivial
  ·rw [if_neg h4] at hR
   have c1:=cnew_A m.chain m.trust m.kn hm.kn
   clear ok hm
   by_cases h5:(newC m.chain m.trust m.kn).2=0
   ·rw [if_pos h5] at hR
    rw [h5] at c1
    generalize (newC m.chain m.trust m.kn).1=C at *
    have m1:s.cls.map encC++[encC C]=(s.cls++[C]).map encC:=by simp
    have m2:s.cls.length+1=(s.cls++[C]).length:=by simp
    simp only [encC,knownI] at m1
    generalize s.cls++[C]=L at *
    clear h5
    refine callD_W 136 Tryz.func22 rfl rfl rfl (fun _ _=>rfl) ?_
    exact wkl trivial
   ·rw [if_neg h5] at hR
    generalize newC m.chain m.trust m.kn=C at *
    clear e1
    refine callD_W 136 Tryz.func22 rfl rfl rfl (fun _ _=>rfl) ?_
    exact wkl trivial
 ·rw [if_neg k1] at hR
  by_cases h4:m.cl < 0∨(s.cls.length:Int)≤m.cl
  ·rw [if_pos h4] at hR
   clear ok e1 hm
   refine callD_W 136 Tryz.func22 rfl rfl rfl (fun _ _=>rfl) ?_
   exact wkl trivial
  ·rw [if_neg h4] at hR
   have hi:m.cl.toNat < s.cls.length:=by omega
   have hc:=(ok.cls _ (List.getElem_mem hi)).len
   rw [(clAt_mem (s:=s) (i:=m.cl) (by omega)).1] at hR
   have s0:=get_lt (f:=encC) hi
   have c1:=cfollow_A (s.cls[m.cl.toNat]'hi) m.up s.t (by omega) hm.up
   have c2:=ccatch_A (s.cls[m.cl.toNat]'hi) m.up m.up2 s.t (by omega) hm.up hm.up2
   have s1:=fun x=>List.getElem?_set_self (l:=s.cls.map encC) (i:=m.cl.toNat) (a:=x) (by simpa using hi)
   have s2:∀ x y,((s.cls.map encC).set m.cl.toNat x).set m.cl.toNat y=(s.cls.map encC).set m.cl.toNat y:=fun x y=>List.set_set x
   have s3:∀ C,(s.cls.map encC).set m.cl.toNat (encC C)=(s.cls.set m.cl.toNat C).map encC:=fun C=>List.map_set.symm
   have s4:∀ C,(s.cls.set m.cl.toNat C).length=s.cls.length:=fun C=>by simp
   clear ok hm
   generalize s.cls[m.cl.toNat]=x at *
   by_cases k2:m.kind=2
   ·simp only [if_pos k2] at hR
    clear c2
    by_cases h5:(followC x m.up s.t).2=0
    ·rw [if_pos h5] at hR
     rw [h5] at c1
     generalize (followC x m.up s.t).1=C at *
     have s5:=(s4 C).symm
     have s3:=s3 C
     simp only [encC,knownI] at s3
     clear s4
     generalize s.cls.set m.cl.toNat C=L at *
     refine callD_W 136 Tryz.func22 rfl rfl rfl (fun _ _=>rfl) ?_
     exact wkl trivial
    ·rw [if_neg h5] at hR
     generalize followC x m.up s.t=C at *
     clear e1 s1 s2 s3 s4
     refine callD_W 136 Tryz.func22 rfl rfl rfl (fun _ _=>rfl) ?_
     exact wkl trivial
   ·simp only [if_neg k2] at hR
    clear c1
    by_cases h5:(catchC x m.up m.up2 s.t).2=0
    ·rw [if_pos h5] at hR
     rw [h5] at c2
     generalize (catchC x m.up m.up2 s.t).1=C at *
     have s5:=(s4 C).symm
     have s3:=s3 C
     simp only [encC,knownI] at s3
     clear s4
     generalize s.cls.set m.cl.toNat C=L at *
     refine callD_W 136 Tryz.func22 rfl rfl rfl (fun _ _=>rfl) ?_
     exact wkl trivial
    ·rw [if_neg h5] at hR
     generalize catchC x m.up m.up2 s.t=C at *
     clear e1 s1 s2 s3 s4
     refine callD_W 136 Tryz.func22 rfl rfl rfl (fun _ _=>rfl) ?_
     exact wkl trivial
end Go.Proofs.YtadoaljnfeoecaaGreatDoor
set_option linter.all false
namespace Go.Proofs.YtadoaljnfeoecaaGreatDoor
open Go Go.Abs Go.RowKit Go.Proofs.YtadoaljnfeoecaaGreatDoor.Ty
set_option maxHeartbeats 16000000
set_option maxRecDepth 20000
theorem ends_A (s:StateD) (hs:StSm s) (m:MsgD):PureD Tryz.prog 23 [stateD s,.rp (encMsg m) 0] (.tup [stateD (endA s m).1,intD (endA s m).2.1,intD (endA s m).2.2]):=by
 refine hide_r fun R hR=>?_
 have c1:=initcn_A s hs m.cl m.other
 have c2:=trycn_A s hs m.cl m.other m.oend m.sh
 have c3:=ackcn_A s hs m.ed m.oend m.sh
 have c4:=confcn_A s hs m.ed m.sh
 have c5:=initch_A s hs m.ed m.ord
 have c6:=trych_A s hs m.ed m.ord m.oend m.sh
 have c7:=ackch_A s hs m.ed m.oend m.sh
 have c8:=confch_A s hs m.ed m.sh
 have c9:=closedch_A s hs m.ed m.sh
 have c10:=closech_A s hs m.ed
 unfold endA at hR
 generalize initCn s m.cl m.other=A1 at *
 generalize tryCn s m.cl m.other m.oend m.sh=A2 at *
 generalize ackCn s m.ed m.oend m.sh=A3 at *
 generalize confCn s m.ed m.sh=A4 at *
 generalize initCh s m.ed m.ord=A5 at *
 generalize tryCh s m.ed m.ord m.oend m.sh=A6 at *
 generalize ackCh s m.ed m.oend m.sh=A7 at *
 generalize confCh 2 3 s m.ed m.sh=A8 at *
 generalize confCh 3 4 s m.ed m.sh=A9 at *
 generalize closeCh s m.ed=A10 at *
 clear hs
 refine callD_W 183 Tryz.func23 rfl rfl rfl (fun _ _=>rfl) ?_
 exact wkl trivial
end Go.Proofs.YtadoaljnfeoecaaGreatDoor
set_option linter.all false
namespace Go.Proofs.YtadoaljnfeoecaaGreatDoor
open Go Go.Abs Go.RowKit Go.Proofs.YtadoaljnfeoecaaGreatDoor.Ty
set_option maxHeartbeats 16000000
set_option maxRecDepth 20000
theorem bytesT_len (t:TranD):(bytesT t).length≤1048576:=by have:=writeF_len (pcsT t); unfold bytesT; omega
theorem apsend_A (s:StateD) (hs:StSm s) (h64:P64 s.pus) (m:MsgD) (hm:MsgSm m):PureD Tryz.prog 24 [stateD s,.rp (encMsg m) 0] (.tup [stateD (sndA s m).1,packD (sndA s m).2.1,intD (sndA s m).2.2]):=by
 refine hide_r fun R hR=>?_
 have c1:=bytes_A m.tr hm.tn hm.td hm.ts hm.tr
 have c2:=parse_A (bytesT m.tr) (bytesT_len _)
 unfold sndA at hR
 by_cases h1:(parseT (bytesT m.tr)).2=0
 ·have ht:=parse_ok h1
  simp only [if_pos h1] at hR
  rw [h1] at c2
  generalize bytesT m.tr=B at *
  generalize (parseT B).1=t at *
  have c3:=apsafe_A t.s
  cases hsf:isSafe t.s
  ·rw [hsf] at c3 hR
   simp only [Bool.false_eq_true,if_false] at hR
   have d1:=ht.d
   have d2:=ht.s
   have d3:=ht.r
   have c4:=bytes_A t ht.n.2 (by omega) (by omega) (by omega)
   have c5:=sendpk_A s hs m.ed (bytesT t) (bytesT_len _) m.tout
   by_cases h2:(sendPk s m.ed (bytesT t) m.tout).2.2=0
   ·rw [if_pos h2] at hR
    rw [h2] at c5
    have hr:=sendPk_zero.1 h2
    obtain ⟨ok,hi,_⟩:=endPk_ok hr.en
    have hp:(sendPk s m.ed (bytesT t) m.tout).1.pus=s.pus:=by rw [sendPk_done hr]; rfl
    have hl:=ok.lch
    have c6:=leave_A s.pus (rightP_of ok h64) m.ed (by unfold Num6; omega) t ht.n.2
    rw [← hp] at c6
    clear hp hr ok h2 d1 d2 d3 ht h1 hs h64 hm
    generalize bytesT t=B2 at *
    generalize sendPk s m.ed B2 m.tout=A at *
    generalize leaveP A.1.pus m.ed t=L at *
    refine callD_W 72 Tryz.func24 rfl rfl rfl (fun _ _=>rfl) ?_
    exact wkl trivial
   ·rw [if_neg h2] at hR
    clear d1 d2 d3 ht h1 hs h64 hm
    generalize bytesT t=B2 at *
    generalize sendPk s m.ed B2 m.tout=A at *
    refine callD_W 72 Tryz.func24 rfl rfl rfl (fun _ _=>rfl) ?_
    exact wkl trivial
  ·rw [hsf] at c3 hR
   simp only [if_true] at hR
   clear ht h1 hs h64 hm
   refine callD_W 72 Tryz.func24 rfl rfl rfl (fun _ _=>rfl) ?_
   exact wkl trivial
 ·simp only [if_neg h1] at hR
  clear hs h64 hm
  generalize bytesT m.tr=B at *
  generalize parseT B=Q at *
  refine callD_W 72 Tryz.func24 rfl rfl rfl (fun _ _=>rfl) ?_
  exact wkl trivial
theorem apgive_A (s:StateD) (ok:StOk s) (h64:P64 s.pus) (t0:TranD) (h0:t0.n < 18446744073709551616) (h01:t0.d.size≤1048576) (h02:t0.s.size≤1048576) (h03:t0.r.size≤1048576) :
  PureD Tryz.prog 26 [stateD s,trD t0] (.tup [stateD (givA s t0).1,intD (givA s t0).2]):=by
 refine hide_r fun R hR=>?_
 have c1:=bytes_A t0 h0 h01 h02 h03
 have c2:=parse_A (bytesT t0) (bytesT_len _)
 unfold givA at hR
 by_cases h1:(parseT (bytesT t0)).2=0
 ·have ht:=parse_ok h1
  simp only [if_pos h1] at hR
  rw [h1] at c2
  generalize bytesT t0=B at *
  generalize (parseT B).1=t at *
  have c3:=apsafe_A t.s
  have c4:=apsafe_A t.r
  have c5:=move_A s.pus (rightP_of ok h64) t.s t.r t.d t.n ht.n.2
  have e1:=sown_D s ok.sm
  simp only [sD,wD,pusI] at c5
  clear ht h1 ok h64
  generalize moveP s.pus t.s t.r t.d t.n=L at *
  generalize isSafe t.s=p1 at *
  generalize isSafe t.r=p2 at *
  cases p1
  all_goals
   cases p2
   all_goals
    simp only [Bool.false_eq_true,if_false,if_true,true_or,or_true,or_false,or_self] at hR
    refine callD_W 49 Tryz.func26 rfl rfl rfl (fun _ _=>rfl) ?_
    exact wkl trivial
 ·simp only [if_neg h1] at hR
  clear ok h64
  generalize bytesT t0=B at *
  generalize parseT B=Q at *
  refine callD_W 49 Tryz.func26 rfl rfl rfl (fun _ _=>rfl) ?_
  exact wkl trivial
end Go.Proofs.YtadoaljnfeoecaaGreatDoor
set_option linter.all false
namespace Go.Proofs.YtadoaljnfeoecaaGreatDoor
open Go Go.Abs Go.RowKit Go.Proofs.YtadoaljnfeoecaaGreatDoor.Ty
set_option maxHeartbeats 16000000
set_option maxRecDepth 20000
theorem aprecv_A (s:StateD) (ok:StOk s) (h64:P64 s.pus) (m:MsgD) (hm:MsgSm m):PureD Tryz.prog 25 [stateD s,.rp (encMsg m) 0] (.tup [stateD (rcvA s m).1,intD (rcvA s m).2]):=by
 refine hide_r fun R hR=>?_
 have c1:=parse_A m.pk.data hm.data
 have c4:=recvpk_A s ok.sm m.pk hm.data [49] (by simp) m.sh
 have c5:=recvpk_A s ok.sm m.pk hm.data [48] (by simp) m.sh
 unfold rcvA comA at hR
 by_cases h1:(parseT m.pk.data).2=0
 ·have ht:=parse_ok h1
  have d1:=ht.d
  have c2:=apsafe_A (parseT m.pk.data).1.r
  have c3:=come_A s.pus (rightP_of ok h64) m.pk.de m.pk.fr hm.de hm.fr (parseT m.pk.data).1 ht.n.2 (by omega)
  simp only [h1,true_and] at hR
  rw [h1] at c1
  clear ht d1 h1 hm h64
  generalize (parseT m.pk.data).1=t at *
  generalize comeP s.pus m.pk.de m.pk.fr t=L at *
  generalize isSafe t.r=p1 at *
  cases p1
  ·simp only [if_true] at hR
   by_cases h2:L.2=0
   ·simp only [if_pos h2] at hR
    rw [h2] at c3
    generalize recvPk s m.pk [49] m.sh=X at *
    clear c5
    refine callD_W 75 Tryz.func25 rfl rfl rfl (fun _ _=>rfl) ?_
    exact wkl trivial
   ·simp only [if_neg h2] at hR
    generalize recvPk s m.pk [48] m.sh=X at *
    clear c4
    refine callD_W 75 Tryz.func25 rfl rfl rfl (fun _ _=>rfl) ?_
    exact wkl trivial
  ·simp only [Bool.true_eq_false,if_false] at hR
   generalize recvPk s m.pk [48] m.sh=X at *
   clear c4 c3
   refine callD_W 75 Tryz.func25 rfl rfl rfl (fun _ _=>rfl) ?_
   exact wkl trivial
 ·simp only [h1,false_and,if_false] at hR
  generalize parseT m.pk.data=Q at *
  generalize recvPk s m.pk [48] m.sh=X at *
  clear c4 hm h64
  refine callD_W 75 Tryz.func25 rfl rfl rfl (fun _ _=>rfl) ?_
  exact wkl trivial
theorem apsettle_A (s:StateD) (ok:StOk s) (h64:P64 s.pus) (m:MsgD) (hm:MsgSm m):PureD Tryz.prog 27 [stateD s,.rp (encMsg m) 0] (.tup [stateD (setA s m).1,intD (setA s m).2]):=by
 refine hide_r fun R hR=>?_
 have c1:=parse_A m.pk.data hm.data
 unfold setA at hR
 by_cases k1:m.kind=16
 ·simp only [if_pos k1] at hR
  have c2:=equal_A m.ack [48]
  have c3:=ackpk_A s ok.sm m.pk hm.data m.ack hm.ack m.sh
  by_cases h2:(ackPk s m.pk m.ack m.sh).2=0
  ·obtain ⟨hp,c,_,_,_,_,he⟩:=ackPk_zero h2
   have hpu:(ackPk s m.pk m.ack m.sh).1.pus=s.pus:=by rw [he]; rfl
   have hfr:=hp.pk.fr
   simp only [if_pos h2] at hR
   rw [h2] at c3
   by_cases h1:(parseT m.pk.data).2=0
   ·have ht:=parse_ok h1
    have c4:=back_A s.pus (rightP_of ok h64) m.pk.fr (by unfold N12 at hfr; unfold Num6; omega) (parseT m.pk.data).1 ht.n.2
    rw [← hpu] at c4
    simp only [h1,true_and] at hR
    rw [h1] at c1
    clear ht h1 hm h64 hp he hpu hfr h2 ok
    generalize (parseT m.pk.data).1=t at *
    generalize ackPk s m.pk m.ack m.sh=X at *
    generalize backP X.1.pus m.pk.fr t=L at *
    by_cases hq:m.ack=[48]
    ·simp only [decide_eq_true hq,if_true] at hR c2
     refine callD_W 95 Tryz.func27 rfl rfl rfl (fun _ _=>rfl) ?_
     exact wkl trivial
    ·simp only [decide_eq_false hq,Bool.false_eq_true,if_false] at hR c2
     refine callD_W 95 Tryz.func27 rfl rfl rfl (fun _ _=>rfl) ?_
     exact wkl trivial
   ·simp only [h1,false_and,if_false] at hR
    clear hm h64 hp he hpu hfr h2 ok
    generalize parseT m.pk.data=Q at *
    generalize ackPk s m.pk m.ack m.sh=X at *
    generalize decide (m.ack=[48])=E at *
    refine callD_W 95 Tryz.func27 rfl rfl rfl (fun _ _=>rfl) ?_
    exact wkl trivial
  ·simp only [if_neg h2] at hR
   clear hm h64 ok
   generalize ackPk s m.pk m.ack m.sh=X at *
   generalize decide (m.ack=[48])=E at *
   generalize parseT m.pk.data=Q at *
   refine callD_W 95 Tryz.func27 rfl rfl rfl (fun _ _=>rfl) ?_
   exact wkl trivial
 ·simp only [if_neg k1] at hR
  have c3:=latepk_A s ok.sm m.pk hm.data m.next m.sh
  by_cases h2:(latePk s m.pk m.next m.sh).2=0
  ·obtain ⟨hp,c,_,_,_,_,he⟩:=latePk_zero h2
   have hpu:(latePk s m.pk m.next m.sh).1.pus=s.pus:=by rw [he]; rfl
   have hfr:=hp.pk.fr
   simp only [if_pos h2] at hR
   rw [h2] at c3
   by_cases h1:(parseT m.pk.data).2=0
   ·have ht:=parse_ok h1
    have c4:=back_A s.pus (rightP_of ok h64) m.pk.fr (by unfold N12 at hfr; unfold Num6; omega) (parseT m.pk.data).1 ht.n.2
    rw [← hpu] at c4
    simp only [h1,true_and,if_true] at hR
    rw [h1] at c1
    clear ht h1 hm h64 hp he hpu hfr h2 ok
    generalize (parseT m.pk.data).1=t at *
    generalize latePk s m.pk m.next m.sh=X at *
    generalize backP X.1.pus m.pk.fr t=L at *
    refine callD_W 95 Tryz.func27 rfl rfl rfl (fun _ _=>rfl) ?_
    exact wkl trivial
   ·simp only [h1,false_and,if_false] at hR
    clear hm h64 hp he hpu hfr h2 ok
    generalize parseT m.pk.data=Q at *
    generalize latePk s m.pk m.next m.sh=X at *
    refine callD_W 95 Tryz.func27 rfl rfl rfl (fun _ _=>rfl) ?_
    exact wkl trivial
  ·simp only [if_neg h2] at hR
   clear hm h64 ok
   generalize latePk s m.pk m.next m.sh=X at *
   generalize parseT m.pk.data=Q at *
   refine callD_W 95 Tryz.func27 rfl rfl rfl (fun _ _=>rfl) ?_
   exact wkl trivial
end Go.Proofs.YtadoaljnfeoecaaGreatDoor
set_option linter.all false
namespace Go.Proofs.YtadoaljnfeoecaaGreatDoor
open Go Go.Abs
theorem StOk.cl {s:StateD} (h:StOk s) {x:List ClientD} (hl:x.length≤4) (hx:∀ c∈x,ClOk c):StOk { s with cls:=x } :=
 ⟨h.name,h.h,h.t,hl,h.lcn,h.lch,h.lsent,h.lgot,h.lacks,h.lpus,hx,h.cns,h.chs,h.sent,h.got,h.acks,h.pus⟩
theorem StOk.pu {s:StateD} (h:StOk s) {x:List PurseD} (hx:RightP x):StOk { s with pus:=x } :=
 ⟨h.name,h.h,h.t,h.lcl,h.lcn,h.lch,h.lsent,h.lgot,h.lacks,hx.len,h.cls,h.cns,h.chs,h.sent,h.got,h.acks,⟨fun p hp=>⟨hx.wo p hp,hx.wd p hp,by have:=(hx.pos p hp).1; omega⟩,hx.srt⟩⟩
theorem RightP.p64 {l:List PurseD} (h:RightP l):P64 l:=fun p hp=>(h.pos p hp).2
def SupOk (s:StateD) (kind:Int) (l:List PurseD):Prop:=∀ d,supP l d=supP s.pus d∨((14≤kind∧kind≤17)∧∃ i:Nat,i < s.chs.length∧hasP d (mkOf i)=true)
structure ApStep (s:StateD) (m:MsgD) (t:StateD):Prop where
 ok:StOk t
 p64:P64 t.pus
 nm:t.name=s.name
 hh:t.h=s.h
 tt:t.t=s.t
 place:if m.kind≤3 then { t with cls:=s.cls }=s else if m.kind≤7 then { t with cns:=s.cns }=s else if m.kind≤13 then { t with chs:=s.chs }=s else if m.kind=18 then { t with pus:=s.pus }=s
  else { t with chs:=s.chs,sent:=s.sent,got:=s.got,acks:=s.acks,pus:=s.pus }=s
 sup:SupOk s m.kind t.pus
theorem sup_same (s:StateD) (k:Int):SupOk s k s.pus:=fun _=>.inl rfl
theorem newC_ok {c:ByteArray} {t:Int} {k:KnownD} (h:(newC c t k).2=0):ClOk (newC c t k).1:=by
 unfold newC at h ⊢
 split at h
 ·rename_i q; rw [if_pos q]; exact wrongC_zero.1 q
 ·exact absurd h ‹_›
theorem follow_ok {c:ClientD} {u:UpdD} {now:Int} (h:(followC c u now).2=0):ClOk (followC c u now).1:=by
 obtain ⟨a,b,e⟩:=follow_zero h
 rw [e]
 exact put_ok (asked_zero.1 a).1 (be_hdr b).1
theorem catch_ok {c:ClientD} {a b:UpdD} {now:Int} (h:(catchC c a b now).2=0):ClOk (catchC c a b now).1:=by
 unfold catchC at h ⊢
 split at h
 ·rename_i h1
  rw [if_pos h1]
  split at h
  ·rename_i h2
   rw [if_pos h2]
   split at h
   ·rename_i h3
    rw [if_pos h3]
    split at h
    ·rename_i h4
     rw [if_pos h4]
     have hc:=(asked_zero.1 h1).1
     exact ⟨hc.name,hc.trust,hc.len,hc.k,hc.rise⟩
    ·cases h
   ·rename_i h3; exact absurd h h3
  ·rename_i h2; exact absurd h h2
 ·rename_i h1; exact absurd h h1
theorem cli_step {s:StateD} {m:MsgD} (ok:StOk s) (h64:P64 s.pus) (hk:m.kind≤3) (h:(cliS s m).2.err=0):ApStep s m (cliS s m).1:=by
 have fin:∀ x:List ClientD,x.length≤4→(∀ c∈x,ClOk c)→ApStep s m { s with cls:=x }:=fun x hl hx =>
  ⟨ok.cl hl hx,h64,rfl,rfl,rfl,by rw [if_pos hk],sup_same s _⟩
 have hl:=ok.lcl
 have hset:∀ C,ClOk C→∀ c∈s.cls.set m.cl.toNat C,ClOk c:=fun C hC c hc=>by
  rcases List.mem_or_eq_of_mem_set hc with hc | rfl
  ·exact ok.cls c hc
  ·exact hC
 unfold cliS at h ⊢
 split at h
 ·rename_i k1
  rw [if_pos k1]
  split at h
  ·cases h
  ·rename_i h4
   rw [if_neg h4]
   split at h
   ·rename_i h5
    rw [if_pos h5]
    refine fin _ (by simp; omega) fun c hc=>?_
    rcases List.mem_append.1 hc with hc | hc
    ·exact ok.cls c hc
    ·rw [List.mem_singleton.1 hc]; exact newC_ok h5
   ·exact absurd h ‹_›
 ·rename_i k1
  rw [if_neg k1]
  split at h
  ·cases h
  ·rename_i h4
   rw [if_neg h4]
   by_cases k2:m.kind=2
   ·simp only [if_pos k2] at h ⊢
    split at h
    ·rename_i h5
     rw [if_pos h5]
     exact fin _ (by simp; omega) (hset _ (follow_ok h5))
    ·exact absurd h ‹_›
   ·simp only [if_neg k2] at h ⊢
    split at h
    ·rename_i h5
     rw [if_pos h5]
     exact fin _ (by simp; omega) (hset _ (catch_ok h5))
    ·exact absurd h ‹_›
theorem same_cn {s t:StateD} (h:{ t with cns:=s.cns }=s):t.pus=s.pus∧t.name=s.name∧t.h=s.h∧t.t=s.t:=by
 rw [← h]; exact ⟨rfl,rfl,rfl,rfl⟩
theorem same_ch {s t:StateD} (h:{ t with chs:=s.chs }=s):t.pus=s.pus∧t.name=s.name∧t.h=s.h∧t.t=s.t:=by
 rw [← h]; exact ⟨rfl,rfl,rfl,rfl⟩
theorem same_pk {s t:StateD} (h:{ t with chs:=s.chs,sent:=s.sent,got:=s.got,acks:=s.acks }=s):t.pus=s.pus∧t.name=s.name∧t.h=s.h∧t.t=s.t:=by
 rw [← h]; exact ⟨rfl,rfl,rfl,rfl⟩
theorem cn_ap {s t:StateD} {m:MsgD} {p:Int} (h64:P64 s.pus) (h1:¬ m.kind≤3) (h2:m.kind≤7) (h:CnStep s p t):ApStep s m t:=by
 obtain ⟨a,b,c,d⟩:=same_cn h.same
 exact ⟨h.ok,by rw [a]; exact h64,b,c,d,by rw [if_neg h1,if_pos h2]; exact h.same,by rw [a]; exact sup_same s _⟩
theorem ch_ap {s t:StateD} {m:MsgD} {p:Int} (h64:P64 s.pus) (h1:¬ m.kind≤7) (h2:m.kind≤13) (h:ChStep s p t):ApStep s m t:=by
 obtain ⟨a,b,c,d⟩:=same_ch h.same
 exact ⟨h.ok,by rw [a]; exact h64,b,c,d,by rw [if_neg (by omega),if_neg h1,if_pos h2]; exact h.same,by rw [a]; exact sup_same s _⟩
theorem pk_ap {s t:StateD} {m:MsgD} {p:Int} (h1:14≤m.kind∧m.kind≤17) (h:PkStep s p t) {l:List PurseD} (hl:RightP l) (hs:SupOk s m.kind l):ApStep s m { t with pus:=l }:=by
 obtain ⟨a,b,c,d⟩:=same_pk h.same
 refine ⟨h.ok.pu hl,hl.p64,b,c,d,?_,hs⟩
 rw [if_neg (by omega),if_neg (by omega),if_neg (by omega),if_neg (by omega)]
 have e:=h.same
 simp only
 rw [← a]; exact e
theorem end_step {s:StateD} {m:MsgD} (h64:P64 s.pus) (h1:¬ m.kind≤3) (h2:m.kind≤13) (h:(endA s m).2.2=0):ApStep s m (endA s m).1:=by
 unfold endA at h ⊢
 split at h
 ·rename_i k; rw [if_pos k]; exact cn_ap h64 h1 (by omega) (initCn_zero h 0).1
 ·rename_i k; rw [if_neg k]; split at h
  ·rename_i k; rw [if_pos k]; exact cn_ap h64 h1 (by omega) (tryCn_zero h 0).1
  ·rename_i k; rw [if_neg k]; split at h
   ·rename_i k; rw [if_pos k]; exact cn_ap h64 h1 (by omega) (ackCn_zero h).1
   ·rename_i k; rw [if_neg k]; split at h
    ·rename_i k; rw [if_pos k]; exact cn_ap h64 h1 (by omega) (confCn_zero h).1
    ·rename_i k; rw [if_neg k]; split at h
     ·rename_i k; rw [if_pos k]; exact ch_ap h64 (by omega) h2 (initCh_zero h 0).1
     ·rename_i k; rw [if_neg k]; split at h
      ·rename_i k; rw [if_pos k]; exact ch_ap h64 (by omega) h2 (tryCh_zero h 0).1
      ·rename_i k; rw [if_neg k]; split at h
       ·rename_i k; rw [if_pos k]; exact ch_ap h64 (by omega) h2 (ackCh_zero h)
       ·rename_i k; rw [if_neg k]; split at h
        ·rename_i k; rw [if_pos k]; exact ch_ap h64 (by omega) h2 (confCh_zero (by omega) h)
        ·rename_i k; rw [if_neg k]; split at h
         ·rename_i k; rw [if_pos k]; exact ch_ap h64 (by omega) h2 (closeCh_zero h)
         ·rename_i k; rw [if_neg k]; exact ch_ap h64 (by omega) h2 (confCh_zero (by omega) h)
theorem has_i {s:StateD} {i:Int} (hi:0≤i∧i < (s.chs.length:Int)) {d:ByteArray} (h:hasP d (mkOf i)=true):∃ j:Nat,j < s.chs.length∧hasP d (mkOf j)=true :=
 ⟨i.toNat,by omega,by rw [show ((i.toNat:Nat):Int)=i by omega]; exact h⟩
theorem leave_sup {s:StateD} (h:RightP s.pus) {k:Int} (hk:14≤k∧k≤17) {ch:Int} (hi:0≤ch∧ch < (s.chs.length:Int)) {t:TranD} (he:(leaveP s.pus ch t).2=0):SupOk s k (leaveP s.pus ch t).1:=by
 intro d
 unfold leaveP at he ⊢
 split at he
 ·rename_i hp
  rw [if_pos hp]
  have:=(burn_ok h he).2.2 d
  by_cases hd:t.d=d
  ·subst hd; exact .inr ⟨hk,has_i hi hp⟩
  ·rw [if_neg hd] at this; exact .inl (by omega)
 ·rename_i hp
  rw [if_neg hp]
  exact .inl ((move_ok h he).2.2 d)
theorem back_sup {s:StateD} (h:RightP s.pus) {k:Int} (hk:14≤k∧k≤17) {ch:Int} (hi:0≤ch∧ch < (s.chs.length:Int)) {t:TranD} (he:(backP s.pus ch t).2=0):SupOk s k (backP s.pus ch t).1:=by
 intro d
 unfold backP at he ⊢
 split at he
 ·rename_i hp
  rw [if_pos hp]
  have:=(mint_ok h he).2.1 d
  by_cases hd:t.d=d
  ·subst hd; exact .inr ⟨hk,has_i hi hp⟩
  ·rw [if_neg hd] at this; exact .inl (by omega)
 ·rename_i hp
  rw [if_neg hp]
  exact .inl ((move_ok h he).2.2 d)
theorem come_sup {s:StateD} (h:RightP s.pus) {k:Int} (hk:14≤k∧k≤17) {ch other:Int} (hi:0≤ch∧ch < (s.chs.length:Int)) {t:TranD} (he:(comeP s.pus ch other t).2=0):SupOk s k (comeP s.pus ch other t).1:=by
 intro d
 unfold comeP at he ⊢
 split at he
 ·rename_i hp
  rw [if_pos hp]
  exact .inl ((move_ok h he).2.2 d)
 ·rename_i hp
  rw [if_neg hp]
  have:=(mint_ok h he).2.1 d
  by_cases hd:mkOf ch++t.d=d
  ·subst hd; exact .inr ⟨hk,has_i hi (hasP_app _ _)⟩
  ·rw [if_neg hd] at this; exact .inl (by omega)
theorem snd_step {s:StateD} {m:MsgD} (h64:P64 s.pus) (hk:m.kind=14) (h:(sndA s m).2.2=0):ApStep s m (sndA s m).1:=by
 unfold sndA at h ⊢
 simp only at h ⊢
 split at h
 ·rename_i h1
  rw [if_pos h1]
  split at h
  ·cases h
  ·rename_i h2
   rw [if_neg h2]
   split at h
   ·rename_i h3
    rw [if_pos h3]
    have hr:=sendPk_zero.1 h3
    have hst:=send_step hr
    obtain ⟨ok,hi,_⟩:=endPk_ok hr.en
    rw [sendPk_done hr] at h ⊢
    by_cases h4:(leaveP s.pus m.ed (parseT (bytesT m.tr)).1).2=0
    ·have e:∀ q,(sendS s m.ed q).pus=s.pus:=fun _=>rfl
     simp only [e] at h ⊢
     rw [if_pos h4]
     have hk2:14≤m.kind∧m.kind≤17:=by omega
     exact pk_ap hk2 hst (leave_right (rightP_of ok h64) ..) (leave_sup (rightP_of ok h64) hk2 hi h4)
    ·have e:∀ q,(sendS s m.ed q).pus=s.pus:=fun _=>rfl
     simp only [e] at h
     rw [if_neg h4] at h
     simp only at h; omega
   ·exact absurd h ‹_›
 ·exact absurd h ‹_›
theorem rcv_step {s:StateD} {m:MsgD} (ok:StOk s) (h64:P64 s.pus) (hk:m.kind=15) (h:(rcvA s m).2=0):ApStep s m (rcvA s m).1:=by
 unfold rcvA at h ⊢
 simp only at h ⊢
 split at h
 ·rename_i h3
  rw [if_pos h3]
  have hr:=recvPk_zero.1 h3
  have hst:=recv_step hr
  obtain ⟨_,hi,_⟩:=endPk_ok hr.en
  have hk2:14≤m.kind∧m.kind≤17:=by omega
  have hs:RightP (comA s m.pk).2∧SupOk s m.kind (comA s m.pk).2:=by
   unfold comA
   simp only
   split
   ·split
    ·rename_i he
     exact ⟨come_right (rightP_of ok h64) ..,come_sup (rightP_of ok h64) hk2 hi he⟩
    ·exact ⟨rightP_of ok h64,sup_same s _⟩
   ·exact ⟨rightP_of ok h64,sup_same s _⟩
  rw [recvPk_done hr]
  exact pk_ap hk2 hst hs.1 hs.2
 ·exact absurd h ‹_›
theorem settle_ap {s:StateD} {m:MsgD} (h64:P64 s.pus) (hk:16≤m.kind∧m.kind≤17) {c:ChanD} (hp:PendOk s m.pk) (hc:ChOk c) (back:Bool)
  (h:(if (parseT m.pk.data).2=0∧back=true then (if (backP (dropS s m.pk c).pus m.pk.fr (parseT m.pk.data).1).2=0 then (({ dropS s m.pk c with pus:=(backP (dropS s m.pk c).pus m.pk.fr (parseT m.pk.data).1).1 },0):StateD × Int) else (s,((backP (dropS s m.pk c).pus m.pk.fr (parseT m.pk.data).1).2:Int))) else (dropS s m.pk c,0)).2=0) :
  ApStep s m (if (parseT m.pk.data).2=0∧back=true then (if (backP (dropS s m.pk c).pus m.pk.fr (parseT m.pk.data).1).2=0 then (({ dropS s m.pk c with pus:=(backP (dropS s m.pk c).pus m.pk.fr (parseT m.pk.data).1).1 },0):StateD × Int) else (s,((backP (dropS s m.pk c).pus m.pk.fr (parseT m.pk.data).1).2:Int))) else (dropS s m.pk c,0)).1:=by
 have hst:=drop_step hp hc
 obtain ⟨ok,hi,_⟩:=endPk_ok hp.en
 have hk2:14≤m.kind∧m.kind≤17:=by omega
 split at h
 ·rename_i h1
  rw [if_pos h1]
  split at h
  ·rename_i h2
   rw [if_pos h2]
   exact pk_ap hk2 hst (back_right (rightP_of ok h64) ..) (back_sup (rightP_of ok h64) hk2 hi h2)
  ·rename_i h2; simp only at h; omega
 ·rename_i h1
  rw [if_neg h1]
  have:=pk_ap hk2 hst (rightP_of ok h64) (sup_same s _)
  exact this
theorem set_step {s:StateD} {m:MsgD} (h64:P64 s.pus) (hk:16≤m.kind∧m.kind≤17) (h:(setA s m).2=0):ApStep s m (setA s m).1:=by
 unfold setA at h ⊢
 by_cases k1:m.kind=16
 ·simp only [if_pos k1] at h ⊢
  by_cases h2:(ackPk s m.pk m.ack m.sh).2=0
  ·obtain ⟨hp,c,hc,_,_,_,he⟩:=ackPk_zero h2
   rw [if_pos h2] at h ⊢
   rw [he] at h ⊢
   exact settle_ap h64 hk hp hc _ h
  ·rw [if_neg h2] at h; exact absurd h h2
 ·simp only [if_neg k1] at h ⊢
  by_cases h2:(latePk s m.pk m.next m.sh).2=0
  ·obtain ⟨hp,c,hc,_,_,_,he⟩:=latePk_zero h2
   rw [if_pos h2] at h ⊢
   rw [he] at h ⊢
   have h2:=settle_ap h64 hk hp hc true (by simpa only [and_true] using h)
   simpa only [and_true] using h2
  ·rw [if_neg h2] at h; exact absurd h h2
theorem giv_step {s:StateD} {m:MsgD} (ok:StOk s) (h64:P64 s.pus) (hk:m.kind=18) (h:(givA s m.tr).2=0):ApStep s m (givA s m.tr).1:=by
 unfold givA at h ⊢
 generalize parseT (bytesT m.tr)=q at *
 simp only at h ⊢
 by_cases h1:q.2=0
 ·rw [if_pos h1] at h ⊢
  by_cases h2:isSafe q.1.s=true∨isSafe q.1.r=true
  ·rw [if_pos h2] at h; cases h
  ·rw [if_neg h2] at h ⊢
   by_cases h3:(moveP s.pus q.1.s q.1.r q.1.d q.1.n).2=0
   ·rw [if_pos h3]
    have hr:=move_right (rightP_of ok h64) q.1.s q.1.r q.1.d q.1.n
    have hm:=(move_ok (rightP_of ok h64) h3).2.2
    refine ⟨ok.pu hr,hr.p64,rfl,rfl,rfl,?_,fun d=>.inl (hm d)⟩
    rw [if_neg (by omega),if_neg (by omega),if_neg (by omega),if_pos hk]
   ·rw [if_neg h3] at h
    simp only at h; omega
 ·rw [if_neg h1] at h; exact absurd h h1
theorem doS0_step {s:StateD} {m:MsgD} (ok:StOk s) (h64:P64 s.pus) (h:(doS0 s m).2.err=0):ApStep s m (doS0 s m).1:=by
 unfold doS0 at h ⊢
 split at h
 ·cases h
 ·rename_i k0; rw [if_neg k0]; split at h
  ·rename_i k; rw [if_pos k]; exact cli_step ok h64 k h
  ·rename_i k3; rw [if_neg k3]; split at h
   ·rename_i k; rw [if_pos k]; exact end_step h64 k3 k h
   ·rename_i k4; rw [if_neg k4]; split at h
    ·rename_i k; rw [if_pos k]; exact snd_step h64 k h
    ·rename_i k5; rw [if_neg k5]; split at h
     ·rename_i k; rw [if_pos k]; exact rcv_step ok h64 k h
     ·rename_i k6; rw [if_neg k6]; split at h
      ·rename_i k; rw [if_pos k]; exact giv_step ok h64 k h
      ·rename_i k7; rw [if_neg k7]; exact set_step h64 (by omega) h
theorem doS_done {s:StateD} {m:MsgD} (h:(doS s m).2.err=0):StOk s∧(doS0 s m).2.err=0∧doS s m=doS0 s m:=by
 unfold doS at h ⊢
 split at h
 ·rename_i k; rw [if_pos k]; split at h
  ·rename_i k2; rw [if_pos k2]; exact ⟨wrongS_zero.1 k,k2,rfl⟩
  ·rename_i k2; exact absurd h k2
 ·exact absurd h ‹_›
theorem doS_step {s:StateD} {m:MsgD} (h64:P64 s.pus) (h:(doS s m).2.err=0):ApStep s m (doS s m).1:=by
 obtain ⟨ok,h0,e⟩:=doS_done h
 rw [e]; exact doS0_step ok h64 h0
end Go.Proofs.YtadoaljnfeoecaaGreatDoor
set_option linter.all false
namespace Go.Proofs.YtadoaljnfeoecaaGreatDoor
open Go Go.Abs Go.RowKit Go.Proofs.YtadoaljnfeoecaaGreatDoor.Ty
set_option maxHeartbeats 16000000
set_option maxRecDepth 20000
theorem apdo_A (s:StateD) (hs:StSm s) (h64:P64 s.pus) (m:MsgD) (hm:MsgSm m):PureD Tryz.prog 9 [stateD s,msgD m] (.tup [stateD (doS s m).1,doneD (doS s m).2]):=by
 refine hide_r fun R hR=>?_
 have c1:=swrong_A s hs
 unfold doS at hR
 by_cases h:wrongS s=0
 ·have ok:=wrongS_zero.1 h
  rw [h] at c1
  rw [if_pos h] at hR
  have c2:=sown_A s hs
  have c3:(doS0 s m).2.err=0→PureD Tryz.prog 28 [stateD (doS0 s m).1] (stateD (doS0 s m).1):=fun e=>sown_A _ (doS0_step ok h64 e).ok.sm
  by_cases e:(doS0 s m).2.err=0
  ·rw [if_pos e] at hR
   have c3:=c3 e
   unfold doS0 at hR e c3
   by_cases k0:m.kind < 1∨18 < m.kind
   ·rw [if_pos k0] at hR e c3
    try simp only [dE] at hR e c3
    exact absurd e (by decide)
   ·rw [if_neg k0] at hR e c3
    by_cases k1:m.kind≤3
    ·rw [if_pos k1] at hR e c3
     have c4:=clients_A s ok m hm
     generalize cliS s m=X at *
     try simp only [dE] at hR e c3
     clear hs ok hm h h64
     refine callD_W 99 Tryz.func9 rfl rfl rfl (fun _ _=>rfl) ?_
     exact wkl trivial
    ·rw [if_neg k1] at hR e c3
     by_cases k2:m.kind≤13
     ·rw [if_pos k2] at hR e c3
      have c4:=ends_A s hs m
      generalize endA s m=X at *
      try simp only [dE] at hR e c3
      clear hs ok hm h h64
      refine callD_W 99 Tryz.func9 rfl rfl rfl (fun _ _=>rfl) ?_
      exact wkl trivial
     ·rw [if_neg k2] at hR e c3
      by_cases k3:m.kind=14
      ·rw [if_pos k3] at hR e c3
       have c4:=apsend_A s hs h64 m hm
       generalize sndA s m=X at *
       try simp only [dE] at hR e c3
       clear hs ok hm h h64
       refine callD_W 99 Tryz.func9 rfl rfl rfl (fun _ _=>rfl) ?_
       exact wkl trivial
      ·rw [if_neg k3] at hR e c3
       by_cases k4:m.kind=15
       ·rw [if_pos k4] at hR e c3
        have c4:=aprecv_A s ok h64 m hm
        generalize rcvA s m=X at *
        try simp only [dE] at hR e c3
        clear hs ok hm h h64
        refine callD_W 99 Tryz.func9 rfl rfl rfl (fun _ _=>rfl) ?_
        exact wkl trivial
       ·rw [if_neg k4] at hR e c3
        by_cases k5:m.kind=18
        ·rw [if_pos k5] at hR e c3
         have c4:=apgive_A s ok h64 m.tr hm.tn hm.td hm.ts hm.tr
         generalize givA s m.tr=X at *
         try simp only [dE] at hR e c3
         clear hs ok hm h h64
         refine callD_W 99 Tryz.func9 rfl rfl rfl (fun _ _=>rfl) ?_
         exact wkl trivial
        ·rw [if_neg k5] at hR e c3
         have c4:=apsettle_A s ok h64 m hm
         generalize setA s m=X at *
         try simp only [dE] at hR e c3
         clear hs ok hm h h64
         refine callD_W 99 Tryz.func9 rfl rfl rfl (fun _ _=>rfl) ?_
         exact wkl trivial
  ·rw [if_neg e] at hR
   clear c3
   unfold doS0 at hR e
   by_cases k0:m.kind < 1∨18 < m.kind
   ·rw [if_pos k0] at hR e
    try simp only [dE] at hR e
    clear hs ok hm h h64
    refine callD_W 99 Tryz.func9 rfl rfl rfl (fun _ _=>rfl) ?_
    exact wkl trivial
   ·rw [if_neg k0] at hR e
    by_cases k1:m.kind≤3
    ·rw [if_pos k1] at hR e
     have c4:=clients_A s ok m hm
     generalize cliS s m=X at *
     try simp only [dE] at hR e
     clear hs ok hm h h64
     refine callD_W 99 Tryz.func9 rfl rfl rfl (fun _ _=>rfl) ?_
     exact wkl trivial
    ·rw [if_neg k1] at hR e
     by_cases k2:m.kind≤13
     ·rw [if_pos k2] at hR e
      have c4:=ends_A s hs m
      generalize endA s m=X at *
      try simp only [dE] at hR e
      clear hs ok hm h h64
      refine callD_W 99 Tryz.func9 rfl rfl rfl (fun _ _=>rfl) ?_
      exact wkl trivial
     ·rw [if_neg k2] at hR e
      by_cases k3:m.kind=14
      ·rw [if_pos k3] at hR e
       have c4:=apsend_A s hs h64 m hm
       generalize sndA s m=X at *
       try simp only [dE] at hR e
       clear hs ok hm h h64
       refine callD_W 99 Tryz.func9 rfl rfl rfl (fun _ _=>rfl) ?_
       exact wkl trivial
      ·rw [if_neg k3] at hR e
       by_cases k4:m.kind=15
       ·rw [if_pos k4] at hR e
        have c4:=aprecv_A s ok h64 m hm
        generalize rcvA s m=X at *
        try simp only [dE] at hR e
        clear hs ok hm h h64
        refine callD_W 99 Tryz.func9 rfl rfl rfl (fun _ _=>rfl) ?_
        exact wkl trivial
       ·rw [if_neg k4] at hR e
        by_cases k5:m.kind=18
        ·rw [if_pos k5] at hR e
         have c4:=apgive_A s ok h64 m.tr hm.tn hm.td hm.ts hm.tr
         generalize givA s m.tr=X at *
         try simp only [dE] at hR e
         clear hs ok hm h h64
         refine callD_W 99 Tryz.func9 rfl rfl rfl (fun _ _=>rfl) ?_
         exact wkl trivial
        ·rw [if_neg k5] at hR e
         have c4:=apsettle_A s ok h64 m hm
         generalize setA s m=X at *
         try simp only [dE] at hR e
         clear hs ok hm h h64
         refine callD_W 99 Tryz.func9 rfl rfl rfl (fun _ _=>rfl) ?_
         exact wkl trivial
 ·rw [if_neg h] at hR
  generalize wrongS s=W at *
  clear hs hm h64
  refine callD_W 99 Tryz.func9 rfl rfl rfl (fun _ _=>rfl) ?_
  exact wkl trivial
theorem apnext_A (s:StateD) (hs:StSm s) (later:Int):PureD Tryz.prog 14 [stateD s,intD later] (.tup [stateD (nextS s later).1,intD (nextS s later).2]):=by
 refine hide_r fun R hR=>?_
 have c1:=swrong_A s hs
 unfold nextS at hR
 by_cases h:wrongS s=0
 ·have ok:=wrongS_zero.1 h
  have hh:=ok.h
  have ht:=ok.t
  have e1:=sown_D s hs
  rw [h] at c1
  rw [if_pos h] at hR
  unfold N12 at hh ht
  have w2:IntKind.i64.wrap (s.h+1)=s.h+1:=wrap64 (by omega) (by omega)
  clear ok h hs
  by_cases h1:later < 1∨1000000000000 < later
  ·rw [if_pos (by omega)] at hR
   clear e1
   refine callD_W 45 Tryz.func14 rfl rfl rfl (fun _ _=>rfl) ?_
   exact wkl trivial
  ·have w1:IntKind.i64.wrap (s.t+later)=s.t+later:=wrap64 (by omega) (by omega)
   by_cases h2:later < 1∨1000000000000 < later∨1000000000000 < s.t+later∨s.h=1000000000000
   ·rw [if_pos h2] at hR
    clear e1
    refine callD_W 45 Tryz.func14 rfl rfl rfl (fun _ _=>rfl) ?_
    exact wkl trivial
   ·rw [if_neg h2] at hR
    refine callD_W 45 Tryz.func14 rfl rfl rfl (fun _ _=>rfl) ?_
    exact wkl trivial
 ·rw [if_neg h] at hR
  generalize wrongS s=W at *
  clear hs
  refine callD_W 45 Tryz.func14 rfl rfl rfl (fun _ _=>rfl) ?_
  exact wkl trivial
end Go.Proofs.YtadoaljnfeoecaaGreatDoor
set_option linter.all false
namespace Go.Proofs.YtadoaljnfeoecaaGreatDoor
open Go Go.Abs Go.RowKit Go.Proofs.YtadoaljnfeoecaaGreatDoor.Ty
set_option maxHeartbeats 16000000
set_option maxRecDepth 20000
def wAnn:ByteArray:=⟨#[97,110,110]⟩
def wBob:ByteArray:=⟨#[98,111,98]⟩
def wGold:ByteArray:=⟨#[103,111,108,100]⟩
def st13:StateD:=⟨⟨#[97]⟩,0,0,[],[],[],[],[],[],[⟨wAnn,wGold,5⟩]⟩
def zeroU:UpdD:=⟨0,⟨⟨⟨#[]⟩,0,0,[],[],[]⟩,[],[]⟩,[]⟩
def zeroMsg:MsgD:=⟨0,⟨#[]⟩,0,⟨0,0,[],[]⟩,0,zeroU,zeroU,0,0,0,false,⟨0,⟨0,0,[],[],[]⟩,⟨false,false,⟨0,0,[],[],[]⟩,⟨0,0,[],[],[]⟩⟩⟩,⟨⟨#[]⟩,0,⟨#[]⟩,⟨#[]⟩⟩,0,0,⟨0,0,0,[],0⟩,[]⟩
attribute [simp,go_sem] zeroU zeroMsg
def m13:MsgD:={ zeroMsg with kind:=18,tr:=⟨wGold,2,wAnn,wBob⟩ }
theorem do13:doS st13 m13=({ st13 with pus:=[⟨wAnn,wGold,3⟩,⟨wBob,wGold,2⟩] },dE 0):=by kernel_rfl
theorem zeroU_sm:UpSm zeroU:=⟨⟨⟨by decide,by decide,by decide,by decide⟩,by decide,by simp,by simp⟩,by decide,by simp,by decide⟩
theorem m13_sm:MsgSm m13:=⟨⟨by decide,by decide⟩,zeroU_sm,zeroU_sm,by decide,by decide,by decide,by decide,by unfold Num6; decide,by unfold Num6; decide,by decide,by decide⟩
theorem alive13_A:PureD Tryz.prog 7 [] (boolD true):=by
 refine hide_r fun R hR=>?_
 have c1:=apdo_A st13 ⟨by decide,by simp [st13],by decide,by decide,by decide,by decide,by decide,by simp [st13],by decide⟩ (by intro p hp; simp [st13] at hp; subst hp; decide) m13 m13_sm
 rw [do13] at c1
 simp only [st13,m13,wAnn,wBob,wGold] at c1
 refine callD_W 23 Tryz.func7 rfl rfl rfl (fun _ _=>rfl) ?_
 exact wkl trivial
end Go.Proofs.YtadoaljnfeoecaaGreatDoor
