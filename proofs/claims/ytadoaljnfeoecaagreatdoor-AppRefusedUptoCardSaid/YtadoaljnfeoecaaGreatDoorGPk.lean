/- Merged texts: PkP, PkL, PkA, PkB, PkC, PkD. -/
import Derived.Test.YtadoaljnfeoecaaGreatDoorGCh
import Derived.Test.YtadoaljnfeoecaaGreatDoorGMk
import Derived.Test.YtadoaljnfeoecaaGreatDoorGSha
set_option linter.all false
namespace Go.Proofs.YtadoaljnfeoecaaGreatDoor
open Go Go.Abs
structure PackD where
 fr:Int
 de:Int
 seq:Int
 data:List UInt8
 tout:Int
def encPk (p:PackD):List I:=[.s (.int .i64 p.fr),.s (.int .i64 p.de),.s (.int .i64 p.seq),bI p.data,.s (.int .i64 p.tout)]
def packD (p:PackD):D:=.agg [.i (.s (.int .i64 p.fr)),.i (.s (.int .i64 p.de)),.i (.s (.int .i64 p.seq)),.i (bI p.data),.i (.s (.int .i64 p.tout))]
def zeroPk:PackD:=⟨0,0,0,[],0⟩
attribute [simp,go_sem] encPk packD zeroPk
def pcsPk (p:PackD):List PieceD:=[numP (u64 p.fr),numP (u64 p.de),numP (u64 p.seq),rawB p.data,numP (u64 p.tout)]
def digPk (p:PackD):List UInt8:=sha (writeF (pcsPk p)).1
def wrongPk (p:PackD):Int :=
 if p.fr < 0∨1000000000000 < p.fr∨p.de < 0∨1000000000000 < p.de∨p.seq < 1∨1000000000000 < p.seq∨p.tout < 1∨1000000000000 < p.tout then 3 else if (150:Int) < p.data.length then 4 else 0
structure PkOk (p:PackD):Prop where
 fr:N12 0 p.fr
 de:N12 0 p.de
 seq:N12 1 p.seq
 tout:N12 1 p.tout
 data:p.data.length≤150
theorem wrongPk_zero {p:PackD}:wrongPk p=0↔PkOk p:=by
 unfold wrongPk
 constructor
 ·intro h
  split at h
  ·cases h
  ·split at h
   ·cases h
   ·exact ⟨by unfold N12; omega,by unfold N12; omega,by unfold N12; omega,by unfold N12; omega,by omega⟩
 ·rintro ⟨a,b,c,d,e⟩
  unfold N12 at *
  rw [if_neg (by omega),if_neg (by omega)]
def stIn (st:Int) (ws:List Int):Bool:=ws.any fun w=>decide (st=w)
def endPk (s:StateD) (i:Int) (ws:List Int):ChanD × ConnD × Int :=
 if wrongS s=0 then (if i < 0∨(s.chs.length:Int)≤i then (zeroCh,zeroCn,6) else if stIn (chAt s i).st ws=true then (chAt s i,(overCh s (chAt s i).cn).1,(overCh s (chAt s i).cn).2) else (zeroCh,zeroCn,12)) else (zeroCh,zeroCn,wrongS s)
theorem endPk_zero {s:StateD} {i:Int} {ws:List Int}:(endPk s i ws).2.2=0↔StOk s∧(0≤i∧i < (s.chs.length:Int))∧stIn (chAt s i).st ws=true∧(overCh s (chAt s i).cn).2=0:=by
 unfold endPk
 rw [← wrongS_zero]
 constructor
 ·intro h
  split at h
  ·split at h
   ·cases h
   ·split at h
    ·exact ⟨by assumption,by omega,by assumption,h⟩
    ·cases h
  ·exact absurd h ‹_›
 ·rintro ⟨a,b,c,d⟩
  rw [if_pos a,if_neg (by omega),if_pos c]; exact d
theorem endPk_fst {s:StateD} {i:Int} {ws:List Int} (h:(endPk s i ws).2.2=0):endPk s i ws=(chAt s i,cnAt s (chAt s i).cn,0):=by
 obtain ⟨a,b,c,d⟩:=endPk_zero.1 h
 unfold endPk
 rw [if_pos (wrongS_zero.2 a),if_neg (by omega),if_pos c,overCh_fst d]
def clOf (s:StateD) (i:Int):ClientD:=clAt s (cnAt s (chAt s i).cn).cl
def sendS (s:StateD) (i:Int) (p:PackD):StateD:={ s with sent:=putM s.sent ⟨i,p.seq,digPk p⟩,chs:=s.chs.set i.toNat { chAt s i with snd:=(chAt s i).snd+1 } }
def sendPk (s:StateD) (i:Int) (data:List UInt8) (tout:Int):StateD × PackD × Int :=
 if (endPk s i [3]).2.2=0 then
  (if wrongPk ⟨i,(chAt s i).oc,(chAt s i).snd,data,tout⟩=0 then
   (if tout≤(lastC (clOf s i)).h then (zeroSt,zeroPk,11)
   else if (s.sent.length:Int)=50∨(chAt s i).snd=1000000000000 then (zeroSt,zeroPk,5)
   else (sendS s i ⟨i,(chAt s i).oc,(chAt s i).snd,data,tout⟩,⟨i,(chAt s i).oc,(chAt s i).snd,data,tout⟩,0))
  else (zeroSt,zeroPk,wrongPk ⟨i,(chAt s i).oc,(chAt s i).snd,data,tout⟩))
 else (zeroSt,zeroPk,(endPk s i [3]).2.2)
def wSent:List UInt8:=[115,101,110,116]
def wGot:List UInt8:=[103,111,116]
def wAck:List UInt8:=[97,99,107]
def recvS (s:StateD) (p:PackD) (ack:List UInt8):StateD :=
 if (chAt s p.de).ord=true then { s with chs:=s.chs.set p.de.toNat { chAt s p.de with rcv:=(chAt s p.de).rcv+1 },acks:=putM s.acks ⟨p.de,p.seq,sha ack⟩ }
 else { s with got:=putM s.got ⟨p.de,p.seq,digPk p⟩,acks:=putM s.acks ⟨p.de,p.seq,sha ack⟩ }
def recvPk (s:StateD) (p:PackD) (ack:List UInt8) (w:ShownD):StateD × Int :=
 if wrongPk p=0 then
  (if (endPk s p.de [3]).2.2=0 then
   (if (chAt s p.de).oc=p.fr then
    (if p.tout≤s.h then (zeroSt,11)
    else if ((chAt s p.de).ord=true∧¬ p.seq=(chAt s p.de).rcv)∨((chAt s p.de).ord=false∧(getM s.got p.de p.seq).isSome=true) then (zeroSt,12)
    else if (s.got.length:Int)=50∨(s.acks.length:Int)=50∨(150:Int) < ack.length∨(chAt s p.de).rcv=1000000000000 then (zeroSt,5)
    else if memberE (clOf s p.de) s.t w.h (keyM wSent p.fr p.seq) (digPk p) w.p=0 then (recvS s p ack,0)
    else (zeroSt,memberE (clOf s p.de) s.t w.h (keyM wSent p.fr p.seq) (digPk p) w.p))
   else (zeroSt,8))
  else (zeroSt,(endPk s p.de [3]).2.2))
 else (zeroSt,wrongPk p)
def pendE (s:StateD) (p:PackD):Int :=
 if wrongPk p=0 then
  (if (endPk s p.fr [3,4]).2.2=0 then
   (if (chAt s p.fr).oc=p.de then
    (match getM s.sent p.fr p.seq with
    | none=>6
    | some m=>if m.dg=digPk p then 0 else 8)
   else 8)
  else (endPk s p.fr [3,4]).2.2)
 else wrongPk p
def pendCh (s:StateD) (p:PackD):ChanD:=if wrongPk p=0 then (endPk s p.fr [3,4]).1 else zeroCh
def pendCn (s:StateD) (p:PackD):ConnD:=if wrongPk p=0 then (endPk s p.fr [3,4]).2.1 else zeroCn
def dropS (s:StateD) (p:PackD) (c:ChanD):StateD:={ s with sent:=dropM s.sent p.fr p.seq,chs:=s.chs.set p.fr.toNat c }
def dropU (s:StateD) (p:PackD):StateD:={ s with sent:=dropM s.sent p.fr p.seq }
def ackPk (s:StateD) (p:PackD) (ack:List UInt8) (w:ShownD):StateD × Int :=
 if pendE s p=0 then
  (if (150:Int) < ack.length then (zeroSt,4)
  else if (chAt s p.fr).ord=true∧¬ p.seq=(chAt s p.fr).ack then (zeroSt,12)
  else if (chAt s p.fr).ord=true∧(chAt s p.fr).ack=1000000000000 then (zeroSt,5)
  else if memberE (clOf s p.fr) s.t w.h (keyM wAck p.de p.seq) (sha ack) w.p=0 then
   (if (chAt s p.fr).ord=true then (dropS s p { chAt s p.fr with ack:=(chAt s p.fr).ack+1 },0) else (dropU s p,0))
  else (zeroSt,memberE (clOf s p.fr) s.t w.h (keyM wAck p.de p.seq) (sha ack) w.p))
 else (zeroSt,pendE s p)
def latePk (s:StateD) (p:PackD) (next:Int) (w:ShownD):StateD × Int :=
 if pendE s p=0 then
  (if w.h < p.tout then (zeroSt,11)
  else if (chAt s p.fr).ord=true then
   (if next < 1∨p.seq < next then (zeroSt,12)
   else if memberE (clOf s p.fr) s.t w.h (keyN p.de) (valN next) w.p=0 then (dropS s p { chAt s p.fr with st:=4 },0)
   else (zeroSt,memberE (clOf s p.fr) s.t w.h (keyN p.de) (valN next) w.p))
  else if missingE (clOf s p.fr) s.t w.h (keyM wGot p.de p.seq) w.g=0 then (dropU s p,0)
  else (zeroSt,missingE (clOf s p.fr) s.t w.h (keyM wGot p.de p.seq) w.g))
 else (zeroSt,pendE s p)
end Go.Proofs.YtadoaljnfeoecaaGreatDoor
set_option linter.all false
namespace Go.Proofs.YtadoaljnfeoecaaGreatDoor
open Go Go.Abs
structure ListOk (l:List MarkD):Prop where
 ok:MksOk l
 len:l.length≤50
theorem StOk.pk {s:StateD} (h:StOk s) {x:List ChanD} {a b c:List MarkD} (hl:x.length=s.chs.length) (hx:∀ c∈x,ChOk c) (h1:ListOk a) (h2:ListOk b) (h3:ListOk c):StOk { s with chs:=x,sent:=a,got:=b,acks:=c } :=
 ⟨h.name,h.h,h.t,h.lcl,h.lcn,by have:=h.lch; simp only; omega,h1.len,h2.len,h3.len,h.lpus,h.cls,h.cns,hx,h1.ok,h2.ok,h3.ok,h.pus⟩
theorem StOk.l1 {s:StateD} (h:StOk s):ListOk s.sent:=⟨h.sent,h.lsent⟩
theorem StOk.l2 {s:StateD} (h:StOk s):ListOk s.got:=⟨h.got,h.lgot⟩
theorem StOk.l3 {s:StateD} (h:StOk s):ListOk s.acks:=⟨h.acks,h.lacks⟩
theorem put_list {l:List MarkD} (h:ListOk l) (hl:¬ l.length=50) {m:MarkD} (hm:MkOk m):ListOk (putM l m):=by
 refine ⟨⟨fun x hx=>?_,KL.srt_put cmpM_ok h.ok.srt (fun x hx=>by cases hx; rfl)⟩,?_⟩
 ·rcases (KL.mem_put cmpM_ok).1 hx with hx | hx
  ·exact h.ok.all x hx.1
  ·cases hx; exact hm
 ·rw [putM_len h.ok]
  have:=h.len
  split <;> omega
theorem dropM_len {l:List MarkD} (h:MksOk l) (ch seq:Int):(dropM l ch seq).length≤l.length:=by
 unfold dropM
 cases hg:getM l ch seq with
 | none=>rw [KL.put_none cmpM_ok h.srt hg]; exact Nat.le_refl _
 | some u=>rw [KL.put_del cmpM_ok h.srt hg]; simp; omega
theorem drop_list {l:List MarkD} (h:ListOk l) (ch seq:Int):ListOk (dropM l ch seq):=by
 refine ⟨⟨fun x hx=>?_,KL.srt_put cmpM_ok h.ok.srt (fun x hx=>by cases hx)⟩,?_⟩
 ·rcases (KL.mem_put cmpM_ok).1 hx with hx | hx
  ·exact h.ok.all x hx.1
  ·cases hx
 ·have:=dropM_len h.ok ch seq
  have:=h.len
  omega
theorem set_chs {s:StateD} (ok:StOk s) {i:Int} {c:ChanD} (hc:ChOk c):∀ x∈s.chs.set i.toNat c,ChOk x:=fun x hx=>by
 rcases List.mem_or_eq_of_mem_set hx with hx | rfl
 ·exact ok.chs x hx
 ·exact hc
theorem get_putM {l:List MarkD} (h:MksOk l) (m:MarkD) (ch seq:Int):getM (putM l m) ch seq=if ch=m.ch∧seq=m.seq then some m else getM l ch seq:=by
 unfold getM putM
 have:=KL.get_put (κ:=mk) cmpM_ok h.srt (k:=(m.ch,m.seq)) (v:=some m) (fun x hx=>by cases hx; rfl) (ch,seq)
 rw [this]
 by_cases e:ch=m.ch∧seq=m.seq
 ·rw [if_pos e,if_pos (by rw [e.1,e.2])]
 ·rw [if_neg e,if_neg (fun hh=>e (by simp only [Prod.mk.injEq] at hh; exact hh))]
theorem get_dropM {l:List MarkD} (h:MksOk l) (ch' seq' ch seq:Int):getM (dropM l ch' seq') ch seq=if ch=ch'∧seq=seq' then none else getM l ch seq:=by
 unfold getM dropM
 have:=KL.get_put (κ:=mk) cmpM_ok h.srt (k:=(ch',seq')) (v:=none) (fun x hx=>by cases hx) (ch,seq)
 rw [this]
 by_cases e:ch=ch'∧seq=seq'
 ·rw [if_pos e,if_pos (by rw [e.1,e.2])]
 ·rw [if_neg e,if_neg (fun hh=>e (by simp only [Prod.mk.injEq] at hh; exact hh))]
structure PkStep (s:StateD) (own:Int) (t:StateD):Prop where
 ok:StOk t
 same:{ t with chs:=s.chs,sent:=s.sent,got:=s.got,acks:=s.acks }=s
 len:t.chs.length=s.chs.length
 chs:∀ i (h:i < s.chs.length) (h':i < t.chs.length),¬ (i:Int)=own→t.chs[i]=s.chs[i]
 sent:∀ m∈s.sent,¬ m.ch=own→getM t.sent m.ch m.seq=some m
 got:∀ m∈s.got,¬ m.ch=own→getM t.got m.ch m.seq=some m
 acks:∀ m∈s.acks,¬ m.ch=own→getM t.acks m.ch m.seq=some m
theorem get_self {l:List MarkD} (h:MksOk l) {m:MarkD} (hm:m∈l):getM l m.ch m.seq=some m:=(KL.get_iff cmpM_ok h.srt).2 ⟨hm,rfl⟩
theorem keep_put {l:List MarkD} (h:MksOk l) {x m:MarkD} (hm:m∈l) (hne:¬ m.ch=x.ch):getM (putM l x) m.ch m.seq=some m:=by
 rw [get_putM h,if_neg (fun e=>hne e.1)]; exact get_self h hm
theorem keep_drop {l:List MarkD} (h:MksOk l) {ch seq:Int} {m:MarkD} (hm:m∈l) (hne:¬ m.ch=ch):getM (dropM l ch seq) m.ch m.seq=some m:=by
 rw [get_dropM h,if_neg (fun e=>hne e.1)]; exact get_self h hm
theorem set_keep {l:List ChanD} {own:Int} (h0:0≤own) {c:ChanD} (i:Nat) (h:i < l.length) (h':i < (l.set own.toNat c).length) (hne:¬ (i:Int)=own):(l.set own.toNat c)[i]=l[i]:=by
 rw [List.getElem_set_ne]; omega
theorem endPk_ok {s:StateD} {i:Int} {ws:List Int} (h:(endPk s i ws).2.2=0):StOk s∧(0≤i∧i < (s.chs.length:Int))∧ChOk (chAt s i):=by
 obtain ⟨a,b,_,_⟩:=endPk_zero.1 h
 exact ⟨a,b,a.chs _ (chAt_mem b).2⟩
theorem dig_len (p:PackD):(digPk p).length=32:=sha_length _
theorem i12 {s:StateD} (ok:StOk s) {i:Int} (h:0≤i∧i < (s.chs.length:Int)):N12 0 i:=by
 have:=ok.lch
 unfold N12; omega
structure SendOk (s:StateD) (i:Int) (data:List UInt8) (tout:Int):Prop where
 en:(endPk s i [3]).2.2=0
 pk:PkOk ⟨i,(chAt s i).oc,(chAt s i).snd,data,tout⟩
 late:(lastC (clOf s i)).h < tout
 room:¬ s.sent.length=50∧¬ (chAt s i).snd=1000000000000
theorem sendPk_zero {s:StateD} {i:Int} {data:List UInt8} {tout:Int}:(sendPk s i data tout).2.2=0↔SendOk s i data tout:=by
 unfold sendPk
 constructor
 ·intro h
  split at h
  ·split at h
   ·split at h
    ·cases h
    ·split at h
     ·cases h
     ·exact ⟨by assumption,wrongPk_zero.1 (by assumption),by omega,by omega⟩
   ·exact absurd h ‹_›
  ·exact absurd h ‹_›
 ·rintro ⟨a,b,c,d⟩
  rw [if_pos a,if_pos (wrongPk_zero.2 b),if_neg (by omega),if_neg (by omega)]
theorem sendPk_done {s:StateD} {i:Int} {data:List UInt8} {tout:Int} (h:SendOk s i data tout):sendPk s i data tout=(sendS s i ⟨i,(chAt s i).oc,(chAt s i).snd,data,tout⟩,⟨i,(chAt s i).oc,(chAt s i).snd,data,tout⟩,0):=by
 obtain ⟨a,b,c,d⟩:=h
 unfold sendPk
 rw [if_pos a,if_pos (wrongPk_zero.2 b),if_neg (by omega),if_neg (by omega)]
theorem send_step {s:StateD} {i:Int} {data:List UInt8} {tout:Int} (h:SendOk s i data tout):PkStep s i (sendS s i ⟨i,(chAt s i).oc,(chAt s i).snd,data,tout⟩):=by
 obtain ⟨ok,hi,hc⟩:=endPk_ok h.en
 have hk:MkOk ⟨i,(chAt s i).snd,digPk ⟨i,(chAt s i).oc,(chAt s i).snd,data,tout⟩⟩:=⟨i12 ok hi,hc.snd,dig_len _⟩
 refine ⟨?_,rfl,by simp [sendS],fun j h1 h2 hne=>set_keep hi.1 j h1 h2 hne,fun m hm hne=>keep_put ok.sent hm hne,fun m hm _=>get_self ok.got hm,fun m hm _=>get_self ok.acks hm⟩
 exact ok.pk (by simp) (set_chs ok ⟨hc.st,hc.cn,hc.oc,by have:=hc.snd; have:=h.room; unfold N12 at *; simp only; omega,hc.rcv,hc.ack⟩) (put_list ok.l1 h.room.1 hk) ok.l2 ok.l3
structure RecvOk (s:StateD) (p:PackD) (ack:List UInt8) (w:ShownD):Prop where
 pk:PkOk p
 en:(endPk s p.de [3]).2.2=0
 fit:(chAt s p.de).oc=p.fr
 time:s.h < p.tout
 new:¬ (((chAt s p.de).ord=true∧¬ p.seq=(chAt s p.de).rcv)∨((chAt s p.de).ord=false∧(getM s.got p.de p.seq).isSome=true))
 room:¬ s.got.length=50∧¬ s.acks.length=50∧ack.length≤150∧¬ (chAt s p.de).rcv=1000000000000
 shown:memberE (clOf s p.de) s.t w.h (keyM wSent p.fr p.seq) (digPk p) w.p=0
theorem recvPk_zero {s:StateD} {p:PackD} {ack:List UInt8} {w:ShownD}:(recvPk s p ack w).2=0↔RecvOk s p ack w:=by
 unfold recvPk
 constructor
 ·intro h
  split at h
  ·split at h
   ·split at h
    ·split at h
     ·cases h
     ·split at h
      ·cases h
      ·split at h
       ·cases h
       ·split at h
        ·exact ⟨wrongPk_zero.1 (by assumption),by assumption,by assumption,by omega,by assumption,by omega,by assumption⟩
        ·exact absurd h ‹_›
    ·cases h
   ·exact absurd h ‹_›
  ·exact absurd h ‹_›
 ·rintro ⟨a,b,c,d,e,f,g⟩
  rw [if_pos (wrongPk_zero.2 a),if_pos b,if_pos c,if_neg (by omega),if_neg e,if_neg (by omega),if_pos g]
theorem recvPk_done {s:StateD} {p:PackD} {ack:List UInt8} {w:ShownD} (h:RecvOk s p ack w):recvPk s p ack w=(recvS s p ack,0):=by
 obtain ⟨a,b,c,d,e,f,g⟩:=h
 unfold recvPk
 rw [if_pos (wrongPk_zero.2 a),if_pos b,if_pos c,if_neg (by omega),if_neg e,if_neg (by omega),if_pos g]
theorem recv_step {s:StateD} {p:PackD} {ack:List UInt8} {w:ShownD} (h:RecvOk s p ack w):PkStep s p.de (recvS s p ack):=by
 obtain ⟨ok,hi,hc⟩:=endPk_ok h.en
 have k1:MkOk ⟨p.de,p.seq,digPk p⟩:=⟨h.pk.de,h.pk.seq,dig_len _⟩
 have k2:MkOk ⟨p.de,p.seq,sha ack⟩:=⟨h.pk.de,h.pk.seq,sha_length _⟩
 unfold recvS
 split
 ·refine ⟨?_,rfl,by simp,fun j h1 h2 hne=>set_keep hi.1 j h1 h2 hne,fun m hm _=>get_self ok.sent hm,fun m hm _=>get_self ok.got hm,fun m hm hne=>keep_put ok.acks hm hne⟩
  exact ok.pk (by simp) (set_chs ok ⟨hc.st,hc.cn,hc.oc,hc.snd,by have:=hc.rcv; have:=h.room; unfold N12 at *; simp only; omega,hc.ack⟩) ok.l1 ok.l2 (put_list ok.l3 h.room.2.1 k2)
 ·refine ⟨?_,rfl,rfl,fun j h1 h2 hne=>rfl,fun m hm _=>get_self ok.sent hm,fun m hm hne=>keep_put ok.got hm hne,fun m hm hne=>keep_put ok.acks hm hne⟩
  exact ok.pk (x:=s.chs) rfl ok.chs ok.l1 (put_list ok.l2 h.room.1 k1) (put_list ok.l3 h.room.2.1 k2)
structure PendOk (s:StateD) (p:PackD):Prop where
 pk:PkOk p
 en:(endPk s p.fr [3,4]).2.2=0
 fit:(chAt s p.fr).oc=p.de
 there:getM s.sent p.fr p.seq=some ⟨p.fr,p.seq,digPk p⟩
theorem pendE_zero {s:StateD} {p:PackD}:pendE s p=0↔PendOk s p:=by
 unfold pendE
 constructor
 ·intro h
  by_cases h1:wrongPk p=0
  ·rw [if_pos h1] at h
   by_cases h2:(endPk s p.fr [3,4]).2.2=0
   ·rw [if_pos h2] at h
    by_cases h3:(chAt s p.fr).oc=p.de
    ·rw [if_pos h3] at h
     cases hm:getM s.sent p.fr p.seq with
     | none=>rw [hm] at h; cases h
     | some m =>
      rw [hm] at h
      simp only at h
      by_cases hd:m.dg=digPk p
      ·refine ⟨wrongPk_zero.1 h1,h2,h3,?_⟩
       obtain ⟨ok,_,_⟩:=endPk_ok h2
       have:=((KL.get_iff cmpM_ok ok.sent.srt).1 hm).2
       simp only [mk,Prod.mk.injEq] at this
       rw [hm]
       obtain ⟨a,b,c⟩:=m
       simp only at this hd
       rw [this.1,this.2,hd]
      ·rw [if_neg hd] at h; cases h
    ·rw [if_neg h3] at h; cases h
   ·rw [if_neg h2] at h; exact absurd h h2
  ·rw [if_neg h1] at h; exact absurd h h1
 ·rintro ⟨a,b,c,d⟩
  rw [if_pos (wrongPk_zero.2 a),if_pos b,if_pos c,d]
  simp
theorem drop_step {s:StateD} {p:PackD} (h:PendOk s p) {c:ChanD} (hc:ChOk c):PkStep s p.fr (dropS s p c):=by
 obtain ⟨ok,hi,_⟩:=endPk_ok h.en
 refine ⟨?_,rfl,by simp [dropS],fun j h1 h2 hne=>set_keep hi.1 j h1 h2 hne,fun m hm hne=>keep_drop ok.sent hm hne,fun m hm _=>get_self ok.got hm,fun m hm _=>get_self ok.acks hm⟩
 exact ok.pk (by simp) (set_chs ok hc) (drop_list ok.l1 _ _) ok.l2 ok.l3
theorem dropU_eq {s:StateD} {p:PackD} (h:PendOk s p):dropU s p=dropS s p (chAt s p.fr):=by
 obtain ⟨ok,hi,_⟩:=endPk_ok h.en
 unfold dropU dropS
 have:s.chs.set p.fr.toNat (chAt s p.fr)=s.chs:=by
  rw [(chAt_mem hi).1]
  exact List.set_getElem_self _
 rw [this]
theorem ackPk_zero {s:StateD} {p:PackD} {ack:List UInt8} {w:ShownD} (h:(ackPk s p ack w).2=0):PendOk s p∧∃ c:ChanD,ChOk c∧c.st=(chAt s p.fr).st∧c.oc=(chAt s p.fr).oc∧c.cn=(chAt s p.fr).cn∧(ackPk s p ack w).1=dropS s p c:=by
 unfold ackPk at h ⊢
 split at h
 ·rename_i h1
  rw [if_pos h1]
  have hp:=pendE_zero.1 h1
  obtain ⟨ok,hi,hc⟩:=endPk_ok hp.en
  refine ⟨hp,?_⟩
  split at h
  ·cases h
  ·rename_i h2
   rw [if_neg h2]
   split at h
   ·cases h
   ·rename_i h3
    rw [if_neg h3]
    split at h
    ·cases h
    ·rename_i h4
     rw [if_neg h4]
     split at h
     ·rename_i h5
      rw [if_pos h5]
      by_cases ho:(chAt s p.fr).ord=true
      ·rw [if_pos ho]
       refine ⟨{ chAt s p.fr with ack:=(chAt s p.fr).ack+1 },⟨hc.st,hc.cn,hc.oc,hc.snd,hc.rcv,?_⟩,rfl,rfl,rfl,rfl⟩
       have:=hc.ack
       have:¬ (chAt s p.fr).ack=1000000000000:=fun e=>h4 ⟨ho,e⟩
       unfold N12 at *; simp only; omega
      ·rw [if_neg ho]
       exact ⟨chAt s p.fr,hc,rfl,rfl,rfl,dropU_eq hp⟩
     ·exact absurd h ‹_›
 ·exact absurd h ‹_›
theorem latePk_zero {s:StateD} {p:PackD} {next:Int} {w:ShownD} (h:(latePk s p next w).2=0):PendOk s p∧∃ c:ChanD,ChOk c∧(c.st=4∨c.st=(chAt s p.fr).st)∧c.oc=(chAt s p.fr).oc∧c.cn=(chAt s p.fr).cn∧(latePk s p next w).1=dropS s p c:=by
 unfold latePk at h ⊢
 split at h
 ·rename_i h1
  rw [if_pos h1]
  have hp:=pendE_zero.1 h1
  obtain ⟨ok,hi,hc⟩:=endPk_ok hp.en
  refine ⟨hp,?_⟩
  split at h
  ·cases h
  ·rename_i h2
   rw [if_neg h2]
   split at h
   ·rename_i ho
    rw [if_pos ho]
    split at h
    ·cases h
    ·rename_i h3
     rw [if_neg h3]
     split at h
     ·rename_i h4
      rw [if_pos h4]
      exact ⟨{ chAt s p.fr with st:=4 },⟨by simp,hc.cn,hc.oc,hc.snd,hc.rcv,hc.ack⟩,.inl rfl,rfl,rfl,rfl⟩
     ·exact absurd h ‹_›
   ·rename_i ho
    rw [if_neg ho]
    split at h
    ·rename_i h4
     rw [if_pos h4]
     exact ⟨chAt s p.fr,hc,.inr rfl,rfl,rfl,dropU_eq hp⟩
    ·exact absurd h ‹_›
 ·exact absurd h ‹_›
end Go.Proofs.YtadoaljnfeoecaaGreatDoor
set_option linter.all false
namespace Go.Proofs.YtadoaljnfeoecaaGreatDoor
open Go Go.Abs Go.RowKit Go.Proofs.YtadoaljnfeoecaaGreatDoor.Ty
set_option maxHeartbeats 8000000
set_option maxRecDepth 20000
theorem pkn_A (x:Int):PureD Tryz.prog 130 [intD x] (.agg [.i (.s (.int .i64 1)),.i (.s (.int .u64 (u64 x))),.i (.sl [])]):=by
 refine hide_r fun R hR=>?_
 have w1:=wrap_u x
 refine callD_W 6 Tryz.func130 rfl rfl rfl (fun _ _=>rfl) ?_
 exact wkl trivial
theorem pkdig_A (p:PackD) (hd:p.data.length≤1048576):PureD Tryz.prog 95 [packD p] (.i (bI (digPk p))):=by
 refine hide_r fun R hR=>?_
 have c1:=pkn_A p.fr
 have c2:=pkn_A p.de
 have c3:=pkn_A p.seq
 have c4:=pkn_A p.tout
 have c5:=write_A (pcsPk p) (by simp [pcsPk]) (by intro q hq; simp only [pcsPk,numP,rawB,List.mem_cons,List.not_mem_nil,or_false] at hq; rcases hq with rfl | rfl | rfl | rfl | rfl <;> simp <;> omega)
  (by intro q hq; simp only [pcsPk,numP,rawB,List.mem_cons,List.not_mem_nil,or_false] at hq; rcases hq with rfl | rfl | rfl | rfl | rfl <;> first | exact u64_lt _ | (simp only; omega))
 have c6:=sum_D (writeF (pcsPk p)).1 (by have:=writeF_len (pcsPk p); omega)
 unfold digPk at hR
 generalize writeF (pcsPk p)=W at *
 simp only [pcsPk,numP,rawB,List.map_cons,List.map_nil,encP,faultD,bI] at c5
 generalize u64 p.fr=a1 at *
 generalize u64 p.de=a2 at *
 generalize u64 p.seq=a3 at *
 generalize u64 p.tout=a4 at *
 refine callD_W 27 Tryz.func95 rfl rfl rfl (fun _ _=>rfl) ?_
 exact wkl trivial
theorem pkwrong_A (p:PackD):PureD Tryz.prog 93 [packD p] (intD (wrongPk p)):=by
 refine hide_r fun R hR=>?_
 unfold wrongPk at hR
 refine callD_W 47 Tryz.func93 rfl rfl rfl (fun _ _=>rfl) ?_
 exact wkl trivial
def encW (w:Int):List I:=[.s (.int .i64 w)]
attribute [simp,go_sem] encW
theorem stIn_lt {st:Int} {ws:List Int} {i:Nat} (h:i < ws.length):stIn st (ws.drop i)=(decide (st=ws[i]) || stIn st (ws.drop (i+1))):=by
 unfold stIn; rw [List.drop_eq_getElem_cons h,List.any_cons]
theorem endpk_A (s:StateD) (hs:StSm s) (i:Int) (ws:List Int) (hw:ws.length≤1000):PureD Tryz.prog 92 [.rp (encSt s) 0,intD i,.i (.sl (ws.map encW))] (.tup [chanD (endPk s i ws).1,connD (endPk s i ws).2.1,intD (endPk s i ws).2.2]):=by
 refine hide_r fun R hR=>?_
 have c1:=swrong_A s hs
 unfold endPk at hR
 by_cases h:wrongS s=0
 ·have ok:=wrongS_zero.1 h
  have hl:=ok.lch
  rw [h] at c1
  rw [if_pos h] at hR
  by_cases h2:i < 0∨(s.chs.length:Int)≤i
  ·rw [if_pos h2] at hR
   clear ok h hs
   refine callD_W 67 Tryz.func92 rfl rfl rfl (fun _ _=>rfl) ?_
   exact wkl trivial
  ·rw [if_neg h2] at hR
   have hi:i.toNat < s.chs.length:=by omega
   have s0:=get_lt (f:=encCh) hi
   have c2:=overch_A s ok (chAt s i).cn
   rw [(chAt_mem (s:=s) (i:=i) (by omega)).1] at hR c2
   clear ok h hs
   generalize s.chs[i.toNat]=x at *
   generalize overCh s x.cn=E at *
   refine callD_W 67 Tryz.func92 rfl rfl rfl (fun _ _=>rfl) ?_
   refine wkl ?_
   clear hR; intro hR
   have hR':Hr (if stIn x.st (ws.drop 0)=true then D.tup [chanD x,connD E.1,intD E.2] else D.tup [chanD zeroCh,connD zeroCn,intD 12]) R:=by
    rw [List.drop_zero]
    revert hR
    split <;> exact id
   clear hR
   refine W_loopR (ι:=Nat) (fun j=>j≤ws.length∧Hr (if stIn x.st (ws.drop j)=true then D.tup [chanD x,connD E.1,intD E.2] else D.tup [chanD zeroCh,connD zeroCn,intD 12]) R)
    (fun j=>stOf [(0,.rp (encSt s) 0),(6,.pt 101 0 0 0),(7,.pt 102 0 0 0),(8,intD 0),(10,.pt 100 0 0 0),(44,.i (.sl (ws.map encW))),(45,intD ws.length),(46,intD j)] [(100,.box ((encCh x).map .i)),(101,.box ((encCh zeroCh).map .i)),(102,.box ((encCn zeroCn).map .i))]) (fun j=>ws.length - j) 0 ⟨Nat.zero_le _,hR'⟩ ?_ ?_
   ·exact le_ok [] [(100,2543),(101,1000),(102,1001)]
   ·rintro j ⟨hj,hR⟩ RL hL
    clear hR'
    rw [stOf_eq]
    by_cases h':j < ws.length
    ·have s1:=get_lt (f:=encW) h'
     rw [stIn_lt h'] at hR
     have b1:=fun σ' (hq:Hr _ R)=>bk [] [(100,100),(101,101),(102,102)] (hL (j+1) σ' ⟨h',hq⟩)
     clear hL
     generalize ws[j]=w at *
     by_cases e:x.st=w
     ·simp only [e,decide_true,Bool.true_or,if_true] at hR
      clear b1
      exact wkl trivial
     ·simp only [e,decide_false,Bool.false_or] at hR
      exact wkl trivial
    ·rw [List.drop_eq_nil_of_le (by omega)] at hR
     simp only [stIn,List.any_nil,Bool.false_eq_true,if_false] at hR
     clear hL
     exact wkl trivial
 ·rw [if_neg h] at hR
  generalize wrongS s=W at *
  clear hs
  refine callD_W 67 Tryz.func92 rfl rfl rfl (fun _ _=>rfl) ?_
  exact wkl trivial
end Go.Proofs.YtadoaljnfeoecaaGreatDoor
set_option linter.all false
namespace Go.Proofs.YtadoaljnfeoecaaGreatDoor
open Go Go.Abs Go.RowKit Go.Proofs.YtadoaljnfeoecaaGreatDoor.Ty
set_option maxHeartbeats 16000000
set_option maxRecDepth 20000
theorem last_get {c:ClientD} (h:1≤c.known.length):∃ hp:c.known.length - 1 < c.known.length,lastC c=c.known[c.known.length - 1] :=
 ⟨by omega,by unfold lastC; rw [List.getLastD_eq_getLast?,List.getLast?_eq_getElem?,List.getElem?_eq_getElem (by omega)]; rfl⟩
theorem sendpk_A (s:StateD) (hs:StSm s) (i:Int) (data:List UInt8) (hd:data.length≤1048576) (tout:Int) :
  PureD Tryz.prog 53 [stateD s,intD i,.i (bI data),intD tout] (.tup [stateD (sendPk s i data tout).1,packD (sendPk s i data tout).2.1,intD (sendPk s i data tout).2.2]):=by
 refine hide_r fun R hR=>?_
 have c1:=endpk_A s hs i [3] (by simp)
 simp only [List.map_cons,List.map_nil] at c1
 unfold sendPk at hR
 by_cases h:(endPk s i [3]).2.2=0
 ·rw [if_pos h] at hR
  rw [endPk_fst h] at c1
  obtain ⟨ok,hi,hst,hov⟩:=endPk_zero.1 h
  obtain ⟨hj,h4,h5,h6,h7⟩:=overCh_zero.1 hov
  have hch:=ok.chs _ (chAt_mem hi).2
  have hcn:=ok.cns _ (cnAt_mem hj).2
  have c2:=clone_A data (by omega)
  have c3:=pkwrong_A ⟨i,(chAt s i).oc,(chAt s i).snd,data,tout⟩
  by_cases h2:wrongPk ⟨i,(chAt s i).oc,(chAt s i).snd,data,tout⟩=0
  ·rw [if_pos h2] at hR
   rw [h2] at c3
   have hcl:0≤(cnAt s (chAt s i).cn).cl∧(cnAt s (chAt s i).cn).cl < (s.cls.length:Int):=⟨hcn.cl.1,h6⟩
   have hm:=clAt_mem hcl
   have hcok:=ok.cls _ hm.2
   have hkl:=hcok.len
   have s0:=get_lt (f:=encC) (l:=s.cls) (i:=(cnAt s (chAt s i).cn).cl.toNat) (by omega)
   rw [← hm.1] at s0
   obtain ⟨hlp,hlast⟩:=last_get hkl.1
   have s1:=get_lt (f:=encK) hlp
   unfold clOf at hR
   rw [hlast] at hR
   have w1:IntKind.i64.wrap (((clAt s (cnAt s (chAt s i).cn).cl).known.length:Int) - 1)=(((clAt s (cnAt s (chAt s i).cn).cl).known.length - 1:Nat):Int):=by rw [wrap64 (by omega) (by omega)]; omega
   have hlen:=ok.lsent
   have hch1:=hch.snd
   have e1:=sown_D s ok.sm
   have c4:=pkdig_A ⟨i,(chAt s i).oc,(chAt s i).snd,data,tout⟩ hd
   have e2:=mput_D s.sent ⟨i,(chAt s i).snd,digPk ⟨i,(chAt s i).oc,(chAt s i).snd,data,tout⟩⟩ (by omega) ok.sent ⟨i12 ok hi,hch1,dig_len _⟩
   unfold sendS at hR
   have hi':i.toNat < s.chs.length:=by omega
   have s2:=get_lt (f:=encCh) hi'
   have w2:IntKind.i64.wrap ((chAt s i).snd+1)=(chAt s i).snd+1:=by unfold N12 at hch1; rw [wrap64 (by omega) (by omega)]
   have s3:(s.chs.map encCh).set i.toNat (encCh { chAt s i with snd:=(chAt s i).snd+1 })=(s.chs.set i.toNat { chAt s i with snd:=(chAt s i).snd+1 }).map encCh:=List.map_set.symm
   have s4:s.chs.length=(s.chs.set i.toNat { chAt s i with snd:=(chAt s i).snd+1 }).length:=by simp
   rw [← (chAt_mem hi).1] at s2
   clear hs h ok hst hov hj h4 h5 h7 hch hcn h2 hm hcok hch1
   generalize s.chs.set i.toNat { chAt s i with snd:=(chAt s i).snd+1 }=L at *
   generalize digPk ⟨i,(chAt s i).oc,(chAt s i).snd,data,tout⟩=G at *
   generalize chAt s i=x at *
   generalize cnAt s x.cn=y at *
   generalize clAt s y.cl=z at *
   generalize z.known[z.known.length - 1]=k at *
   generalize putM s.sent ⟨i,x.snd,G⟩=M at *
   clear hlast hlp
   simp only [encCh] at s3
   simp only [markD,bI] at e2
   refine callD_W 100 Tryz.func53 rfl rfl rfl (fun _ _=>rfl) ?_
   exact wkl trivial
  ·rw [if_neg h2] at hR
   generalize wrongPk ⟨i,(chAt s i).oc,(chAt s i).snd,data,tout⟩=W at *
   clear hs h ok hst hov h4 h5 h6 h7 hch hcn
   generalize chAt s i=x at *
   generalize cnAt s x.cn=y at *
   refine callD_W 100 Tryz.func53 rfl rfl rfl (fun _ _=>rfl) ?_
   exact wkl trivial
 ·rw [if_neg h] at hR
  generalize endPk s i [3]=W at *
  clear hs
  refine callD_W 100 Tryz.func53 rfl rfl rfl (fun _ _=>rfl) ?_
  exact wkl trivial
end Go.Proofs.YtadoaljnfeoecaaGreatDoor
set_option linter.all false
namespace Go.Proofs.YtadoaljnfeoecaaGreatDoor
open Go Go.Abs Go.RowKit Go.Proofs.YtadoaljnfeoecaaGreatDoor.Ty
set_option maxHeartbeats 16000000
set_option maxRecDepth 20000
theorem recvpk_A (s:StateD) (hs:StSm s) (p:PackD) (hd:p.data.length≤1048576) (ack:List UInt8) (ha:ack.length≤1048576) (w:ShownD) :
  PureD Tryz.prog 56 [stateD s,packD p,.i (bI ack),shD w] (.tup [stateD (recvPk s p ack w).1,intD (recvPk s p ack w).2]):=by
 refine hide_r fun R hR=>?_
 have c1:=pkwrong_A p
 unfold recvPk at hR
 by_cases h0:wrongPk p=0
 ·rw [if_pos h0] at hR
  rw [h0] at c1
  have hpk:=wrongPk_zero.1 h0
  have c2:=endpk_A s hs p.de [3] (by simp)
  simp only [List.map_cons,List.map_nil] at c2
  by_cases h:(endPk s p.de [3]).2.2=0
  ·rw [if_pos h] at hR
   rw [endPk_fst h] at c2
   obtain ⟨ok,hi,hst,hov⟩:=endPk_zero.1 h
   obtain ⟨hj,h4,h5,h6,h7⟩:=overCh_zero.1 hov
   have hch:=ok.chs _ (chAt_mem hi).2
   have hcn:=ok.cns _ (cnAt_mem hj).2
   have q1:=hpk.de
   have q2:=hpk.seq
   have q3:=hpk.fr
   have n1:=ok.lgot
   have n2:=ok.lacks
   have c3:=mfind_A s.got p.de p.seq (by omega) ok.got (by unfold N12 at *; omega) (by unfold N12 at *; omega)
   have hcl:0≤(cnAt s (chAt s p.de).cn).cl∧(cnAt s (chAt s p.de).cn).cl < (s.cls.length:Int):=⟨hcn.cl.1,h6⟩
   have hm:=clAt_mem hcl
   have hcok:=ok.cls _ hm.2
   have hkl:=hcok.len
   have s0:=get_lt (f:=encC) (l:=s.cls) (i:=(cnAt s (chAt s p.de).cn).cl.toNat) (by omega)
   rw [← hm.1] at s0
   unfold clOf at hR
   have c4:=mkey_A wSent p.fr p.seq (by decide) (by unfold N12 Num6 at *; omega) (by unfold N12 Num6 at *; omega)
   have c5:=pkdig_A p hd
   have c6:=cmember_A (clAt s (cnAt s (chAt s p.de).cn).cl) s.t w.h (keyM wSent p.fr p.seq) (digPk p) w.p (by omega)
   have c7:=sum_D ack (by omega)
   have e1:=sown_D s ok.sm
   have e2:=mput_D s.acks ⟨p.de,p.seq,sha ack⟩ (by omega) ok.acks ⟨q1,q2,sha_length _⟩
   have e3:=mput_D s.got ⟨p.de,p.seq,digPk p⟩ (by omega) ok.got ⟨q1,q2,dig_len _⟩
   unfold recvS at hR
   have hi':p.de.toNat < s.chs.length:=by omega
   have s2:=get_lt (f:=encCh) hi'
   have hrc:=hch.rcv
   have w2:IntKind.i64.wrap ((chAt s p.de).rcv+1)=(chAt s p.de).rcv+1:=by unfold N12 at hrc; rw [wrap64 (by omega) (by omega)]
   have s3:(s.chs.map encCh).set p.de.toNat (encCh { chAt s p.de with rcv:=(chAt s p.de).rcv+1 })=(s.chs.set p.de.toNat { chAt s p.de with rcv:=(chAt s p.de).rcv+1 }).map encCh:=List.map_set.symm
   have s4:s.chs.length=(s.chs.set p.de.toNat { chAt s p.de with rcv:=(chAt s p.de).rcv+1 }).length:=by simp
   rw [← (chAt_mem hi).1] at s2
   clear hs h ok hst hov hj h4 h5 h7 hch hcn hm hcok hrc hpk h0
   generalize s.chs.set p.de.toNat { chAt s p.de with rcv:=(chAt s p.de).rcv+1 }=L at *
   generalize memberE (clAt s (cnAt s (chAt s p.de).cn).cl) s.t w.h (keyM wSent p.fr p.seq) (digPk p) w.p=E at *
   generalize keyM wSent p.fr p.seq=K at *
   generalize digPk p=G at *
   generalize sha ack=G2 at *
   generalize chAt s p.de=x at *
   generalize cnAt s x.cn=y at *
   generalize clAt s y.cl=z at *
   generalize placeM s.got p.de p.seq=pl at *
   generalize (getM s.got p.de p.seq).isSome=had at *
   generalize putM s.got ⟨p.de,p.seq,G⟩=M at *
   generalize putM s.acks ⟨p.de,p.seq,G2⟩=M2 at *
   simp only [encCh] at s3
   simp only [markD,bI] at e2 e3
   simp only [wSent] at c4
   cases ho:x.ord
   ·simp only [ho,Bool.false_eq_true,false_and,true_and,false_or,if_false] at hR
    clear s2 s3 s4 w2
    refine callD_W 162 Tryz.func56 rfl rfl rfl (fun _ _=>rfl) ?_
    exact wkl trivial
   ·simp only [ho,Bool.true_eq_false,false_and,true_and,or_false,if_true] at hR
    clear e3
    simp only [ho] at s3
    obtain ⟨fr,de,seq,data,tout⟩:=p
    simp only at *
    by_cases hq:seq=x.rcv
    ·subst hq
     simp only [not_true_eq_false,if_false] at hR
     by_cases hf:x.oc=fr
     ·subst hf
      simp only [if_true] at hR
      refine callD_W 162 Tryz.func56 rfl rfl rfl (fun _ _=>rfl) ?_
      exact wkl trivial
     ·simp only [hf,if_false] at hR
      clear e1 e2
      refine callD_W 162 Tryz.func56 rfl rfl rfl (fun _ _=>rfl) ?_
      exact wkl trivial
    ·simp only [hq,not_false_eq_true,if_true] at hR
     clear e1 e2
     refine callD_W 162 Tryz.func56 rfl rfl rfl (fun _ _=>rfl) ?_
     exact wkl trivial
  ·rw [if_neg h] at hR
   generalize endPk s p.de [3]=W at *
   clear hs hpk
   refine callD_W 162 Tryz.func56 rfl rfl rfl (fun _ _=>rfl) ?_
   exact wkl trivial
 ·rw [if_neg h0] at hR
  generalize wrongPk p=W at *
  clear hs
  refine callD_W 162 Tryz.func56 rfl rfl rfl (fun _ _=>rfl) ?_
  exact wkl trivial
end Go.Proofs.YtadoaljnfeoecaaGreatDoor
set_option linter.all false
namespace Go.Proofs.YtadoaljnfeoecaaGreatDoor
open Go Go.Abs Go.RowKit Go.Proofs.YtadoaljnfeoecaaGreatDoor.Ty
set_option maxHeartbeats 16000000
set_option maxRecDepth 20000
theorem pend_A (s:StateD) (hs:StSm s) (p:PackD) (hd:p.data.length≤1048576) :
  PureD Tryz.prog 105 [.rp (encSt s) 0,.rp (encPk p) 0] (.tup [chanD (pendCh s p),connD (pendCn s p),intD (pendE s p)]):=by
 refine hide_r fun R hR=>?_
 have c1:=pkwrong_A p
 unfold pendE pendCh pendCn at hR
 by_cases h0:wrongPk p=0
 ·rw [if_pos h0,if_pos h0,if_pos h0] at hR
  rw [h0] at c1
  have hpk:=wrongPk_zero.1 h0
  have c2:=endpk_A s hs p.fr [3,4] (by simp)
  simp only [List.map_cons,List.map_nil] at c2
  by_cases h:(endPk s p.fr [3,4]).2.2=0
  ·rw [if_pos h,endPk_fst h] at hR
   rw [endPk_fst h] at c2
   simp only at hR c2
   obtain ⟨ok,hi,hst,hov⟩:=endPk_zero.1 h
   have q1:=hpk.fr
   have q2:=hpk.seq
   have n1:=ok.lsent
   have c3:=mfind_A s.sent p.fr p.seq (by omega) ok.sent (by unfold N12 at *; omega) (by unfold N12 at *; omega)
   have c4:=pkdig_A p hd
   cases hg:getM s.sent p.fr p.seq with
   | none =>
    rw [hg] at c3 hR
    simp only [Option.isSome_none] at c3
    clear hs h ok hst hov hpk h0 hg
    generalize chAt s p.fr=x at *
    generalize cnAt s x.cn=y at *
    generalize placeM s.sent p.fr p.seq=pl at *
    clear c4
    refine callD_W 88 Tryz.func105 rfl rfl rfl (fun _ _=>rfl) ?_
    exact wkl trivial
   | some m =>
    rw [hg] at c3 hR
    simp only [Option.isSome_some] at c3 hR
    obtain ⟨hp,hv⟩:=KL.place_lt cmpM_ok ok.sent.srt hg
    have s0:(s.sent.map encM)[placeM s.sent p.fr p.seq]?=some (encM m):=by rw [← hv]; exact get_lt hp
    have c5:=equal_A m.dg (digPk p)
    clear hs h ok hst hov hpk h0 hg hv
    generalize chAt s p.fr=x at *
    generalize cnAt s x.cn=y at *
    have hp':placeM s.sent p.fr p.seq < s.sent.length:=hp
    clear hp
    generalize placeM s.sent p.fr p.seq=pl at *
    generalize digPk p=G at *
    by_cases hdd:m.dg=G
    ·rw [decide_eq_true hdd] at c5
     rw [if_pos hdd] at hR
     clear hdd
     refine callD_W 88 Tryz.func105 rfl rfl rfl (fun _ _=>rfl) ?_
     exact wkl trivial
    ·rw [decide_eq_false hdd] at c5
     rw [if_neg hdd] at hR
     clear hdd
     refine callD_W 88 Tryz.func105 rfl rfl rfl (fun _ _=>rfl) ?_
     exact wkl trivial
  ·rw [if_neg h] at hR
   generalize endPk s p.fr [3,4]=W at *
   clear hs hpk
   refine callD_W 88 Tryz.func105 rfl rfl rfl (fun _ _=>rfl) ?_
   exact wkl trivial
 ·rw [if_neg h0,if_neg h0,if_neg h0] at hR
  generalize wrongPk p=W at *
  clear hs
  refine callD_W 88 Tryz.func105 rfl rfl rfl (fun _ _=>rfl) ?_
  exact wkl trivial
theorem pend_zero {s:StateD} {p:PackD} (h:PendOk s p):pendCh s p=chAt s p.fr∧pendCn s p=cnAt s (chAt s p.fr).cn:=by
 unfold pendCh pendCn
 rw [if_pos (wrongPk_zero.2 h.pk),if_pos (wrongPk_zero.2 h.pk),endPk_fst h.en]
 exact ⟨rfl,rfl⟩
theorem mdrop_D (l:List MarkD) (ch seq:Int) (hl:l.length≤1000) (hk:MksOk l) (h1:N12 0 ch) (h2:N12 1 seq) {u:MarkD} (hg:getM l ch seq=some u) :
  CallD Tryz.prog 106 [.os 0 3 0 l.length,intD ch,intD seq] (hF [(0,.arr 3 (l.map encM))]) (.os 1 3 0 (dropM l ch seq).length) (hOf (hF [(0,.arr 3 (l.map encM))]) [(1,.arr 3 ((dropM l ch seq).map encM))]):=by
 refine hide_c fun R R' hR hR'=>?_
 have c1:=mfind_A l ch seq (by omega) hk (by unfold N12 at *; omega) (by unfold N12 at *; omega)
 rw [hg] at c1
 obtain ⟨hp,hv⟩:=KL.place_lt cmpM_ok hk.srt hg
 have hp':placeM l ch seq < l.length:=hp
 have e2:=delete_Mk (l.map encM) (placeM l ch seq) (by simpa using hp) (by simp; omega) (uM l)
 have he:(l.map encM).take (placeM l ch seq)++(l.map encM).drop (placeM l ch seq+1)=(dropM l ch seq).map encM:=by
  unfold dropM; rw [KL.put_del cmpM_ok hk.srt hg]; simp
 have hlen:(dropM l ch seq).length=l.length - 1:=by
  unfold dropM; rw [KL.put_del cmpM_ok hk.srt hg]
  simp; omega
 rw [he,List.length_map,← hlen] at e2
 simp only [Option.isSome_some] at c1
 have d1:SrcIs [] [(1,901)]:=⟨trivial⟩
 have w1:IntKind.i64.wrap ((placeM l ch seq:Int)+1)=((placeM l ch seq+1:Nat):Int):=by rw [wrap64 (by omega) (by omega)]; omega
 clear he hk hg hv hp
 generalize placeM l ch seq=p at *
 generalize dropM l ch seq=L at *
 clear hlen
 simp only [intD] at e2
 obtain ⟨rfl⟩:=hR
 obtain ⟨rfl⟩:=hR'
 refine callD_W 23 Tryz.func106 rfl rfl rfl (fun o ho=>by simp [hF,lk,show o≠0 by omega,show o≠1 by omega,show o≠2 by omega,show o≠3 by omega,show o≠4 by omega,show o≠5 by omega]) ?_
 exact wkl trivial
theorem ackpk_A (s:StateD) (hs:StSm s) (p:PackD) (hd:p.data.length≤1048576) (ack:List UInt8) (ha:ack.length≤1048576) (w:ShownD) :
  PureD Tryz.prog 59 [stateD s,packD p,.i (bI ack),shD w] (.tup [stateD (ackPk s p ack w).1,intD (ackPk s p ack w).2]):=by
 refine hide_r fun R hR=>?_
 have c1:=pend_A s hs p hd
 unfold ackPk at hR
 by_cases h:pendE s p=0
 ·rw [if_pos h] at hR
  have hp:=pendE_zero.1 h
  rw [h,(pend_zero hp).1,(pend_zero hp).2] at c1
  obtain ⟨ok,hi,hst,hov⟩:=endPk_zero.1 hp.en
  obtain ⟨hj,h4,h5,h6,h7⟩:=overCh_zero.1 hov
  have hch:=ok.chs _ (chAt_mem hi).2
  have hcn:=ok.cns _ (cnAt_mem hj).2
  have q1:=hp.pk.de
  have q2:=hp.pk.seq
  have q3:=hp.pk.fr
  have n1:=ok.lsent
  have hcl:0≤(cnAt s (chAt s p.fr).cn).cl∧(cnAt s (chAt s p.fr).cn).cl < (s.cls.length:Int):=⟨hcn.cl.1,h6⟩
  have hm:=clAt_mem hcl
  have hkl:=(ok.cls _ hm.2).len
  have s0:=get_lt (f:=encC) (l:=s.cls) (i:=(cnAt s (chAt s p.fr).cn).cl.toNat) (by omega)
  rw [← hm.1] at s0
  unfold clOf at hR
  have c4:=mkey_A wAck p.de p.seq (by decide) (by unfold N12 Num6 at *; omega) (by unfold N12 Num6 at *; omega)
  have c6:=cmember_A (clAt s (cnAt s (chAt s p.fr).cn).cl) s.t w.h (keyM wAck p.de p.seq) (sha ack) w.p (by omega)
  have c7:=sum_D ack (by omega)
  have e1:=sown_D s ok.sm
  have e2:=mdrop_D s.sent p.fr p.seq (by omega) ok.sent q3 q2 hp.there
  unfold dropS dropU at hR
  have hi':p.fr.toNat < s.chs.length:=by omega
  have s2:=get_lt (f:=encCh) hi'
  have hrc:=hch.ack
  have w2:IntKind.i64.wrap ((chAt s p.fr).ack+1)=(chAt s p.fr).ack+1:=by unfold N12 at hrc; rw [wrap64 (by omega) (by omega)]
  have s3:(s.chs.map encCh).set p.fr.toNat (encCh { chAt s p.fr with ack:=(chAt s p.fr).ack+1 })=(s.chs.set p.fr.toNat { chAt s p.fr with ack:=(chAt s p.fr).ack+1 }).map encCh:=List.map_set.symm
  have s4:s.chs.length=(s.chs.set p.fr.toNat { chAt s p.fr with ack:=(chAt s p.fr).ack+1 }).length:=by simp
  rw [← (chAt_mem hi).1] at s2
  clear hs h ok hst hov hj h4 h5 h7 hch hcn hm hrc hp
  generalize s.chs.set p.fr.toNat { chAt s p.fr with ack:=(chAt s p.fr).ack+1 }=L at *
  generalize memberE (clAt s (cnAt s (chAt s p.fr).cn).cl) s.t w.h (keyM wAck p.de p.seq) (sha ack) w.p=E at *
  generalize keyM wAck p.de p.seq=K at *
  generalize sha ack=G2 at *
  generalize chAt s p.fr=x at *
  generalize cnAt s x.cn=y at *
  generalize clAt s y.cl=z at *
  generalize dropM s.sent p.fr p.seq=M at *
  simp only [encCh] at s3
  simp only [intD] at e2
  simp only [wAck] at c4
  obtain ⟨fr,de,seq,data,tout⟩:=p
  simp only at *
  cases ho:x.ord
  ·simp only [ho,Bool.false_eq_true,false_and,if_false] at hR
   clear s2 s3 s4 w2
   refine callD_W 93 Tryz.func59 rfl rfl rfl (fun _ _=>rfl) ?_
   exact wkl trivial
  ·simp only [ho,true_and,if_true] at hR
   simp only [ho] at s3
   by_cases hq:seq=x.ack
   ·subst hq
    simp only [not_true_eq_false,if_false] at hR
    refine callD_W 93 Tryz.func59 rfl rfl rfl (fun _ _=>rfl) ?_
    exact wkl trivial
   ·simp only [hq,not_false_eq_true,if_true] at hR
    clear e1 e2
    refine callD_W 93 Tryz.func59 rfl rfl rfl (fun _ _=>rfl) ?_
    exact wkl trivial
 ·rw [if_neg h] at hR
  generalize pendE s p=W at *
  generalize pendCh s p=x at *
  generalize pendCn s p=y at *
  clear hs
  refine callD_W 93 Tryz.func59 rfl rfl rfl (fun _ _=>rfl) ?_
  exact wkl trivial
theorem latepk_A (s:StateD) (hs:StSm s) (p:PackD) (hd:p.data.length≤1048576) (next:Int) (w:ShownD) :
  PureD Tryz.prog 60 [stateD s,packD p,intD next,shD w] (.tup [stateD (latePk s p next w).1,intD (latePk s p next w).2]):=by
 refine hide_r fun R hR=>?_
 have c1:=pend_A s hs p hd
 unfold latePk at hR
 by_cases h:pendE s p=0
 ·rw [if_pos h] at hR
  have hp:=pendE_zero.1 h
  rw [h,(pend_zero hp).1,(pend_zero hp).2] at c1
  obtain ⟨ok,hi,hst,hov⟩:=endPk_zero.1 hp.en
  obtain ⟨hj,h4,h5,h6,h7⟩:=overCh_zero.1 hov
  have hcn:=ok.cns _ (cnAt_mem hj).2
  have q1:=hp.pk.de
  have q2:=hp.pk.seq
  have q3:=hp.pk.fr
  have n1:=ok.lsent
  have hcl:0≤(cnAt s (chAt s p.fr).cn).cl∧(cnAt s (chAt s p.fr).cn).cl < (s.cls.length:Int):=⟨hcn.cl.1,h6⟩
  have hm:=clAt_mem hcl
  have hkl:=(ok.cls _ hm.2).len
  have s0:=get_lt (f:=encC) (l:=s.cls) (i:=(cnAt s (chAt s p.fr).cn).cl.toNat) (by omega)
  rw [← hm.1] at s0
  unfold clOf at hR
  have c2:=nkey_A p.de (by unfold N12 Num6 at *; omega)
  have c3:=nextb_A next
  have c4:=mkey_A wGot p.de p.seq (by decide) (by unfold N12 Num6 at *; omega) (by unfold N12 Num6 at *; omega)
  have c5:=cmember_A (clAt s (cnAt s (chAt s p.fr).cn).cl) s.t w.h (keyN p.de) (valN next) w.p (by omega)
  have c6:=cmissing_A (clAt s (cnAt s (chAt s p.fr).cn).cl) s.t w.h (keyM wGot p.de p.seq) w.g (by omega)
  have e1:=sown_D s ok.sm
  have e2:=mdrop_D s.sent p.fr p.seq (by omega) ok.sent q3 q2 hp.there
  unfold dropS dropU at hR
  have hi':p.fr.toNat < s.chs.length:=by omega
  have s2:=get_lt (f:=encCh) hi'
  have s3:(s.chs.map encCh).set p.fr.toNat (encCh { chAt s p.fr with st:=4 })=(s.chs.set p.fr.toNat { chAt s p.fr with st:=4 }).map encCh:=List.map_set.symm
  have s4:s.chs.length=(s.chs.set p.fr.toNat { chAt s p.fr with st:=4 }).length:=by simp
  rw [← (chAt_mem hi).1] at s2
  clear hs h ok hst hov hj h4 h5 h7 hcn hm hp
  generalize s.chs.set p.fr.toNat { chAt s p.fr with st:=4 }=L at *
  generalize memberE (clAt s (cnAt s (chAt s p.fr).cn).cl) s.t w.h (keyN p.de) (valN next) w.p=E at *
  generalize missingE (clAt s (cnAt s (chAt s p.fr).cn).cl) s.t w.h (keyM wGot p.de p.seq) w.g=E2 at *
  generalize keyM wGot p.de p.seq=K at *
  generalize keyN p.de=K2 at *
  generalize valN next=V at *
  generalize chAt s p.fr=x at *
  generalize cnAt s x.cn=y at *
  generalize clAt s y.cl=z at *
  generalize dropM s.sent p.fr p.seq=M at *
  simp only [encCh] at s3
  simp only [intD] at e2
  simp only [wGot] at c4
  cases ho:x.ord
  ·simp only [ho,Bool.false_eq_true,if_false] at hR
   clear s2 s3 s4 c2 c3 c5
   refine callD_W 96 Tryz.func60 rfl rfl rfl (fun _ _=>rfl) ?_
   exact wkl trivial
  ·simp only [ho,if_true] at hR
   simp only [ho] at s3
   clear c4 c6
   refine callD_W 96 Tryz.func60 rfl rfl rfl (fun _ _=>rfl) ?_
   exact wkl trivial
 ·rw [if_neg h] at hR
  generalize pendE s p=W at *
  generalize pendCh s p=x at *
  generalize pendCn s p=y at *
  clear hs
  refine callD_W 96 Tryz.func60 rfl rfl rfl (fun _ _=>rfl) ?_
  exact wkl trivial
end Go.Proofs.YtadoaljnfeoecaaGreatDoor
