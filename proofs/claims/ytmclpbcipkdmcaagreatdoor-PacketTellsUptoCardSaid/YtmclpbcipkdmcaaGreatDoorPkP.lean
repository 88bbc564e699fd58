/- Packets: what a step comes to. No program is in sight. -/
import Derived.Test.YtmclpbcipkdmcaaGreatDoorChP
import Derived.Test.YtmclpbcipkdmcaaGreatDoorGMk
set_option linter.all false
namespace Go.Proofs.YtmclpbcipkdmcaaGreatDoor
open Go Go.Abs
structure PackD where
 fr:Int
 de:Int
 seq:Int
 data:List UInt8
 tout:Int
def encPk (p:PackD):List I:=[.s (.int .i64 p.fr),.s (.int .i64 p.de),.s (.int .i64 p.seq),bI p.data,.s (.int .i64 p.tout)]
def packD (p:PackD):D:=.agg [.i (.s (.int .i64 p.fr)),.i (.s (.int .i64 p.de)),.i (.s (.int .i64 p.seq)),.i (bI p.data),.i (.s (.int .i64 p.tout))]
def zeroPk:PackD:=⟨0,0,0,[],0⟩
attribute [simp,go_sem] encPk packD zeroPk
def pcsPk (p:PackD):List PieceD:=[numP (u64 p.fr),numP (u64 p.de),numP (u64 p.seq),rawB p.data,numP (u64 p.tout)]
def digPk (p:PackD):List UInt8:=sha (writeF (pcsPk p)).1
def wrongPk (p:PackD):Int :=
 if p.fr < 0∨1000000000000 < p.fr∨p.de < 0∨1000000000000 < p.de∨p.seq < 1∨1000000000000 < p.seq∨p.tout < 1∨1000000000000 < p.tout then 3 else if (150:Int) < p.data.length then 4 else 0
structure PkOk (p:PackD):Prop where
 fr:N12 0 p.fr
 de:N12 0 p.de
 seq:N12 1 p.seq
 tout:N12 1 p.tout
 data:p.data.length≤150
theorem wrongPk_zero {p:PackD}:wrongPk p=0↔PkOk p:=by
 unfold wrongPk
 constructor
 ·intro h
  split at h
  ·cases h
  ·split at h
   ·cases h
   ·exact ⟨by unfold N12; omega,by unfold N12; omega,by unfold N12; omega,by unfold N12; omega,by omega⟩
 ·rintro ⟨a,b,c,d,e⟩
  unfold N12 at *
  rw [if_neg (by omega),if_neg (by omega)]
def stIn (st:Int) (ws:List Int):Bool:=ws.any fun w=>decide (st=w)
def endPk (s:StateD) (i:Int) (ws:List Int):ChanD × ConnD × Int :=
 if wrongS s=0 then (if i < 0∨(s.chs.length:Int)≤i then (zeroCh,zeroCn,6) else if stIn (chAt s i).st ws=true then (chAt s i,(overCh s (chAt s i).cn).1,(overCh s (chAt s i).cn).2) else (zeroCh,zeroCn,12)) else (zeroCh,zeroCn,wrongS s)
theorem endPk_zero {s:StateD} {i:Int} {ws:List Int}:(endPk s i ws).2.2=0↔StOk s∧(0≤i∧i < (s.chs.length:Int))∧stIn (chAt s i).st ws=true∧(overCh s (chAt s i).cn).2=0:=by
 unfold endPk
 rw [← wrongS_zero]
 constructor
 ·intro h
  split at h
  ·split at h
   ·cases h
   ·split at h
    ·exact ⟨by assumption,by omega,by assumption,h⟩
    ·cases h
  ·exact absurd h ‹_›
 ·rintro ⟨a,b,c,d⟩
  rw [if_pos a,if_neg (by omega),if_pos c]; exact d
theorem endPk_fst {s:StateD} {i:Int} {ws:List Int} (h:(endPk s i ws).2.2=0):endPk s i ws=(chAt s i,cnAt s (chAt s i).cn,0):=by
 obtain ⟨a,b,c,d⟩:=endPk_zero.1 h
 unfold endPk
 rw [if_pos (wrongS_zero.2 a),if_neg (by omega),if_pos c,overCh_fst d]
def clOf (s:StateD) (i:Int):ClientD:=clAt s (cnAt s (chAt s i).cn).cl
def sendS (s:StateD) (i:Int) (p:PackD):StateD:={ s with sent:=putM s.sent ⟨i,p.seq,digPk p⟩,chs:=s.chs.set i.toNat { chAt s i with snd:=(chAt s i).snd+1 } }
def sendPk (s:StateD) (i:Int) (data:List UInt8) (tout:Int):StateD × PackD × Int :=
 if (endPk s i [3]).2.2=0 then
  (if wrongPk ⟨i,(chAt s i).oc,(chAt s i).snd,data,tout⟩=0 then
   (if tout≤(lastC (clOf s i)).h then (zeroSt,zeroPk,11)
   else if (s.sent.length:Int)=50∨(chAt s i).snd=1000000000000 then (zeroSt,zeroPk,5)
   else (sendS s i ⟨i,(chAt s i).oc,(chAt s i).snd,data,tout⟩,⟨i,(chAt s i).oc,(chAt s i).snd,data,tout⟩,0))
  else (zeroSt,zeroPk,wrongPk ⟨i,(chAt s i).oc,(chAt s i).snd,data,tout⟩))
 else (zeroSt,zeroPk,(endPk s i [3]).2.2)
def wSent:List UInt8:=[115,101,110,116]
def wGot:List UInt8:=[103,111,116]
def wAck:List UInt8:=[97,99,107]
def recvS (s:StateD) (p:PackD) (ack:List UInt8):StateD :=
 if (chAt s p.de).ord=true then { s with chs:=s.chs.set p.de.toNat { chAt s p.de with rcv:=(chAt s p.de).rcv+1 },acks:=putM s.acks ⟨p.de,p.seq,sha ack⟩ }
 else { s with got:=putM s.got ⟨p.de,p.seq,digPk p⟩,acks:=putM s.acks ⟨p.de,p.seq,sha ack⟩ }
def recvPk (s:StateD) (p:PackD) (ack:List UInt8) (w:ShownD):StateD × Int :=
 if wrongPk p=0 then
  (if (endPk s p.de [3]).2.2=0 then
   (if (chAt s p.de).oc=p.fr then
    (if p.tout≤s.h then (zeroSt,11)
    else if ((chAt s p.de).ord=true∧¬ p.seq=(chAt s p.de).rcv)∨((chAt s p.de).ord=false∧(getM s.got p.de p.seq).isSome=true) then (zeroSt,12)
    else if (s.got.length:Int)=50∨(s.acks.length:Int)=50∨(150:Int) < ack.length∨(chAt s p.de).rcv=1000000000000 then (zeroSt,5)
    else if memberE (clOf s p.de) s.t w.h (keyM wSent p.fr p.seq) (digPk p) w.p=0 then (recvS s p ack,0)
    else (zeroSt,memberE (clOf s p.de) s.t w.h (keyM wSent p.fr p.seq) (digPk p) w.p))
   else (zeroSt,8))
  else (zeroSt,(endPk s p.de [3]).2.2))
 else (zeroSt,wrongPk p)
def pendE (s:StateD) (p:PackD):Int :=
 if wrongPk p=0 then
  (if (endPk s p.fr [3,4]).2.2=0 then
   (if (chAt s p.fr).oc=p.de then
    (match getM s.sent p.fr p.seq with
    | none=>6
    | some m=>if m.dg=digPk p then 0 else 8)
   else 8)
  else (endPk s p.fr [3,4]).2.2)
 else wrongPk p
def pendCh (s:StateD) (p:PackD):ChanD:=if wrongPk p=0 then (endPk s p.fr [3,4]).1 else zeroCh
def pendCn (s:StateD) (p:PackD):ConnD:=if wrongPk p=0 then (endPk s p.fr [3,4]).2.1 else zeroCn
def dropS (s:StateD) (p:PackD) (c:ChanD):StateD:={ s with sent:=dropM s.sent p.fr p.seq,chs:=s.chs.set p.fr.toNat c }
def dropU (s:StateD) (p:PackD):StateD:={ s with sent:=dropM s.sent p.fr p.seq }
def ackPk (s:StateD) (p:PackD) (ack:List UInt8) (w:ShownD):StateD × Int :=
 if pendE s p=0 then
  (if (150:Int) < ack.length then (zeroSt,4)
  else if (chAt s p.fr).ord=true∧¬ p.seq=(chAt s p.fr).ack then (zeroSt,12)
  else if (chAt s p.fr).ord=true∧(chAt s p.fr).ack=1000000000000 then (zeroSt,5)
  else if memberE (clOf s p.fr) s.t w.h (keyM wAck p.de p.seq) (sha ack) w.p=0 then
   (if (chAt s p.fr).ord=true then (dropS s p { chAt s p.fr with ack:=(chAt s p.fr).ack+1 },0) else (dropU s p,0))
  else (zeroSt,memberE (clOf s p.fr) s.t w.h (keyM wAck p.de p.seq) (sha ack) w.p))
 else (zeroSt,pendE s p)
def latePk (s:StateD) (p:PackD) (next:Int) (w:ShownD):StateD × Int :=
 if pendE s p=0 then
  (if w.h < p.tout then (zeroSt,11)
  else if (chAt s p.fr).ord=true then
   (if next < 1∨p.seq < next then (zeroSt,12)
   else if memberE (clOf s p.fr) s.t w.h (keyN p.de) (valN next) w.p=0 then (dropS s p { chAt s p.fr with st:=4 },0)
   else (zeroSt,memberE (clOf s p.fr) s.t w.h (keyN p.de) (valN next) w.p))
  else if missingE (clOf s p.fr) s.t w.h (keyM wGot p.de p.seq) w.g=0 then (dropU s p,0)
  else (zeroSt,missingE (clOf s p.fr) s.t w.h (keyM wGot p.de p.seq) w.g))
 else (zeroSt,pendE s p)
end Go.Proofs.YtmclpbcipkdmcaaGreatDoor
