/- Packets: what a step comes to. No program is in sight. -/
import Derived.Test.YtmclpbcipkdmcaaGreatDoorChP
import Derived.Test.YtmclpbcipkdmcaaGreatDoorGMk
set_option linter.all false
namespace Go.Proofs.YtmclpbcipkdmcaaGreatDoor
open Go Go.Abs
structure PackD where
 fr:Int
 de:Int
 seq:Int
 data:List UInt8
 tout:Int
def encPk (p:PackD):List I:=[.s (.int .i64 p.fr),.s (.int .i64 p.de),.s (.int .i64 p.seq),bI p.data,.s (.int .i64 p.tout)]
def packD (p:PackD):D:=.agg [.i (.s (.int .i64 p.fr)),.i (.s (.int .i64 p.de)),.i (.s (.int .i64 p.seq)),.i (bI p.data),.i (.s (.int .i64 p.tout))]
def zeroPk:PackD:=⟨0,0,0,[],0⟩
attribute [simp,go_sem] encPk packD zeroPk
def pcsPk (p:PackD):List PieceD:=[numP (u64 p.fr),numP (u64 p.de),numP (u64 p.seq),rawB p.data,numP (u64 p.tout)]
def digPk (p:PackD):List UInt8:=sha (writeF (pcsPk p)).1
def wrongPk (p:PackD):Int :=
 if p.fr < 0∨1000000000000 < p.fr∨p.de < 0∨1000000000000 < p.de∨p.seq < 1∨1000000000000 < p.seq∨p.tout < 1∨1000000000000 < p.tout then 3 else if (150:Int) < p.data.length then 4 else 0
structure PkOk (p:PackD):Prop where
 fr:N12 0 p.fr
 de:N12 0 p.de
 seq:N12 1 p.seq
 tout:N12 1 p.tout
 data:p.data.length≤150
def stIn (st:Int) (ws:List Int):Bool:=ws.any fun w=>decide (st=w)
def endPk (s:StateD) (i:Int) (ws:List Int):ChanD × ConnD × Int :=
 if wrongS s=0 then (if i < 0∨(s.chs.length:Int)≤i then (zeroCh,zeroCn,6) else if stIn (chAt s i).st ws=true then (chAt s i,(overCh s (chAt s i).cn).1,(overCh s (chAt s i).cn).2) else (zeroCh,zeroCn,12)) else (zeroCh,zeroCn,wrongS s)
theorem endPk_zero {s:StateD} {i:Int} {ws:List Int}:(endPk s i ws).2.2=0↔StOk s∧(0≤i∧i < (s.chs.length:Int))∧stIn (chAt s i).st ws=true∧(overCh s (chAt s i).cn).2=0:=by
 unfold endPk
 rw [← wrongS_zero]
 constructor
 ·intro h
  split at h
  ·split at h
   ·cases h
   ·split at h
    ·exact ⟨by assumption,by omega,by assumption,h⟩
    ·cases h
  ·exact absurd h ‹_›
 ·rintro ⟨a,b,c,d⟩
  rw [if_pos a,if_neg (by omega),if_pos c]; exact d
end Go.Proofs.YtmclpbcipkdmcaaGreatDoor
