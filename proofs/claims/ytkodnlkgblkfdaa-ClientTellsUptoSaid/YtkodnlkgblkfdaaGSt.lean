/- Merged texts: StP, StS, ClnCl, ClnCn, ClnCh, ClnMk, ClnPu, StO, StW, StWr. -/
import Derived.Test.YtkodnlkgblkfdaaGCl
import Derived.Test.YtkodnlkgblkfdaaG0
import Derived.Test.YtkodnlkgblkfdaaGWk
set_option linter.all false
namespace Go.Proofs.Ytkodnlkgblkfdaa
open Go Go.Abs
structure ConnD where
 st:Int
 cl:Int
 oc:Int
 on:Int
structure ChanD where
 st:Int
 ord:Bool
 cn:Int
 oc:Int
 snd:Int
 rcv:Int
 ack:Int
structure MarkD where
 ch:Int
 seq:Int
 dg:List UInt8
structure StateD where
 name:ByteArray
 h:Int
 t:Int
 cls:List ClientD
 cns:List ConnD
 chs:List ChanD
 sent:List MarkD
 got:List MarkD
 acks:List MarkD
 pus:List PurseD
def encCn (c:ConnD):List I:=[.s (.int .i64 c.st),.s (.int .i64 c.cl),.s (.int .i64 c.oc),.s (.int .i64 c.on)]
def connD (c:ConnD):D:=.agg [.i (.s (.int .i64 c.st)),.i (.s (.int .i64 c.cl)),.i (.s (.int .i64 c.oc)),.i (.s (.int .i64 c.on))]
def encCh (c:ChanD):List I:=[.s (.int .i64 c.st),.s (.bool c.ord),.s (.int .i64 c.cn),.s (.int .i64 c.oc),.s (.int .i64 c.snd),.s (.int .i64 c.rcv),.s (.int .i64 c.ack)]
def chanD (c:ChanD):D:=.agg [.i (.s (.int .i64 c.st)),.i (.s (.bool c.ord)),.i (.s (.int .i64 c.cn)),.i (.s (.int .i64 c.oc)),.i (.s (.int .i64 c.snd)),.i (.s (.int .i64 c.rcv)),.i (.s (.int .i64 c.ack))]
def encM (m:MarkD):List I:=[.s (.int .i64 m.ch),.s (.int .i64 m.seq),bI m.dg]
def markD (m:MarkD):D:=.agg [.i (.s (.int .i64 m.ch)),.i (.s (.int .i64 m.seq)),.i (bI m.dg)]
def encSt (s:StateD):List I:=[.s (.string s.name),.s (.int .i64 s.h),.s (.int .i64 s.t),.sl (s.cls.map encC),.sl (s.cns.map encCn),.sl (s.chs.map encCh),.sl (s.sent.map encM),.sl (s.got.map encM),.sl (s.acks.map encM),.sl (s.pus.map encPu)]
def stateD (s:StateD):D:=.agg [.i (.s (.string s.name)),.i (.s (.int .i64 s.h)),.i (.s (.int .i64 s.t)),.i (.sl (s.cls.map encC)),.i (.sl (s.cns.map encCn)),.i (.sl (s.chs.map encCh)),.i (.sl (s.sent.map encM)),.i (.sl (s.got.map encM)),.i (.sl (s.acks.map encM)),.i (.sl (s.pus.map encPu))]
def zeroSt:StateD:=⟨⟨#[]⟩,0,0,[],[],[],[],[],[],[]⟩
structure StSm (s:StateD):Prop where
 cls:s.cls.length≤1048576
 cl:∀ c∈s.cls,ClSm c
 cns:s.cns.length≤1048576
 chs:s.chs.length≤1048576
 sent:s.sent.length≤1048576
 got:s.got.length≤1048576
 acks:s.acks.length≤1048576
 dg:∀ m,m∈s.sent∨m∈s.got∨m∈s.acks→m.dg.length≤1048576
 pus:s.pus.length≤1048576
attribute [simp,go_sem] encCn connD encCh chanD encM markD encSt stateD zeroSt encPu puD pusI
end Go.Proofs.Ytkodnlkgblkfdaa
set_option linter.all false
namespace Go.Proofs.Ytkodnlkgblkfdaa
open Go Go.Abs
def nm (n least:Int):Bool:=decide (least≤n∧n≤1000000000000)
def cnE (c:ConnD):Int:=if c.st < 1∨3 < c.st then 1 else if ¬ nm c.cl 0=true∨¬ nm c.oc 0=true∨¬ nm c.on (-1)=true then 3 else 0
def chE (c:ChanD):Int:=if c.st < 1∨4 < c.st then 1 else if ¬ nm c.cn 0=true∨¬ nm c.oc (-1)=true∨¬ nm c.snd 1=true∨¬ nm c.rcv 1=true∨¬ nm c.ack 1=true then 3 else 0
def orderW (m:MarkD) (ch seq:Int):Int:=if m.ch=ch then IntKind.i64.wrap (m.seq - seq) else IntKind.i64.wrap (m.ch - ch)
def preA {α:Type} (l:List α) (i:Nat):Option α:=if i=0 then none else l[i - 1]?
def mksE:Option MarkD→List MarkD→Int
 | _,[]=>0
 | o,m :: t=>if ¬ nm m.ch 0=true∨¬ nm m.seq 1=true then 3 else if ¬ (m.dg.length:Int)=32 then 2 else if (o.any fun q=>decide (0≤orderW q m.ch m.seq))=true then 2 else mksE (some m) t
def pusE:Option PurseD→List PurseD→Int
 | _,[]=>0
 | o,p :: t=>if (p.o.size:Int) < 1∨(40:Int) < p.o.size∨(p.d.size:Int) < 1∨(40:Int) < p.d.size then 4 else if p.n=0 then 3 else if (o.any fun q=>decide (0 < cmpS q.o p.o∨q.o=p.o∧0≤cmpS q.d p.d))=true then 2 else pusE (some p) t
def fstE {α:Type} (f:α→Int):List α→Int
 | []=>0
 | a :: t=>if f a=0 then fstE f t else f a
def mksS (s:StateD):Int:=if mksE none s.sent=0 then (if mksE none s.got=0 then (if mksE none s.acks=0 then pusE none s.pus else mksE none s.acks) else mksE none s.got) else mksE none s.sent
def endS (s:StateD):Int:=if fstE cnE s.cns=0 then (if fstE chE s.chs=0 then mksS s else fstE chE s.chs) else fstE cnE s.cns
def wrongS (s:StateD):Int :=
 if nameOk s.name=true then
  (if ¬ numB s.h=true∨¬ numB s.t=true then 3
  else if (4:Int) < s.cls.length∨(8:Int) < s.cns.length∨(8:Int) < s.chs.length∨(50:Int) < s.sent.length∨(50:Int) < s.got.length∨(50:Int) < s.acks.length∨(60:Int) < s.pus.length then 5
  else if fstE wrongC s.cls=0 then endS s else fstE wrongC s.cls)
 else 7
end Go.Proofs.Ytkodnlkgblkfdaa
set_option linter.all false
namespace Go.Proofs.Ytkodnlkgblkfdaa
open Go Go.Abs Go.RowKit Go.Proofs.Ytkodnlkgblkfdaa.Ty
set_option maxHeartbeats 4000000
theorem uni_Cl (l:List ClientD):uni 4 (l.map encC)=true:=by simp [uni,encC]
end Go.Proofs.Ytkodnlkgblkfdaa
set_option linter.all false
namespace Go.Proofs.Ytkodnlkgblkfdaa
open Go Go.Abs Go.RowKit Go.Proofs.Ytkodnlkgblkfdaa.Ty
set_option maxHeartbeats 4000000
theorem uni_Cn (l:List ConnD):uni 4 (l.map encCn)=true:=by simp [uni,encCn]
end Go.Proofs.Ytkodnlkgblkfdaa
set_option linter.all false
namespace Go.Proofs.Ytkodnlkgblkfdaa
open Go Go.Abs Go.RowKit Go.Proofs.Ytkodnlkgblkfdaa.Ty
set_option maxHeartbeats 4000000
theorem uni_Ch (l:List ChanD):uni 7 (l.map encCh)=true:=by simp [uni,encCh]
end Go.Proofs.Ytkodnlkgblkfdaa
set_option linter.all false
namespace Go.Proofs.Ytkodnlkgblkfdaa
open Go Go.Abs Go.RowKit Go.Proofs.Ytkodnlkgblkfdaa.Ty
set_option maxHeartbeats 4000000
theorem uni_Mk (l:List MarkD):uni 3 (l.map encM)=true:=by simp [uni,encM]
end Go.Proofs.Ytkodnlkgblkfdaa
set_option linter.all false
namespace Go.Proofs.Ytkodnlkgblkfdaa
open Go Go.Abs Go.RowKit Go.Proofs.Ytkodnlkgblkfdaa.Ty
set_option maxHeartbeats 4000000
theorem uni_Pu (l:List PurseD):uni 3 (l.map encPu)=true:=by simp [uni,encPu]
end Go.Proofs.Ytkodnlkgblkfdaa
set_option linter.all false
namespace Go.Proofs.Ytkodnlkgblkfdaa
open Go Go.Abs Go.RowKit Go.Proofs.Ytkodnlkgblkfdaa.Ty
def ownC (s:StateD) (k:Nat):List D:=[.i (.s (.string s.name)),.i (.s (.int .i64 s.h)),.i (.s (.int .i64 s.t)),.os 102 4 0 s.cls.length,.os 103 4 0 s.cns.length,.os 104 7 0 s.chs.length,
 if 0 < k then .os 110 3 0 s.sent.length else .i (.sl (s.sent.map encM)),if 1 < k then .os 111 3 0 s.got.length else .i (.sl (s.got.map encM)),if 2 < k then .os 112 3 0 s.acks.length else .i (.sl (s.acks.map encM)),.os 105 3 0 s.pus.length]
def ownO (s:StateD) (k:Nat):List (Nat × Ob):=[(100,.box (ownC s k)),(101,.box ((encSt zeroSt).map .i)),(102,.arr 4 (s.cls.map encC)),(103,.arr 4 (s.cns.map encCn)),(104,.arr 7 (s.chs.map encCh)),(105,.arr 3 (s.pus.map encPu)),(106,.box [.pt 100 0 0 6,.pt 100 0 0 7,.pt 100 0 0 8]),
 (110,if 0 < k then .arr 3 (s.sent.map encM) else .dead),(111,if 1 < k then .arr 3 (s.got.map encM) else .dead),(112,if 2 < k then .arr 3 (s.acks.map encM) else .dead)]
attribute [local simp] all_toD cvW_toD
attribute [local simp,local go_sem] ownC ownO
set_option maxHeartbeats 8000000
set_option maxRecDepth 20000
end Go.Proofs.Ytkodnlkgblkfdaa
set_option linter.all false
namespace Go.Proofs.Ytkodnlkgblkfdaa
open Go Go.Abs Go.RowKit Go.Proofs.Ytkodnlkgblkfdaa.Ty
set_option maxHeartbeats 8000000
set_option maxRecDepth 20000
end Go.Proofs.Ytkodnlkgblkfdaa
set_option linter.all false
namespace Go.Proofs.Ytkodnlkgblkfdaa
open Go Go.Abs Go.RowKit Go.Proofs.Ytkodnlkgblkfdaa.Ty
set_option maxHeartbeats 16000000
set_option maxRecDepth 20000
theorem fstE_lt {α:Type} {f:α→Int} {l:List α} {i:Nat} (h:i < l.length):fstE f (l.drop i)=if f l[i]=0 then fstE f (l.drop (i+1)) else f l[i]:=by
 rw [List.drop_eq_getElem_cons h,fstE]
theorem fstE_ge {α:Type} {f:α→Int} {l:List α} {i:Nat} (h:¬ i < l.length):fstE f (l.drop i)=0:=by
 rw [List.drop_eq_nil_of_le (by omega),fstE]
def mrk (s:StateD):Nat→Int
 | 0=>mksS s
 | 1=>if mksE none s.got=0 then (if mksE none s.acks=0 then pusE none s.pus else mksE none s.acks) else mksE none s.got
 | 2=>if mksE none s.acks=0 then pusE none s.pus else mksE none s.acks
 | _=>pusE none s.pus
end Go.Proofs.Ytkodnlkgblkfdaa
