/- Merged texts: StP, StS, ClnCl, ClnCn, ClnCh, ClnMk, ClnPu, StO, StW, StWr. -/
import Derived.Test.YtadoaljnfeoecaaGreatDoorGCl
import Derived.Test.YtadoaljnfeoecaaGreatDoorG0
import Derived.Test.YtadoaljnfeoecaaGreatDoorGx
import Derived.Test.YtadoaljnfeoecaaGreatDoorGWk
set_option linter.all false
namespace Go.Proofs.YtadoaljnfeoecaaGreatDoor
open Go Go.Abs
structure ConnD where
 st:Int
 cl:Int
 oc:Int
 on:Int
structure ChanD where
 st:Int
 ord:Bool
 cn:Int
 oc:Int
 snd:Int
 rcv:Int
 ack:Int
structure MarkD where
 ch:Int
 seq:Int
 dg:List UInt8
structure StateD where
 name:ByteArray
 h:Int
 t:Int
 cls:List ClientD
 cns:List ConnD
 chs:List ChanD
 sent:List MarkD
 got:List MarkD
 acks:List MarkD
 pus:List PurseD
def encCn (c:ConnD):List I:=[.s (.int .i64 c.st),.s (.int .i64 c.cl),.s (.int .i64 c.oc),.s (.int .i64 c.on)]
def connD (c:ConnD):D:=.agg [.i (.s (.int .i64 c.st)),.i (.s (.int .i64 c.cl)),.i (.s (.int .i64 c.oc)),.i (.s (.int .i64 c.on))]
def encCh (c:ChanD):List I:=[.s (.int .i64 c.st),.s (.bool c.ord),.s (.int .i64 c.cn),.s (.int .i64 c.oc),.s (.int .i64 c.snd),.s (.int .i64 c.rcv),.s (.int .i64 c.ack)]
def chanD (c:ChanD):D:=.agg [.i (.s (.int .i64 c.st)),.i (.s (.bool c.ord)),.i (.s (.int .i64 c.cn)),.i (.s (.int .i64 c.oc)),.i (.s (.int .i64 c.snd)),.i (.s (.int .i64 c.rcv)),.i (.s (.int .i64 c.ack))]
def encM (m:MarkD):List I:=[.s (.int .i64 m.ch),.s (.int .i64 m.seq),bI m.dg]
def markD (m:MarkD):D:=.agg [.i (.s (.int .i64 m.ch)),.i (.s (.int .i64 m.seq)),.i (bI m.dg)]
def encSt (s:StateD):List I:=[.s (.string s.name),.s (.int .i64 s.h),.s (.int .i64 s.t),.sl (s.cls.map encC),.sl (s.cns.map encCn),.sl (s.chs.map encCh),.sl (s.sent.map encM),.sl (s.got.map encM),.sl (s.acks.map encM),.sl (s.pus.map encPu)]
def stateD (s:StateD):D:=.agg [.i (.s (.string s.name)),.i (.s (.int .i64 s.h)),.i (.s (.int .i64 s.t)),.i (.sl (s.cls.map encC)),.i (.sl (s.cns.map encCn)),.i (.sl (s.chs.map encCh)),.i (.sl (s.sent.map encM)),.i (.sl (s.got.map encM)),.i (.sl (s.acks.map encM)),.i (.sl (s.pus.map encPu))]
def zeroSt:StateD:=⟨⟨#[]⟩,0,0,[],[],[],[],[],[],[]⟩
structure StSm (s:StateD):Prop where
 cls:s.cls.length≤1048576
 cl:∀ c∈s.cls,ClSm c
 cns:s.cns.length≤1048576
 chs:s.chs.length≤1048576
 sent:s.sent.length≤1048576
 got:s.got.length≤1048576
 acks:s.acks.length≤1048576
 dg:∀ m,m∈s.sent∨m∈s.got∨m∈s.acks→m.dg.length≤1048576
 pus:s.pus.length≤1048576
attribute [simp,go_sem] encCn connD encCh chanD encM markD encSt stateD zeroSt encPu puD pusI
end Go.Proofs.YtadoaljnfeoecaaGreatDoor
set_option linter.all false
namespace Go.Proofs.YtadoaljnfeoecaaGreatDoor
open Go Go.Abs
def nm (n least:Int):Bool:=decide (least≤n∧n≤1000000000000)
def cnE (c:ConnD):Int:=if c.st < 1∨3 < c.st then 1 else if ¬ nm c.cl 0=true∨¬ nm c.oc 0=true∨¬ nm c.on (-1)=true then 3 else 0
def chE (c:ChanD):Int:=if c.st < 1∨4 < c.st then 1 else if ¬ nm c.cn 0=true∨¬ nm c.oc (-1)=true∨¬ nm c.snd 1=true∨¬ nm c.rcv 1=true∨¬ nm c.ack 1=true then 3 else 0
def orderW (m:MarkD) (ch seq:Int):Int:=if m.ch=ch then IntKind.i64.wrap (m.seq - seq) else IntKind.i64.wrap (m.ch - ch)
def preA {α:Type} (l:List α) (i:Nat):Option α:=if i=0 then none else l[i - 1]?
def mksE:Option MarkD→List MarkD→Int
 | _,[]=>0
 | o,m :: t=>if ¬ nm m.ch 0=true∨¬ nm m.seq 1=true then 3 else if ¬ (m.dg.length:Int)=32 then 2 else if (o.any fun q=>decide (0≤orderW q m.ch m.seq))=true then 2 else mksE (some m) t
def pusE:Option PurseD→List PurseD→Int
 | _,[]=>0
 | o,p :: t=>if (p.o.size:Int) < 1∨(40:Int) < p.o.size∨(p.d.size:Int) < 1∨(40:Int) < p.d.size then 4 else if p.n=0 then 3 else if (o.any fun q=>decide (0 < cmpS q.o p.o∨q.o=p.o∧0≤cmpS q.d p.d))=true then 2 else pusE (some p) t
def fstE {α:Type} (f:α→Int):List α→Int
 | []=>0
 | a :: t=>if f a=0 then fstE f t else f a
def mksS (s:StateD):Int:=if mksE none s.sent=0 then (if mksE none s.got=0 then (if mksE none s.acks=0 then pusE none s.pus else mksE none s.acks) else mksE none s.got) else mksE none s.sent
def endS (s:StateD):Int:=if fstE cnE s.cns=0 then (if fstE chE s.chs=0 then mksS s else fstE chE s.chs) else fstE cnE s.cns
def wrongS (s:StateD):Int :=
 if nameOk s.name=true then
  (if ¬ numB s.h=true∨¬ numB s.t=true then 3
  else if (4:Int) < s.cls.length∨(8:Int) < s.cns.length∨(8:Int) < s.chs.length∨(50:Int) < s.sent.length∨(50:Int) < s.got.length∨(50:Int) < s.acks.length∨(60:Int) < s.pus.length then 5
  else if fstE wrongC s.cls=0 then endS s else fstE wrongC s.cls)
 else 7
end Go.Proofs.YtadoaljnfeoecaaGreatDoor
set_option linter.all false
namespace Go.Proofs.YtadoaljnfeoecaaGreatDoor
open Go Go.Abs Go.RowKit Go.Proofs.YtadoaljnfeoecaaGreatDoor.Ty
theorem tyClnCl0:(type_of% @Ty.T0)∧(type_of% @Ty.T3)∧(type_of% @Ty.T4)∧(type_of% @Ty.T5)∧(type_of% @Ty.T9)∧(type_of% @Ty.T22)∧(type_of% @Ty.T29)∧(type_of% @Ty.T31)∧(type_of% @Ty.T76)∧(type_of% @Ty.T78):=⟨@Ty.T0,@Ty.T3,@Ty.T4,@Ty.T5,@Ty.T9,@Ty.T22,@Ty.T29,@Ty.T31,@Ty.T76,@Ty.T78⟩
set_option maxHeartbeats 4000000
theorem uni_Cl (l:List ClientD):uni 4 (l.map encC)=true:=by simp [uni,encC]
theorem clone_Cl (l:List ClientD) (hl:l.length≤1048576):CallD Tryz.prog 62 [.i (.sl (l.map encC))] noH (.os 1 4 0 l.length) (hOf noH [(1,.arr 4 (l.map encC))]):=by
 cases l with
 | nil =>
  refine call_case (Enters_of Tryz.func62 rfl rfl) fun K vs hrd=>?_
  obtain ⟨hs,hg⟩:=hrd
  obtain ⟨a,c,hv⟩:=sl_nil (hg 0 _ rfl)
  refine ⟨[.i (.s (.slice a 0 c))],?_,hs,fun j d hd=>?_⟩
  ·have hun:=un22
   refine callD_W 8 Tryz.func62 rfl rfl rfl (fun _ _=>rfl) ?_
   cases a with
   | none =>
    simp -implicitDefEqProofs only [ev,mixed,Nat.reduceLT,Nat.reduceAdd,Nat.reduceMul,reduceIte,Nat.reduceEqDiff,reduceCtorEq,Nat.reducePow,Nat.reduceLeDiff,Int.reduceLE,Int.reduceLT,Int.reduceToNat,Int.reduceEq,Nat.reduceBEq,itsOf,gdA,byteI,opid,lenQ,ixQ,ldH,readAt,readCells,asCell,faQ,exQ,fldQ,partA,buildQ,slQ,stH,bslH,appH,dcells,convI,elemsOf,D.one,nilS,fillD,convN,cvH,tyClnCl0,bq_eqnil hun,Option.isNone_none]
    exact newD [] []
   | some a =>
    simp -implicitDefEqProofs only [ev,mixed,Nat.reduceLT,Nat.reduceAdd,Nat.reduceMul,reduceIte,Nat.reduceEqDiff,reduceCtorEq,Nat.reducePow,Nat.reduceLeDiff,Int.reduceLE,Int.reduceLT,Int.reduceToNat,Int.reduceEq,Nat.reduceBEq,itsOf,gdA,byteI,opid,lenQ,ixQ,ldH,readAt,readCells,asCell,faQ,exQ,fldQ,partA,buildQ,slQ,stH,bslH,appH,dcells,convI,elemsOf,D.one,nilS,fillD,convN,cvH,tyClnCl0,bq_eqnil hun,Option.isNone_some]
    exact newD [] [(1,1770)]
  ·cases j with
   | zero=>simp at hd; subst hd; rw [hv]; exact .i (.s _ rfl)
   | succ j=>simp at hd
 | cons p t =>
  have hu:=uni_Cl t
  have e3:t.length+1≤140737488355328:=by simp at hl; omega
  have e4:(t.length+1) * 56≤140737488355328:=by simp at hl; omega
  have e5:(encC p).length=4:=rfl
  refine callD_W 8 Tryz.func62 rfl rfl rfl (fun _ _=>rfl) ?_
  refine gx (an (an (an (an (an (an (an tyClnCl0 hu) e3) e4) e5) @List.map_cons.{0,0}) @List.length_cons.{0}) @List.length_map.{0,0}) ?_
  exact newD [] [(1,1770)]
end Go.Proofs.YtadoaljnfeoecaaGreatDoor
set_option linter.all false
namespace Go.Proofs.YtadoaljnfeoecaaGreatDoor
open Go Go.Abs Go.RowKit Go.Proofs.YtadoaljnfeoecaaGreatDoor.Ty
theorem tyClnCn0:(type_of% @Ty.T0)∧(type_of% @Ty.T3)∧(type_of% @Ty.T23)∧(type_of% @Ty.T83):=⟨@Ty.T0,@Ty.T3,@Ty.T23,@Ty.T83⟩
set_option maxHeartbeats 4000000
theorem uni_Cn (l:List ConnD):uni 4 (l.map encCn)=true:=by simp [uni,encCn]
theorem clone_Cn (l:List ConnD) (hl:l.length≤1048576):CallD Tryz.prog 65 [.i (.sl (l.map encCn))] noH (.os 1 4 0 l.length) (hOf noH [(1,.arr 4 (l.map encCn))]):=by
 cases l with
 | nil =>
  refine call_case (Enters_of Tryz.func65 rfl rfl) fun K vs hrd=>?_
  obtain ⟨hs,hg⟩:=hrd
  obtain ⟨a,c,hv⟩:=sl_nil (hg 0 _ rfl)
  refine ⟨[.i (.s (.slice a 0 c))],?_,hs,fun j d hd=>?_⟩
  ·have hun:=un23
   refine callD_W 8 Tryz.func65 rfl rfl rfl (fun _ _=>rfl) ?_
   cases a with
   | none =>
    simp -implicitDefEqProofs only [ev,mixed,Nat.reduceLT,Nat.reduceAdd,Nat.reduceMul,reduceIte,Nat.reduceEqDiff,reduceCtorEq,Nat.reducePow,Nat.reduceLeDiff,Int.reduceLE,Int.reduceLT,Int.reduceToNat,Int.reduceEq,Nat.reduceBEq,itsOf,gdA,byteI,opid,lenQ,ixQ,ldH,readAt,readCells,asCell,faQ,exQ,fldQ,partA,buildQ,slQ,stH,bslH,appH,dcells,convI,elemsOf,D.one,nilS,fillD,convN,cvH,tyClnCn0,bq_eqnil hun,Option.isNone_none]
    exact newD [] []
   | some a =>
    simp -implicitDefEqProofs only [ev,mixed,Nat.reduceLT,Nat.reduceAdd,Nat.reduceMul,reduceIte,Nat.reduceEqDiff,reduceCtorEq,Nat.reducePow,Nat.reduceLeDiff,Int.reduceLE,Int.reduceLT,Int.reduceToNat,Int.reduceEq,Nat.reduceBEq,itsOf,gdA,byteI,opid,lenQ,ixQ,ldH,readAt,readCells,asCell,faQ,exQ,fldQ,partA,buildQ,slQ,stH,bslH,appH,dcells,convI,elemsOf,D.one,nilS,fillD,convN,cvH,tyClnCn0,bq_eqnil hun,Option.isNone_some]
    exact newD [] [(1,1770)]
  ·cases j with
   | zero=>simp at hd; subst hd; rw [hv]; exact .i (.s _ rfl)
   | succ j=>simp at hd
 | cons p t =>
  have hu:=uni_Cn t
  have e3:t.length+1≤140737488355328:=by simp at hl; omega
  have e4:(t.length+1) * 32≤140737488355328:=by simp at hl; omega
  have e5:(encCn p).length=4:=rfl
  refine callD_W 8 Tryz.func65 rfl rfl rfl (fun _ _=>rfl) ?_
  refine gx (an (an (an (an (an (an (an tyClnCn0 hu) e3) e4) e5) @List.map_cons.{0,0}) @List.length_cons.{0}) @List.length_map.{0,0}) ?_
  exact newD [] [(1,1770)]
end Go.Proofs.YtadoaljnfeoecaaGreatDoor
set_option linter.all false
namespace Go.Proofs.YtadoaljnfeoecaaGreatDoor
open Go Go.Abs Go.RowKit Go.Proofs.YtadoaljnfeoecaaGreatDoor.Ty
theorem tyClnCh0:(type_of% @Ty.T0)∧(type_of% @Ty.T3)∧(type_of% @Ty.T4)∧(type_of% @Ty.T24)∧(type_of% @Ty.T87):=⟨@Ty.T0,@Ty.T3,@Ty.T4,@Ty.T24,@Ty.T87⟩
set_option maxHeartbeats 4000000
theorem uni_Ch (l:List ChanD):uni 7 (l.map encCh)=true:=by simp [uni,encCh]
theorem clone_Ch (l:List ChanD) (hl:l.length≤1048576):CallD Tryz.prog 66 [.i (.sl (l.map encCh))] noH (.os 1 7 0 l.length) (hOf noH [(1,.arr 7 (l.map encCh))]):=by
 cases l with
 | nil =>
  refine call_case (Enters_of Tryz.func66 rfl rfl) fun K vs hrd=>?_
  obtain ⟨hs,hg⟩:=hrd
  obtain ⟨a,c,hv⟩:=sl_nil (hg 0 _ rfl)
  refine ⟨[.i (.s (.slice a 0 c))],?_,hs,fun j d hd=>?_⟩
  ·have hun:=un24
   refine callD_W 8 Tryz.func66 rfl rfl rfl (fun _ _=>rfl) ?_
   cases a with
   | none =>
    simp -implicitDefEqProofs only [ev,mixed,Nat.reduceLT,Nat.reduceAdd,Nat.reduceMul,reduceIte,Nat.reduceEqDiff,reduceCtorEq,Nat.reducePow,Nat.reduceLeDiff,Int.reduceLE,Int.reduceLT,Int.reduceToNat,Int.reduceEq,Nat.reduceBEq,itsOf,gdA,byteI,opid,lenQ,ixQ,ldH,readAt,readCells,asCell,faQ,exQ,fldQ,partA,buildQ,slQ,stH,bslH,appH,dcells,convI,elemsOf,D.one,nilS,fillD,convN,cvH,tyClnCh0,bq_eqnil hun,Option.isNone_none]
    exact newD [] []
   | some a =>
    simp -implicitDefEqProofs only [ev,mixed,Nat.reduceLT,Nat.reduceAdd,Nat.reduceMul,reduceIte,Nat.reduceEqDiff,reduceCtorEq,Nat.reducePow,Nat.reduceLeDiff,Int.reduceLE,Int.reduceLT,Int.reduceToNat,Int.reduceEq,Nat.reduceBEq,itsOf,gdA,byteI,opid,lenQ,ixQ,ldH,readAt,readCells,asCell,faQ,exQ,fldQ,partA,buildQ,slQ,stH,bslH,appH,dcells,convI,elemsOf,D.one,nilS,fillD,convN,cvH,tyClnCh0,bq_eqnil hun,Option.isNone_some]
    exact newD [] [(1,1770)]
  ·cases j with
   | zero=>simp at hd; subst hd; rw [hv]; exact .i (.s _ rfl)
   | succ j=>simp at hd
 | cons p t =>
  have hu:=uni_Ch t
  have e3:t.length+1≤140737488355328:=by simp at hl; omega
  have e4:(t.length+1) * 56≤140737488355328:=by simp at hl; omega
  have e5:(encCh p).length=7:=rfl
  refine callD_W 8 Tryz.func66 rfl rfl rfl (fun _ _=>rfl) ?_
  refine gx (an (an (an (an (an (an (an tyClnCh0 hu) e3) e4) e5) @List.map_cons.{0,0}) @List.length_cons.{0}) @List.length_map.{0,0}) ?_
  exact newD [] [(1,1770)]
end Go.Proofs.YtadoaljnfeoecaaGreatDoor
set_option linter.all false
namespace Go.Proofs.YtadoaljnfeoecaaGreatDoor
open Go Go.Abs Go.RowKit Go.Proofs.YtadoaljnfeoecaaGreatDoor.Ty
theorem tyClnMk0:(type_of% @Ty.T0)∧(type_of% @Ty.T3)∧(type_of% @Ty.T5)∧(type_of% @Ty.T25)∧(type_of% @Ty.T29)∧(type_of% @Ty.T110):=⟨@Ty.T0,@Ty.T3,@Ty.T5,@Ty.T25,@Ty.T29,@Ty.T110⟩
set_option maxHeartbeats 4000000
theorem uni_Mk (l:List MarkD):uni 3 (l.map encM)=true:=by simp [uni,encM]
theorem clone_Mk (l:List MarkD) (hl:l.length≤1048576):CallD Tryz.prog 68 [.i (.sl (l.map encM))] noH (.os 1 3 0 l.length) (hOf noH [(1,.arr 3 (l.map encM))]):=by
 cases l with
 | nil =>
  refine call_case (Enters_of Tryz.func68 rfl rfl) fun K vs hrd=>?_
  obtain ⟨hs,hg⟩:=hrd
  obtain ⟨a,c,hv⟩:=sl_nil (hg 0 _ rfl)
  refine ⟨[.i (.s (.slice a 0 c))],?_,hs,fun j d hd=>?_⟩
  ·have hun:=un25
   refine callD_W 8 Tryz.func68 rfl rfl rfl (fun _ _=>rfl) ?_
   cases a with
   | none =>
    simp -implicitDefEqProofs only [ev,mixed,Nat.reduceLT,Nat.reduceAdd,Nat.reduceMul,reduceIte,Nat.reduceEqDiff,reduceCtorEq,Nat.reducePow,Nat.reduceLeDiff,Int.reduceLE,Int.reduceLT,Int.reduceToNat,Int.reduceEq,Nat.reduceBEq,itsOf,gdA,byteI,opid,lenQ,ixQ,ldH,readAt,readCells,asCell,faQ,exQ,fldQ,partA,buildQ,slQ,stH,bslH,appH,dcells,convI,elemsOf,D.one,nilS,fillD,convN,cvH,tyClnMk0,bq_eqnil hun,Option.isNone_none]
    exact newD [] []
   | some a =>
    simp -implicitDefEqProofs only [ev,mixed,Nat.reduceLT,Nat.reduceAdd,Nat.reduceMul,reduceIte,Nat.reduceEqDiff,reduceCtorEq,Nat.reducePow,Nat.reduceLeDiff,Int.reduceLE,Int.reduceLT,Int.reduceToNat,Int.reduceEq,Nat.reduceBEq,itsOf,gdA,byteI,opid,lenQ,ixQ,ldH,readAt,readCells,asCell,faQ,exQ,fldQ,partA,buildQ,slQ,stH,bslH,appH,dcells,convI,elemsOf,D.one,nilS,fillD,convN,cvH,tyClnMk0,bq_eqnil hun,Option.isNone_some]
    exact newD [] [(1,1770)]
  ·cases j with
   | zero=>simp at hd; subst hd; rw [hv]; exact .i (.s _ rfl)
   | succ j=>simp at hd
 | cons p t =>
  have hu:=uni_Mk t
  have e3:t.length+1≤140737488355328:=by simp at hl; omega
  have e4:(t.length+1) * 40≤140737488355328:=by simp at hl; omega
  have e5:(encM p).length=3:=rfl
  refine callD_W 8 Tryz.func68 rfl rfl rfl (fun _ _=>rfl) ?_
  refine gx (an (an (an (an (an (an (an tyClnMk0 hu) e3) e4) e5) @List.map_cons.{0,0}) @List.length_cons.{0}) @List.length_map.{0,0}) ?_
  exact newD [] [(1,1770)]
end Go.Proofs.YtadoaljnfeoecaaGreatDoor
set_option linter.all false
namespace Go.Proofs.YtadoaljnfeoecaaGreatDoor
open Go Go.Abs Go.RowKit Go.Proofs.YtadoaljnfeoecaaGreatDoor.Ty
theorem tyClnPu0:(type_of% @Ty.T0)∧(type_of% @Ty.T9)∧(type_of% @Ty.T26)∧(type_of% @Ty.T47)∧(type_of% @Ty.T73):=⟨@Ty.T0,@Ty.T9,@Ty.T26,@Ty.T47,@Ty.T73⟩
set_option maxHeartbeats 4000000
theorem uni_Pu (l:List PurseD):uni 3 (l.map encPu)=true:=by simp [uni,encPu]
theorem clone_Pu (l:List PurseD) (hl:l.length≤1048576):CallD Tryz.prog 67 [.i (.sl (l.map encPu))] noH (.os 1 3 0 l.length) (hOf noH [(1,.arr 3 (l.map encPu))]):=by
 cases l with
 | nil =>
  refine call_case (Enters_of Tryz.func67 rfl rfl) fun K vs hrd=>?_
  obtain ⟨hs,hg⟩:=hrd
  obtain ⟨a,c,hv⟩:=sl_nil (hg 0 _ rfl)
  refine ⟨[.i (.s (.slice a 0 c))],?_,hs,fun j d hd=>?_⟩
  ·have hun:=un26
   refine callD_W 8 Tryz.func67 rfl rfl rfl (fun _ _=>rfl) ?_
   cases a with
   | none =>
    simp -implicitDefEqProofs only [ev,mixed,Nat.reduceLT,Nat.reduceAdd,Nat.reduceMul,reduceIte,Nat.reduceEqDiff,reduceCtorEq,Nat.reducePow,Nat.reduceLeDiff,Int.reduceLE,Int.reduceLT,Int.reduceToNat,Int.reduceEq,Nat.reduceBEq,itsOf,gdA,byteI,opid,lenQ,ixQ,ldH,readAt,readCells,asCell,faQ,exQ,fldQ,partA,buildQ,slQ,stH,bslH,appH,dcells,convI,elemsOf,D.one,nilS,fillD,convN,cvH,tyClnPu0,bq_eqnil hun,Option.isNone_none]
    exact newD [] []
   | some a =>
    simp -implicitDefEqProofs only [ev,mixed,Nat.reduceLT,Nat.reduceAdd,Nat.reduceMul,reduceIte,Nat.reduceEqDiff,reduceCtorEq,Nat.reducePow,Nat.reduceLeDiff,Int.reduceLE,Int.reduceLT,Int.reduceToNat,Int.reduceEq,Nat.reduceBEq,itsOf,gdA,byteI,opid,lenQ,ixQ,ldH,readAt,readCells,asCell,faQ,exQ,fldQ,partA,buildQ,slQ,stH,bslH,appH,dcells,convI,elemsOf,D.one,nilS,fillD,convN,cvH,tyClnPu0,bq_eqnil hun,Option.isNone_some]
    exact newD [] [(1,1770)]
  ·cases j with
   | zero=>simp at hd; subst hd; rw [hv]; exact .i (.s _ rfl)
   | succ j=>simp at hd
 | cons p t =>
  have hu:=uni_Pu t
  have e3:t.length+1≤140737488355328:=by simp at hl; omega
  have e4:(t.length+1) * 40≤140737488355328:=by simp at hl; omega
  have e5:(encPu p).length=3:=rfl
  refine callD_W 8 Tryz.func67 rfl rfl rfl (fun _ _=>rfl) ?_
  refine gx (an (an (an (an (an (an (an tyClnPu0 hu) e3) e4) e5) @List.map_cons.{0,0}) @List.length_cons.{0}) @List.length_map.{0,0}) ?_
  exact newD [] [(1,1770)]
end Go.Proofs.YtadoaljnfeoecaaGreatDoor
set_option linter.all false
namespace Go.Proofs.YtadoaljnfeoecaaGreatDoor
open Go Go.Abs Go.RowKit Go.Proofs.YtadoaljnfeoecaaGreatDoor.Ty
def ownC (s:StateD) (k:Nat):List D:=[.i (.s (.string s.name)),.i (.s (.int .i64 s.h)),.i (.s (.int .i64 s.t)),.os 102 4 0 s.cls.length,.os 103 4 0 s.cns.length,.os 104 7 0 s.chs.length,
 if 0 < k then .os 110 3 0 s.sent.length else .i (.sl (s.sent.map encM)),if 1 < k then .os 111 3 0 s.got.length else .i (.sl (s.got.map encM)),if 2 < k then .os 112 3 0 s.acks.length else .i (.sl (s.acks.map encM)),.os 105 3 0 s.pus.length]
def ownO (s:StateD) (k:Nat):List (Nat × Ob):=[(100,.box (ownC s k)),(101,.box ((encSt zeroSt).map .i)),(102,.arr 4 (s.cls.map encC)),(103,.arr 4 (s.cns.map encCn)),(104,.arr 7 (s.chs.map encCh)),(105,.arr 3 (s.pus.map encPu)),(106,.box [.pt 100 0 0 6,.pt 100 0 0 7,.pt 100 0 0 8]),
 (110,if 0 < k then .arr 3 (s.sent.map encM) else .dead),(111,if 1 < k then .arr 3 (s.got.map encM) else .dead),(112,if 2 < k then .arr 3 (s.acks.map encM) else .dead)]
attribute [local simp] all_toD cvW_toD
attribute [local simp,local go_sem] ownC ownO
set_option maxHeartbeats 8000000
set_option maxRecDepth 20000
theorem sown_D (s:StateD) (hs:StSm s):CallD Tryz.prog 28 [stateD s] noH
  (.agg [.i (.s (.string s.name)),.i (.s (.int .i64 s.h)),.i (.s (.int .i64 s.t)),.os 1 4 0 s.cls.length,.os 2 4 0 s.cns.length,.os 3 7 0 s.chs.length,.os 4 3 0 s.sent.length,.os 5 3 0 s.got.length,.os 6 3 0 s.acks.length,.os 7 3 0 s.pus.length])
  (hOf noH [(1,.arr 4 (s.cls.map encC)),(2,.arr 4 (s.cns.map encCn)),(3,.arr 7 (s.chs.map encCh)),(4,.arr 3 (s.sent.map encM)),(5,.arr 3 (s.got.map encM)),(6,.arr 3 (s.acks.map encM)),(7,.arr 3 (s.pus.map encPu))]):=by
 refine hide_c fun R R' hR hR'=>?_
 have l1:=hs.cls
 have l2:=hs.cns
 have l3:=hs.chs
 have l7:=hs.pus
 have e1:=clone_Cl s.cls l1
 refine callD_W 117 Tryz.func28 rfl rfl rfl (fun _ _=>rfl) ?_
 refine wkl ?_
 clear hR; intro hR
 refine W_loopR (ι:=Nat) (fun i=>i≤s.cls.length)
  (fun i=>stOf [(1,.pt 100 0 0 0),(2,.pt 101 0 0 0),(16,.os 102 4 0 s.cls.length),(17,intD s.cls.length),(18,intD i)]
   [(100,.box [.i (.s (.string s.name)),.i (.s (.int .i64 s.h)),.i (.s (.int .i64 s.t)),.os 102 4 0 s.cls.length,.i (.sl (s.cns.map encCn)),.i (.sl (s.chs.map encCh)),.i (.sl (s.sent.map encM)),.i (.sl (s.got.map encM)),.i (.sl (s.acks.map encM)),.i (.sl (s.pus.map encPu))]),
    (101,.box ((encSt zeroSt).map .i)),(102,.tab 4 (toD (s.cls.map encC)))])
  (fun i=>s.cls.length - i) 0 (Nat.zero_le _) ?_ ?_
 ·exact le_ok [] [(100,1000),(101,1001),(102,901)]
 ·rintro i hi RL hL
  rw [stOf_eq]
  by_cases h:i < s.cls.length
  ·have hc:=hs.cl _ (List.getElem_mem h)
   have hcl:=hc.l
   have t1:=toD_get (f:=encC) h
   have t2:=fun row=>set_get (f:=encC) h row
   have t3:=fun (H:Nat→Ob) (F:List Nat) (g:Nat→Option Nat) (o sz off n:Nat) (ho:F.contains o=true) (he:elemsOf H (.os o sz off n)=some ((s.cls[i]'h).known.map encK))=>cvW_back4 (f:=encC) h (H:=H) (F:=F) (s:=g) (.s (.string s.cls[i].c)) (.s (.int .i64 s.cls[i].trust)) (.s (.bool s.cls[i].frozen)) (s.cls[i].known.map encK) rfl o sz off n ho he
   have t4:=fun (H:Nat→Ob) (F:List Nat) (g:Nat→Option Nat) (a b d:I) (o o' sz off n:Nat) (hh:g o'=some o)=>cvW_ren4 (f:=encC) (l:=s.cls) (i:=i) (H:=H) (F:=F) (s:=g) a b d o o' sz off n hh
   have t5:=fun row hr=>all_set (f:=encC) (l:=s.cls) (i:=i) row hr
   have e2:=clone_Kn s.cls[i].known hcl
   have hkn:=hc.k
   have b1:=fun σ'=>bk [103] [(100,100),(101,101),(102,102)] (hL (i+1) σ' h)
   clear hL e1 hc
   generalize s.cls[i]=c at *
   refine wkl ?_
   clear hR; intro hR
   refine W_loopR (ι:=Nat) (fun j=>j≤c.known.length)
    (fun j=>stOf [(1,.pt 100 0 0 0),(2,.pt 101 0 0 0),(3,intD i),(16,.os 102 4 0 s.cls.length),(17,intD s.cls.length),(18,intD i),(36,.os 103 4 0 c.known.length),(37,intD c.known.length),(38,intD j)]
     [(100,.box [.i (.s (.string s.name)),.i (.s (.int .i64 s.h)),.i (.s (.int .i64 s.t)),.os 102 4 0 s.cls.length,.i (.sl (s.cns.map encCn)),.i (.sl (s.chs.map encCh)),.i (.sl (s.sent.map encM)),.i (.sl (s.got.map encM)),.i (.sl (s.acks.map encM)),.i (.sl (s.pus.map encPu))]),
      (101,.box ((encSt zeroSt).map .i)),(102,.tab 4 ((toD (s.cls.map encC)).set i [.i (.s (.string c.c)),.i (.s (.int .i64 c.trust)),.i (.s (.bool c.frozen)),.os 103 4 0 c.known.length])),(103,.arr 4 (c.known.map encK))])
    (fun j=>c.known.length - j) 0 (Nat.zero_le _) ?_ ?_
   ·exact le_ok [] [(100,100),(101,101),(102,102),(103,901)]
   ·rintro j hj RL2 hL2
    rw [stOf_eq]
    by_cases h':j < c.known.length
    ·have s0:=get_lt (f:=encK) h'
     have s1:=set_map (f:=encK) h'
     have hk:=hkn _ (List.getElem_mem h')
     have c1:=clone_A c.known[j].root (by have:=hk.r; omega)
     have c2:=clone_A c.known[j].next (by have:=hk.n; omega)
     have b2:=fun σ'=>bk [] [(100,100),(101,101),(102,102),(103,103)] (hL2 (j+1) σ' h')
     clear hL2 hk hkn b1 e2
     generalize c.known[j]=k at *
     simp only [encK,bI] at s0 s1
     exact wkl trivial
    ·clear hL2
     exact wkl trivial
  ·clear hL e1
   have e1:=clone_Cn s.cns l2
   have e2:=clone_Ch s.chs l3
   have e3:=clone_Pu s.pus l7
   have r1:=bs_pt3 (P:=Tryz.prog) (t:=140) (e:=139) (by kernel_rfl) (by kernel_rfl) (by kernel_rfl)
   refine wkl ?_
   clear hR; intro hR
   refine W_loopR (ι:=Nat) (fun k=>k≤3) (fun k=>stOf [(1,.pt 100 0 0 0),(2,.pt 101 0 0 0),(84,.bs 106 0 3),(85,intD 3),(86,intD k)] (ownO s k)) (fun k=>3 - k) 0 (Nat.zero_le _) ?_ ?_
   ·exact le_ok [] [(100,100),(101,101),(102,102),(103,901),(104,902),(105,903),(106,4331),(110,950),(111,951),(112,952)]
   ·rintro k hk RL hL
    rw [stOf_eq]
    have b1:=fun σ' (h:k+1≤3)=>bk [] [(100,100),(101,101),(102,102),(103,103),(104,104),(105,105),(106,106),(110,110),(111,111),(112,112)] (hL (k+1) σ' h)
    clear hL e1 e2 e3
    have l4:=hs.sent
    have l5:=hs.got
    have l6:=hs.acks
    match k,hk with
    | 0,_ =>
     have e1:=clone_Mk s.sent l4
     have b1:=fun σ'=>b1 σ' (by omega)
     refine wkl ?_
     clear hR; intro hR
     refine W_loopR (ι:=Nat) (fun j=>j≤s.sent.length) (fun j=>stOf [(1,.pt 100 0 0 0),(2,.pt 101 0 0 0),(8,.pt 100 0 0 6),(84,.bs 106 0 3),(85,intD 3),(86,intD 0),(98,.os 110 3 0 s.sent.length),(99,intD s.sent.length),(100,intD j)] (ownO s 1)) (fun j=>s.sent.length - j) 0 (Nat.zero_le _) ?_ ?_
     ·exact le_ok [] [(100,100),(101,101),(102,102),(103,103),(104,104),(105,105),(106,106),(110,901),(111,111),(112,112)]
     ·rintro j hj RL2 hL2
      rw [stOf_eq]
      by_cases h':j < s.sent.length
      ·have s0:=get_lt (f:=encM) h'
       have s1:=set_map (f:=encM) h'
       have hd:=hs.dg _ (.inl (List.getElem_mem h'))
       have c1:=clone_A s.sent[j].dg (by omega)
       have b2:=fun σ'=>bk [] [(100,100),(101,101),(102,102),(103,103),(104,104),(105,105),(106,106),(110,110),(111,111),(112,112)] (hL2 (j+1) σ' h')
       clear hL2 b1 hd e1
       generalize s.sent[j]=m at *
       simp only [encM,bI] at s0 s1
       exact wkl trivial
      ·clear hL2 e1
       exact wkl trivial
    | 1,_ =>
     have e1:=clone_Mk s.got l5
     have b1:=fun σ'=>b1 σ' (by omega)
     refine wkl ?_
     clear hR; intro hR
     refine W_loopR (ι:=Nat) (fun j=>j≤s.got.length) (fun j=>stOf [(1,.pt 100 0 0 0),(2,.pt 101 0 0 0),(8,.pt 100 0 0 7),(84,.bs 106 0 3),(85,intD 3),(86,intD 1),(98,.os 111 3 0 s.got.length),(99,intD s.got.length),(100,intD j)] (ownO s 2)) (fun j=>s.got.length - j) 0 (Nat.zero_le _) ?_ ?_
     ·exact le_ok [] [(100,100),(101,101),(102,102),(103,103),(104,104),(105,105),(106,106),(110,110),(111,901),(112,112)]
     ·rintro j hj RL2 hL2
      rw [stOf_eq]
      by_cases h':j < s.got.length
      ·have s0:=get_lt (f:=encM) h'
       have s1:=set_map (f:=encM) h'
       have hd:=hs.dg _ (.inr (.inl (List.getElem_mem h')))
       have c1:=clone_A s.got[j].dg (by omega)
       have b2:=fun σ'=>bk [] [(100,100),(101,101),(102,102),(103,103),(104,104),(105,105),(106,106),(110,110),(111,111),(112,112)] (hL2 (j+1) σ' h')
       clear hL2 b1 hd e1
       generalize s.got[j]=m at *
       simp only [encM,bI] at s0 s1
       exact wkl trivial
      ·clear hL2 e1
       exact wkl trivial
    | 2,_ =>
     have e1:=clone_Mk s.acks l6
     have b1:=fun σ'=>b1 σ' (by omega)
     refine wkl ?_
     clear hR; intro hR
     refine W_loopR (ι:=Nat) (fun j=>j≤s.acks.length) (fun j=>stOf [(1,.pt 100 0 0 0),(2,.pt 101 0 0 0),(8,.pt 100 0 0 8),(84,.bs 106 0 3),(85,intD 3),(86,intD 2),(98,.os 112 3 0 s.acks.length),(99,intD s.acks.length),(100,intD j)] (ownO s 3)) (fun j=>s.acks.length - j) 0 (Nat.zero_le _) ?_ ?_
     ·exact le_ok [] [(100,100),(101,101),(102,102),(103,103),(104,104),(105,105),(106,106),(110,110),(111,111),(112,901)]
     ·rintro j hj RL2 hL2
      rw [stOf_eq]
      by_cases h':j < s.acks.length
      ·have s0:=get_lt (f:=encM) h'
       have s1:=set_map (f:=encM) h'
       have hd:=hs.dg _ (.inr (.inr (List.getElem_mem h')))
       have c1:=clone_A s.acks[j].dg (by omega)
       have b2:=fun σ'=>bk [] [(100,100),(101,101),(102,102),(103,103),(104,104),(105,105),(106,106),(110,110),(111,111),(112,112)] (hL2 (j+1) σ' h')
       clear hL2 b1 hd e1
       generalize s.acks[j]=m at *
       simp only [encM,bI] at s0 s1
       exact wkl trivial
      ·clear hL2 e1
       exact wkl trivial
    | 3,_ =>
     clear b1
     have d1:SrcIs [] [(1,102),(2,103),(3,104),(4,110),(5,111),(6,112),(7,105)]:=⟨trivial⟩
     obtain ⟨rfl⟩:=hR'
     exact wkl trivial
theorem sown_A (s:StateD) (hs:StSm s):PureD Tryz.prog 28 [stateD s] (stateD s) :=
 callD_ler (sown_D s hs) (ler_pure [1,2,3,4,5,6,7] (by simp [hOf,lk]))
end Go.Proofs.YtadoaljnfeoecaaGreatDoor
set_option linter.all false
namespace Go.Proofs.YtadoaljnfeoecaaGreatDoor
open Go Go.Abs Go.RowKit Go.Proofs.YtadoaljnfeoecaaGreatDoor.Ty
set_option maxHeartbeats 8000000
set_option maxRecDepth 20000
theorem snum_A (n least:Int):PureD Tryz.prog 35 [intD n,intD least] (boolD (nm n least)):=by
 refine hide_r fun R hR=>?_
 unfold nm at hR
 by_cases h1:least≤n <;> by_cases h2:n≤1000000000000 <;> simp [h1,h2] at hR
 all_goals
  refine callD_W 12 Tryz.func35 rfl rfl rfl (fun _ _=>rfl) ?_
  exact wkl trivial
theorem sconn_A (c:ConnD):PureD Tryz.prog 18 [.rp (encCn c) 0] (intD (cnE c)):=by
 refine hide_r fun R hR=>?_
 have c1:=snum_A c.cl 0
 have c2:=snum_A c.oc 0
 have c3:=snum_A c.on (-1)
 unfold cnE at hR
 refine callD_W 39 Tryz.func18 rfl rfl rfl (fun _ _=>rfl) ?_
 exact wkl trivial
theorem schan_A (c:ChanD):PureD Tryz.prog 19 [.rp (encCh c) 0] (intD (chE c)):=by
 refine hide_r fun R hR=>?_
 have c1:=snum_A c.cn 0
 have c2:=snum_A c.oc (-1)
 have c3:=snum_A c.snd 1
 have c4:=snum_A c.rcv 1
 have c5:=snum_A c.ack 1
 unfold chE at hR
 refine callD_W 55 Tryz.func19 rfl rfl rfl (fun _ _=>rfl) ?_
 exact wkl trivial
theorem sorder_A (m:MarkD) (ch seq:Int):PureD Tryz.prog 36 [markD m,intD ch,intD seq] (intD (orderW m ch seq)):=by
 refine hide_r fun R hR=>?_
 unfold orderW at hR
 refine callD_W 19 Tryz.func36 rfl rfl rfl (fun _ _=>rfl) ?_
 exact wkl trivial
theorem smarks_A (l:List MarkD) (hl:l.length≤1048576):PureD Tryz.prog 20 [.i (.sl (l.map encM))] (intD (mksE none l)):=by
 refine hide_r fun R hR=>?_
 refine callD_W 45 Tryz.func20 rfl rfl rfl (fun _ _=>rfl) ?_
 refine wkl ?_
 clear hR; intro hR
 have hR':Hr (intD (mksE (preA l 0) (l.drop 0))) R:=hR
 clear hR
 refine W_loopR (ι:=Nat) (fun i=>i≤l.length∧Hr (intD (mksE (preA l i) (l.drop i))) R)
  (fun i=>stOf [(0,.i (.sl (l.map encM))),(5,.i (.sl (l.map encM))),(6,intD l.length),(7,intD i)] []) (fun i=>l.length - i) 0 ⟨Nat.zero_le _,hR'⟩ ?_ ?_
 ·exact le_ok [] []
 ·rintro i ⟨hi,hR⟩ RL hL
  clear hR'
  rw [stOf_eq]
  by_cases h:i < l.length
  ·have e1:=get_lt (f:=encM) h
   rw [List.drop_eq_getElem_cons h,mksE] at hR
   have hnx:preA l (i+1)=some l[i]:=by simp [preA,h]
   rw [← hnx] at hR
   have c1:=snum_A l[i].ch 0
   have c2:=snum_A l[i].seq 1
   have b1:=fun σ' (hq:Hr _ R)=>bk [] [] (hL (i+1) σ' ⟨h,hq⟩)
   clear hL
   cases i with
   | zero =>
    have hp:preA l 0=none:=rfl
    rw [hp] at hR
    simp only [Option.any_none,Bool.false_eq_true,if_false] at hR
    clear hp hnx
    generalize hv0:l[0]=v at *
    exact wkl trivial
   | succ j =>
    have hj:j < l.length:=by omega
    have hp:preA l (j+1)=some l[j]:=by simp [preA,hj]
    have e2:=get_lt (f:=encM) hj
    rw [hp] at hR
    simp only [Option.any_some,decide_eq_true_eq] at hR
    have hg0:(0:Int) < ((j+1:Nat):Int):=by omega
    have w0:IntKind.i64.wrap (((j+1:Nat):Int) - 1)=(j:Int):=by rw [wrap64 (by omega) (by omega)]; omega
    have n0:(((j+1:Nat):Int)).toNat=j+1:=by omega
    have c3:=sorder_A l[j] l[j+1].ch l[j+1].seq
    clear hnx hp
    generalize hv0:l[j+1]=v at *
    generalize hq0:l[j]=q at *
    exact wkl trivial
  ·rw [List.drop_eq_nil_of_le (by omega),mksE] at hR
   exact wkl trivial
theorem spurses_A (l:List PurseD) (hl:l.length≤1048576):PureD Tryz.prog 21 [.i (pusI l)] (intD (pusE none l)):=by
 refine hide_r fun R hR=>?_
 refine callD_W 76 Tryz.func21 rfl rfl rfl (fun _ _=>rfl) ?_
 refine wkl ?_
 clear hR; intro hR
 have hR':Hr (intD (pusE (preA l 0) (l.drop 0))) R:=hR
 clear hR
 refine W_loopR (ι:=Nat) (fun i=>i≤l.length∧Hr (intD (pusE (preA l i) (l.drop i))) R)
  (fun i=>stOf [(0,.i (pusI l)),(5,.i (pusI l)),(6,intD l.length),(7,intD i)] []) (fun i=>l.length - i) 0 ⟨Nat.zero_le _,hR'⟩ ?_ ?_
 ·exact le_ok [] []
 ·rintro i ⟨hi,hR⟩ RL hL
  clear hR'
  rw [stOf_eq]
  by_cases h:i < l.length
  ·have e1:=get_lt (f:=encPu) h
   rw [List.drop_eq_getElem_cons h,pusE] at hR
   have hnx:preA l (i+1)=some l[i]:=by simp [preA,h]
   rw [← hnx] at hR
   have b1:=fun σ' (hq:Hr _ R)=>bk [] [] (hL (i+1) σ' ⟨h,hq⟩)
   clear hL
   cases i with
   | zero =>
    have hp:preA l 0=none:=rfl
    rw [hp] at hR
    simp only [Option.any_none,Bool.false_eq_true,if_false] at hR
    clear hp hnx
    generalize hv0:l[0]=v at *
    exact wkl trivial
   | succ j =>
    have hj:j < l.length:=by omega
    have hp:preA l (j+1)=some l[j]:=by simp [preA,hj]
    have e2:=get_lt (f:=encPu) hj
    rw [hp] at hR
    simp only [Option.any_some,decide_eq_true_eq] at hR
    have hg0:(0:Int) < ((j+1:Nat):Int):=by omega
    have w0:IntKind.i64.wrap (((j+1:Nat):Int) - 1)=(j:Int):=by rw [wrap64 (by omega) (by omega)]; omega
    have n0:(((j+1:Nat):Int)).toNat=j+1:=by omega
    clear hnx hp
    generalize hv0:l[j+1]=v at *
    generalize hq0:l[j]=q at *
    by_cases hqo:q.o=v.o
    ·have h0:cmpS v.o v.o=0:=cmpS_zero.2 rfl
     simp only [hqo,h0,Int.lt_irrefl,true_and,false_or] at hR
     exact wkl trivial
    ·have hqb:(q.o == v.o)=false:=by rw [beqS'']; exact hqo
     simp only [hqo,false_and,or_false] at hR
     exact wkl trivial
  ·rw [List.drop_eq_nil_of_le (by omega),pusE] at hR
   exact wkl trivial
end Go.Proofs.YtadoaljnfeoecaaGreatDoor
set_option linter.all false
namespace Go.Proofs.YtadoaljnfeoecaaGreatDoor
open Go Go.Abs Go.RowKit Go.Proofs.YtadoaljnfeoecaaGreatDoor.Ty
set_option maxHeartbeats 16000000
set_option maxRecDepth 20000
theorem fstE_lt {α:Type} {f:α→Int} {l:List α} {i:Nat} (h:i < l.length):fstE f (l.drop i)=if f l[i]=0 then fstE f (l.drop (i+1)) else f l[i]:=by
 rw [List.drop_eq_getElem_cons h,fstE]
theorem fstE_ge {α:Type} {f:α→Int} {l:List α} {i:Nat} (h:¬ i < l.length):fstE f (l.drop i)=0:=by
 rw [List.drop_eq_nil_of_le (by omega),fstE]
def mrk (s:StateD):Nat→Int
 | 0=>mksS s
 | 1=>if mksE none s.got=0 then (if mksE none s.acks=0 then pusE none s.pus else mksE none s.acks) else mksE none s.got
 | 2=>if mksE none s.acks=0 then pusE none s.pus else mksE none s.acks
 | _=>pusE none s.pus
theorem swrong_A (s:StateD) (hs:StSm s):PureD Tryz.prog 8 [stateD s] (intD (wrongS s)):=by
 refine hide_r fun R hR=>?_
 have c1:=hname_A s.name
 have c2:=hnum_A s.h
 have c3:=hnum_A s.t
 have l1:=hs.cls
 have l2:=hs.cns
 have l3:=hs.chs
 have l4:=hs.sent
 have l5:=hs.got
 have l6:=hs.acks
 have l7:=hs.pus
 unfold wrongS at hR
 refine callD_W 134 Tryz.func8 rfl rfl rfl (fun _ _=>rfl) ?_
 refine wkl ?_
 clear hR c1 c2 c3; intro hR
 repeat' (intro _)
 have hR':Hr (intD (if fstE wrongC (s.cls.drop 0)=0 then endS s else fstE wrongC (s.cls.drop 0))) R:=hR
 clear hR
 refine W_loopR (ι:=Nat) (fun i=>i≤s.cls.length∧Hr (intD (if fstE wrongC (s.cls.drop i)=0 then endS s else fstE wrongC (s.cls.drop i))) R)
  (fun i=>stOf [(1,.pt 100 0 0 0),(71,.i (.sl (s.cls.map encC))),(72,intD s.cls.length),(73,intD i)] [(100,.box ((encSt s).map .i))]) (fun i=>s.cls.length - i) 0 ⟨Nat.zero_le _,hR'⟩ ?_ ?_
 ·exact le_ok [] [(100,1000)]
 ·rintro i ⟨hi,hR⟩ RL hL
  clear hR'
  rw [stOf_eq]
  by_cases h:i < s.cls.length
  ·have e1:=get_lt (f:=encC) h
   rw [fstE_lt h] at hR
   have b1:=fun σ' (hq:Hr _ R)=>bk [] [(100,100)] (hL (i+1) σ' ⟨h,hq⟩)
   have c1:=cwrong_A s.cls[i] (hs.cl _ (List.getElem_mem h)).l
   clear hL hs
   generalize s.cls[i]=v at *
   by_cases hz:wrongC v=0
   ·rw [if_pos hz] at hR
    rw [hz] at c1
    exact wkl trivial
   ·rw [if_neg hz,if_neg hz] at hR
    generalize wrongC v=W at *
    exact wkl trivial
  ·rw [fstE_ge h,if_pos rfl] at hR
   clear hL
   unfold endS at hR
   refine wkl ?_
   clear hR; intro hR
   have hR':Hr (intD (if fstE cnE (s.cns.drop 0)=0 then (if fstE chE s.chs=0 then mksS s else fstE chE s.chs) else fstE cnE (s.cns.drop 0))) R:=hR
   clear hR
   refine W_loopR (ι:=Nat) (fun i=>i≤s.cns.length∧Hr (intD (if fstE cnE (s.cns.drop i)=0 then (if fstE chE s.chs=0 then mksS s else fstE chE s.chs) else fstE cnE (s.cns.drop i))) R)
    (fun i=>stOf [(1,.pt 100 0 0 0),(85,intD s.cns.length),(86,intD i)] [(100,.box ((encSt s).map .i))]) (fun i=>s.cns.length - i) 0 ⟨Nat.zero_le _,hR'⟩ ?_ ?_
   ·exact le_ok [] [(100,100)]
   ·rintro i ⟨hi,hR⟩ RL hL
    clear hR'
    rw [stOf_eq]
    by_cases h:i < s.cns.length
    ·have e1:=get_lt (f:=encCn) h
     rw [fstE_lt h] at hR
     have b1:=fun σ' (hq:Hr _ R)=>bk [] [(100,100)] (hL (i+1) σ' ⟨h,hq⟩)
     have c1:=sconn_A s.cns[i]
     clear hL hs
     generalize s.cns[i]=v at *
     by_cases hz:cnE v=0
     ·rw [if_pos hz] at hR
      rw [hz] at c1
      exact wkl trivial
     ·rw [if_neg hz,if_neg hz] at hR
      generalize cnE v=W at *
      exact wkl trivial
    ·rw [fstE_ge h,if_pos rfl] at hR
     clear hL
     refine wkl ?_
     clear hR; intro hR
     have hR':Hr (intD (if fstE chE (s.chs.drop 0)=0 then mksS s else fstE chE (s.chs.drop 0))) R:=hR
     clear hR
     refine W_loopR (ι:=Nat) (fun i=>i≤s.chs.length∧Hr (intD (if fstE chE (s.chs.drop i)=0 then mksS s else fstE chE (s.chs.drop i))) R)
      (fun i=>stOf [(1,.pt 100 0 0 0),(100,intD s.chs.length),(101,intD i)] [(100,.box ((encSt s).map .i))]) (fun i=>s.chs.length - i) 0 ⟨Nat.zero_le _,hR'⟩ ?_ ?_
     ·exact le_ok [] [(100,100)]
     ·rintro i ⟨hi,hR⟩ RL hL
      clear hR'
      rw [stOf_eq]
      by_cases h:i < s.chs.length
      ·have e1:=get_lt (f:=encCh) h
       rw [fstE_lt h] at hR
       have b1:=fun σ' (hq:Hr _ R)=>bk [] [(100,100)] (hL (i+1) σ' ⟨h,hq⟩)
       have c1:=schan_A s.chs[i]
       clear hL hs
       generalize s.chs[i]=v at *
       by_cases hz:chE v=0
       ·rw [if_pos hz] at hR
        rw [hz] at c1
        exact wkl trivial
       ·rw [if_neg hz,if_neg hz] at hR
        generalize chE v=W at *
        exact wkl trivial
      ·rw [fstE_ge h,if_pos rfl] at hR
       clear hL
       unfold mksS at hR
       refine wkl ?_
       clear hR; intro hR
       have hR':Hr (intD (mrk s 0)) R:=hR
       clear hR
       refine W_loopR (ι:=Nat) (fun i=>i≤3∧Hr (intD (mrk s i)) R)
        (fun i=>stOf [(1,.pt 100 0 0 0),(119,.os 101 1 0 3),(120,intD 3),(121,intD i)] [(100,.box ((encSt s).map .i)),(101,.arr 1 [[.sl (s.sent.map encM)],[.sl (s.got.map encM)],[.sl (s.acks.map encM)]])]) (fun i=>3 - i) 0 ⟨Nat.zero_le _,hR'⟩ ?_ ?_
       ·exact le_ok [] [(100,100),(101,8174)]
       ·rintro i ⟨hi,hR⟩ RL hL
        clear hR' hs
        rw [stOf_eq]
        have b1:=fun σ' (h:i+1≤3) (hq:Hr _ R)=>bk [] [(100,100),(101,101)] (hL (i+1) σ' ⟨h,hq⟩)
        clear hL
        match i,hi with
        | 0,_ =>
         have c1:=smarks_A s.sent l4
         have b1:=fun σ' (hq:Hr (intD (mrk s 1)) R)=>b1 σ' (by omega) hq
         simp only [mrk] at b1
         by_cases hz:mksE none s.sent=0
         ·simp only [mrk,mksS,hz,if_true] at hR
          rw [hz] at c1
          exact wkl trivial
         ·simp only [mrk,mksS,hz,if_false] at hR
          generalize mksE none s.sent=W at *
          exact wkl trivial
        | 1,_ =>
         have c1:=smarks_A s.got l5
         have b1:=fun σ' (hq:Hr (intD (mrk s 2)) R)=>b1 σ' (by omega) hq
         simp only [mrk] at b1
         by_cases hz:mksE none s.got=0
         ·simp only [mrk,hz,if_true] at hR
          rw [hz] at c1
          exact wkl trivial
         ·simp only [mrk,hz,if_false] at hR
          generalize mksE none s.got=W at *
          exact wkl trivial
        | 2,_ =>
         have c1:=smarks_A s.acks l6
         have b1:=fun σ' (hq:Hr (intD (mrk s 3)) R)=>b1 σ' (by omega) hq
         simp only [mrk] at b1
         by_cases hz:mksE none s.acks=0
         ·simp only [mrk,hz,if_true] at hR
          rw [hz] at c1
          exact wkl trivial
         ·simp only [mrk,hz,if_false] at hR
          generalize mksE none s.acks=W at *
          exact wkl trivial
        | 3,_ =>
         have c1:=spurses_A s.pus l7
         clear b1
         simp only [mrk] at hR
         exact wkl trivial
end Go.Proofs.YtadoaljnfeoecaaGreatDoor
