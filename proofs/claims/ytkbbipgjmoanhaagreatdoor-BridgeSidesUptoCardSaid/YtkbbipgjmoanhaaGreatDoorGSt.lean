/- Merged texts: StP, StS, ClnCl, ClnCn, ClnCh, ClnMk, ClnPu, StO, StW, StWr. -/
import Derived.Test.YtkbbipgjmoanhaaGreatDoorGCl
set_option linter.all false
set_option maxHeartbeats 16000000
set_option maxRecDepth 20000
namespace Go.Proofs.YtkbbipgjmoanhaaGreatDoor
open Go Go.Abs
structure ConnD where
 st:Int
 cl:Int
 oc:Int
 on:Int
structure ChanD where
 st:Int
 ord:Bool
 cn:Int
 oc:Int
 snd:Int
 rcv:Int
 ack:Int
structure bD where
 ch:Int
 seq:Int
 dg:List UInt8
structure StateD where
 name:ByteArray
 h:Int
 t:Int
 cls:List aD
 cns:List ConnD
 chs:List ChanD
 sent:List bD
 got:List bD
 acks:List bD
 pus:List az
def dA (c:ConnD):List I:=[.s (.int .i64 c.st),.s (.int .i64 c.cl),.s (.int .i64 c.oc),.s (.int .i64 c.on)]
def connD (c:ConnD):D:=.agg [.i (.s (.int .i64 c.st)),.i (.s (.int .i64 c.cl)),.i (.s (.int .i64 c.oc)),.i (.s (.int .i64 c.on))]
def bu (c:ChanD):List I:=[.s (.int .i64 c.st),.s (.bool c.ord),.s (.int .i64 c.cn),.s (.int .i64 c.oc),.s (.int .i64 c.snd),.s (.int .i64 c.rcv),.s (.int .i64 c.ack)]
def chanD (c:ChanD):D:=.agg [.i (.s (.int .i64 c.st)),.i (.s (.bool c.ord)),.i (.s (.int .i64 c.cn)),.i (.s (.int .i64 c.oc)),.i (.s (.int .i64 c.snd)),.i (.s (.int .i64 c.rcv)),.i (.s (.int .i64 c.ack))]
def bq (m:bD):List I:=[.s (.int .i64 m.ch),.s (.int .i64 m.seq),bI m.dg]
def Gp (m:bD):D:=.agg [.i (.s (.int .i64 m.ch)),.i (.s (.int .i64 m.seq)),.i (bI m.dg)]
def encSt (s:StateD):List I:=[.s (.string s.name),.s (.int .i64 s.h),.s (.int .i64 s.t),.sl (s.cls.map fM),.sl (s.cns.map dA),.sl (s.chs.map bu),.sl (s.sent.map bq),.sl (s.got.map bq),.sl (s.acks.map bq),.sl (s.pus.map aV)]
def stateD (s:StateD):D:=.agg [.i (.s (.string s.name)),.i (.s (.int .i64 s.h)),.i (.s (.int .i64 s.t)),.i (.sl (s.cls.map fM)),.i (.sl (s.cns.map dA)),.i (.sl (s.chs.map bu)),.i (.sl (s.sent.map bq)),.i (.sl (s.got.map bq)),.i (.sl (s.acks.map bq)),.i (.sl (s.pus.map aV))]
def zeroSt:StateD:=⟨⟨#[]⟩,0,0,[],[],[],[],[],[],[]⟩
structure StSm (s:StateD):Prop where
 cls:s.cls.length<=1048576
 cl:∀ c∈s.cls,Vk c
 cns:s.cns.length<=1048576
 chs:s.chs.length<=1048576
 sent:s.sent.length<=1048576
 got:s.got.length<=1048576
 acks:s.acks.length<=1048576
 dg:∀ m,m∈s.sent\/m∈s.got\/m∈s.acks->m.dg.length<=1048576
 pus:s.pus.length<=1048576
attribute [simp,go_sem] dA connD bu chanD bq Gp encSt stateD zeroSt aV puD jB
def nm (n least:Int):Bool:=decide (least<=n/\n<=1000000000000)
def cnE (c:ConnD):Int:=if c.st < 1\/3 < c.st then 1 else if ¬ nm c.cl 0=true\/¬ nm c.oc 0=true\/¬ nm c.on (-1)=true then 3 else 0
def chE (c:ChanD):Int:=if c.st < 1\/4 < c.st then 1 else if ¬ nm c.cn 0=true\/¬ nm c.oc (-1)=true\/¬ nm c.snd 1=true\/¬ nm c.rcv 1=true\/¬ nm c.ack 1=true then 3 else 0
def jc (m:bD) (ch seq:Int):Int:=if m.ch=ch then IntKind.i64.wrap (m.seq - seq) else IntKind.i64.wrap (m.ch - ch)
def Ep {α:Type} (l:List α) (i:Nat):Option α:=if i=0 then none else l[i - 1]?
def oP:Option bD->List bD->Int
 | _,[]=>0
 | o,m :: t=>if ¬ nm m.ch 0=true\/¬ nm m.seq 1=true then 3 else if ¬ (m.dg.length:Int)=32 then 2 else if (o.any fun q=>decide (0<=jc q m.ch m.seq))=true then 2 else oP (some m) t
def Gh:Option az->List az->Int
 | _,[]=>0
 | o,p :: t=>if (p.o.size:Int) < 1\/(40:Int) < p.o.size\/(p.d.size:Int) < 1\/(40:Int) < p.d.size then 4 else if p.n=0 then 3 else if (o.any fun q=>decide (0 < ll q.o p.o\/q.o=p.o/\0<=ll q.d p.d))=true then 2 else Gh (some p) t
def fstE {α:Type} (f:α->Int):List α->Int
 | []=>0
 | a :: t=>if f a=0 then fstE f t else f a
def mksS (s:StateD):Int:=if oP none s.sent=0 then (if oP none s.got=0 then (if oP none s.acks=0 then Gh none s.pus else oP none s.acks) else oP none s.got) else oP none s.sent
def Xn (s:StateD):Int:=if fstE cnE s.cns=0 then (if fstE chE s.chs=0 then mksS s else fstE chE s.chs) else fstE cnE s.cns
def bg (s:StateD):Int :=
 if mi s.name=true then
  (if ¬ uG s.h=true\/¬ uG s.t=true then 3
  else if (4:Int) < s.cls.length\/(8:Int) < s.cns.length\/(8:Int) < s.chs.length\/(50:Int) < s.sent.length\/(50:Int) < s.got.length\/(50:Int) < s.acks.length\/(60:Int) < s.pus.length then 5
  else if fstE wrongC s.cls=0 then Xn s else fstE wrongC s.cls)
 else 7
open Go.RowKit Go.Proofs.YtkbbipgjmoanhaaGreatDoor.Ty
theorem vW:(type_of% @Ty.T0)/\(type_of% @Ty.T3)/\(type_of% @Ty.T4)/\(type_of% @Ty.T5)/\(type_of% @Ty.T9)/\(type_of% @Ty.T24)/\(type_of% @Ty.T38)/\(type_of% @Ty.T40)/\(type_of% @Ty.T95)/\(type_of% @Ty.T97):=⟨@Ty.T0,@Ty.T3,@Ty.T4,@Ty.T5,@Ty.T9,@Ty.T24,@Ty.T38,@Ty.T40,@Ty.T95,@Ty.T97⟩
theorem Vx (l:List aD):uni 4 (l.map fM)=true:=by simp [uni,fM]
theorem PH (l:List aD) (hl:l.length<=1048576):aN Tryz.prog 60 [.i (.sl (l.map fM))] noH (.os 1 4 0 l.length) (hOf noH [(1,.arr 4 (l.map fM))]):=by
 cases l with
 | nil =>
  refine iU (fE Tryz.func60 rfl rfl) fun K vs hrd=>?_
  obtain ⟨hs,hg⟩:=hrd
  obtain ⟨a,c,hv⟩:=sl_nil (hg 0 _ rfl)
  refine ⟨[.i (.s (.slice a 0 c))],?_,hs,fun j d hd=>?_⟩
  ·have hun:=ZY
   refine aa 8 Tryz.func60 rfl rfl rfl (fun _ _=>rfl) ?_
   cases a with
   | none =>
    simp -implicitDefEqProofs only [ev,mixed,Nat.reduceLT,Nat.reduceAdd,Nat.reduceMul,reduceIte,Nat.reduceEqDiff,reduceCtorEq,Nat.reducePow,Nat.reduceLeDiff,Int.reduceLE,Int.reduceLT,Int.reduceToNat,Int.reduceEq,Nat.reduceBEq,ek,gdA,af,ic,kQ,ixQ,ldH,aC,ak,bG,faQ,exQ,lQ,dR,bS,slQ,stH,lW,lY,aO,bi,ae,D.one,jY,dM,eB,cvH,vW,dH hun,Option.isNone_none]
    exact y_ [] []
   | some a =>
    simp -implicitDefEqProofs only [ev,mixed,Nat.reduceLT,Nat.reduceAdd,Nat.reduceMul,reduceIte,Nat.reduceEqDiff,reduceCtorEq,Nat.reducePow,Nat.reduceLeDiff,Int.reduceLE,Int.reduceLT,Int.reduceToNat,Int.reduceEq,Nat.reduceBEq,ek,gdA,af,ic,kQ,ixQ,ldH,aC,ak,bG,faQ,exQ,lQ,dR,bS,slQ,stH,lW,lY,aO,bi,ae,D.one,jY,dM,eB,cvH,vW,dH hun,Option.isNone_some]
    exact y_ [] [(1,1770)]
  ·cases j with
   | zero=>simp at hd; subst hd; rw [hv]; exact .i (.s _ rfl)
   | succ j=>simp at hd
 | cons p t =>
  have hu:=Vx t
  have e3:t.length+1<=140737488355328:=by simp at hl; omega
  have e4:(t.length+1) * 56<=140737488355328:=by simp at hl; omega
  have e5:(fM p).length=4:=rfl
  refine aa 8 Tryz.func60 rfl rfl rfl (fun _ _=>rfl) ?_
  refine gx (an (an (an (an (an (an (an vW hu) e3) e4) e5) @List.map_cons.{0,0}) @List.length_cons.{0}) @List.length_map.{0,0}) ?_
  exact y_ [] [(1,1770)]
theorem vV:(type_of% @Ty.T0)/\(type_of% @Ty.T3)/\(type_of% @Ty.T25)/\(type_of% @Ty.T99):=⟨@Ty.T0,@Ty.T3,@Ty.T25,@Ty.T99⟩
theorem Vw (l:List ConnD):uni 4 (l.map dA)=true:=by simp [uni,dA]
theorem PG (l:List ConnD) (hl:l.length<=1048576):aN Tryz.prog 63 [.i (.sl (l.map dA))] noH (.os 1 4 0 l.length) (hOf noH [(1,.arr 4 (l.map dA))]):=by
 cases l with
 | nil =>
  refine iU (fE Tryz.func63 rfl rfl) fun K vs hrd=>?_
  obtain ⟨hs,hg⟩:=hrd
  obtain ⟨a,c,hv⟩:=sl_nil (hg 0 _ rfl)
  refine ⟨[.i (.s (.slice a 0 c))],?_,hs,fun j d hd=>?_⟩
  ·have hun:=ZX
   refine aa 8 Tryz.func63 rfl rfl rfl (fun _ _=>rfl) ?_
   cases a with
   | none =>
    simp -implicitDefEqProofs only [ev,mixed,Nat.reduceLT,Nat.reduceAdd,Nat.reduceMul,reduceIte,Nat.reduceEqDiff,reduceCtorEq,Nat.reducePow,Nat.reduceLeDiff,Int.reduceLE,Int.reduceLT,Int.reduceToNat,Int.reduceEq,Nat.reduceBEq,ek,gdA,af,ic,kQ,ixQ,ldH,aC,ak,bG,faQ,exQ,lQ,dR,bS,slQ,stH,lW,lY,aO,bi,ae,D.one,jY,dM,eB,cvH,vV,dH hun,Option.isNone_none]
    exact y_ [] []
   | some a =>
    simp -implicitDefEqProofs only [ev,mixed,Nat.reduceLT,Nat.reduceAdd,Nat.reduceMul,reduceIte,Nat.reduceEqDiff,reduceCtorEq,Nat.reducePow,Nat.reduceLeDiff,Int.reduceLE,Int.reduceLT,Int.reduceToNat,Int.reduceEq,Nat.reduceBEq,ek,gdA,af,ic,kQ,ixQ,ldH,aC,ak,bG,faQ,exQ,lQ,dR,bS,slQ,stH,lW,lY,aO,bi,ae,D.one,jY,dM,eB,cvH,vV,dH hun,Option.isNone_some]
    exact y_ [] [(1,1770)]
  ·cases j with
   | zero=>simp at hd; subst hd; rw [hv]; exact .i (.s _ rfl)
   | succ j=>simp at hd
 | cons p t =>
  have hu:=Vw t
  have e3:t.length+1<=140737488355328:=by simp at hl; omega
  have e4:(t.length+1) * 32<=140737488355328:=by simp at hl; omega
  have e5:(dA p).length=4:=rfl
  refine aa 8 Tryz.func63 rfl rfl rfl (fun _ _=>rfl) ?_
  refine gx (an (an (an (an (an (an (an vV hu) e3) e4) e5) @List.map_cons.{0,0}) @List.length_cons.{0}) @List.length_map.{0,0}) ?_
  exact y_ [] [(1,1770)]
theorem vX:(type_of% @Ty.T0)/\(type_of% @Ty.T3)/\(type_of% @Ty.T4)/\(type_of% @Ty.T26)/\(type_of% @Ty.T77):=⟨@Ty.T0,@Ty.T3,@Ty.T4,@Ty.T26,@Ty.T77⟩
theorem Vy (l:List ChanD):uni 7 (l.map bu)=true:=by simp [uni,bu]
theorem PI (l:List ChanD) (hl:l.length<=1048576):aN Tryz.prog 64 [.i (.sl (l.map bu))] noH (.os 1 7 0 l.length) (hOf noH [(1,.arr 7 (l.map bu))]):=by
 cases l with
 | nil =>
  refine iU (fE Tryz.func64 rfl rfl) fun K vs hrd=>?_
  obtain ⟨hs,hg⟩:=hrd
  obtain ⟨a,c,hv⟩:=sl_nil (hg 0 _ rfl)
  refine ⟨[.i (.s (.slice a 0 c))],?_,hs,fun j d hd=>?_⟩
  ·have hun:=ZW
   refine aa 8 Tryz.func64 rfl rfl rfl (fun _ _=>rfl) ?_
   cases a with
   | none =>
    simp -implicitDefEqProofs only [ev,mixed,Nat.reduceLT,Nat.reduceAdd,Nat.reduceMul,reduceIte,Nat.reduceEqDiff,reduceCtorEq,Nat.reducePow,Nat.reduceLeDiff,Int.reduceLE,Int.reduceLT,Int.reduceToNat,Int.reduceEq,Nat.reduceBEq,ek,gdA,af,ic,kQ,ixQ,ldH,aC,ak,bG,faQ,exQ,lQ,dR,bS,slQ,stH,lW,lY,aO,bi,ae,D.one,jY,dM,eB,cvH,vX,dH hun,Option.isNone_none]
    exact y_ [] []
   | some a =>
    simp -implicitDefEqProofs only [ev,mixed,Nat.reduceLT,Nat.reduceAdd,Nat.reduceMul,reduceIte,Nat.reduceEqDiff,reduceCtorEq,Nat.reducePow,Nat.reduceLeDiff,Int.reduceLE,Int.reduceLT,Int.reduceToNat,Int.reduceEq,Nat.reduceBEq,ek,gdA,af,ic,kQ,ixQ,ldH,aC,ak,bG,faQ,exQ,lQ,dR,bS,slQ,stH,lW,lY,aO,bi,ae,D.one,jY,dM,eB,cvH,vX,dH hun,Option.isNone_some]
    exact y_ [] [(1,1770)]
  ·cases j with
   | zero=>simp at hd; subst hd; rw [hv]; exact .i (.s _ rfl)
   | succ j=>simp at hd
 | cons p t =>
  have hu:=Vy t
  have e3:t.length+1<=140737488355328:=by simp at hl; omega
  have e4:(t.length+1) * 56<=140737488355328:=by simp at hl; omega
  have e5:(bu p).length=7:=rfl
  refine aa 8 Tryz.func64 rfl rfl rfl (fun _ _=>rfl) ?_
  refine gx (an (an (an (an (an (an (an vX hu) e3) e4) e5) @List.map_cons.{0,0}) @List.length_cons.{0}) @List.length_map.{0,0}) ?_
  exact y_ [] [(1,1770)]
theorem vT:(type_of% @Ty.T0)/\(type_of% @Ty.T3)/\(type_of% @Ty.T5)/\(type_of% @Ty.T27)/\(type_of% @Ty.T38)/\(type_of% @Ty.aaz):=⟨@Ty.T0,@Ty.T3,@Ty.T5,@Ty.T27,@Ty.T38,@Ty.aaz⟩
theorem Vu (l:List bD):uni 3 (l.map bq)=true:=by simp [uni,bq]
theorem yG (l:List bD) (hl:l.length<=1048576):aN Tryz.prog 66 [.i (.sl (l.map bq))] noH (.os 1 3 0 l.length) (hOf noH [(1,.arr 3 (l.map bq))]):=by
 cases l with
 | nil =>
  refine iU (fE Tryz.func66 rfl rfl) fun K vs hrd=>?_
  obtain ⟨hs,hg⟩:=hrd
  obtain ⟨a,c,hv⟩:=sl_nil (hg 0 _ rfl)
  refine ⟨[.i (.s (.slice a 0 c))],?_,hs,fun j d hd=>?_⟩
  ·have hun:=ZV
   refine aa 8 Tryz.func66 rfl rfl rfl (fun _ _=>rfl) ?_
   cases a with
   | none =>
    simp -implicitDefEqProofs only [ev,mixed,Nat.reduceLT,Nat.reduceAdd,Nat.reduceMul,reduceIte,Nat.reduceEqDiff,reduceCtorEq,Nat.reducePow,Nat.reduceLeDiff,Int.reduceLE,Int.reduceLT,Int.reduceToNat,Int.reduceEq,Nat.reduceBEq,ek,gdA,af,ic,kQ,ixQ,ldH,aC,ak,bG,faQ,exQ,lQ,dR,bS,slQ,stH,lW,lY,aO,bi,ae,D.one,jY,dM,eB,cvH,vT,dH hun,Option.isNone_none]
    exact y_ [] []
   | some a =>
    simp -implicitDefEqProofs only [ev,mixed,Nat.reduceLT,Nat.reduceAdd,Nat.reduceMul,reduceIte,Nat.reduceEqDiff,reduceCtorEq,Nat.reducePow,Nat.reduceLeDiff,Int.reduceLE,Int.reduceLT,Int.reduceToNat,Int.reduceEq,Nat.reduceBEq,ek,gdA,af,ic,kQ,ixQ,ldH,aC,ak,bG,faQ,exQ,lQ,dR,bS,slQ,stH,lW,lY,aO,bi,ae,D.one,jY,dM,eB,cvH,vT,dH hun,Option.isNone_some]
    exact y_ [] [(1,1770)]
  ·cases j with
   | zero=>simp at hd; subst hd; rw [hv]; exact .i (.s _ rfl)
   | succ j=>simp at hd
 | cons p t =>
  have hu:=Vu t
  have e3:t.length+1<=140737488355328:=by simp at hl; omega
  have e4:(t.length+1) * 40<=140737488355328:=by simp at hl; omega
  have e5:(bq p).length=3:=rfl
  refine aa 8 Tryz.func66 rfl rfl rfl (fun _ _=>rfl) ?_
  refine gx (an (an (an (an (an (an (an vT hu) e3) e4) e5) @List.map_cons.{0,0}) @List.length_cons.{0}) @List.length_map.{0,0}) ?_
  exact y_ [] [(1,1770)]
theorem vS:(type_of% @Ty.T0)/\(type_of% @Ty.T9)/\(type_of% @Ty.T28)/\(type_of% @Ty.T56)/\(type_of% @Ty.T90):=⟨@Ty.T0,@Ty.T9,@Ty.T28,@Ty.T56,@Ty.T90⟩
theorem Vt (l:List az):uni 3 (l.map aV)=true:=by simp [uni,aV]
theorem PE (l:List az) (hl:l.length<=1048576):aN Tryz.prog 65 [.i (.sl (l.map aV))] noH (.os 1 3 0 l.length) (hOf noH [(1,.arr 3 (l.map aV))]):=by
 cases l with
 | nil =>
  refine iU (fE Tryz.func65 rfl rfl) fun K vs hrd=>?_
  obtain ⟨hs,hg⟩:=hrd
  obtain ⟨a,c,hv⟩:=sl_nil (hg 0 _ rfl)
  refine ⟨[.i (.s (.slice a 0 c))],?_,hs,fun j d hd=>?_⟩
  ·have hun:=Zq
   refine aa 8 Tryz.func65 rfl rfl rfl (fun _ _=>rfl) ?_
   cases a with
   | none =>
    simp -implicitDefEqProofs only [ev,mixed,Nat.reduceLT,Nat.reduceAdd,Nat.reduceMul,reduceIte,Nat.reduceEqDiff,reduceCtorEq,Nat.reducePow,Nat.reduceLeDiff,Int.reduceLE,Int.reduceLT,Int.reduceToNat,Int.reduceEq,Nat.reduceBEq,ek,gdA,af,ic,kQ,ixQ,ldH,aC,ak,bG,faQ,exQ,lQ,dR,bS,slQ,stH,lW,lY,aO,bi,ae,D.one,jY,dM,eB,cvH,vS,dH hun,Option.isNone_none]
    exact y_ [] []
   | some a =>
    simp -implicitDefEqProofs only [ev,mixed,Nat.reduceLT,Nat.reduceAdd,Nat.reduceMul,reduceIte,Nat.reduceEqDiff,reduceCtorEq,Nat.reducePow,Nat.reduceLeDiff,Int.reduceLE,Int.reduceLT,Int.reduceToNat,Int.reduceEq,Nat.reduceBEq,ek,gdA,af,ic,kQ,ixQ,ldH,aC,ak,bG,faQ,exQ,lQ,dR,bS,slQ,stH,lW,lY,aO,bi,ae,D.one,jY,dM,eB,cvH,vS,dH hun,Option.isNone_some]
    exact y_ [] [(1,1770)]
  ·cases j with
   | zero=>simp at hd; subst hd; rw [hv]; exact .i (.s _ rfl)
   | succ j=>simp at hd
 | cons p t =>
  have hu:=Vt t
  have e3:t.length+1<=140737488355328:=by simp at hl; omega
  have e4:(t.length+1) * 40<=140737488355328:=by simp at hl; omega
  have e5:(aV p).length=3:=rfl
  refine aa 8 Tryz.func65 rfl rfl rfl (fun _ _=>rfl) ?_
  refine gx (an (an (an (an (an (an (an vS hu) e3) e4) e5) @List.map_cons.{0,0}) @List.length_cons.{0}) @List.length_map.{0,0}) ?_
  exact y_ [] [(1,1770)]
def Zr (s:StateD) (k:Nat):List D:=[.i (.s (.string s.name)),.i (.s (.int .i64 s.h)),.i (.s (.int .i64 s.t)),.os 102 4 0 s.cls.length,.os 103 4 0 s.cns.length,.os 104 7 0 s.chs.length,
 if 0 < k then .os 110 3 0 s.sent.length else .i (.sl (s.sent.map bq)),if 1 < k then .os 111 3 0 s.got.length else .i (.sl (s.got.map bq)),if 2 < k then .os 112 3 0 s.acks.length else .i (.sl (s.acks.map bq)),.os 105 3 0 s.pus.length]
def Wm (s:StateD) (k:Nat):List (Nat × Ob):=[(100,.box (Zr s k)),(101,.box ((encSt zeroSt).map .i)),(102,.arr 4 (s.cls.map fM)),(103,.arr 4 (s.cns.map dA)),(104,.arr 7 (s.chs.map bu)),(105,.arr 3 (s.pus.map aV)),(106,.box [.pt 100 0 0 6,.pt 100 0 0 7,.pt 100 0 0 8]),
 (110,if 0 < k then .arr 3 (s.sent.map bq) else .dead),(111,if 1 < k then .arr 3 (s.got.map bq) else .dead),(112,if 2 < k then .arr 3 (s.acks.map bq) else .dead)]
attribute [local simp] Mm yn
attribute [local simp,local go_sem] Zr Wm
theorem jW (s:StateD) (hs:StSm s):aN Tryz.prog 34 [stateD s] noH
  (.agg [.i (.s (.string s.name)),.i (.s (.int .i64 s.h)),.i (.s (.int .i64 s.t)),.os 1 4 0 s.cls.length,.os 2 4 0 s.cns.length,.os 3 7 0 s.chs.length,.os 4 3 0 s.sent.length,.os 5 3 0 s.got.length,.os 6 3 0 s.acks.length,.os 7 3 0 s.pus.length])
  (hOf noH [(1,.arr 4 (s.cls.map fM)),(2,.arr 4 (s.cns.map dA)),(3,.arr 7 (s.chs.map bu)),(4,.arr 3 (s.sent.map bq)),(5,.arr 3 (s.got.map bq)),(6,.arr 3 (s.acks.map bq)),(7,.arr 3 (s.pus.map aV))]):=by
 refine iN fun R R' hR hR'=>?_
 have l1:=hs.cls
 have l2:=hs.cns
 have l3:=hs.chs
 have l7:=hs.pus
 have e1:=PH s.cls l1
 refine aa 117 Tryz.func34 rfl rfl rfl (fun _ _=>rfl) ?_
 refine wkl ?_
 clear hR; intro hR
 refine aT (ι:=Nat) (fun i=>i<=s.cls.length)
  (fun i=>dW [(1,.pt 100 0 0 0),(2,.pt 101 0 0 0),(16,.os 102 4 0 s.cls.length),(17,intD s.cls.length),(18,intD i)]
   [(100,.box [.i (.s (.string s.name)),.i (.s (.int .i64 s.h)),.i (.s (.int .i64 s.t)),.os 102 4 0 s.cls.length,.i (.sl (s.cns.map dA)),.i (.sl (s.chs.map bu)),.i (.sl (s.sent.map bq)),.i (.sl (s.got.map bq)),.i (.sl (s.acks.map bq)),.i (.sl (s.pus.map aV))]),
    (101,.box ((encSt zeroSt).map .i)),(102,.tab 4 (toD (s.cls.map fM)))])
  (fun i=>s.cls.length - i) 0 (Nat.zero_le _) ?_ ?_
 ·exact dF [] [(100,1000),(101,1001),(102,901)]
 ·rintro i hi RL hL
  rw [au]
  by_cases h:i < s.cls.length
  ·have hc:=hs.cl _ (List.getElem_mem h)
   have hcl:=hc.l
   have t1:=Rw (f:=fM) h
   have t2:=fun row=>RG (f:=fM) h row
   have t3:=fun (H:Nat->Ob) (F:List Nat) (g:Nat->Option Nat) (o sz off n:Nat) (ho:F.contains o=true) (he:ae H (.os o sz off n)=some ((s.cls[i]'h).known.map iQ))=>KO (f:=fM) h (H:=H) (F:=F) (s:=g) (.s (.string s.cls[i].c)) (.s (.int .i64 s.cls[i].trust)) (.s (.bool s.cls[i].frozen)) (s.cls[i].known.map iQ) rfl o sz off n ho he
   have t4:=fun (H:Nat->Ob) (F:List Nat) (g:Nat->Option Nat) (a b d:I) (o o' sz off n:Nat) (hh:g o'=some o)=>Po (f:=fM) (l:=s.cls) (i:=i) (H:=H) (F:=F) (s:=g) a b d o o' sz off n hh
   have t5:=fun row hr=>Uv (f:=fM) (l:=s.cls) (i:=i) row hr
   have e2:=yH s.cls[i].known hcl
   have hkn:=hc.k
   have b1:=fun σ'=>bk [103] [(100,100),(101,101),(102,102)] (hL (i+1) σ' h)
   clear hL e1 hc
   generalize s.cls[i]=c at *
   refine wkl ?_
   clear hR; intro hR
   refine aT (ι:=Nat) (fun j=>j<=c.known.length)
    (fun j=>dW [(1,.pt 100 0 0 0),(2,.pt 101 0 0 0),(3,intD i),(16,.os 102 4 0 s.cls.length),(17,intD s.cls.length),(18,intD i),(36,.os 103 4 0 c.known.length),(37,intD c.known.length),(38,intD j)]
     [(100,.box [.i (.s (.string s.name)),.i (.s (.int .i64 s.h)),.i (.s (.int .i64 s.t)),.os 102 4 0 s.cls.length,.i (.sl (s.cns.map dA)),.i (.sl (s.chs.map bu)),.i (.sl (s.sent.map bq)),.i (.sl (s.got.map bq)),.i (.sl (s.acks.map bq)),.i (.sl (s.pus.map aV))]),
      (101,.box ((encSt zeroSt).map .i)),(102,.tab 4 ((toD (s.cls.map fM)).set i [.i (.s (.string c.c)),.i (.s (.int .i64 c.trust)),.i (.s (.bool c.frozen)),.os 103 4 0 c.known.length])),(103,.arr 4 (c.known.map iQ))])
    (fun j=>c.known.length - j) 0 (Nat.zero_le _) ?_ ?_
   ·exact dF [] [(100,100),(101,101),(102,102),(103,901)]
   ·rintro j hj RL2 hL2
    rw [au]
    by_cases h':j < c.known.length
    ·have s0:=get_lt (f:=iQ) h'
     have s1:=oI (f:=iQ) h'
     have hk:=hkn _ (List.getElem_mem h')
     have c1:=dN c.known[j].root (by have:=hk.r; omega)
     have c2:=dN c.known[j].next (by have:=hk.n; omega)
     have b2:=fun σ'=>bk [] [(100,100),(101,101),(102,102),(103,103)] (hL2 (j+1) σ' h')
     clear hL2 hk hkn b1 e2
     generalize c.known[j]=k at *
     simp only [iQ,bI] at s0 s1
     exact wkl trivial
    ·clear hL2
     exact wkl trivial
  ·clear hL e1
   have e1:=PG s.cns l2
   have e2:=PI s.chs l3
   have e3:=PE s.pus l7
   have r1:=XJ (P:=Tryz.prog) (t:=166) (e:=165) (by kernel_rfl) (by kernel_rfl) (by kernel_rfl)
   refine wkl ?_
   clear hR; intro hR
   refine aT (ι:=Nat) (fun k=>k<=3) (fun k=>dW [(1,.pt 100 0 0 0),(2,.pt 101 0 0 0),(84,.bs 106 0 3),(85,intD 3),(86,intD k)] (Wm s k)) (fun k=>3 - k) 0 (Nat.zero_le _) ?_ ?_
   ·exact dF [] [(100,100),(101,101),(102,102),(103,901),(104,902),(105,903),(106,4331),(110,950),(111,951),(112,952)]
   ·rintro k hk RL hL
    rw [au]
    have b1:=fun σ' (h:k+1<=3)=>bk [] [(100,100),(101,101),(102,102),(103,103),(104,104),(105,105),(106,106),(110,110),(111,111),(112,112)] (hL (k+1) σ' h)
    clear hL e1 e2 e3
    have l4:=hs.sent
    have l5:=hs.got
    have l6:=hs.acks
    match k,hk with
    | 0,_ =>
     have e1:=yG s.sent l4
     have b1:=fun σ'=>b1 σ' (by omega)
     refine wkl ?_
     clear hR; intro hR
     refine aT (ι:=Nat) (fun j=>j<=s.sent.length) (fun j=>dW [(1,.pt 100 0 0 0),(2,.pt 101 0 0 0),(8,.pt 100 0 0 6),(84,.bs 106 0 3),(85,intD 3),(86,intD 0),(98,.os 110 3 0 s.sent.length),(99,intD s.sent.length),(100,intD j)] (Wm s 1)) (fun j=>s.sent.length - j) 0 (Nat.zero_le _) ?_ ?_
     ·exact dF [] [(100,100),(101,101),(102,102),(103,103),(104,104),(105,105),(106,106),(110,901),(111,111),(112,112)]
     ·rintro j hj RL2 hL2
      rw [au]
      by_cases h':j < s.sent.length
      ·have s0:=get_lt (f:=bq) h'
       have s1:=oI (f:=bq) h'
       have hd:=hs.dg _ (.inl (List.getElem_mem h'))
       have c1:=dN s.sent[j].dg (by omega)
       have b2:=fun σ'=>bk [] [(100,100),(101,101),(102,102),(103,103),(104,104),(105,105),(106,106),(110,110),(111,111),(112,112)] (hL2 (j+1) σ' h')
       clear hL2 b1 hd e1
       generalize s.sent[j]=m at *
       simp only [bq,bI] at s0 s1
       exact wkl trivial
      ·clear hL2 e1
       exact wkl trivial
    | 1,_ =>
     have e1:=yG s.got l5
     have b1:=fun σ'=>b1 σ' (by omega)
     refine wkl ?_
     clear hR; intro hR
     refine aT (ι:=Nat) (fun j=>j<=s.got.length) (fun j=>dW [(1,.pt 100 0 0 0),(2,.pt 101 0 0 0),(8,.pt 100 0 0 7),(84,.bs 106 0 3),(85,intD 3),(86,intD 1),(98,.os 111 3 0 s.got.length),(99,intD s.got.length),(100,intD j)] (Wm s 2)) (fun j=>s.got.length - j) 0 (Nat.zero_le _) ?_ ?_
     ·exact dF [] [(100,100),(101,101),(102,102),(103,103),(104,104),(105,105),(106,106),(110,110),(111,901),(112,112)]
     ·rintro j hj RL2 hL2
      rw [au]
      by_cases h':j < s.got.length
      ·have s0:=get_lt (f:=bq) h'
       have s1:=oI (f:=bq) h'
       have hd:=hs.dg _ (.inr (.inl (List.getElem_mem h')))
       have c1:=dN s.got[j].dg (by omega)
       have b2:=fun σ'=>bk [] [(100,100),(101,101),(102,102),(103,103),(104,104),(105,105),(106,106),(110,110),(111,111),(112,112)] (hL2 (j+1) σ' h')
       clear hL2 b1 hd e1
       generalize s.got[j]=m at *
       simp only [bq,bI] at s0 s1
       exact wkl trivial
      ·clear hL2 e1
       exact wkl trivial
    | 2,_ =>
     have e1:=yG s.acks l6
     have b1:=fun σ'=>b1 σ' (by omega)
     refine wkl ?_
     clear hR; intro hR
     refine aT (ι:=Nat) (fun j=>j<=s.acks.length) (fun j=>dW [(1,.pt 100 0 0 0),(2,.pt 101 0 0 0),(8,.pt 100 0 0 8),(84,.bs 106 0 3),(85,intD 3),(86,intD 2),(98,.os 112 3 0 s.acks.length),(99,intD s.acks.length),(100,intD j)] (Wm s 3)) (fun j=>s.acks.length - j) 0 (Nat.zero_le _) ?_ ?_
     ·exact dF [] [(100,100),(101,101),(102,102),(103,103),(104,104),(105,105),(106,106),(110,110),(111,111),(112,901)]
     ·rintro j hj RL2 hL2
      rw [au]
      by_cases h':j < s.acks.length
      ·have s0:=get_lt (f:=bq) h'
       have s1:=oI (f:=bq) h'
       have hd:=hs.dg _ (.inr (.inr (List.getElem_mem h')))
       have c1:=dN s.acks[j].dg (by omega)
       have b2:=fun σ'=>bk [] [(100,100),(101,101),(102,102),(103,103),(104,104),(105,105),(106,106),(110,110),(111,111),(112,112)] (hL2 (j+1) σ' h')
       clear hL2 b1 hd e1
       generalize s.acks[j]=m at *
       simp only [bq,bI] at s0 s1
       exact wkl trivial
      ·clear hL2 e1
       exact wkl trivial
    | 3,_ =>
     clear b1
     have d1:iV [] [(1,102),(2,103),(3,104),(4,110),(5,111),(6,112),(7,105)]:=⟨trivial⟩
     obtain ⟨rfl⟩:=hR'
     exact wkl trivial
theorem Ih (s:StateD) (hs:StSm s):PureD Tryz.prog 34 [stateD s] (stateD s) :=
 Lu (jW s hs) (jQ [1,2,3,4,5,6,7] (by simp [hOf,lk]))
theorem mh (n least:Int):PureD Tryz.prog 160 [intD n,intD least] (boolD (nm n least)):=by
 refine aj fun R hR=>?_
 unfold nm at hR
 by_cases h1:least<=n <;> by_cases h2:n<=1000000000000 <;> simp [h1,h2] at hR
 all_goals
  refine aa 12 Tryz.func160 rfl rfl rfl (fun _ _=>rfl) ?_
  exact wkl trivial
theorem RH (c:ConnD):PureD Tryz.prog 105 [.rp (dA c) 0] (intD (cnE c)):=by
 refine aj fun R hR=>?_
 have c1:=mh c.cl 0
 have c2:=mh c.oc 0
 have c3:=mh c.on (-1)
 unfold cnE at hR
 refine aa 39 Tryz.func105 rfl rfl rfl (fun _ _=>rfl) ?_
 exact wkl trivial
theorem RI (c:ChanD):PureD Tryz.prog 106 [.rp (bu c) 0] (intD (chE c)):=by
 refine aj fun R hR=>?_
 have c1:=mh c.cn 0
 have c2:=mh c.oc (-1)
 have c3:=mh c.snd 1
 have c4:=mh c.rcv 1
 have c5:=mh c.ack 1
 unfold chE at hR
 refine aa 55 Tryz.func106 rfl rfl rfl (fun _ _=>rfl) ?_
 exact wkl trivial
theorem Ee (m:bD) (ch seq:Int):PureD Tryz.prog 161 [Gp m,intD ch,intD seq] (intD (jc m ch seq)):=by
 refine aj fun R hR=>?_
 unfold jc at hR
 refine aa 19 Tryz.func161 rfl rfl rfl (fun _ _=>rfl) ?_
 exact wkl trivial
theorem wG (l:List bD) (hl:l.length<=1048576):PureD Tryz.prog 107 [.i (.sl (l.map bq))] (intD (oP none l)):=by
 refine aj fun R hR=>?_
 refine aa 45 Tryz.func107 rfl rfl rfl (fun _ _=>rfl) ?_
 refine wkl ?_
 clear hR; intro hR
 have hR':Hr (intD (oP (Ep l 0) (l.drop 0))) R:=hR
 clear hR
 refine aT (ι:=Nat) (fun i=>i<=l.length/\Hr (intD (oP (Ep l i) (l.drop i))) R)
  (fun i=>dW [(0,.i (.sl (l.map bq))),(5,.i (.sl (l.map bq))),(6,intD l.length),(7,intD i)] []) (fun i=>l.length - i) 0 ⟨Nat.zero_le _,hR'⟩ ?_ ?_
 ·exact dF [] []
 ·rintro i ⟨hi,hR⟩ RL hL
  clear hR'
  rw [au]
  by_cases h:i < l.length
  ·have e1:=get_lt (f:=bq) h
   rw [List.drop_eq_getElem_cons h,oP] at hR
   have hnx:Ep l (i+1)=some l[i]:=by simp [Ep,h]
   rw [<- hnx] at hR
   have c1:=mh l[i].ch 0
   have c2:=mh l[i].seq 1
   have b1:=fun σ' (hq:Hr _ R)=>bk [] [] (hL (i+1) σ' ⟨h,hq⟩)
   clear hL
   cases i with
   | zero =>
    have hp:Ep l 0=none:=rfl
    rw [hp] at hR
    simp only [Option.any_none,Bool.false_eq_true,if_false] at hR
    clear hp hnx
    generalize hv0:l[0]=v at *
    exact wkl trivial
   | succ j =>
    have hj:j < l.length:=by omega
    have hp:Ep l (j+1)=some l[j]:=by simp [Ep,hj]
    have e2:=get_lt (f:=bq) hj
    rw [hp] at hR
    simp only [Option.any_some,decide_eq_true_eq] at hR
    have hg0:(0:Int) < ((j+1:Nat):Int):=by omega
    have w0:IntKind.i64.wrap (((j+1:Nat):Int) - 1)=(j:Int):=by rw [ay (by omega) (by omega)]; omega
    have n0:(((j+1:Nat):Int)).toNat=j+1:=by omega
    have c3:=Ee l[j] l[j+1].ch l[j+1].seq
    clear hnx hp
    generalize hv0:l[j+1]=v at *
    generalize hq0:l[j]=q at *
    exact wkl trivial
  ·rw [List.drop_eq_nil_of_le (by omega),oP] at hR
   exact wkl trivial
theorem Ig (l:List az) (hl:l.length<=1048576):PureD Tryz.prog 108 [.i (jB l)] (intD (Gh none l)):=by
 refine aj fun R hR=>?_
 refine aa 76 Tryz.func108 rfl rfl rfl (fun _ _=>rfl) ?_
 refine wkl ?_
 clear hR; intro hR
 have hR':Hr (intD (Gh (Ep l 0) (l.drop 0))) R:=hR
 clear hR
 refine aT (ι:=Nat) (fun i=>i<=l.length/\Hr (intD (Gh (Ep l i) (l.drop i))) R)
  (fun i=>dW [(0,.i (jB l)),(5,.i (jB l)),(6,intD l.length),(7,intD i)] []) (fun i=>l.length - i) 0 ⟨Nat.zero_le _,hR'⟩ ?_ ?_
 ·exact dF [] []
 ·rintro i ⟨hi,hR⟩ RL hL
  clear hR'
  rw [au]
  by_cases h:i < l.length
  ·have e1:=get_lt (f:=aV) h
   rw [List.drop_eq_getElem_cons h,Gh] at hR
   have hnx:Ep l (i+1)=some l[i]:=by simp [Ep,h]
   rw [<- hnx] at hR
   have b1:=fun σ' (hq:Hr _ R)=>bk [] [] (hL (i+1) σ' ⟨h,hq⟩)
   clear hL
   cases i with
   | zero =>
    have hp:Ep l 0=none:=rfl
    rw [hp] at hR
    simp only [Option.any_none,Bool.false_eq_true,if_false] at hR
    clear hp hnx
    generalize hv0:l[0]=v at *
    exact wkl trivial
   | succ j =>
    have hj:j < l.length:=by omega
    have hp:Ep l (j+1)=some l[j]:=by simp [Ep,hj]
    have e2:=get_lt (f:=aV) hj
    rw [hp] at hR
    simp only [Option.any_some,decide_eq_true_eq] at hR
    have hg0:(0:Int) < ((j+1:Nat):Int):=by omega
    have w0:IntKind.i64.wrap (((j+1:Nat):Int) - 1)=(j:Int):=by rw [ay (by omega) (by omega)]; omega
    have n0:(((j+1:Nat):Int)).toNat=j+1:=by omega
    clear hnx hp
    generalize hv0:l[j+1]=v at *
    generalize hq0:l[j]=q at *
    by_cases hqo:q.o=v.o
    ·have h0:ll v.o v.o=0:=cmpS_zero.2 rfl
     simp only [hqo,h0,Int.lt_irrefl,true_and,false_or] at hR
     exact wkl trivial
    ·have hqb:(q.o == v.o)=false:=by rw [Mc]; exact hqo
     simp only [hqo,false_and,or_false] at hR
     exact wkl trivial
  ·rw [List.drop_eq_nil_of_le (by omega),Gh] at hR
   exact wkl trivial
theorem Cv {α:Type} {f:α->Int} {l:List α} {i:Nat} (h:i < l.length):fstE f (l.drop i)=if f l[i]=0 then fstE f (l.drop (i+1)) else f l[i]:=by
 rw [List.drop_eq_getElem_cons h,fstE]
theorem Cw {α:Type} {f:α->Int} {l:List α} {i:Nat} (h:¬ i < l.length):fstE f (l.drop i)=0:=by
 rw [List.drop_eq_nil_of_le (by omega),fstE]
def mrk (s:StateD):Nat->Int
 | 0=>mksS s
 | 1=>if oP none s.got=0 then (if oP none s.acks=0 then Gh none s.pus else oP none s.acks) else oP none s.got
 | 2=>if oP none s.acks=0 then Gh none s.pus else oP none s.acks
 | _=>Gh none s.pus
theorem gI (s:StateD) (hs:StSm s):PureD Tryz.prog 49 [stateD s] (intD (bg s)):=by
 refine aj fun R hR=>?_
 have c1:=Co s.name
 have c2:=qm s.h
 have c3:=qm s.t
 have l1:=hs.cls
 have l2:=hs.cns
 have l3:=hs.chs
 have l4:=hs.sent
 have l5:=hs.got
 have l6:=hs.acks
 have l7:=hs.pus
 unfold bg at hR
 refine aa 134 Tryz.func49 rfl rfl rfl (fun _ _=>rfl) ?_
 refine wkl ?_
 clear hR c1 c2 c3; intro hR
 repeat' (intro _)
 have hR':Hr (intD (if fstE wrongC (s.cls.drop 0)=0 then Xn s else fstE wrongC (s.cls.drop 0))) R:=hR
 clear hR
 refine aT (ι:=Nat) (fun i=>i<=s.cls.length/\Hr (intD (if fstE wrongC (s.cls.drop i)=0 then Xn s else fstE wrongC (s.cls.drop i))) R)
  (fun i=>dW [(1,.pt 100 0 0 0),(71,.i (.sl (s.cls.map fM))),(72,intD s.cls.length),(73,intD i)] [(100,.box ((encSt s).map .i))]) (fun i=>s.cls.length - i) 0 ⟨Nat.zero_le _,hR'⟩ ?_ ?_
 ·exact dF [] [(100,1000)]
 ·rintro i ⟨hi,hR⟩ RL hL
  clear hR'
  rw [au]
  by_cases h:i < s.cls.length
  ·have e1:=get_lt (f:=fM) h
   rw [Cv h] at hR
   have b1:=fun σ' (hq:Hr _ R)=>bk [] [(100,100)] (hL (i+1) σ' ⟨h,hq⟩)
   have c1:=ym s.cls[i] (hs.cl _ (List.getElem_mem h)).l
   clear hL hs
   generalize s.cls[i]=v at *
   by_cases hz:wrongC v=0
   ·rw [if_pos hz] at hR
    rw [hz] at c1
    exact wkl trivial
   ·rw [if_neg hz,if_neg hz] at hR
    generalize wrongC v=W at *
    exact wkl trivial
  ·rw [Cw h,if_pos rfl] at hR
   clear hL
   unfold Xn at hR
   refine wkl ?_
   clear hR; intro hR
   have hR':Hr (intD (if fstE cnE (s.cns.drop 0)=0 then (if fstE chE s.chs=0 then mksS s else fstE chE s.chs) else fstE cnE (s.cns.drop 0))) R:=hR
   clear hR
   refine aT (ι:=Nat) (fun i=>i<=s.cns.length/\Hr (intD (if fstE cnE (s.cns.drop i)=0 then (if fstE chE s.chs=0 then mksS s else fstE chE s.chs) else fstE cnE (s.cns.drop i))) R)
    (fun i=>dW [(1,.pt 100 0 0 0),(85,intD s.cns.length),(86,intD i)] [(100,.box ((encSt s).map .i))]) (fun i=>s.cns.length - i) 0 ⟨Nat.zero_le _,hR'⟩ ?_ ?_
   ·exact dF [] [(100,100)]
   ·rintro i ⟨hi,hR⟩ RL hL
    clear hR'
    rw [au]
    by_cases h:i < s.cns.length
    ·have e1:=get_lt (f:=dA) h
     rw [Cv h] at hR
     have b1:=fun σ' (hq:Hr _ R)=>bk [] [(100,100)] (hL (i+1) σ' ⟨h,hq⟩)
     have c1:=RH s.cns[i]
     clear hL hs
     generalize s.cns[i]=v at *
     by_cases hz:cnE v=0
     ·rw [if_pos hz] at hR
      rw [hz] at c1
      exact wkl trivial
     ·rw [if_neg hz,if_neg hz] at hR
      generalize cnE v=W at *
      exact wkl trivial
    ·rw [Cw h,if_pos rfl] at hR
     clear hL
     refine wkl ?_
     clear hR; intro hR
     have hR':Hr (intD (if fstE chE (s.chs.drop 0)=0 then mksS s else fstE chE (s.chs.drop 0))) R:=hR
     clear hR
     refine aT (ι:=Nat) (fun i=>i<=s.chs.length/\Hr (intD (if fstE chE (s.chs.drop i)=0 then mksS s else fstE chE (s.chs.drop i))) R)
      (fun i=>dW [(1,.pt 100 0 0 0),(100,intD s.chs.length),(101,intD i)] [(100,.box ((encSt s).map .i))]) (fun i=>s.chs.length - i) 0 ⟨Nat.zero_le _,hR'⟩ ?_ ?_
     ·exact dF [] [(100,100)]
     ·rintro i ⟨hi,hR⟩ RL hL
      clear hR'
      rw [au]
      by_cases h:i < s.chs.length
      ·have e1:=get_lt (f:=bu) h
       rw [Cv h] at hR
       have b1:=fun σ' (hq:Hr _ R)=>bk [] [(100,100)] (hL (i+1) σ' ⟨h,hq⟩)
       have c1:=RI s.chs[i]
       clear hL hs
       generalize s.chs[i]=v at *
       by_cases hz:chE v=0
       ·rw [if_pos hz] at hR
        rw [hz] at c1
        exact wkl trivial
       ·rw [if_neg hz,if_neg hz] at hR
        generalize chE v=W at *
        exact wkl trivial
      ·rw [Cw h,if_pos rfl] at hR
       clear hL
       unfold mksS at hR
       refine wkl ?_
       clear hR; intro hR
       have hR':Hr (intD (mrk s 0)) R:=hR
       clear hR
       refine aT (ι:=Nat) (fun i=>i<=3/\Hr (intD (mrk s i)) R)
        (fun i=>dW [(1,.pt 100 0 0 0),(119,.os 101 1 0 3),(120,intD 3),(121,intD i)] [(100,.box ((encSt s).map .i)),(101,.arr 1 [[.sl (s.sent.map bq)],[.sl (s.got.map bq)],[.sl (s.acks.map bq)]])]) (fun i=>3 - i) 0 ⟨Nat.zero_le _,hR'⟩ ?_ ?_
       ·exact dF [] [(100,100),(101,8174)]
       ·rintro i ⟨hi,hR⟩ RL hL
        clear hR' hs
        rw [au]
        have b1:=fun σ' (h:i+1<=3) (hq:Hr _ R)=>bk [] [(100,100),(101,101)] (hL (i+1) σ' ⟨h,hq⟩)
        clear hL
        match i,hi with
        | 0,_ =>
         have c1:=wG s.sent l4
         have b1:=fun σ' (hq:Hr (intD (mrk s 1)) R)=>b1 σ' (by omega) hq
         simp only [mrk] at b1
         by_cases hz:oP none s.sent=0
         ·simp only [mrk,mksS,hz,if_true] at hR
          rw [hz] at c1
          exact wkl trivial
         ·simp only [mrk,mksS,hz,if_false] at hR
          generalize oP none s.sent=W at *
          exact wkl trivial
        | 1,_ =>
         have c1:=wG s.got l5
         have b1:=fun σ' (hq:Hr (intD (mrk s 2)) R)=>b1 σ' (by omega) hq
         simp only [mrk] at b1
         by_cases hz:oP none s.got=0
         ·simp only [mrk,hz,if_true] at hR
          rw [hz] at c1
          exact wkl trivial
         ·simp only [mrk,hz,if_false] at hR
          generalize oP none s.got=W at *
          exact wkl trivial
        | 2,_ =>
         have c1:=wG s.acks l6
         have b1:=fun σ' (hq:Hr (intD (mrk s 3)) R)=>b1 σ' (by omega) hq
         simp only [mrk] at b1
         by_cases hz:oP none s.acks=0
         ·simp only [mrk,hz,if_true] at hR
          rw [hz] at c1
          exact wkl trivial
         ·simp only [mrk,hz,if_false] at hR
          generalize oP none s.acks=W at *
          exact wkl trivial
        | 3,_ =>
         have c1:=Ig s.pus l7
         clear b1
         simp only [mrk] at hR
         exact wkl trivial
end Go.Proofs.YtkbbipgjmoanhaaGreatDoor
