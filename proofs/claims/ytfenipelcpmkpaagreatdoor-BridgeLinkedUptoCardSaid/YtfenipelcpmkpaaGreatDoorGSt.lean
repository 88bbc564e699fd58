/- Merged texts: StP, StS, ClnCl, ClnCn, ClnCh, ClnMk, ClnPu, StO, StW, StWr. -/
import Derived.Test.YtfenipelcpmkpaaGreatDoorGCl
set_option linter.all false
set_option maxHeartbeats 16000000
set_option maxRecDepth 20000
namespace Go.Proofs.YtfenipelcpmkpaaGreatDoor
open Go Go.Abs
structure ConnD where
 st:Int
 cl:Int
 oc:Int
 on:Int
structure ChanD where
 st:Int
 ord:Bool
 cn:Int
 oc:Int
 snd:Int
 rcv:Int
 ack:Int
structure bD where
 ch:Int
 seq:Int
 dg:List UInt8
structure StateD where
 name:ByteArray
 h:Int
 t:Int
 cls:List aG
 cns:List ConnD
 chs:List ChanD
 sent:List bD
 got:List bD
 acks:List bD
 pus:List PurseD
def dW (c:ConnD):List I:=[.s (.int .i64 c.st),.s (.int .i64 c.cl),.s (.int .i64 c.oc),.s (.int .i64 c.on)]
def connD (c:ConnD):D:=.agg [.i (.s (.int .i64 c.st)),.i (.s (.int .i64 c.cl)),.i (.s (.int .i64 c.oc)),.i (.s (.int .i64 c.on))]
def bM (c:ChanD):List I:=[.s (.int .i64 c.st),.s (.bool c.ord),.s (.int .i64 c.cn),.s (.int .i64 c.oc),.s (.int .i64 c.snd),.s (.int .i64 c.rcv),.s (.int .i64 c.ack)]
def chanD (c:ChanD):D:=.agg [.i (.s (.int .i64 c.st)),.i (.s (.bool c.ord)),.i (.s (.int .i64 c.cn)),.i (.s (.int .i64 c.oc)),.i (.s (.int .i64 c.snd)),.i (.s (.int .i64 c.rcv)),.i (.s (.int .i64 c.ack))]
def bN (m:bD):List I:=[.s (.int .i64 m.ch),.s (.int .i64 m.seq),bI m.dg]
def IA (m:bD):D:=.agg [.i (.s (.int .i64 m.ch)),.i (.s (.int .i64 m.seq)),.i (bI m.dg)]
def encSt (s:StateD):List I:=[.s (.string s.name),.s (.int .i64 s.h),.s (.int .i64 s.t),.sl (s.cls.map gW),.sl (s.cns.map dW),.sl (s.chs.map bM),.sl (s.sent.map bN),.sl (s.got.map bN),.sl (s.acks.map bN),.sl (s.pus.map a_)]
def stateD (s:StateD):D:=.agg [.i (.s (.string s.name)),.i (.s (.int .i64 s.h)),.i (.s (.int .i64 s.t)),.i (.sl (s.cls.map gW)),.i (.sl (s.cns.map dW)),.i (.sl (s.chs.map bM)),.i (.sl (s.sent.map bN)),.i (.sl (s.got.map bN)),.i (.sl (s.acks.map bN)),.i (.sl (s.pus.map a_))]
def zeroSt:StateD:=⟨⟨#[]⟩,0,0,[],[],[],[],[],[],[]⟩
structure StSm (s:StateD):Prop where
 cls:s.cls.length<=1048576
 cl:∀ c∈s.cls,aap c
 cns:s.cns.length<=1048576
 chs:s.chs.length<=1048576
 sent:s.sent.length<=1048576
 got:s.got.length<=1048576
 acks:s.acks.length<=1048576
 dg:∀ m,m∈s.sent\/m∈s.got\/m∈s.acks->m.dg.length<=1048576
 pus:s.pus.length<=1048576
attribute [simp,go_sem] dW connD bM chanD bN IA encSt stateD zeroSt a_ puD eO
def nm (n least:Int):Bool:=decide (least<=n/\n<=1000000000000)
def cnE (c:ConnD):Int:=if c.st < 1\/3 < c.st then 1 else if ¬ nm c.cl 0=true\/¬ nm c.oc 0=true\/¬ nm c.on (-1)=true then 3 else 0
def chE (c:ChanD):Int:=if c.st < 1\/4 < c.st then 1 else if ¬ nm c.cn 0=true\/¬ nm c.oc (-1)=true\/¬ nm c.snd 1=true\/¬ nm c.rcv 1=true\/¬ nm c.ack 1=true then 3 else 0
def jG (m:bD) (ch seq:Int):Int:=if m.ch=ch then IntKind.i64.wrap (m.seq - seq) else IntKind.i64.wrap (m.ch - ch)
def FL {α:Type} (l:List α) (i:Nat):Option α:=if i=0 then none else l[i - 1]?
def qo:Option bD->List bD->Int
 | _,[]=>0
 | o,m :: t=>if ¬ nm m.ch 0=true\/¬ nm m.seq 1=true then 3 else if ¬ (m.dg.length:Int)=32 then 2 else if (o.any fun q=>decide (0<=jG q m.ch m.seq))=true then 2 else qo (some m) t
def Iq:Option PurseD->List PurseD->Int
 | _,[]=>0
 | o,p :: t=>if (p.o.size:Int) < 1\/(40:Int) < p.o.size\/(p.d.size:Int) < 1\/(40:Int) < p.d.size then 4 else if p.n=0 then 3 else if (o.any fun q=>decide (0 < lg q.o p.o\/q.o=p.o/\0<=lg q.d p.d))=true then 2 else Iq (some p) t
def fstE {α:Type} (f:α->Int):List α->Int
 | []=>0
 | a :: t=>if f a=0 then fstE f t else f a
def mksS (s:StateD):Int:=if qo none s.sent=0 then (if qo none s.got=0 then (if qo none s.acks=0 then Iq none s.pus else qo none s.acks) else qo none s.got) else qo none s.sent
def Zz (s:StateD):Int:=if fstE cnE s.cns=0 then (if fstE chE s.chs=0 then mksS s else fstE chE s.chs) else fstE cnE s.cns
def bu (s:StateD):Int :=
 if iy s.name=true then
  (if ¬ m_ s.h=true\/¬ m_ s.t=true then 3
  else if (4:Int) < s.cls.length\/(8:Int) < s.cns.length\/(8:Int) < s.chs.length\/(50:Int) < s.sent.length\/(50:Int) < s.got.length\/(50:Int) < s.acks.length\/(60:Int) < s.pus.length then 5
  else if fstE wrongC s.cls=0 then Zz s else fstE wrongC s.cls)
 else 7
open Go.RowKit Go.Proofs.YtfenipelcpmkpaaGreatDoor.Ty
theorem xC:(type_of% @Ty.T0)/\(type_of% @Ty.T3)/\(type_of% @Ty.T4)/\(type_of% @Ty.T5)/\(type_of% @Ty.T9)/\(type_of% @Ty.T22)/\(type_of% @Ty.T29)/\(type_of% @Ty.T35)/\(type_of% @Ty.T37)/\(type_of% @Ty.T72):=⟨@Ty.T0,@Ty.T3,@Ty.T4,@Ty.T5,@Ty.T9,@Ty.T22,@Ty.T29,@Ty.T35,@Ty.T37,@Ty.T72⟩
theorem XN (l:List aG):uni 4 (l.map gW)=true:=by simp [uni,gW]
theorem RB (l:List aG) (hl:l.length<=1048576):aN Tryz.prog 167 [.i (.sl (l.map gW))] noH (.os 1 4 0 l.length) (hOf noH [(1,.arr 4 (l.map gW))]):=by
 cases l with
 | nil =>
  refine jv (fU Tryz.func167 rfl rfl) fun K vs hrd=>?_
  obtain ⟨hs,hg⟩:=hrd
  obtain ⟨a,c,hv⟩:=sl_nil (hg 0 _ rfl)
  refine ⟨[.i (.s (.slice a 0 c))],?_,hs,fun j d hd=>?_⟩
  ·have hun:=ab_
   refine aa 8 Tryz.func167 rfl rfl rfl (fun _ _=>rfl) ?_
   cases a with
   | none =>
    simp -implicitDefEqProofs only [ev,mixed,Nat.reduceLT,Nat.reduceAdd,Nat.reduceMul,reduceIte,Nat.reduceEqDiff,reduceCtorEq,Nat.reducePow,Nat.reduceLeDiff,Int.reduceLE,Int.reduceLT,Int.reduceToNat,Int.reduceEq,Nat.reduceBEq,dV,gdA,af,il,kE,ixQ,ldH,aF,aj,bC,faQ,exQ,kU,dO,bS,slQ,stH,kV,kW,aS,bq,ae,D.one,jP,dH,dX,cvH,xC,dR hun,Option.isNone_none]
    exact Ah [] []
   | some a =>
    simp -implicitDefEqProofs only [ev,mixed,Nat.reduceLT,Nat.reduceAdd,Nat.reduceMul,reduceIte,Nat.reduceEqDiff,reduceCtorEq,Nat.reducePow,Nat.reduceLeDiff,Int.reduceLE,Int.reduceLT,Int.reduceToNat,Int.reduceEq,Nat.reduceBEq,dV,gdA,af,il,kE,ixQ,ldH,aF,aj,bC,faQ,exQ,kU,dO,bS,slQ,stH,kV,kW,aS,bq,ae,D.one,jP,dH,dX,cvH,xC,dR hun,Option.isNone_some]
    exact Ah [] [(1,1770)]
  ·cases j with
   | zero=>simp at hd; subst hd; rw [hv]; exact .i (.s _ rfl)
   | succ j=>simp at hd
 | cons p t =>
  have hu:=XN t
  have e3:t.length+1<=140737488355328:=by simp at hl; omega
  have e4:(t.length+1) * 56<=140737488355328:=by simp at hl; omega
  have e5:(gW p).length=4:=rfl
  refine aa 8 Tryz.func167 rfl rfl rfl (fun _ _=>rfl) ?_
  refine gx (an (an (an (an (an (an (an xC hu) e3) e4) e5) @List.map_cons.{0,0}) @List.length_cons.{0}) @List.length_map.{0,0}) ?_
  exact Ah [] [(1,1770)]
theorem xB:(type_of% @Ty.T0)/\(type_of% @Ty.T3)/\(type_of% @Ty.T23)/\(type_of% @Ty.adr):=⟨@Ty.T0,@Ty.T3,@Ty.T23,@Ty.adr⟩
theorem XM (l:List ConnD):uni 4 (l.map dW)=true:=by simp [uni,dW]
theorem RA (l:List ConnD) (hl:l.length<=1048576):aN Tryz.prog 168 [.i (.sl (l.map dW))] noH (.os 1 4 0 l.length) (hOf noH [(1,.arr 4 (l.map dW))]):=by
 cases l with
 | nil =>
  refine jv (fU Tryz.func168 rfl rfl) fun K vs hrd=>?_
  obtain ⟨hs,hg⟩:=hrd
  obtain ⟨a,c,hv⟩:=sl_nil (hg 0 _ rfl)
  refine ⟨[.i (.s (.slice a 0 c))],?_,hs,fun j d hd=>?_⟩
  ·have hun:=abZ
   refine aa 8 Tryz.func168 rfl rfl rfl (fun _ _=>rfl) ?_
   cases a with
   | none =>
    simp -implicitDefEqProofs only [ev,mixed,Nat.reduceLT,Nat.reduceAdd,Nat.reduceMul,reduceIte,Nat.reduceEqDiff,reduceCtorEq,Nat.reducePow,Nat.reduceLeDiff,Int.reduceLE,Int.reduceLT,Int.reduceToNat,Int.reduceEq,Nat.reduceBEq,dV,gdA,af,il,kE,ixQ,ldH,aF,aj,bC,faQ,exQ,kU,dO,bS,slQ,stH,kV,kW,aS,bq,ae,D.one,jP,dH,dX,cvH,xB,dR hun,Option.isNone_none]
    exact Ah [] []
   | some a =>
    simp -implicitDefEqProofs only [ev,mixed,Nat.reduceLT,Nat.reduceAdd,Nat.reduceMul,reduceIte,Nat.reduceEqDiff,reduceCtorEq,Nat.reducePow,Nat.reduceLeDiff,Int.reduceLE,Int.reduceLT,Int.reduceToNat,Int.reduceEq,Nat.reduceBEq,dV,gdA,af,il,kE,ixQ,ldH,aF,aj,bC,faQ,exQ,kU,dO,bS,slQ,stH,kV,kW,aS,bq,ae,D.one,jP,dH,dX,cvH,xB,dR hun,Option.isNone_some]
    exact Ah [] [(1,1770)]
  ·cases j with
   | zero=>simp at hd; subst hd; rw [hv]; exact .i (.s _ rfl)
   | succ j=>simp at hd
 | cons p t =>
  have hu:=XM t
  have e3:t.length+1<=140737488355328:=by simp at hl; omega
  have e4:(t.length+1) * 32<=140737488355328:=by simp at hl; omega
  have e5:(dW p).length=4:=rfl
  refine aa 8 Tryz.func168 rfl rfl rfl (fun _ _=>rfl) ?_
  refine gx (an (an (an (an (an (an (an xB hu) e3) e4) e5) @List.map_cons.{0,0}) @List.length_cons.{0}) @List.length_map.{0,0}) ?_
  exact Ah [] [(1,1770)]
theorem xD:(type_of% @Ty.T0)/\(type_of% @Ty.T3)/\(type_of% @Ty.T4)/\(type_of% @Ty.T24)/\(type_of% @Ty.adq):=⟨@Ty.T0,@Ty.T3,@Ty.T4,@Ty.T24,@Ty.adq⟩
theorem XO (l:List ChanD):uni 7 (l.map bM)=true:=by simp [uni,bM]
theorem RD (l:List ChanD) (hl:l.length<=1048576):aN Tryz.prog 169 [.i (.sl (l.map bM))] noH (.os 1 7 0 l.length) (hOf noH [(1,.arr 7 (l.map bM))]):=by
 cases l with
 | nil =>
  refine jv (fU Tryz.func169 rfl rfl) fun K vs hrd=>?_
  obtain ⟨hs,hg⟩:=hrd
  obtain ⟨a,c,hv⟩:=sl_nil (hg 0 _ rfl)
  refine ⟨[.i (.s (.slice a 0 c))],?_,hs,fun j d hd=>?_⟩
  ·have hun:=abY
   refine aa 8 Tryz.func169 rfl rfl rfl (fun _ _=>rfl) ?_
   cases a with
   | none =>
    simp -implicitDefEqProofs only [ev,mixed,Nat.reduceLT,Nat.reduceAdd,Nat.reduceMul,reduceIte,Nat.reduceEqDiff,reduceCtorEq,Nat.reducePow,Nat.reduceLeDiff,Int.reduceLE,Int.reduceLT,Int.reduceToNat,Int.reduceEq,Nat.reduceBEq,dV,gdA,af,il,kE,ixQ,ldH,aF,aj,bC,faQ,exQ,kU,dO,bS,slQ,stH,kV,kW,aS,bq,ae,D.one,jP,dH,dX,cvH,xD,dR hun,Option.isNone_none]
    exact Ah [] []
   | some a =>
    simp -implicitDefEqProofs only [ev,mixed,Nat.reduceLT,Nat.reduceAdd,Nat.reduceMul,reduceIte,Nat.reduceEqDiff,reduceCtorEq,Nat.reducePow,Nat.reduceLeDiff,Int.reduceLE,Int.reduceLT,Int.reduceToNat,Int.reduceEq,Nat.reduceBEq,dV,gdA,af,il,kE,ixQ,ldH,aF,aj,bC,faQ,exQ,kU,dO,bS,slQ,stH,kV,kW,aS,bq,ae,D.one,jP,dH,dX,cvH,xD,dR hun,Option.isNone_some]
    exact Ah [] [(1,1770)]
  ·cases j with
   | zero=>simp at hd; subst hd; rw [hv]; exact .i (.s _ rfl)
   | succ j=>simp at hd
 | cons p t =>
  have hu:=XO t
  have e3:t.length+1<=140737488355328:=by simp at hl; omega
  have e4:(t.length+1) * 56<=140737488355328:=by simp at hl; omega
  have e5:(bM p).length=7:=rfl
  refine aa 8 Tryz.func169 rfl rfl rfl (fun _ _=>rfl) ?_
  refine gx (an (an (an (an (an (an (an xD hu) e3) e4) e5) @List.map_cons.{0,0}) @List.length_cons.{0}) @List.length_map.{0,0}) ?_
  exact Ah [] [(1,1770)]
theorem xz:(type_of% @Ty.T0)/\(type_of% @Ty.T3)/\(type_of% @Ty.T5)/\(type_of% @Ty.T25)/\(type_of% @Ty.T29)/\(type_of% @Ty.adn):=⟨@Ty.T0,@Ty.T3,@Ty.T5,@Ty.T25,@Ty.T29,@Ty.adn⟩
theorem XK (l:List bD):uni 3 (l.map bN)=true:=by simp [uni,bN]
theorem zN (l:List bD) (hl:l.length<=1048576):aN Tryz.prog 171 [.i (.sl (l.map bN))] noH (.os 1 3 0 l.length) (hOf noH [(1,.arr 3 (l.map bN))]):=by
 cases l with
 | nil =>
  refine jv (fU Tryz.func171 rfl rfl) fun K vs hrd=>?_
  obtain ⟨hs,hg⟩:=hrd
  obtain ⟨a,c,hv⟩:=sl_nil (hg 0 _ rfl)
  refine ⟨[.i (.s (.slice a 0 c))],?_,hs,fun j d hd=>?_⟩
  ·have hun:=abX
   refine aa 8 Tryz.func171 rfl rfl rfl (fun _ _=>rfl) ?_
   cases a with
   | none =>
    simp -implicitDefEqProofs only [ev,mixed,Nat.reduceLT,Nat.reduceAdd,Nat.reduceMul,reduceIte,Nat.reduceEqDiff,reduceCtorEq,Nat.reducePow,Nat.reduceLeDiff,Int.reduceLE,Int.reduceLT,Int.reduceToNat,Int.reduceEq,Nat.reduceBEq,dV,gdA,af,il,kE,ixQ,ldH,aF,aj,bC,faQ,exQ,kU,dO,bS,slQ,stH,kV,kW,aS,bq,ae,D.one,jP,dH,dX,cvH,xz,dR hun,Option.isNone_none]
    exact Ah [] []
   | some a =>
    simp -implicitDefEqProofs only [ev,mixed,Nat.reduceLT,Nat.reduceAdd,Nat.reduceMul,reduceIte,Nat.reduceEqDiff,reduceCtorEq,Nat.reducePow,Nat.reduceLeDiff,Int.reduceLE,Int.reduceLT,Int.reduceToNat,Int.reduceEq,Nat.reduceBEq,dV,gdA,af,il,kE,ixQ,ldH,aF,aj,bC,faQ,exQ,kU,dO,bS,slQ,stH,kV,kW,aS,bq,ae,D.one,jP,dH,dX,cvH,xz,dR hun,Option.isNone_some]
    exact Ah [] [(1,1770)]
  ·cases j with
   | zero=>simp at hd; subst hd; rw [hv]; exact .i (.s _ rfl)
   | succ j=>simp at hd
 | cons p t =>
  have hu:=XK t
  have e3:t.length+1<=140737488355328:=by simp at hl; omega
  have e4:(t.length+1) * 40<=140737488355328:=by simp at hl; omega
  have e5:(bN p).length=3:=rfl
  refine aa 8 Tryz.func171 rfl rfl rfl (fun _ _=>rfl) ?_
  refine gx (an (an (an (an (an (an (an xz hu) e3) e4) e5) @List.map_cons.{0,0}) @List.length_cons.{0}) @List.length_map.{0,0}) ?_
  exact Ah [] [(1,1770)]
theorem xy:(type_of% @Ty.T0)/\(type_of% @Ty.T9)/\(type_of% @Ty.T26)/\(type_of% @Ty.T54)/\(type_of% @Ty.adg):=⟨@Ty.T0,@Ty.T9,@Ty.T26,@Ty.T54,@Ty.adg⟩
theorem XJ (l:List PurseD):uni 3 (l.map a_)=true:=by simp [uni,a_]
theorem Rz (l:List PurseD) (hl:l.length<=1048576):aN Tryz.prog 170 [.i (.sl (l.map a_))] noH (.os 1 3 0 l.length) (hOf noH [(1,.arr 3 (l.map a_))]):=by
 cases l with
 | nil =>
  refine jv (fU Tryz.func170 rfl rfl) fun K vs hrd=>?_
  obtain ⟨hs,hg⟩:=hrd
  obtain ⟨a,c,hv⟩:=sl_nil (hg 0 _ rfl)
  refine ⟨[.i (.s (.slice a 0 c))],?_,hs,fun j d hd=>?_⟩
  ·have hun:=abW
   refine aa 8 Tryz.func170 rfl rfl rfl (fun _ _=>rfl) ?_
   cases a with
   | none =>
    simp -implicitDefEqProofs only [ev,mixed,Nat.reduceLT,Nat.reduceAdd,Nat.reduceMul,reduceIte,Nat.reduceEqDiff,reduceCtorEq,Nat.reducePow,Nat.reduceLeDiff,Int.reduceLE,Int.reduceLT,Int.reduceToNat,Int.reduceEq,Nat.reduceBEq,dV,gdA,af,il,kE,ixQ,ldH,aF,aj,bC,faQ,exQ,kU,dO,bS,slQ,stH,kV,kW,aS,bq,ae,D.one,jP,dH,dX,cvH,xy,dR hun,Option.isNone_none]
    exact Ah [] []
   | some a =>
    simp -implicitDefEqProofs only [ev,mixed,Nat.reduceLT,Nat.reduceAdd,Nat.reduceMul,reduceIte,Nat.reduceEqDiff,reduceCtorEq,Nat.reducePow,Nat.reduceLeDiff,Int.reduceLE,Int.reduceLT,Int.reduceToNat,Int.reduceEq,Nat.reduceBEq,dV,gdA,af,il,kE,ixQ,ldH,aF,aj,bC,faQ,exQ,kU,dO,bS,slQ,stH,kV,kW,aS,bq,ae,D.one,jP,dH,dX,cvH,xy,dR hun,Option.isNone_some]
    exact Ah [] [(1,1770)]
  ·cases j with
   | zero=>simp at hd; subst hd; rw [hv]; exact .i (.s _ rfl)
   | succ j=>simp at hd
 | cons p t =>
  have hu:=XJ t
  have e3:t.length+1<=140737488355328:=by simp at hl; omega
  have e4:(t.length+1) * 40<=140737488355328:=by simp at hl; omega
  have e5:(a_ p).length=3:=rfl
  refine aa 8 Tryz.func170 rfl rfl rfl (fun _ _=>rfl) ?_
  refine gx (an (an (an (an (an (an (an xy hu) e3) e4) e5) @List.map_cons.{0,0}) @List.length_cons.{0}) @List.length_map.{0,0}) ?_
  exact Ah [] [(1,1770)]
def aca (s:StateD) (k:Nat):List D:=[.i (.s (.string s.name)),.i (.s (.int .i64 s.h)),.i (.s (.int .i64 s.t)),.os 102 4 0 s.cls.length,.os 103 4 0 s.cns.length,.os 104 7 0 s.chs.length,
 if 0 < k then .os 110 3 0 s.sent.length else .i (.sl (s.sent.map bN)),if 1 < k then .os 111 3 0 s.got.length else .i (.sl (s.got.map bN)),if 2 < k then .os 112 3 0 s.acks.length else .i (.sl (s.acks.map bN)),.os 105 3 0 s.pus.length]
def YA (s:StateD) (k:Nat):List (Nat × Ob):=[(100,.box (aca s k)),(101,.box ((encSt zeroSt).map .i)),(102,.arr 4 (s.cls.map gW)),(103,.arr 4 (s.cns.map dW)),(104,.arr 7 (s.chs.map bM)),(105,.arr 3 (s.pus.map a_)),(106,.box [.pt 100 0 0 6,.pt 100 0 0 7,.pt 100 0 0 8]),
 (110,if 0 < k then .arr 3 (s.sent.map bN) else .dead),(111,if 1 < k then .arr 3 (s.got.map bN) else .dead),(112,if 2 < k then .arr 3 (s.acks.map bN) else .dead)]
attribute [local simp] Oj zA
attribute [local simp,local go_sem] aca YA
theorem kN (s:StateD) (hs:StSm s):aN Tryz.prog 121 [stateD s] noH
  (.agg [.i (.s (.string s.name)),.i (.s (.int .i64 s.h)),.i (.s (.int .i64 s.t)),.os 1 4 0 s.cls.length,.os 2 4 0 s.cns.length,.os 3 7 0 s.chs.length,.os 4 3 0 s.sent.length,.os 5 3 0 s.got.length,.os 6 3 0 s.acks.length,.os 7 3 0 s.pus.length])
  (hOf noH [(1,.arr 4 (s.cls.map gW)),(2,.arr 4 (s.cns.map dW)),(3,.arr 7 (s.chs.map bM)),(4,.arr 3 (s.sent.map bN)),(5,.arr 3 (s.got.map bN)),(6,.arr 3 (s.acks.map bN)),(7,.arr 3 (s.pus.map a_))]):=by
 refine gX fun R R' hR hR'=>?_
 have l1:=hs.cls
 have l2:=hs.cns
 have l3:=hs.chs
 have l7:=hs.pus
 have e1:=RB s.cls l1
 refine aa 117 Tryz.func121 rfl rfl rfl (fun _ _=>rfl) ?_
 refine wkl ?_
 clear hR; intro hR
 refine aZ (ι:=Nat) (fun i=>i<=s.cls.length)
  (fun i=>ek [(1,.pt 100 0 0 0),(2,.pt 101 0 0 0),(16,.os 102 4 0 s.cls.length),(17,intD s.cls.length),(18,intD i)]
   [(100,.box [.i (.s (.string s.name)),.i (.s (.int .i64 s.h)),.i (.s (.int .i64 s.t)),.os 102 4 0 s.cls.length,.i (.sl (s.cns.map dW)),.i (.sl (s.chs.map bM)),.i (.sl (s.sent.map bN)),.i (.sl (s.got.map bN)),.i (.sl (s.acks.map bN)),.i (.sl (s.pus.map a_))]),
    (101,.box ((encSt zeroSt).map .i)),(102,.tab 4 (toD (s.cls.map gW)))])
  (fun i=>s.cls.length - i) 0 (Nat.zero_le _) ?_ ?_
 ·exact dP [] [(100,1000),(101,1001),(102,901)]
 ·rintro i hi RL hL
  rw [au]
  by_cases h:i < s.cls.length
  ·have hc:=hs.cl _ (List.getElem_mem h)
   have hcl:=hc.l
   have t1:=Ud (f:=gW) h
   have t2:=fun row=>Ul (f:=gW) h row
   have t3:=fun (H:Nat->Ob) (F:List Nat) (g:Nat->Option Nat) (o sz off n:Nat) (ho:F.contains o=true) (he:ae H (.os o sz off n)=some ((s.cls[i]'h).known.map jw))=>MO (f:=gW) h (H:=H) (F:=F) (s:=g) (.s (.string s.cls[i].c)) (.s (.int .i64 s.cls[i].trust)) (.s (.bool s.cls[i].frozen)) (s.cls[i].known.map jw) rfl o sz off n ho he
   have t4:=fun (H:Nat->Ob) (F:List Nat) (g:Nat->Option Nat) (a b d:I) (o o' sz off n:Nat) (hh:g o'=some o)=>Rl (f:=gW) (l:=s.cls) (i:=i) (H:=H) (F:=F) (s:=g) a b d o o' sz off n hh
   have t5:=fun row hr=>WK (f:=gW) (l:=s.cls) (i:=i) row hr
   have e2:=zO s.cls[i].known hcl
   have hkn:=hc.k
   have b1:=fun σ'=>bk [103] [(100,100),(101,101),(102,102)] (hL (i+1) σ' h)
   clear hL e1 hc
   generalize s.cls[i]=c at *
   refine wkl ?_
   clear hR; intro hR
   refine aZ (ι:=Nat) (fun j=>j<=c.known.length)
    (fun j=>ek [(1,.pt 100 0 0 0),(2,.pt 101 0 0 0),(3,intD i),(16,.os 102 4 0 s.cls.length),(17,intD s.cls.length),(18,intD i),(36,.os 103 4 0 c.known.length),(37,intD c.known.length),(38,intD j)]
     [(100,.box [.i (.s (.string s.name)),.i (.s (.int .i64 s.h)),.i (.s (.int .i64 s.t)),.os 102 4 0 s.cls.length,.i (.sl (s.cns.map dW)),.i (.sl (s.chs.map bM)),.i (.sl (s.sent.map bN)),.i (.sl (s.got.map bN)),.i (.sl (s.acks.map bN)),.i (.sl (s.pus.map a_))]),
      (101,.box ((encSt zeroSt).map .i)),(102,.tab 4 ((toD (s.cls.map gW)).set i [.i (.s (.string c.c)),.i (.s (.int .i64 c.trust)),.i (.s (.bool c.frozen)),.os 103 4 0 c.known.length])),(103,.arr 4 (c.known.map jw))])
    (fun j=>c.known.length - j) 0 (Nat.zero_le _) ?_ ?_
   ·exact dP [] [(100,100),(101,101),(102,102),(103,901)]
   ·rintro j hj RL2 hL2
    rw [au]
    by_cases h':j < c.known.length
    ·have s0:=aH (f:=jw) h'
     have s1:=p_ (f:=jw) h'
     have hk:=hkn _ (List.getElem_mem h')
     have c1:=dZ c.known[j].root (by have:=hk.r; omega)
     have c2:=dZ c.known[j].next (by have:=hk.n; omega)
     have b2:=fun σ'=>bk [] [(100,100),(101,101),(102,102),(103,103)] (hL2 (j+1) σ' h')
     clear hL2 hk hkn b1 e2
     generalize c.known[j]=k at *
     simp only [jw,bI] at s0 s1
     exact wkl trivial
    ·clear hL2
     exact wkl trivial
  ·clear hL e1
   have e1:=RA s.cns l2
   have e2:=RD s.chs l3
   have e3:=Rz s.pus l7
   have r1:=aab (P:=Tryz.prog) (t:=273) (e:=272) (by kernel_rfl) (by kernel_rfl) (by kernel_rfl)
   refine wkl ?_
   clear hR; intro hR
   refine aZ (ι:=Nat) (fun k=>k<=3) (fun k=>ek [(1,.pt 100 0 0 0),(2,.pt 101 0 0 0),(84,.bs 106 0 3),(85,intD 3),(86,intD k)] (YA s k)) (fun k=>3 - k) 0 (Nat.zero_le _) ?_ ?_
   ·exact dP [] [(100,100),(101,101),(102,102),(103,901),(104,902),(105,903),(106,4331),(110,950),(111,951),(112,952)]
   ·rintro k hk RL hL
    rw [au]
    have b1:=fun σ' (h:k+1<=3)=>bk [] [(100,100),(101,101),(102,102),(103,103),(104,104),(105,105),(106,106),(110,110),(111,111),(112,112)] (hL (k+1) σ' h)
    clear hL e1 e2 e3
    have l4:=hs.sent
    have l5:=hs.got
    have l6:=hs.acks
    match k,hk with
    | 0,_ =>
     have e1:=zN s.sent l4
     have b1:=fun σ'=>b1 σ' (by omega)
     refine wkl ?_
     clear hR; intro hR
     refine aZ (ι:=Nat) (fun j=>j<=s.sent.length) (fun j=>ek [(1,.pt 100 0 0 0),(2,.pt 101 0 0 0),(8,.pt 100 0 0 6),(84,.bs 106 0 3),(85,intD 3),(86,intD 0),(98,.os 110 3 0 s.sent.length),(99,intD s.sent.length),(100,intD j)] (YA s 1)) (fun j=>s.sent.length - j) 0 (Nat.zero_le _) ?_ ?_
     ·exact dP [] [(100,100),(101,101),(102,102),(103,103),(104,104),(105,105),(106,106),(110,901),(111,111),(112,112)]
     ·rintro j hj RL2 hL2
      rw [au]
      by_cases h':j < s.sent.length
      ·have s0:=aH (f:=bN) h'
       have s1:=p_ (f:=bN) h'
       have hd:=hs.dg _ (.inl (List.getElem_mem h'))
       have c1:=dZ s.sent[j].dg (by omega)
       have b2:=fun σ'=>bk [] [(100,100),(101,101),(102,102),(103,103),(104,104),(105,105),(106,106),(110,110),(111,111),(112,112)] (hL2 (j+1) σ' h')
       clear hL2 b1 hd e1
       generalize s.sent[j]=m at *
       simp only [bN,bI] at s0 s1
       exact wkl trivial
      ·clear hL2 e1
       exact wkl trivial
    | 1,_ =>
     have e1:=zN s.got l5
     have b1:=fun σ'=>b1 σ' (by omega)
     refine wkl ?_
     clear hR; intro hR
     refine aZ (ι:=Nat) (fun j=>j<=s.got.length) (fun j=>ek [(1,.pt 100 0 0 0),(2,.pt 101 0 0 0),(8,.pt 100 0 0 7),(84,.bs 106 0 3),(85,intD 3),(86,intD 1),(98,.os 111 3 0 s.got.length),(99,intD s.got.length),(100,intD j)] (YA s 2)) (fun j=>s.got.length - j) 0 (Nat.zero_le _) ?_ ?_
     ·exact dP [] [(100,100),(101,101),(102,102),(103,103),(104,104),(105,105),(106,106),(110,110),(111,901),(112,112)]
     ·rintro j hj RL2 hL2
      rw [au]
      by_cases h':j < s.got.length
      ·have s0:=aH (f:=bN) h'
       have s1:=p_ (f:=bN) h'
       have hd:=hs.dg _ (.inr (.inl (List.getElem_mem h')))
       have c1:=dZ s.got[j].dg (by omega)
       have b2:=fun σ'=>bk [] [(100,100),(101,101),(102,102),(103,103),(104,104),(105,105),(106,106),(110,110),(111,111),(112,112)] (hL2 (j+1) σ' h')
       clear hL2 b1 hd e1
       generalize s.got[j]=m at *
       simp only [bN,bI] at s0 s1
       exact wkl trivial
      ·clear hL2 e1
       exact wkl trivial
    | 2,_ =>
     have e1:=zN s.acks l6
     have b1:=fun σ'=>b1 σ' (by omega)
     refine wkl ?_
     clear hR; intro hR
     refine aZ (ι:=Nat) (fun j=>j<=s.acks.length) (fun j=>ek [(1,.pt 100 0 0 0),(2,.pt 101 0 0 0),(8,.pt 100 0 0 8),(84,.bs 106 0 3),(85,intD 3),(86,intD 2),(98,.os 112 3 0 s.acks.length),(99,intD s.acks.length),(100,intD j)] (YA s 3)) (fun j=>s.acks.length - j) 0 (Nat.zero_le _) ?_ ?_
     ·exact dP [] [(100,100),(101,101),(102,102),(103,103),(104,104),(105,105),(106,106),(110,110),(111,111),(112,901)]
     ·rintro j hj RL2 hL2
      rw [au]
      by_cases h':j < s.acks.length
      ·have s0:=aH (f:=bN) h'
       have s1:=p_ (f:=bN) h'
       have hd:=hs.dg _ (.inr (.inr (List.getElem_mem h')))
       have c1:=dZ s.acks[j].dg (by omega)
       have b2:=fun σ'=>bk [] [(100,100),(101,101),(102,102),(103,103),(104,104),(105,105),(106,106),(110,110),(111,111),(112,112)] (hL2 (j+1) σ' h')
       clear hL2 b1 hd e1
       generalize s.acks[j]=m at *
       simp only [bN,bI] at s0 s1
       exact wkl trivial
      ·clear hL2 e1
       exact wkl trivial
    | 3,_ =>
     clear b1
     have d1:iN [] [(1,102),(2,103),(3,104),(4,110),(5,111),(6,112),(7,105)]:=⟨trivial⟩
     obtain ⟨rfl⟩:=hR'
     exact wkl trivial
theorem JP (s:StateD) (hs:StSm s):PureD Tryz.prog 121 [stateD s] (stateD s) :=
 Ny (kN s hs) (kD [1,2,3,4,5,6,7] (by simp [hOf,lk]))
theorem nz (n least:Int):PureD Tryz.prog 132 [intD n,intD least] (boolD (nm n least)):=by
 refine ak fun R hR=>?_
 unfold nm at hR
 by_cases h1:least<=n <;> by_cases h2:n<=1000000000000 <;> simp [h1,h2] at hR
 all_goals
  refine aa 12 Tryz.func132 rfl rfl rfl (fun _ _=>rfl) ?_
  exact wkl trivial
theorem Um (c:ConnD):PureD Tryz.prog 81 [.rp (dW c) 0] (intD (cnE c)):=by
 refine ak fun R hR=>?_
 have c1:=nz c.cl 0
 have c2:=nz c.oc 0
 have c3:=nz c.on (-1)
 unfold cnE at hR
 refine aa 39 Tryz.func81 rfl rfl rfl (fun _ _=>rfl) ?_
 exact wkl trivial
theorem Un (c:ChanD):PureD Tryz.prog 82 [.rp (bM c) 0] (intD (chE c)):=by
 refine ak fun R hR=>?_
 have c1:=nz c.cn 0
 have c2:=nz c.oc (-1)
 have c3:=nz c.snd 1
 have c4:=nz c.rcv 1
 have c5:=nz c.ack 1
 unfold chE at hR
 refine aa 55 Tryz.func82 rfl rfl rfl (fun _ _=>rfl) ?_
 exact wkl trivial
theorem Fw (m:bD) (ch seq:Int):PureD Tryz.prog 133 [IA m,intD ch,intD seq] (intD (jG m ch seq)):=by
 refine ak fun R hR=>?_
 unfold jG at hR
 refine aa 19 Tryz.func133 rfl rfl rfl (fun _ _=>rfl) ?_
 exact wkl trivial
theorem xM (l:List bD) (hl:l.length<=1048576):PureD Tryz.prog 83 [.i (.sl (l.map bN))] (intD (qo none l)):=by
 refine ak fun R hR=>?_
 refine aa 45 Tryz.func83 rfl rfl rfl (fun _ _=>rfl) ?_
 refine wkl ?_
 clear hR; intro hR
 have hR':Hr (intD (qo (FL l 0) (l.drop 0))) R:=hR
 clear hR
 refine aZ (ι:=Nat) (fun i=>i<=l.length/\Hr (intD (qo (FL l i) (l.drop i))) R)
  (fun i=>ek [(0,.i (.sl (l.map bN))),(5,.i (.sl (l.map bN))),(6,intD l.length),(7,intD i)] []) (fun i=>l.length - i) 0 ⟨Nat.zero_le _,hR'⟩ ?_ ?_
 ·exact dP [] []
 ·rintro i ⟨hi,hR⟩ RL hL
  clear hR'
  rw [au]
  by_cases h:i < l.length
  ·have e1:=aH (f:=bN) h
   rw [List.drop_eq_getElem_cons h,qo] at hR
   have hnx:FL l (i+1)=some l[i]:=by simp [FL,h]
   rw [<- hnx] at hR
   have c1:=nz l[i].ch 0
   have c2:=nz l[i].seq 1
   have b1:=fun σ' (hq:Hr _ R)=>bk [] [] (hL (i+1) σ' ⟨h,hq⟩)
   clear hL
   cases i with
   | zero =>
    have hp:FL l 0=none:=rfl
    rw [hp] at hR
    simp only [Option.any_none,Bool.false_eq_true,if_false] at hR
    clear hp hnx
    generalize hv0:l[0]=v at *
    exact wkl trivial
   | succ j =>
    have hj:j < l.length:=by omega
    have hp:FL l (j+1)=some l[j]:=by simp [FL,hj]
    have e2:=aH (f:=bN) hj
    rw [hp] at hR
    simp only [Option.any_some,decide_eq_true_eq] at hR
    have hg0:(0:Int) < ((j+1:Nat):Int):=by omega
    have w0:IntKind.i64.wrap (((j+1:Nat):Int) - 1)=(j:Int):=by rw [aD (by omega) (by omega)]; omega
    have n0:(((j+1:Nat):Int)).toNat=j+1:=by omega
    have c3:=Fw l[j] l[j+1].ch l[j+1].seq
    clear hnx hp
    generalize hv0:l[j+1]=v at *
    generalize hq0:l[j]=q at *
    exact wkl trivial
  ·rw [List.drop_eq_nil_of_le (by omega),qo] at hR
   exact wkl trivial
theorem JN (l:List PurseD) (hl:l.length<=1048576):PureD Tryz.prog 84 [.i (eO l)] (intD (Iq none l)):=by
 refine ak fun R hR=>?_
 refine aa 76 Tryz.func84 rfl rfl rfl (fun _ _=>rfl) ?_
 refine wkl ?_
 clear hR; intro hR
 have hR':Hr (intD (Iq (FL l 0) (l.drop 0))) R:=hR
 clear hR
 refine aZ (ι:=Nat) (fun i=>i<=l.length/\Hr (intD (Iq (FL l i) (l.drop i))) R)
  (fun i=>ek [(0,.i (eO l)),(5,.i (eO l)),(6,intD l.length),(7,intD i)] []) (fun i=>l.length - i) 0 ⟨Nat.zero_le _,hR'⟩ ?_ ?_
 ·exact dP [] []
 ·rintro i ⟨hi,hR⟩ RL hL
  clear hR'
  rw [au]
  by_cases h:i < l.length
  ·have e1:=aH (f:=a_) h
   rw [List.drop_eq_getElem_cons h,Iq] at hR
   have hnx:FL l (i+1)=some l[i]:=by simp [FL,h]
   rw [<- hnx] at hR
   have b1:=fun σ' (hq:Hr _ R)=>bk [] [] (hL (i+1) σ' ⟨h,hq⟩)
   clear hL
   cases i with
   | zero =>
    have hp:FL l 0=none:=rfl
    rw [hp] at hR
    simp only [Option.any_none,Bool.false_eq_true,if_false] at hR
    clear hp hnx
    generalize hv0:l[0]=v at *
    exact wkl trivial
   | succ j =>
    have hj:j < l.length:=by omega
    have hp:FL l (j+1)=some l[j]:=by simp [FL,hj]
    have e2:=aH (f:=a_) hj
    rw [hp] at hR
    simp only [Option.any_some,decide_eq_true_eq] at hR
    have hg0:(0:Int) < ((j+1:Nat):Int):=by omega
    have w0:IntKind.i64.wrap (((j+1:Nat):Int) - 1)=(j:Int):=by rw [aD (by omega) (by omega)]; omega
    have n0:(((j+1:Nat):Int)).toNat=j+1:=by omega
    clear hnx hp
    generalize hv0:l[j+1]=v at *
    generalize hq0:l[j]=q at *
    by_cases hqo:q.o=v.o
    ·have h0:lg v.o v.o=0:=cmpS_zero.2 rfl
     simp only [hqo,h0,Int.lt_irrefl,true_and,false_or] at hR
     exact wkl trivial
    ·have hqb:(q.o == v.o)=false:=by rw [NY]; exact hqo
     simp only [hqo,false_and,or_false] at hR
     exact wkl trivial
  ·rw [List.drop_eq_nil_of_le (by omega),Iq] at hR
   exact wkl trivial
theorem DK {α:Type} {f:α->Int} {l:List α} {i:Nat} (h:i < l.length):fstE f (l.drop i)=if f l[i]=0 then fstE f (l.drop (i+1)) else f l[i]:=by
 rw [List.drop_eq_getElem_cons h,fstE]
theorem DL {α:Type} {f:α->Int} {l:List α} {i:Nat} (h:¬ i < l.length):fstE f (l.drop i)=0:=by
 rw [List.drop_eq_nil_of_le (by omega),fstE]
def mrk (s:StateD):Nat->Int
 | 0=>mksS s
 | 1=>if qo none s.got=0 then (if qo none s.acks=0 then Iq none s.pus else qo none s.acks) else qo none s.got
 | 2=>if qo none s.acks=0 then Iq none s.pus else qo none s.acks
 | _=>Iq none s.pus
theorem ik (s:StateD) (hs:StSm s):PureD Tryz.prog 35 [stateD s] (intD (bu s)):=by
 refine ak fun R hR=>?_
 have c1:=Dz s.name
 have c2:=rJ s.h
 have c3:=rJ s.t
 have l1:=hs.cls
 have l2:=hs.cns
 have l3:=hs.chs
 have l4:=hs.sent
 have l5:=hs.got
 have l6:=hs.acks
 have l7:=hs.pus
 unfold bu at hR
 refine aa 134 Tryz.func35 rfl rfl rfl (fun _ _=>rfl) ?_
 refine wkl ?_
 clear hR c1 c2 c3; intro hR
 repeat' (intro _)
 have hR':Hr (intD (if fstE wrongC (s.cls.drop 0)=0 then Zz s else fstE wrongC (s.cls.drop 0))) R:=hR
 clear hR
 refine aZ (ι:=Nat) (fun i=>i<=s.cls.length/\Hr (intD (if fstE wrongC (s.cls.drop i)=0 then Zz s else fstE wrongC (s.cls.drop i))) R)
  (fun i=>ek [(1,.pt 100 0 0 0),(71,.i (.sl (s.cls.map gW))),(72,intD s.cls.length),(73,intD i)] [(100,.box ((encSt s).map .i))]) (fun i=>s.cls.length - i) 0 ⟨Nat.zero_le _,hR'⟩ ?_ ?_
 ·exact dP [] [(100,1000)]
 ·rintro i ⟨hi,hR⟩ RL hL
  clear hR'
  rw [au]
  by_cases h:i < s.cls.length
  ·have e1:=aH (f:=gW) h
   rw [DK h] at hR
   have b1:=fun σ' (hq:Hr _ R)=>bk [] [(100,100)] (hL (i+1) σ' ⟨h,hq⟩)
   have c1:=zz s.cls[i] (hs.cl _ (List.getElem_mem h)).l
   clear hL hs
   generalize s.cls[i]=v at *
   by_cases hz:wrongC v=0
   ·rw [if_pos hz] at hR
    rw [hz] at c1
    exact wkl trivial
   ·rw [if_neg hz,if_neg hz] at hR
    generalize wrongC v=W at *
    exact wkl trivial
  ·rw [DL h,if_pos rfl] at hR
   clear hL
   unfold Zz at hR
   refine wkl ?_
   clear hR; intro hR
   have hR':Hr (intD (if fstE cnE (s.cns.drop 0)=0 then (if fstE chE s.chs=0 then mksS s else fstE chE s.chs) else fstE cnE (s.cns.drop 0))) R:=hR
   clear hR
   refine aZ (ι:=Nat) (fun i=>i<=s.cns.length/\Hr (intD (if fstE cnE (s.cns.drop i)=0 then (if fstE chE s.chs=0 then mksS s else fstE chE s.chs) else fstE cnE (s.cns.drop i))) R)
    (fun i=>ek [(1,.pt 100 0 0 0),(85,intD s.cns.length),(86,intD i)] [(100,.box ((encSt s).map .i))]) (fun i=>s.cns.length - i) 0 ⟨Nat.zero_le _,hR'⟩ ?_ ?_
   ·exact dP [] [(100,100)]
   ·rintro i ⟨hi,hR⟩ RL hL
    clear hR'
    rw [au]
    by_cases h:i < s.cns.length
    ·have e1:=aH (f:=dW) h
     rw [DK h] at hR
     have b1:=fun σ' (hq:Hr _ R)=>bk [] [(100,100)] (hL (i+1) σ' ⟨h,hq⟩)
     have c1:=Um s.cns[i]
     clear hL hs
     generalize s.cns[i]=v at *
     by_cases hz:cnE v=0
     ·rw [if_pos hz] at hR
      rw [hz] at c1
      exact wkl trivial
     ·rw [if_neg hz,if_neg hz] at hR
      generalize cnE v=W at *
      exact wkl trivial
    ·rw [DL h,if_pos rfl] at hR
     clear hL
     refine wkl ?_
     clear hR; intro hR
     have hR':Hr (intD (if fstE chE (s.chs.drop 0)=0 then mksS s else fstE chE (s.chs.drop 0))) R:=hR
     clear hR
     refine aZ (ι:=Nat) (fun i=>i<=s.chs.length/\Hr (intD (if fstE chE (s.chs.drop i)=0 then mksS s else fstE chE (s.chs.drop i))) R)
      (fun i=>ek [(1,.pt 100 0 0 0),(100,intD s.chs.length),(101,intD i)] [(100,.box ((encSt s).map .i))]) (fun i=>s.chs.length - i) 0 ⟨Nat.zero_le _,hR'⟩ ?_ ?_
     ·exact dP [] [(100,100)]
     ·rintro i ⟨hi,hR⟩ RL hL
      clear hR'
      rw [au]
      by_cases h:i < s.chs.length
      ·have e1:=aH (f:=bM) h
       rw [DK h] at hR
       have b1:=fun σ' (hq:Hr _ R)=>bk [] [(100,100)] (hL (i+1) σ' ⟨h,hq⟩)
       have c1:=Un s.chs[i]
       clear hL hs
       generalize s.chs[i]=v at *
       by_cases hz:chE v=0
       ·rw [if_pos hz] at hR
        rw [hz] at c1
        exact wkl trivial
       ·rw [if_neg hz,if_neg hz] at hR
        generalize chE v=W at *
        exact wkl trivial
      ·rw [DL h,if_pos rfl] at hR
       clear hL
       unfold mksS at hR
       refine wkl ?_
       clear hR; intro hR
       have hR':Hr (intD (mrk s 0)) R:=hR
       clear hR
       refine aZ (ι:=Nat) (fun i=>i<=3/\Hr (intD (mrk s i)) R)
        (fun i=>ek [(1,.pt 100 0 0 0),(119,.os 101 1 0 3),(120,intD 3),(121,intD i)] [(100,.box ((encSt s).map .i)),(101,.arr 1 [[.sl (s.sent.map bN)],[.sl (s.got.map bN)],[.sl (s.acks.map bN)]])]) (fun i=>3 - i) 0 ⟨Nat.zero_le _,hR'⟩ ?_ ?_
       ·exact dP [] [(100,100),(101,8174)]
       ·rintro i ⟨hi,hR⟩ RL hL
        clear hR' hs
        rw [au]
        have b1:=fun σ' (h:i+1<=3) (hq:Hr _ R)=>bk [] [(100,100),(101,101)] (hL (i+1) σ' ⟨h,hq⟩)
        clear hL
        match i,hi with
        | 0,_ =>
         have c1:=xM s.sent l4
         have b1:=fun σ' (hq:Hr (intD (mrk s 1)) R)=>b1 σ' (by omega) hq
         simp only [mrk] at b1
         by_cases hz:qo none s.sent=0
         ·simp only [mrk,mksS,hz,if_true] at hR
          rw [hz] at c1
          exact wkl trivial
         ·simp only [mrk,mksS,hz,if_false] at hR
          generalize qo none s.sent=W at *
          exact wkl trivial
        | 1,_ =>
         have c1:=xM s.got l5
         have b1:=fun σ' (hq:Hr (intD (mrk s 2)) R)=>b1 σ' (by omega) hq
         simp only [mrk] at b1
         by_cases hz:qo none s.got=0
         ·simp only [mrk,hz,if_true] at hR
          rw [hz] at c1
          exact wkl trivial
         ·simp only [mrk,hz,if_false] at hR
          generalize qo none s.got=W at *
          exact wkl trivial
        | 2,_ =>
         have c1:=xM s.acks l6
         have b1:=fun σ' (hq:Hr (intD (mrk s 3)) R)=>b1 σ' (by omega) hq
         simp only [mrk] at b1
         by_cases hz:qo none s.acks=0
         ·simp only [mrk,hz,if_true] at hR
          rw [hz] at c1
          exact wkl trivial
         ·simp only [mrk,hz,if_false] at hR
          generalize qo none s.acks=W at *
          exact wkl trivial
        | 3,_ =>
         have c1:=JN s.pus l7
         clear b1
         simp only [mrk] at hR
         exact wkl trivial
end Go.Proofs.YtfenipelcpmkpaaGreatDoor
