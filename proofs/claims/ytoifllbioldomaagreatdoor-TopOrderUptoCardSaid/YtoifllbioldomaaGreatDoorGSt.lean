/- Merged texts: StP, StS, ClnCl, ClnCn, ClnCh, ClnMk, ClnPu, StO, StW, StWr. -/
import Derived.Test.YtoifllbioldomaaGreatDoorGCl
set_option linter.all false
set_option maxHeartbeats 16000000
set_option maxRecDepth 20000
namespace Go.Proofs.YtoifllbioldomaaGreatDoor
open Go Go.Abs
structure ConnD where
 st:Int
 cl:Int
 oc:Int
 on:Int
structure ChanD where
 st:Int
 ord:Bool
 cn:Int
 oc:Int
 snd:Int
 rcv:Int
 ack:Int
structure MarkD where
 ch:Int
 seq:Int
 dg:List UInt8
structure StateD where
 name:ByteArray
 h:Int
 t:Int
 cls:List ax
 cns:List ConnD
 chs:List ChanD
 sent:List MarkD
 got:List MarkD
 acks:List MarkD
 pus:List PurseD
def dN (c:ConnD):List I:=[.s (.int .i64 c.st),.s (.int .i64 c.cl),.s (.int .i64 c.oc),.s (.int .i64 c.on)]
def connD (c:ConnD):D:=.agg [.i (.s (.int .i64 c.st)),.i (.s (.int .i64 c.cl)),.i (.s (.int .i64 c.oc)),.i (.s (.int .i64 c.on))]
def bA (c:ChanD):List I:=[.s (.int .i64 c.st),.s (.bool c.ord),.s (.int .i64 c.cn),.s (.int .i64 c.oc),.s (.int .i64 c.snd),.s (.int .i64 c.rcv),.s (.int .i64 c.ack)]
def chanD (c:ChanD):D:=.agg [.i (.s (.int .i64 c.st)),.i (.s (.bool c.ord)),.i (.s (.int .i64 c.cn)),.i (.s (.int .i64 c.oc)),.i (.s (.int .i64 c.snd)),.i (.s (.int .i64 c.rcv)),.i (.s (.int .i64 c.ack))]
def bB (m:MarkD):List I:=[.s (.int .i64 m.ch),.s (.int .i64 m.seq),bI m.dg]
def Ki (m:MarkD):D:=.agg [.i (.s (.int .i64 m.ch)),.i (.s (.int .i64 m.seq)),.i (bI m.dg)]
def encSt (s:StateD):List I:=[.s (.string s.name),.s (.int .i64 s.h),.s (.int .i64 s.t),.sl (s.cls.map gJ),.sl (s.cns.map dN),.sl (s.chs.map bA),.sl (s.sent.map bB),.sl (s.got.map bB),.sl (s.acks.map bB),.sl (s.pus.map aZ)]
def stateD (s:StateD):D:=.agg [.i (.s (.string s.name)),.i (.s (.int .i64 s.h)),.i (.s (.int .i64 s.t)),.i (.sl (s.cls.map gJ)),.i (.sl (s.cns.map dN)),.i (.sl (s.chs.map bA)),.i (.sl (s.sent.map bB)),.i (.sl (s.got.map bB)),.i (.sl (s.acks.map bB)),.i (.sl (s.pus.map aZ))]
def zeroSt:StateD:=⟨⟨#[]⟩,0,0,[],[],[],[],[],[],[]⟩
structure StSm (s:StateD):Prop where
 cls:s.cls.length<=1048576
 cl:∀c∈s.cls,aeM c
 cns:s.cns.length<=1048576
 chs:s.chs.length<=1048576
 sent:s.sent.length<=1048576
 got:s.got.length<=1048576
 acks:s.acks.length<=1048576
 dg:∀m,m∈s.sent\/m∈s.got\/m∈s.acks->m.dg.length<=1048576
 pus:s.pus.length<=1048576
attribute [simp,go_sem] dN connD bA chanD bB Ki encSt stateD zeroSt aZ puD oF
def nm (n least:Int):Bool:=decide (least<=n/\n<=1000000000000)
def cnE (c:ConnD):Int:=if c.st<1\/3<c.st then 1 else if ¬nm c.cl 0=true\/¬nm c.oc 0=true\/¬nm c.on (-1)=true then 3 else 0
def chE (c:ChanD):Int:=if c.st<1\/4<c.st then 1 else if ¬nm c.cn 0=true\/¬nm c.oc (-1)=true\/¬nm c.snd 1=true\/¬nm c.rcv 1=true\/¬nm c.ack 1=true then 3 else 0
def jr (m:MarkD)(ch seq:Int):Int:=if m.ch=ch then IntKind.i64.wrap (m.seq-seq)else IntKind.i64.wrap (m.ch-ch)
def rF {α:Type}(l:List α)(i:Nat):Option α:=if i=0 then none else l[i-1]?
def mZ:Option MarkD->List MarkD->Int
 |_,[]=>0
 |o,m::t=>if ¬nm m.ch 0=true\/¬nm m.seq 1=true then 3 else if ¬(m.dg.length:Int)=32 then 2 else if(o.any λq=>decide (0<=jr q m.ch m.seq))=true then 2 else mZ (some m) t
def BL:Option PurseD->List PurseD->Int
 |_,[]=>0
 |o,p::t=>if(p.o.size:Int)<1\/(40:Int)<p.o.size\/(p.d.size:Int)<1\/(40:Int)<p.d.size then 4 else if p.n=0 then 3 else if(o.any λq=>decide (0<m_ q.o p.o\/q.o=p.o/\0<=m_ q.d p.d))=true then 2 else BL (some p) t
def fstE {α:Type}(f:α->Int):List α->Int
 |[]=>0
 |a::t=>if f a=0 then fstE f t else f a
def mksS (s:StateD):Int:=if mZ none s.sent=0 then(if mZ none s.got=0 then(if mZ none s.acks=0 then BL none s.pus else mZ none s.acks)else mZ none s.got)else mZ none s.sent
def Rq (s:StateD):Int:=if fstE cnE s.cns=0 then(if fstE chE s.chs=0 then mksS s else fstE chE s.chs)else fstE cnE s.cns
def bf (s:StateD):Int :=
 if fO s.name=true then
  (if ¬kz s.h=true\/¬kz s.t=true then 3
  else if(4:Int)<s.cls.length\/(8:Int)<s.cns.length\/(8:Int)<s.chs.length\/(50:Int)<s.sent.length\/(50:Int)<s.got.length\/(50:Int)<s.acks.length\/(60:Int)<s.pus.length then 5
  else if fstE wrongC s.cls=0 then Rq s else fstE wrongC s.cls)
 else 7
open Go.RowKit Go.Proofs.YtoifllbioldomaaGreatDoor.Ty
def zi:=an9 @Ty.T0 @Ty.T3 @Ty.T4 @Ty.T5 @Ty.T9 @Ty.T25 @Ty.T33 @Ty.T50 (an @Ty.T78 @Ty.T80)
theorem aaS (l:List ax):uni 4 (l.map gJ)=true:=by simp[uni,gJ]
theorem Uv (l:List ax)(hl:l.length<=1048576):aI Tryz.prog 86 [.i (.sl (l.map gJ))] noH (.os 1 4 0 l.length) (hOf noH [(1,.arr 4 (l.map gJ))]):=by
 cases l with
 |nil =>
  refine kv (fQ Tryz.func86 rfl rfl) λK vs hrd=>?_;obtain⟨hs,hg⟩:=hrd;obtain⟨a,c,hv⟩:=sl_nil (hg 0 _ rfl);refine⟨[.i (.s (.slice a 0 c))],?_,hs,λj d hd=>?_⟩
  ·have hun:=aha;refine aa 8 Tryz.func86 ?_;cases a with
   |none =>refine gr (an3 zi (jv hun) @Option.isNone_none.{0}) ?_;exact Bc [] []
   |some a =>refine gr (an3 zi (jv hun) @Option.isNone_some.{0}) ?_;exact Bc [] [(1,1770)]
  ·cases j with
   |zero=>simp at hd;subst hd;rw[hv];exact .i (.s _ rfl)
   |succ j=>simp at hd
 |cons p t =>
  have hu:=aaS t;have e3:t.length+1<=140737488355328:=by simp at hl;omega
  have e4:(t.length+1)*56<=140737488355328:=by simp at hl;omega
  have e5:(gJ p).length=4:=rfl;refine aa 8 Tryz.func86 ?_;refine gx (an8 zi hu e3 e4 e5 @List.map_cons.{0,0} @List.length_cons.{0} @List.length_map.{0,0}) ?_;exact Bc [] [(1,1770)]
def zh:=an4 @Ty.T0 @Ty.T3 @Ty.T34 @Ty.ahR
theorem aaR (l:List ConnD):uni 4 (l.map dN)=true:=by simp[uni,dN]
theorem Uu (l:List ConnD)(hl:l.length<=1048576):aI Tryz.prog 88 [.i (.sl (l.map dN))] noH (.os 1 4 0 l.length) (hOf noH [(1,.arr 4 (l.map dN))]):=by
 cases l with
 |nil =>
  refine kv (fQ Tryz.func88 rfl rfl) λK vs hrd=>?_;obtain⟨hs,hg⟩:=hrd;obtain⟨a,c,hv⟩:=sl_nil (hg 0 _ rfl);refine⟨[.i (.s (.slice a 0 c))],?_,hs,λj d hd=>?_⟩
  ·have hun:=agZ;refine aa 8 Tryz.func88 ?_;cases a with
   |none =>refine gr (an3 zh (jv hun) @Option.isNone_none.{0}) ?_;exact Bc [] []
   |some a =>refine gr (an3 zh (jv hun) @Option.isNone_some.{0}) ?_;exact Bc [] [(1,1770)]
  ·cases j with
   |zero=>simp at hd;subst hd;rw[hv];exact .i (.s _ rfl)
   |succ j=>simp at hd
 |cons p t =>
  have hu:=aaR t;have e3:t.length+1<=140737488355328:=by simp at hl;omega
  have e4:(t.length+1)*32<=140737488355328:=by simp at hl;omega
  have e5:(dN p).length=4:=rfl;refine aa 8 Tryz.func88 ?_;refine gx (an8 zh hu e3 e4 e5 @List.map_cons.{0,0} @List.length_cons.{0} @List.length_map.{0,0}) ?_;exact Bc [] [(1,1770)]
def zk:=an5 @Ty.T0 @Ty.T3 @Ty.T4 @Ty.T35 @Ty.T74
theorem aaT (l:List ChanD):uni 7 (l.map bA)=true:=by simp[uni,bA]
theorem Uw (l:List ChanD)(hl:l.length<=1048576):aI Tryz.prog 89 [.i (.sl (l.map bA))] noH (.os 1 7 0 l.length) (hOf noH [(1,.arr 7 (l.map bA))]):=by
 cases l with
 |nil =>
  refine kv (fQ Tryz.func89 rfl rfl) λK vs hrd=>?_;obtain⟨hs,hg⟩:=hrd;obtain⟨a,c,hv⟩:=sl_nil (hg 0 _ rfl);refine⟨[.i (.s (.slice a 0 c))],?_,hs,λj d hd=>?_⟩
  ·have hun:=agY;refine aa 8 Tryz.func89 ?_;cases a with
   |none =>refine gr (an3 zk (jv hun) @Option.isNone_none.{0}) ?_;exact Bc [] []
   |some a =>refine gr (an3 zk (jv hun) @Option.isNone_some.{0}) ?_;exact Bc [] [(1,1770)]
  ·cases j with
   |zero=>simp at hd;subst hd;rw[hv];exact .i (.s _ rfl)
   |succ j=>simp at hd
 |cons p t =>
  have hu:=aaT t;have e3:t.length+1<=140737488355328:=by simp at hl;omega
  have e4:(t.length+1)*56<=140737488355328:=by simp at hl;omega
  have e5:(bA p).length=7:=rfl;refine aa 8 Tryz.func89 ?_;refine gx (an8 zk hu e3 e4 e5 @List.map_cons.{0,0} @List.length_cons.{0} @List.length_map.{0,0}) ?_;exact Bc [] [(1,1770)]
def zf:=an6 @Ty.T0 @Ty.T3 @Ty.T5 @Ty.T25 @Ty.T36 @Ty.ahK
theorem aaP (l:List MarkD):uni 3 (l.map bB)=true:=by simp[uni,bB]
theorem Aw (l:List MarkD)(hl:l.length<=1048576):aI Tryz.prog 91 [.i (.sl (l.map bB))] noH (.os 1 3 0 l.length) (hOf noH [(1,.arr 3 (l.map bB))]):=by
 cases l with
 |nil =>
  refine kv (fQ Tryz.func91 rfl rfl) λK vs hrd=>?_;obtain⟨hs,hg⟩:=hrd;obtain⟨a,c,hv⟩:=sl_nil (hg 0 _ rfl);refine⟨[.i (.s (.slice a 0 c))],?_,hs,λj d hd=>?_⟩
  ·have hun:=agX;refine aa 8 Tryz.func91 ?_;cases a with
   |none =>refine gr (an3 zf (jv hun) @Option.isNone_none.{0}) ?_;exact Bc [] []
   |some a =>refine gr (an3 zf (jv hun) @Option.isNone_some.{0}) ?_;exact Bc [] [(1,1770)]
  ·cases j with
   |zero=>simp at hd;subst hd;rw[hv];exact .i (.s _ rfl)
   |succ j=>simp at hd
 |cons p t =>
  have hu:=aaP t;have e3:t.length+1<=140737488355328:=by simp at hl;omega
  have e4:(t.length+1)*40<=140737488355328:=by simp at hl;omega
  have e5:(bB p).length=3:=rfl;refine aa 8 Tryz.func91 ?_;refine gx (an8 zf hu e3 e4 e5 @List.map_cons.{0,0} @List.length_cons.{0} @List.length_map.{0,0}) ?_;exact Bc [] [(1,1770)]
def ze:=an5 @Ty.T0 @Ty.T9 @Ty.T22 @Ty.T37 @Ty.ahU
theorem aaO (l:List PurseD):uni 3 (l.map aZ)=true:=by simp[uni,aZ]
theorem Ut (l:List PurseD)(hl:l.length<=1048576):aI Tryz.prog 90 [.i (.sl (l.map aZ))] noH (.os 1 3 0 l.length) (hOf noH [(1,.arr 3 (l.map aZ))]):=by
 cases l with
 |nil =>
  refine kv (fQ Tryz.func90 rfl rfl) λK vs hrd=>?_;obtain⟨hs,hg⟩:=hrd;obtain⟨a,c,hv⟩:=sl_nil (hg 0 _ rfl);refine⟨[.i (.s (.slice a 0 c))],?_,hs,λj d hd=>?_⟩
  ·have hun:=agk;refine aa 8 Tryz.func90 ?_;cases a with
   |none =>refine gr (an3 ze (jv hun) @Option.isNone_none.{0}) ?_;exact Bc [] []
   |some a =>refine gr (an3 ze (jv hun) @Option.isNone_some.{0}) ?_;exact Bc [] [(1,1770)]
  ·cases j with
   |zero=>simp at hd;subst hd;rw[hv];exact .i (.s _ rfl)
   |succ j=>simp at hd
 |cons p t =>
  have hu:=aaO t;have e3:t.length+1<=140737488355328:=by simp at hl;omega
  have e4:(t.length+1)*40<=140737488355328:=by simp at hl;omega
  have e5:(aZ p).length=3:=rfl;refine aa 8 Tryz.func90 ?_;refine gx (an8 ze hu e3 e4 e5 @List.map_cons.{0,0} @List.length_cons.{0} @List.length_map.{0,0}) ?_;exact Bc [] [(1,1770)]
def agl (s:StateD)(k:Nat):List D:=[.i (.s (.string s.name)),.i (.s (.int .i64 s.h)),.i (.s (.int .i64 s.t)),.os 102 4 0 s.cls.length,.os 103 4 0 s.cns.length,.os 104 7 0 s.chs.length,
 if 0<k then .os 110 3 0 s.sent.length else .i (.sl (s.sent.map bB)),if 1<k then .os 111 3 0 s.got.length else .i (.sl (s.got.map bB)),if 2<k then .os 112 3 0 s.acks.length else .i (.sl (s.acks.map bB)),.os 105 3 0 s.pus.length]
def abP (s:StateD)(k:Nat):List (Nat×Ob):=[(100,.box (agl s k)),(101,.box ((encSt zeroSt).map .i)),(102,.arr 4 (s.cls.map gJ)),(103,.arr 4 (s.cns.map dN)),(104,.arr 7 (s.chs.map bA)),(105,.arr 3 (s.pus.map aZ)),(106,.box [.pt 100 0 0 6,.pt 100 0 0 7,.pt 100 0 0 8]),
 (110,if 0<k then .arr 3 (s.sent.map bB)else .dead),(111,if 1<k then .arr 3 (s.got.map bB)else .dead),(112,if 2<k then .arr 3 (s.acks.map bB)else .dead)]
attribute [local simp] QE Aq
attribute [local simp,local go_sem] agl abP
theorem mJ (s:StateD)(hs:StSm s):aI Tryz.prog 47 [stateD s] noH
  (.agg [.i (.s (.string s.name)),.i (.s (.int .i64 s.h)),.i (.s (.int .i64 s.t)),.os 1 4 0 s.cls.length,.os 2 4 0 s.cns.length,.os 3 7 0 s.chs.length,.os 4 3 0 s.sent.length,.os 5 3 0 s.got.length,.os 6 3 0 s.acks.length,.os 7 3 0 s.pus.length])
  (hOf noH [(1,.arr 4 (s.cls.map gJ)),(2,.arr 4 (s.cns.map dN)),(3,.arr 7 (s.chs.map bA)),(4,.arr 3 (s.sent.map bB)),(5,.arr 3 (s.got.map bB)),(6,.arr 3 (s.acks.map bB)),(7,.arr 3 (s.pus.map aZ))]):=by
 refine il λR R' hR hR'=>?_;have l1:=hs.cls;have l2:=hs.cns;have l3:=hs.chs;have l7:=hs.pus;have e1:=Uv s.cls l1;refine aa 117 Tryz.func47 ?_;refine wkl ?_;clear hR;intro hR;refine aF (ι:=Nat) (λi=>i<=s.cls.length)
  (λi=>cO [(1,.pt 100 0 0 0),(2,.pt 101 0 0 0),(16,.os 102 4 0 s.cls.length),(17,intD s.cls.length),(18,intD i)]
   [(100,.box [.i (.s (.string s.name)),.i (.s (.int .i64 s.h)),.i (.s (.int .i64 s.t)),.os 102 4 0 s.cls.length,.i (.sl (s.cns.map dN)),.i (.sl (s.chs.map bA)),.i (.sl (s.sent.map bB)),.i (.sl (s.got.map bB)),.i (.sl (s.acks.map bB)),.i (.sl (s.pus.map aZ))]),
    (101,.box ((encSt zeroSt).map .i)),(102,.tab 4 (toD (s.cls.map gJ)))])
  (λi=>s.cls.length-i) 0 (Nat.zero_le _) ?_ ?_
 ·exact bO [] [(100,1000),(101,1001),(102,901)]
 ·rintro i hi RL hL;rw[ae];by_cases h:i<s.cls.length
  ·have hc:=hs.cl _ (List.getElem_mem h);have hcl:=hc.l;have t1:=X_ (f:=gJ) h;have t2:=λrow=>Yg (f:=gJ) h row;have t3:=λ(H:Nat->Ob) (F:List Nat) (g:Nat->Option Nat) (o sz off n:Nat) (ho:F.contains o=true) (he:aJ H (.os o sz off n)=some ((s.cls[i]'h).known.map jL))=>Pm (f:=gJ) h (H:=H) (F:=F) (s:=g) (.s (.string s.cls[i].c)) (.s (.int .i64 s.cls[i].trust)) (.s (.bool s.cls[i].frozen)) (s.cls[i].known.map jL) rfl o sz off n ho he;have t4:=λ(H:Nat->Ob) (F:List Nat) (g:Nat->Option Nat) (a b d:I) (o o' sz off n:Nat) (hh:g o'=some o)=>Ug (f:=gJ) (l:=s.cls) (i:=i) (H:=H) (F:=F) (s:=g) a b d o o' sz off n hh;have t5:=λrow hr=>aad (f:=gJ) (l:=s.cls) (i:=i) row hr;have e2:=Ay s.cls[i].known hcl;have hkn:=hc.k;have b1:=λσ'=>bk [103] [(100,100),(101,101),(102,102)] (hL (i+1) σ' h);clear hL e1 hc;generalize s.cls[i]=c at*;refine wkl ?_;clear hR;intro hR;refine aF (ι:=Nat) (λj=>j<=c.known.length)
    (λj=>cO [(1,.pt 100 0 0 0),(2,.pt 101 0 0 0),(3,intD i),(16,.os 102 4 0 s.cls.length),(17,intD s.cls.length),(18,intD i),(36,.os 103 4 0 c.known.length),(37,intD c.known.length),(38,intD j)]
     [(100,.box [.i (.s (.string s.name)),.i (.s (.int .i64 s.h)),.i (.s (.int .i64 s.t)),.os 102 4 0 s.cls.length,.i (.sl (s.cns.map dN)),.i (.sl (s.chs.map bA)),.i (.sl (s.sent.map bB)),.i (.sl (s.got.map bB)),.i (.sl (s.acks.map bB)),.i (.sl (s.pus.map aZ))]),
      (101,.box ((encSt zeroSt).map .i)),(102,.tab 4 ((toD (s.cls.map gJ)).set i [.i (.s (.string c.c)),.i (.s (.int .i64 c.trust)),.i (.s (.bool c.frozen)),.os 103 4 0 c.known.length])),(103,.arr 4 (c.known.map jL))])
    (λj=>c.known.length-j) 0 (Nat.zero_le _) ?_ ?_
   ·exact bO [] [(100,100),(101,101),(102,102),(103,901)]
   ·rintro j hj RL2 hL2;rw[ae];by_cases h':j<c.known.length
    ·have s0:=ay (f:=jL) h';have s1:=rU (f:=jL) h';have hk:=hkn _ (List.getElem_mem h');have c1:=dU c.known[j].root (by have:=hk.r;omega);have c2:=dU c.known[j].next (by have:=hk.n;omega)
     have b2:=λσ'=>bk [] [(100,100),(101,101),(102,102),(103,103)] (hL2 (j+1) σ' h');clear hL2 hk hkn b1 e2;generalize c.known[j]=k at*;simp only[jL,bI]at s0 s1;exact wkl trivial
    ·clear hL2;exact wkl trivial
  ·clear hL e1;have e1:=Uu s.cns l2;have e2:=Uw s.chs l3;have e3:=Ut s.pus l7;have r1:=aei (P:=Tryz.prog) (t:=193) (e:=192) (by kernel_rfl) (by kernel_rfl) (by kernel_rfl);refine wkl ?_;clear hR;intro hR;refine aF (ι:=Nat) (λk=>k<=3) (λk=>cO [(1,.pt 100 0 0 0),(2,.pt 101 0 0 0),(84,.bs 106 0 3),(85,intD 3),(86,intD k)] (abP s k)) (λk=>3-k) 0 (Nat.zero_le _) ?_ ?_
   ·exact bO [] [(100,100),(101,101),(102,102),(103,901),(104,902),(105,903),(106,4331),(110,950),(111,951),(112,952)]
   ·rintro k hk RL hL;rw[ae];have b1:=λσ' (h:k+1<=3)=>bk [] [(100,100),(101,101),(102,102),(103,103),(104,104),(105,105),(106,106),(110,110),(111,111),(112,112)] (hL (k+1) σ' h);clear hL e1 e2 e3;have l4:=hs.sent;have l5:=hs.got;have l6:=hs.acks
    match k,hk with
    |0,_ =>
     have e1:=Aw s.sent l4;have b1:=λσ'=>b1 σ' (by omega);refine wkl ?_;clear hR;intro hR;refine aF (ι:=Nat) (λj=>j<=s.sent.length) (λj=>cO [(1,.pt 100 0 0 0),(2,.pt 101 0 0 0),(8,.pt 100 0 0 6),(84,.bs 106 0 3),(85,intD 3),(86,intD 0),(98,.os 110 3 0 s.sent.length),(99,intD s.sent.length),(100,intD j)] (abP s 1)) (λj=>s.sent.length-j) 0 (Nat.zero_le _) ?_ ?_
     ·exact bO [] [(100,100),(101,101),(102,102),(103,103),(104,104),(105,105),(106,106),(110,901),(111,111),(112,112)]
     ·rintro j hj RL2 hL2;rw[ae];by_cases h':j<s.sent.length
      ·have s0:=ay (f:=bB) h';have s1:=rU (f:=bB) h';have hd:=hs.dg _ (.inl (List.getElem_mem h'));have c1:=dU s.sent[j].dg (by omega);have b2:=λσ'=>bk [] [(100,100),(101,101),(102,102),(103,103),(104,104),(105,105),(106,106),(110,110),(111,111),(112,112)] (hL2 (j+1) σ' h');clear hL2 b1 hd e1;generalize s.sent[j]=m at*;simp only[bB,bI]at s0 s1;exact wkl trivial
      ·clear hL2 e1;exact wkl trivial
    |1,_ =>
     have e1:=Aw s.got l5;have b1:=λσ'=>b1 σ' (by omega);refine wkl ?_;clear hR;intro hR;refine aF (ι:=Nat) (λj=>j<=s.got.length) (λj=>cO [(1,.pt 100 0 0 0),(2,.pt 101 0 0 0),(8,.pt 100 0 0 7),(84,.bs 106 0 3),(85,intD 3),(86,intD 1),(98,.os 111 3 0 s.got.length),(99,intD s.got.length),(100,intD j)] (abP s 2)) (λj=>s.got.length-j) 0 (Nat.zero_le _) ?_ ?_
     ·exact bO [] [(100,100),(101,101),(102,102),(103,103),(104,104),(105,105),(106,106),(110,110),(111,901),(112,112)]
     ·rintro j hj RL2 hL2;rw[ae];by_cases h':j<s.got.length
      ·have s0:=ay (f:=bB) h';have s1:=rU (f:=bB) h';have hd:=hs.dg _ (.inr (.inl (List.getElem_mem h')));have c1:=dU s.got[j].dg (by omega);have b2:=λσ'=>bk [] [(100,100),(101,101),(102,102),(103,103),(104,104),(105,105),(106,106),(110,110),(111,111),(112,112)] (hL2 (j+1) σ' h');clear hL2 b1 hd e1;generalize s.got[j]=m at*;simp only[bB,bI]at s0 s1;exact wkl trivial
      ·clear hL2 e1;exact wkl trivial
    |2,_ =>
     have e1:=Aw s.acks l6;have b1:=λσ'=>b1 σ' (by omega);refine wkl ?_;clear hR;intro hR;refine aF (ι:=Nat) (λj=>j<=s.acks.length) (λj=>cO [(1,.pt 100 0 0 0),(2,.pt 101 0 0 0),(8,.pt 100 0 0 8),(84,.bs 106 0 3),(85,intD 3),(86,intD 2),(98,.os 112 3 0 s.acks.length),(99,intD s.acks.length),(100,intD j)] (abP s 3)) (λj=>s.acks.length-j) 0 (Nat.zero_le _) ?_ ?_
     ·exact bO [] [(100,100),(101,101),(102,102),(103,103),(104,104),(105,105),(106,106),(110,110),(111,111),(112,901)]
     ·rintro j hj RL2 hL2;rw[ae];by_cases h':j<s.acks.length
      ·have s0:=ay (f:=bB) h';have s1:=rU (f:=bB) h';have hd:=hs.dg _ (.inr (.inr (List.getElem_mem h')));have c1:=dU s.acks[j].dg (by omega);have b2:=λσ'=>bk [] [(100,100),(101,101),(102,102),(103,103),(104,104),(105,105),(106,106),(110,110),(111,111),(112,112)] (hL2 (j+1) σ' h');clear hL2 b1 hd e1;generalize s.acks[j]=m at*;simp only[bB,bI]at s0 s1;exact wkl trivial
      ·clear hL2 e1;exact wkl trivial
    |3,_ =>
     clear b1;have d1:jl [] [(1,102),(2,103),(3,104),(4,110),(5,111),(6,112),(7,105)]:=⟨trivial⟩
     obtain⟨rfl⟩:=hR';exact wkl trivial
theorem LZ (s:StateD)(hs:StSm s):PureD Tryz.prog 47 [stateD s] (stateD s) :=
 Qe (mJ s hs) (mq [1,2,3,4,5,6,7] (by simp[hOf,lk]))
end Go.Proofs.YtoifllbioldomaaGreatDoor
namespace Go.Proofs.YtoifllbioldomaaGreatDoor
open Go Go.Abs Go.RowKit Go.Proofs.YtoifllbioldomaaGreatDoor.Ty
theorem pg (n least:Int):PureD Tryz.prog 205 [intD n,intD least] (boolD (nm n least)):=by
 refine af λR hR=>?_;unfold nm at hR;by_cases h1:least<=n<;>by_cases h2:n<=1000000000000<;>simp[h1,h2]at hR;all_goals
  refine aa 12 Tryz.func205 ?_;exact wkl trivial
theorem Yh (c:ConnD):PureD Tryz.prog 146 [.rp (dN c) 0] (intD (cnE c)):=by refine af λR hR=>?_;have c1:=pg c.cl 0;have c2:=pg c.oc 0;have c3:=pg c.on (-1);unfold cnE at hR;refine aa 39 Tryz.func146 ?_;exact wkl trivial
theorem Yi (c:ChanD):PureD Tryz.prog 147 [.rp (bA c) 0] (intD (chE c)):=by refine af λR hR=>?_;have c1:=pg c.cn 0;have c2:=pg c.oc (-1);have c3:=pg c.snd 1;have c4:=pg c.rcv 1;have c5:=pg c.ack 1;unfold chE at hR;refine aa 55 Tryz.func147 ?_;exact wkl trivial
theorem FW (m:MarkD)(ch seq:Int):PureD Tryz.prog 206 [Ki m,intD ch,intD seq] (intD (jr m ch seq)):=by refine af λR hR=>?_;unfold jr at hR;refine aa 19 Tryz.func206 ?_;exact wkl trivial
theorem zx (l:List MarkD)(hl:l.length<=1048576):PureD Tryz.prog 148 [.i (.sl (l.map bB))] (intD (mZ none l)):=by
 refine af λR hR=>?_;refine aa 45 Tryz.func148 ?_;refine wkl ?_;clear hR;intro hR;have hR':Hr (intD (mZ (rF l 0) (l.drop 0))) R:=hR;clear hR;refine aF (ι:=Nat) (λi=>i<=l.length/\Hr (intD (mZ (rF l i) (l.drop i))) R)
  (λi=>cO [(0,.i (.sl (l.map bB))),(5,.i (.sl (l.map bB))),(6,intD l.length),(7,intD i)] []) (λi=>l.length-i) 0 ⟨Nat.zero_le _,hR'⟩ ?_ ?_
 ·exact bO [] []
 ·rintro i ⟨hi,hR⟩ RL hL;clear hR';rw[ae];by_cases h:i<l.length
  ·have e1:=ay (f:=bB) h;rw[List.drop_eq_getElem_cons h,mZ]at hR;have hnx:rF l (i+1)=some l[i]:=by simp[rF,h]
   rw[<- hnx]at hR;have c1:=pg l[i].ch 0;have c2:=pg l[i].seq 1;have b1:=λσ' (hq:Hr _ R)=>bk [] [] (hL (i+1) σ' ⟨h,hq⟩);clear hL;cases i with
   |zero =>have hp:rF l 0=none:=rfl;rw[hp]at hR;simp only[Option.any_none,Bool.false_eq_true,if_false]at hR;clear hp hnx;generalize hv0:l[0]=v at*;exact wkl trivial
   |succ j =>
    have hj:j<l.length:=by omega
    have hp:rF l (j+1)=some l[j]:=by simp[rF,hj]
    have e2:=ay (f:=bB) hj;rw[hp]at hR;simp only[Option.any_some,decide_eq_true_eq]at hR;have hg0:(0:Int)<((j+1:Nat):Int):=by omega
    have w0:IntKind.i64.wrap (((j+1:Nat):Int)-1)=(j:Int):=by rw[ai (by omega) (by omega)];omega
    have n0:(((j+1:Nat):Int)).toNat=j+1:=by omega
    have c3:=FW l[j] l[j+1].ch l[j+1].seq;clear hnx hp;generalize hv0:l[j+1]=v at*;generalize hq0:l[j]=q at*;exact wkl trivial
  ·rw[List.drop_eq_nil_of_le (by omega),mZ]at hR;exact wkl trivial
theorem LX (l:List PurseD)(hl:l.length<=1048576):PureD Tryz.prog 149 [.i (oF l)] (intD (BL none l)):=by
 refine af λR hR=>?_;refine aa 76 Tryz.func149 ?_;refine wkl ?_;clear hR;intro hR;have hR':Hr (intD (BL (rF l 0) (l.drop 0))) R:=hR;clear hR;refine aF (ι:=Nat) (λi=>i<=l.length/\Hr (intD (BL (rF l i) (l.drop i))) R)
  (λi=>cO [(0,.i (oF l)),(5,.i (oF l)),(6,intD l.length),(7,intD i)] []) (λi=>l.length-i) 0 ⟨Nat.zero_le _,hR'⟩ ?_ ?_
 ·exact bO [] []
 ·rintro i ⟨hi,hR⟩ RL hL;clear hR';rw[ae];by_cases h:i<l.length
  ·have e1:=ay (f:=aZ) h;rw[List.drop_eq_getElem_cons h,BL]at hR;have hnx:rF l (i+1)=some l[i]:=by simp[rF,h]
   rw[<- hnx]at hR;have b1:=λσ' (hq:Hr _ R)=>bk [] [] (hL (i+1) σ' ⟨h,hq⟩);clear hL;cases i with
   |zero =>have hp:rF l 0=none:=rfl;rw[hp]at hR;simp only[Option.any_none,Bool.false_eq_true,if_false]at hR;clear hp hnx;generalize hv0:l[0]=v at*;exact wkl trivial
   |succ j =>
    have hj:j<l.length:=by omega
    have hp:rF l (j+1)=some l[j]:=by simp[rF,hj]
    have e2:=ay (f:=aZ) hj;rw[hp]at hR;simp only[Option.any_some,decide_eq_true_eq]at hR;have hg0:(0:Int)<((j+1:Nat):Int):=by omega
    have w0:IntKind.i64.wrap (((j+1:Nat):Int)-1)=(j:Int):=by rw[ai (by omega) (by omega)];omega
    have n0:(((j+1:Nat):Int)).toNat=j+1:=by omega
    clear hnx hp;generalize hv0:l[j+1]=v at*;generalize hq0:l[j]=q at*;by_cases hqo:q.o=v.o
    ·have h0:m_ v.o v.o=0:=cmpS_zero.2 rfl;simp only[hqo,h0,Int.lt_irrefl,true_and,false_or]at hR;exact wkl trivial
    ·have hqb:(q.o==v.o)=false:=by rw[Qr];exact hqo
     simp only[hqo,false_and,or_false]at hR;exact wkl trivial
  ·rw[List.drop_eq_nil_of_le (by omega),BL]at hR;exact wkl trivial
theorem pY {α:Type}{f:α->Int}{l:List α}{i:Nat}(h:i<l.length):fstE f (l.drop i)=if f l[i]=0 then fstE f (l.drop (i+1))else f l[i]:=by rw[List.drop_eq_getElem_cons h,fstE]
theorem p_ {α:Type}{f:α->Int}{l:List α}{i:Nat}(h:¬i<l.length):fstE f (l.drop i)=0:=by rw[List.drop_eq_nil_of_le (by omega),fstE]
def mrk (s:StateD):Nat->Int
 |0=>mksS s
 |1=>if mZ none s.got=0 then(if mZ none s.acks=0 then BL none s.pus else mZ none s.acks)else mZ none s.got
 |2=>if mZ none s.acks=0 then BL none s.pus else mZ none s.acks
 |_=>BL none s.pus
theorem iJ (s:StateD)(hs:StSm s):PureD Tryz.prog 85 [stateD s] (intD (bf s)):=by
 refine af λR hR=>?_;have c1:=Ey s.name;have c2:=uf s.h;have c3:=uf s.t;have l1:=hs.cls;have l2:=hs.cns;have l3:=hs.chs;have l4:=hs.sent;have l5:=hs.got;have l6:=hs.acks;have l7:=hs.pus;unfold bf at hR;refine aa 134 Tryz.func85 ?_;refine wkl ?_;clear hR c1 c2 c3;intro hR
 repeat' (intro _)
 have hR':Hr (intD (if fstE wrongC (s.cls.drop 0)=0 then Rq s else fstE wrongC (s.cls.drop 0))) R:=hR;clear hR;refine aF (ι:=Nat) (λi=>i<=s.cls.length/\Hr (intD (if fstE wrongC (s.cls.drop i)=0 then Rq s else fstE wrongC (s.cls.drop i))) R)
  (λi=>cO [(1,.pt 100 0 0 0),(71,.i (.sl (s.cls.map gJ))),(72,intD s.cls.length),(73,intD i)] [(100,.box ((encSt s).map .i))]) (λi=>s.cls.length-i) 0 ⟨Nat.zero_le _,hR'⟩ ?_ ?_
 ·exact bO [] [(100,1000)]
 ·rintro i ⟨hi,hR⟩ RL hL;clear hR';rw[ae];by_cases h:i<s.cls.length
  ·have e1:=ay (f:=gJ) h;rw[pY h]at hR;have b1:=λσ' (hq:Hr _ R)=>bk [] [(100,100)] (hL (i+1) σ' ⟨h,hq⟩);have c1:=Ap s.cls[i] (hs.cl _ (List.getElem_mem h)).l;clear hL hs;generalize s.cls[i]=v at*;by_cases hz:wrongC v=0
   ·rw[if_pos hz]at hR;rw[hz]at c1;exact wkl trivial
   ·rw[if_neg hz,if_neg hz]at hR;generalize wrongC v=W at*;exact wkl trivial
  ·rw[p_ h,if_pos rfl]at hR;clear hL;unfold Rq at hR;refine wkl ?_;clear hR;intro hR;have hR':Hr (intD (if fstE cnE (s.cns.drop 0)=0 then(if fstE chE s.chs=0 then mksS s else fstE chE s.chs)else fstE cnE (s.cns.drop 0))) R:=hR;clear hR;refine aF (ι:=Nat) (λi=>i<=s.cns.length/\Hr (intD (if fstE cnE (s.cns.drop i)=0 then(if fstE chE s.chs=0 then mksS s else fstE chE s.chs)else fstE cnE (s.cns.drop i))) R)
    (λi=>cO [(1,.pt 100 0 0 0),(85,intD s.cns.length),(86,intD i)] [(100,.box ((encSt s).map .i))]) (λi=>s.cns.length-i) 0 ⟨Nat.zero_le _,hR'⟩ ?_ ?_
   ·exact bO [] [(100,100)]
   ·rintro i ⟨hi,hR⟩ RL hL;clear hR';rw[ae];by_cases h:i<s.cns.length
    ·have e1:=ay (f:=dN) h;rw[pY h]at hR;have b1:=λσ' (hq:Hr _ R)=>bk [] [(100,100)] (hL (i+1) σ' ⟨h,hq⟩);have c1:=Yh s.cns[i];clear hL hs;generalize s.cns[i]=v at*;by_cases hz:cnE v=0
     ·rw[if_pos hz]at hR;rw[hz]at c1;exact wkl trivial
     ·rw[if_neg hz,if_neg hz]at hR;generalize cnE v=W at*;exact wkl trivial
    ·rw[p_ h,if_pos rfl]at hR;clear hL;refine wkl ?_;clear hR;intro hR;have hR':Hr (intD (if fstE chE (s.chs.drop 0)=0 then mksS s else fstE chE (s.chs.drop 0))) R:=hR;clear hR;refine aF (ι:=Nat) (λi=>i<=s.chs.length/\Hr (intD (if fstE chE (s.chs.drop i)=0 then mksS s else fstE chE (s.chs.drop i))) R)
      (λi=>cO [(1,.pt 100 0 0 0),(100,intD s.chs.length),(101,intD i)] [(100,.box ((encSt s).map .i))]) (λi=>s.chs.length-i) 0 ⟨Nat.zero_le _,hR'⟩ ?_ ?_
     ·exact bO [] [(100,100)]
     ·rintro i ⟨hi,hR⟩ RL hL;clear hR';rw[ae];by_cases h:i<s.chs.length
      ·have e1:=ay (f:=bA) h;rw[pY h]at hR;have b1:=λσ' (hq:Hr _ R)=>bk [] [(100,100)] (hL (i+1) σ' ⟨h,hq⟩);have c1:=Yi s.chs[i];clear hL hs;generalize s.chs[i]=v at*;by_cases hz:chE v=0
       ·rw[if_pos hz]at hR;rw[hz]at c1;exact wkl trivial
       ·rw[if_neg hz,if_neg hz]at hR;generalize chE v=W at*;exact wkl trivial
      ·rw[p_ h,if_pos rfl]at hR;clear hL;unfold mksS at hR;refine wkl ?_;clear hR;intro hR;have hR':Hr (intD (mrk s 0)) R:=hR;clear hR;refine aF (ι:=Nat) (λi=>i<=3/\Hr (intD (mrk s i)) R)
        (λi=>cO [(1,.pt 100 0 0 0),(119,.os 101 1 0 3),(120,intD 3),(121,intD i)] [(100,.box ((encSt s).map .i)),(101,.arr 1 [[.sl (s.sent.map bB)],[.sl (s.got.map bB)],[.sl (s.acks.map bB)]])]) (λi=>3-i) 0 ⟨Nat.zero_le _,hR'⟩ ?_ ?_
       ·exact bO [] [(100,100),(101,8174)]
       ·rintro i ⟨hi,hR⟩ RL hL;clear hR' hs;rw[ae];have b1:=λσ' (h:i+1<=3) (hq:Hr _ R)=>bk [] [(100,100),(101,101)] (hL (i+1) σ' ⟨h,hq⟩);clear hL
        match i,hi with
        |0,_ =>
         have c1:=zx s.sent l4;have b1:=λσ' (hq:Hr (intD (mrk s 1)) R)=>b1 σ' (by omega) hq;simp only[mrk]at b1;by_cases hz:mZ none s.sent=0
         ·simp only[mrk,mksS,hz,if_true]at hR;rw[hz]at c1;exact wkl trivial
         ·simp only[mrk,mksS,hz,if_false]at hR;generalize mZ none s.sent=W at*;exact wkl trivial
        |1,_ =>
         have c1:=zx s.got l5;have b1:=λσ' (hq:Hr (intD (mrk s 2)) R)=>b1 σ' (by omega) hq;simp only[mrk]at b1;by_cases hz:mZ none s.got=0
         ·simp only[mrk,hz,if_true]at hR;rw[hz]at c1;exact wkl trivial
         ·simp only[mrk,hz,if_false]at hR;generalize mZ none s.got=W at*;exact wkl trivial
        |2,_ =>
         have c1:=zx s.acks l6;have b1:=λσ' (hq:Hr (intD (mrk s 3)) R)=>b1 σ' (by omega) hq;simp only[mrk]at b1;by_cases hz:mZ none s.acks=0
         ·simp only[mrk,hz,if_true]at hR;rw[hz]at c1;exact wkl trivial
         ·simp only[mrk,hz,if_false]at hR;generalize mZ none s.acks=W at*;exact wkl trivial
        |3,_ =>have c1:=LX s.pus l7;clear b1;simp only[mrk]at hR;exact wkl trivial
end Go.Proofs.YtoifllbioldomaaGreatDoor
