/- Merged texts: StP, StS, ClnCl, ClnCn, ClnCh, ClnMk, ClnPu, StO, StW, StWr. -/
import Derived.Test.YtdmeldhlbpdeeaaGreatDoorGCl
set_option linter.all false
set_option maxHeartbeats 16000000
set_option maxRecDepth 20000
namespace Go.Proofs.YtdmeldhlbpdeeaaGreatDoor
open Go Go.Abs
structure ConnD where
 st:Int
 cl:Int
 oc:Int
 on:Int
structure ChanD where
 st:Int
 ord:Bool
 cn:Int
 oc:Int
 snd:Int
 rcv:Int
 ack:Int
structure MarkD where
 ch:Int
 seq:Int
 dg:List UInt8
structure StateD where
 name:ByteArray
 h:Int
 t:Int
 cls:List aD
 cns:List ConnD
 chs:List ChanD
 sent:List MarkD
 got:List MarkD
 acks:List MarkD
 pus:List PurseD
def d_ (c:ConnD):List I:=[.s (.int .i64 c.st),.s (.int .i64 c.cl),.s (.int .i64 c.oc),.s (.int .i64 c.on)]
def connD (c:ConnD):D:=.agg [.i (.s (.int .i64 c.st)),.i (.s (.int .i64 c.cl)),.i (.s (.int .i64 c.oc)),.i (.s (.int .i64 c.on))]
def bK (c:ChanD):List I:=[.s (.int .i64 c.st),.s (.bool c.ord),.s (.int .i64 c.cn),.s (.int .i64 c.oc),.s (.int .i64 c.snd),.s (.int .i64 c.rcv),.s (.int .i64 c.ack)]
def chanD (c:ChanD):D:=.agg [.i (.s (.int .i64 c.st)),.i (.s (.bool c.ord)),.i (.s (.int .i64 c.cn)),.i (.s (.int .i64 c.oc)),.i (.s (.int .i64 c.snd)),.i (.s (.int .i64 c.rcv)),.i (.s (.int .i64 c.ack))]
def bJ (m:MarkD):List I:=[.s (.int .i64 m.ch),.s (.int .i64 m.seq),bI m.dg]
def KN (m:MarkD):D:=.agg [.i (.s (.int .i64 m.ch)),.i (.s (.int .i64 m.seq)),.i (bI m.dg)]
def encSt (s:StateD):List I:=[.s (.string s.name),.s (.int .i64 s.h),.s (.int .i64 s.t),.sl (s.cls.map gF),.sl (s.cns.map d_),.sl (s.chs.map bK),.sl (s.sent.map bJ),.sl (s.got.map bJ),.sl (s.acks.map bJ),.sl (s.pus.map bf)]
def stateD (s:StateD):D:=.agg [.i (.s (.string s.name)),.i (.s (.int .i64 s.h)),.i (.s (.int .i64 s.t)),.i (.sl (s.cls.map gF)),.i (.sl (s.cns.map d_)),.i (.sl (s.chs.map bK)),.i (.sl (s.sent.map bJ)),.i (.sl (s.got.map bJ)),.i (.sl (s.acks.map bJ)),.i (.sl (s.pus.map bf))]
def zeroSt:StateD:=⟨⟨#[]⟩,0,0,[],[],[],[],[],[],[]⟩
structure StSm (s:StateD):Prop where
 cls:s.cls.length<=1048576
 cl:∀c∈s.cls,abG c
 cns:s.cns.length<=1048576
 chs:s.chs.length<=1048576
 sent:s.sent.length<=1048576
 got:s.got.length<=1048576
 acks:s.acks.length<=1048576
 dg:∀m,m∈s.sent\/m∈s.got\/m∈s.acks->m.dg.length<=1048576
 pus:s.pus.length<=1048576
attribute [simp,go_sem] d_ connD bK chanD bJ KN encSt stateD zeroSt bf puD oF
def nm (n least:Int):Bool:=decide (least<=n/\n<=1000000000000)
def cnE (c:ConnD):Int:=if c.st<1\/3<c.st then 1 else if ¬nm c.cl 0=true\/¬nm c.oc 0=true\/¬nm c.on (-1)=true then 3 else 0
def chE (c:ChanD):Int:=if c.st<1\/4<c.st then 1 else if ¬nm c.cn 0=true\/¬nm c.oc (-1)=true\/¬nm c.snd 1=true\/¬nm c.rcv 1=true\/¬nm c.ack 1=true then 3 else 0
def kH (m:MarkD)(ch seq:Int):Int:=if m.ch=ch then IntKind.i64.wrap (m.seq-seq)else IntKind.i64.wrap (m.ch-ch)
def GH {α:Type}(l:List α)(i:Nat):Option α:=if i=0 then none else l[i-1]?
def rU:Option MarkD->List MarkD->Int
 |_,[]=>0
 |o,m::t=>if ¬nm m.ch 0=true\/¬nm m.seq 1=true then 3 else if ¬(m.dg.length:Int)=32 then 2 else if(o.any λq=>decide (0<=kH q m.ch m.seq))=true then 2 else rU (some m) t
def KA:Option PurseD->List PurseD->Int
 |_,[]=>0
 |o,p::t=>if(p.o.size:Int)<1\/(40:Int)<p.o.size\/(p.d.size:Int)<1\/(40:Int)<p.d.size then 4 else if p.n=0 then 3 else if(o.any λq=>decide (0<nJ q.o p.o\/q.o=p.o/\0<=nJ q.d p.d))=true then 2 else KA (some p) t
def fstE {α:Type}(f:α->Int):List α->Int
 |[]=>0
 |a::t=>if f a=0 then fstE f t else f a
def mksS (s:StateD):Int:=if rU none s.sent=0 then(if rU none s.got=0 then(if rU none s.acks=0 then KA none s.pus else rU none s.acks)else rU none s.got)else rU none s.sent
def aeF (s:StateD):Int:=if fstE cnE s.cns=0 then(if fstE chE s.chs=0 then mksS s else fstE chE s.chs)else fstE cnE s.cns
def bq (s:StateD):Int :=
 if ic s.name=true then
  (if ¬lw s.h=true\/¬lw s.t=true then 3
  else if(4:Int)<s.cls.length\/(8:Int)<s.cns.length\/(8:Int)<s.chs.length\/(50:Int)<s.sent.length\/(50:Int)<s.got.length\/(50:Int)<s.acks.length\/(60:Int)<s.pus.length then 5
  else if fstE wrongC s.cls=0 then aeF s else fstE wrongC s.cls)
 else 7
open Go.RowKit Go.Proofs.YtdmeldhlbpdeeaaGreatDoor.Ty
def ze:=an9 @Ty.T0 @Ty.T3 @Ty.T4 @Ty.T5 @Ty.T9 @Ty.T22 @Ty.T29 @Ty.T35 (an @Ty.T37 @Ty.T76)
theorem abV (l:List aD):uni 4 (l.map gF)=true:=by simp[uni,gF]
theorem Va (l:List aD)(hl:l.length<=1048576):aL Tryz.prog 158 [.i (.sl (l.map gF))] noH (.os 1 4 0 l.length) (hOf noH [(1,.arr 4 (l.map gF))]):=by
 cases l with
 |nil =>
  refine ko (gH Tryz.func158 rfl rfl) λK vs hrd=>?_;obtain⟨hs,hg⟩:=hrd;obtain⟨a,c,hv⟩:=sl_nil (hg 0 _ rfl);refine⟨[.i (.s (.slice a 0 c))],?_,hs,λj d hd=>?_⟩
  ·have hun:=aig;refine aa 8 Tryz.func158 ?_;cases a with
   |none =>refine gr (an3 ze (jv hun) @Option.isNone_none.{0}) ?_;exact Be [] []
   |some a =>refine gr (an3 ze (jv hun) @Option.isNone_some.{0}) ?_;exact Be [] [(1,1770)]
  ·cases j with
   |zero=>simp at hd;subst hd;rw[hv];exact .i (.s _ rfl)
   |succ j=>simp at hd
 |cons p t =>
  have hu:=abV t;have e3:t.length+1<=140737488355328:=by simp at hl;omega
  have e4:(t.length+1)*56<=140737488355328:=by simp at hl;omega
  have e5:(gF p).length=4:=rfl;refine aa 8 Tryz.func158 ?_;refine gx (an8 ze hu e3 e4 e5 @List.map_cons.{0,0} @List.length_cons.{0} @List.length_map.{0,0}) ?_;exact Be [] [(1,1770)]
def zb:=an4 @Ty.T0 @Ty.T3 @Ty.T23 @Ty.ajc
theorem abU (l:List ConnD):uni 4 (l.map d_)=true:=by simp[uni,d_]
theorem U_ (l:List ConnD)(hl:l.length<=1048576):aL Tryz.prog 159 [.i (.sl (l.map d_))] noH (.os 1 4 0 l.length) (hOf noH [(1,.arr 4 (l.map d_))]):=by
 cases l with
 |nil =>
  refine ko (gH Tryz.func159 rfl rfl) λK vs hrd=>?_;obtain⟨hs,hg⟩:=hrd;obtain⟨a,c,hv⟩:=sl_nil (hg 0 _ rfl);refine⟨[.i (.s (.slice a 0 c))],?_,hs,λj d hd=>?_⟩
  ·have hun:=aif;refine aa 8 Tryz.func159 ?_;cases a with
   |none =>refine gr (an3 zb (jv hun) @Option.isNone_none.{0}) ?_;exact Be [] []
   |some a =>refine gr (an3 zb (jv hun) @Option.isNone_some.{0}) ?_;exact Be [] [(1,1770)]
  ·cases j with
   |zero=>simp at hd;subst hd;rw[hv];exact .i (.s _ rfl)
   |succ j=>simp at hd
 |cons p t =>
  have hu:=abU t;have e3:t.length+1<=140737488355328:=by simp at hl;omega
  have e4:(t.length+1)*32<=140737488355328:=by simp at hl;omega
  have e5:(d_ p).length=4:=rfl;refine aa 8 Tryz.func159 ?_;refine gx (an8 zb hu e3 e4 e5 @List.map_cons.{0,0} @List.length_cons.{0} @List.length_map.{0,0}) ?_;exact Be [] [(1,1770)]
def zf:=an5 @Ty.T0 @Ty.T3 @Ty.T4 @Ty.T24 @Ty.ajb
theorem abW (l:List ChanD):uni 7 (l.map bK)=true:=by simp[uni,bK]
theorem Vb (l:List ChanD)(hl:l.length<=1048576):aL Tryz.prog 160 [.i (.sl (l.map bK))] noH (.os 1 7 0 l.length) (hOf noH [(1,.arr 7 (l.map bK))]):=by
 cases l with
 |nil =>
  refine ko (gH Tryz.func160 rfl rfl) λK vs hrd=>?_;obtain⟨hs,hg⟩:=hrd;obtain⟨a,c,hv⟩:=sl_nil (hg 0 _ rfl);refine⟨[.i (.s (.slice a 0 c))],?_,hs,λj d hd=>?_⟩
  ·have hun:=aie;refine aa 8 Tryz.func160 ?_;cases a with
   |none =>refine gr (an3 zf (jv hun) @Option.isNone_none.{0}) ?_;exact Be [] []
   |some a =>refine gr (an3 zf (jv hun) @Option.isNone_some.{0}) ?_;exact Be [] [(1,1770)]
  ·cases j with
   |zero=>simp at hd;subst hd;rw[hv];exact .i (.s _ rfl)
   |succ j=>simp at hd
 |cons p t =>
  have hu:=abW t;have e3:t.length+1<=140737488355328:=by simp at hl;omega
  have e4:(t.length+1)*56<=140737488355328:=by simp at hl;omega
  have e5:(bK p).length=7:=rfl;refine aa 8 Tryz.func160 ?_;refine gx (an8 zf hu e3 e4 e5 @List.map_cons.{0,0} @List.length_cons.{0} @List.length_map.{0,0}) ?_;exact Be [] [(1,1770)]
def y_:=an6 @Ty.T0 @Ty.T3 @Ty.T5 @Ty.T25 @Ty.T29 @Ty.ai_
theorem abR (l:List MarkD):uni 3 (l.map bJ)=true:=by simp[uni,bJ]
theorem Az (l:List MarkD)(hl:l.length<=1048576):aL Tryz.prog 162 [.i (.sl (l.map bJ))] noH (.os 1 3 0 l.length) (hOf noH [(1,.arr 3 (l.map bJ))]):=by
 cases l with
 |nil =>
  refine ko (gH Tryz.func162 rfl rfl) λK vs hrd=>?_;obtain⟨hs,hg⟩:=hrd;obtain⟨a,c,hv⟩:=sl_nil (hg 0 _ rfl);refine⟨[.i (.s (.slice a 0 c))],?_,hs,λj d hd=>?_⟩
  ·have hun:=aic;refine aa 8 Tryz.func162 ?_;cases a with
   |none =>refine gr (an3 y_ (jv hun) @Option.isNone_none.{0}) ?_;exact Be [] []
   |some a =>refine gr (an3 y_ (jv hun) @Option.isNone_some.{0}) ?_;exact Be [] [(1,1770)]
  ·cases j with
   |zero=>simp at hd;subst hd;rw[hv];exact .i (.s _ rfl)
   |succ j=>simp at hd
 |cons p t =>
  have hu:=abR t;have e3:t.length+1<=140737488355328:=by simp at hl;omega
  have e4:(t.length+1)*40<=140737488355328:=by simp at hl;omega
  have e5:(bJ p).length=3:=rfl;refine aa 8 Tryz.func162 ?_;refine gx (an8 y_ hu e3 e4 e5 @List.map_cons.{0,0} @List.length_cons.{0} @List.length_map.{0,0}) ?_;exact Be [] [(1,1770)]
def yZ:=an5 @Ty.T0 @Ty.T9 @Ty.T26 @Ty.T59 @Ty.aiM
theorem abQ (l:List PurseD):uni 3 (l.map bf)=true:=by simp[uni,bf]
theorem UZ (l:List PurseD)(hl:l.length<=1048576):aL Tryz.prog 161 [.i (.sl (l.map bf))] noH (.os 1 3 0 l.length) (hOf noH [(1,.arr 3 (l.map bf))]):=by
 cases l with
 |nil =>
  refine ko (gH Tryz.func161 rfl rfl) λK vs hrd=>?_;obtain⟨hs,hg⟩:=hrd;obtain⟨a,c,hv⟩:=sl_nil (hg 0 _ rfl);refine⟨[.i (.s (.slice a 0 c))],?_,hs,λj d hd=>?_⟩
  ·have hun:=ahq;refine aa 8 Tryz.func161 ?_;cases a with
   |none =>refine gr (an3 yZ (jv hun) @Option.isNone_none.{0}) ?_;exact Be [] []
   |some a =>refine gr (an3 yZ (jv hun) @Option.isNone_some.{0}) ?_;exact Be [] [(1,1770)]
  ·cases j with
   |zero=>simp at hd;subst hd;rw[hv];exact .i (.s _ rfl)
   |succ j=>simp at hd
 |cons p t =>
  have hu:=abQ t;have e3:t.length+1<=140737488355328:=by simp at hl;omega
  have e4:(t.length+1)*40<=140737488355328:=by simp at hl;omega
  have e5:(bf p).length=3:=rfl;refine aa 8 Tryz.func161 ?_;refine gx (an8 yZ hu e3 e4 e5 @List.map_cons.{0,0} @List.length_cons.{0} @List.length_map.{0,0}) ?_;exact Be [] [(1,1770)]
def ahs (s:StateD)(k:Nat):List D:=[.i (.s (.string s.name)),.i (.s (.int .i64 s.h)),.i (.s (.int .i64 s.t)),.os 102 4 0 s.cls.length,.os 103 4 0 s.cns.length,.os 104 7 0 s.chs.length,
 if 0<k then .os 110 3 0 s.sent.length else .i (.sl (s.sent.map bJ)),if 1<k then .os 111 3 0 s.got.length else .i (.sl (s.got.map bJ)),if 2<k then .os 112 3 0 s.acks.length else .i (.sl (s.acks.map bJ)),.os 105 3 0 s.pus.length]
def acQ (s:StateD)(k:Nat):List (Nat×Ob):=[(100,.box (ahs s k)),(101,.box ((encSt zeroSt).map .i)),(102,.arr 4 (s.cls.map gF)),(103,.arr 4 (s.cns.map d_)),(104,.arr 7 (s.chs.map bK)),(105,.arr 3 (s.pus.map bf)),(106,.box [.pt 100 0 0 6,.pt 100 0 0 7,.pt 100 0 0 8]),
 (110,if 0<k then .arr 3 (s.sent.map bJ)else .dead),(111,if 1<k then .arr 3 (s.got.map bJ)else .dead),(112,if 2<k then .arr 3 (s.acks.map bJ)else .dead)]
attribute [local simp] Ra Aw
attribute [local simp,local go_sem] ahs acQ
theorem mE (s:StateD)(hs:StSm s):aL Tryz.prog 119 [stateD s] noH
  (.agg [.i (.s (.string s.name)),.i (.s (.int .i64 s.h)),.i (.s (.int .i64 s.t)),.os 1 4 0 s.cls.length,.os 2 4 0 s.cns.length,.os 3 7 0 s.chs.length,.os 4 3 0 s.sent.length,.os 5 3 0 s.got.length,.os 6 3 0 s.acks.length,.os 7 3 0 s.pus.length])
  (hOf noH [(1,.arr 4 (s.cls.map gF)),(2,.arr 4 (s.cns.map d_)),(3,.arr 7 (s.chs.map bK)),(4,.arr 3 (s.sent.map bJ)),(5,.arr 3 (s.got.map bJ)),(6,.arr 3 (s.acks.map bJ)),(7,.arr 3 (s.pus.map bf))]):=by
 refine ik λR R' hR hR'=>?_;have l1:=hs.cls;have l2:=hs.cns;have l3:=hs.chs;have l7:=hs.pus;have e1:=Va s.cls l1;refine aa 117 Tryz.func119 ?_;refine wkl ?_;clear hR;intro hR;refine aS (ι:=Nat) (λi=>i<=s.cls.length)
  (λi=>dP [(1,.pt 100 0 0 0),(2,.pt 101 0 0 0),(16,.os 102 4 0 s.cls.length),(17,intD s.cls.length),(18,intD i)]
   [(100,.box [.i (.s (.string s.name)),.i (.s (.int .i64 s.h)),.i (.s (.int .i64 s.t)),.os 102 4 0 s.cls.length,.i (.sl (s.cns.map d_)),.i (.sl (s.chs.map bK)),.i (.sl (s.sent.map bJ)),.i (.sl (s.got.map bJ)),.i (.sl (s.acks.map bJ)),.i (.sl (s.pus.map bf))]),
    (101,.box ((encSt zeroSt).map .i)),(102,.tab 4 (toD (s.cls.map gF)))])
  (λi=>s.cls.length-i) 0 (Nat.zero_le _) ?_ ?_
 ·exact dB [] [(100,1000),(101,1001),(102,901)]
 ·rintro i hi RL hL;rw[ag];by_cases h:i<s.cls.length
  ·have hc:=hs.cl _ (List.getElem_mem h);have hcl:=hc.l;have t1:=YU (f:=gF) h;have t2:=λrow=>YY (f:=gF) h row;have t3:=λ(H:Nat->Ob) (F:List Nat) (g:Nat->Option Nat) (o sz off n:Nat) (ho:F.contains o=true) (he:aO H (.os o sz off n)=some ((s.cls[i]'h).known.map gL))=>PU (f:=gF) h (H:=H) (F:=F) (s:=g) (.s (.string s.cls[i].c)) (.s (.int .i64 s.cls[i].trust)) (.s (.bool s.cls[i].frozen)) (s.cls[i].known.map gL) rfl o sz off n ho he;have t4:=λ(H:Nat->Ob) (F:List Nat) (g:Nat->Option Nat) (a b d:I) (o o' sz off n:Nat) (hh:g o'=some o)=>UK (f:=gF) (l:=s.cls) (i:=i) (H:=H) (F:=F) (s:=g) a b d o o' sz off n hh;have t5:=λrow hr=>aba (f:=gF) (l:=s.cls) (i:=i) row hr;have e2:=AA s.cls[i].known hcl;have hkn:=hc.k;have b1:=λσ'=>bk [103] [(100,100),(101,101),(102,102)] (hL (i+1) σ' h);clear hL e1 hc;generalize s.cls[i]=c at*;refine wkl ?_;clear hR;intro hR;refine aS (ι:=Nat) (λj=>j<=c.known.length)
    (λj=>dP [(1,.pt 100 0 0 0),(2,.pt 101 0 0 0),(3,intD i),(16,.os 102 4 0 s.cls.length),(17,intD s.cls.length),(18,intD i),(36,.os 103 4 0 c.known.length),(37,intD c.known.length),(38,intD j)]
     [(100,.box [.i (.s (.string s.name)),.i (.s (.int .i64 s.h)),.i (.s (.int .i64 s.t)),.os 102 4 0 s.cls.length,.i (.sl (s.cns.map d_)),.i (.sl (s.chs.map bK)),.i (.sl (s.sent.map bJ)),.i (.sl (s.got.map bJ)),.i (.sl (s.acks.map bJ)),.i (.sl (s.pus.map bf))]),
      (101,.box ((encSt zeroSt).map .i)),(102,.tab 4 ((toD (s.cls.map gF)).set i [.i (.s (.string c.c)),.i (.s (.int .i64 c.trust)),.i (.s (.bool c.frozen)),.os 103 4 0 c.known.length])),(103,.arr 4 (c.known.map gL))])
    (λj=>c.known.length-j) 0 (Nat.zero_le _) ?_ ?_
   ·exact dB [] [(100,100),(101,101),(102,102),(103,901)]
   ·rintro j hj RL2 hL2;rw[ag];by_cases h':j<c.known.length
    ·have s0:=aI (f:=gL) h';have s1:=rE (f:=gL) h';have hk:=hkn _ (List.getElem_mem h');have c1:=eT c.known[j].root (by have:=hk.r;omega);have c2:=eT c.known[j].next (by have:=hk.n;omega)
     have b2:=λσ'=>bk [] [(100,100),(101,101),(102,102),(103,103)] (hL2 (j+1) σ' h');clear hL2 hk hkn b1 e2;generalize c.known[j]=k at*;simp only[gL,bI]at s0 s1;exact wkl trivial
    ·clear hL2;exact wkl trivial
  ·clear hL e1;have e1:=U_ s.cns l2;have e2:=Vb s.chs l3;have e3:=UZ s.pus l7;have r1:=afb (P:=Tryz.prog) (t:=263) (e:=262) (by kernel_rfl) (by kernel_rfl) (by kernel_rfl);refine wkl ?_;clear hR;intro hR;refine aS (ι:=Nat) (λk=>k<=3) (λk=>dP [(1,.pt 100 0 0 0),(2,.pt 101 0 0 0),(84,.bs 106 0 3),(85,intD 3),(86,intD k)] (acQ s k)) (λk=>3-k) 0 (Nat.zero_le _) ?_ ?_
   ·exact dB [] [(100,100),(101,101),(102,102),(103,901),(104,902),(105,903),(106,4331),(110,950),(111,951),(112,952)]
   ·rintro k hk RL hL;rw[ag];have b1:=λσ' (h:k+1<=3)=>bk [] [(100,100),(101,101),(102,102),(103,103),(104,104),(105,105),(106,106),(110,110),(111,111),(112,112)] (hL (k+1) σ' h);clear hL e1 e2 e3;have l4:=hs.sent;have l5:=hs.got;have l6:=hs.acks
    match k,hk with
    |0,_ =>
     have e1:=Az s.sent l4;have b1:=λσ'=>b1 σ' (by omega);refine wkl ?_;clear hR;intro hR;refine aS (ι:=Nat) (λj=>j<=s.sent.length) (λj=>dP [(1,.pt 100 0 0 0),(2,.pt 101 0 0 0),(8,.pt 100 0 0 6),(84,.bs 106 0 3),(85,intD 3),(86,intD 0),(98,.os 110 3 0 s.sent.length),(99,intD s.sent.length),(100,intD j)] (acQ s 1)) (λj=>s.sent.length-j) 0 (Nat.zero_le _) ?_ ?_
     ·exact dB [] [(100,100),(101,101),(102,102),(103,103),(104,104),(105,105),(106,106),(110,901),(111,111),(112,112)]
     ·rintro j hj RL2 hL2;rw[ag];by_cases h':j<s.sent.length
      ·have s0:=aI (f:=bJ) h';have s1:=rE (f:=bJ) h';have hd:=hs.dg _ (.inl (List.getElem_mem h'));have c1:=eT s.sent[j].dg (by omega);have b2:=λσ'=>bk [] [(100,100),(101,101),(102,102),(103,103),(104,104),(105,105),(106,106),(110,110),(111,111),(112,112)] (hL2 (j+1) σ' h');clear hL2 b1 hd e1;generalize s.sent[j]=m at*;simp only[bJ,bI]at s0 s1;exact wkl trivial
      ·clear hL2 e1;exact wkl trivial
    |1,_ =>
     have e1:=Az s.got l5;have b1:=λσ'=>b1 σ' (by omega);refine wkl ?_;clear hR;intro hR;refine aS (ι:=Nat) (λj=>j<=s.got.length) (λj=>dP [(1,.pt 100 0 0 0),(2,.pt 101 0 0 0),(8,.pt 100 0 0 7),(84,.bs 106 0 3),(85,intD 3),(86,intD 1),(98,.os 111 3 0 s.got.length),(99,intD s.got.length),(100,intD j)] (acQ s 2)) (λj=>s.got.length-j) 0 (Nat.zero_le _) ?_ ?_
     ·exact dB [] [(100,100),(101,101),(102,102),(103,103),(104,104),(105,105),(106,106),(110,110),(111,901),(112,112)]
     ·rintro j hj RL2 hL2;rw[ag];by_cases h':j<s.got.length
      ·have s0:=aI (f:=bJ) h';have s1:=rE (f:=bJ) h';have hd:=hs.dg _ (.inr (.inl (List.getElem_mem h')));have c1:=eT s.got[j].dg (by omega);have b2:=λσ'=>bk [] [(100,100),(101,101),(102,102),(103,103),(104,104),(105,105),(106,106),(110,110),(111,111),(112,112)] (hL2 (j+1) σ' h');clear hL2 b1 hd e1;generalize s.got[j]=m at*;simp only[bJ,bI]at s0 s1;exact wkl trivial
      ·clear hL2 e1;exact wkl trivial
    |2,_ =>
     have e1:=Az s.acks l6;have b1:=λσ'=>b1 σ' (by omega);refine wkl ?_;clear hR;intro hR;refine aS (ι:=Nat) (λj=>j<=s.acks.length) (λj=>dP [(1,.pt 100 0 0 0),(2,.pt 101 0 0 0),(8,.pt 100 0 0 8),(84,.bs 106 0 3),(85,intD 3),(86,intD 2),(98,.os 112 3 0 s.acks.length),(99,intD s.acks.length),(100,intD j)] (acQ s 3)) (λj=>s.acks.length-j) 0 (Nat.zero_le _) ?_ ?_
     ·exact dB [] [(100,100),(101,101),(102,102),(103,103),(104,104),(105,105),(106,106),(110,110),(111,111),(112,901)]
     ·rintro j hj RL2 hL2;rw[ag];by_cases h':j<s.acks.length
      ·have s0:=aI (f:=bJ) h';have s1:=rE (f:=bJ) h';have hd:=hs.dg _ (.inr (.inr (List.getElem_mem h')));have c1:=eT s.acks[j].dg (by omega);have b2:=λσ'=>bk [] [(100,100),(101,101),(102,102),(103,103),(104,104),(105,105),(106,106),(110,110),(111,111),(112,112)] (hL2 (j+1) σ' h');clear hL2 b1 hd e1;generalize s.acks[j]=m at*;simp only[bJ,bI]at s0 s1;exact wkl trivial
      ·clear hL2 e1;exact wkl trivial
    |3,_ =>
     clear b1;have d1:iY [] [(1,102),(2,103),(3,104),(4,110),(5,111),(6,112),(7,105)]:=⟨trivial⟩
     obtain⟨rfl⟩:=hR';exact wkl trivial
theorem MF (s:StateD)(hs:StSm s):PureD Tryz.prog 119 [stateD s] (stateD s) :=
 QE (mE s hs) (kJ [1,2,3,4,5,6,7] (by simp[hOf,lk]))
end Go.Proofs.YtdmeldhlbpdeeaaGreatDoor
namespace Go.Proofs.YtdmeldhlbpdeeaaGreatDoor
open Go Go.Abs Go.RowKit Go.Proofs.YtdmeldhlbpdeeaaGreatDoor.Ty
theorem oM (n least:Int):PureD Tryz.prog 136 [intD n,intD least] (boolD (nm n least)):=by
 refine ai λR hR=>?_;unfold nm at hR;by_cases h1:least<=n<;>by_cases h2:n<=1000000000000<;>simp[h1,h2]at hR;all_goals
  refine aa 12 Tryz.func136 ?_;exact wkl trivial
theorem Za (c:ConnD):PureD Tryz.prog 85 [.rp (d_ c) 0] (intD (cnE c)):=by refine ai λR hR=>?_;have c1:=oM c.cl 0;have c2:=oM c.oc 0;have c3:=oM c.on (-1);unfold cnE at hR;refine aa 39 Tryz.func85 ?_;exact wkl trivial
theorem Zb (c:ChanD):PureD Tryz.prog 86 [.rp (bK c) 0] (intD (chE c)):=by refine ai λR hR=>?_;have c1:=oM c.cn 0;have c2:=oM c.oc (-1);have c3:=oM c.snd 1;have c4:=oM c.rcv 1;have c5:=oM c.ack 1;unfold chE at hR;refine aa 55 Tryz.func86 ?_;exact wkl trivial
theorem Gh (m:MarkD)(ch seq:Int):PureD Tryz.prog 137 [KN m,intD ch,intD seq] (intD (kH m ch seq)):=by refine ai λR hR=>?_;unfold kH at hR;refine aa 19 Tryz.func137 ?_;exact wkl trivial
theorem zt (l:List MarkD)(hl:l.length<=1048576):PureD Tryz.prog 87 [.i (.sl (l.map bJ))] (intD (rU none l)):=by
 refine ai λR hR=>?_;refine aa 45 Tryz.func87 ?_;refine wkl ?_;clear hR;intro hR;have hR':Hr (intD (rU (GH l 0) (l.drop 0))) R:=hR;clear hR;refine aS (ι:=Nat) (λi=>i<=l.length/\Hr (intD (rU (GH l i) (l.drop i))) R)
  (λi=>dP [(0,.i (.sl (l.map bJ))),(5,.i (.sl (l.map bJ))),(6,intD l.length),(7,intD i)] []) (λi=>l.length-i) 0 ⟨Nat.zero_le _,hR'⟩ ?_ ?_
 ·exact dB [] []
 ·rintro i ⟨hi,hR⟩ RL hL;clear hR';rw[ag];by_cases h:i<l.length
  ·have e1:=aI (f:=bJ) h;rw[List.drop_eq_getElem_cons h,rU]at hR;have hnx:GH l (i+1)=some l[i]:=by simp[GH,h]
   rw[<- hnx]at hR;have c1:=oM l[i].ch 0;have c2:=oM l[i].seq 1;have b1:=λσ' (hq:Hr _ R)=>bk [] [] (hL (i+1) σ' ⟨h,hq⟩);clear hL;cases i with
   |zero =>have hp:GH l 0=none:=rfl;rw[hp]at hR;simp only[Option.any_none,Bool.false_eq_true,if_false]at hR;clear hp hnx;generalize hv0:l[0]=v at*;exact wkl trivial
   |succ j =>
    have hj:j<l.length:=by omega
    have hp:GH l (j+1)=some l[j]:=by simp[GH,hj]
    have e2:=aI (f:=bJ) hj;rw[hp]at hR;simp only[Option.any_some,decide_eq_true_eq]at hR;have hg0:(0:Int)<((j+1:Nat):Int):=by omega
    have w0:IntKind.i64.wrap (((j+1:Nat):Int)-1)=(j:Int):=by rw[au (by omega) (by omega)];omega
    have n0:(((j+1:Nat):Int)).toNat=j+1:=by omega
    have c3:=Gh l[j] l[j+1].ch l[j+1].seq;clear hnx hp;generalize hv0:l[j+1]=v at*;generalize hq0:l[j]=q at*;exact wkl trivial
  ·rw[List.drop_eq_nil_of_le (by omega),rU]at hR;exact wkl trivial
theorem MC (l:List PurseD)(hl:l.length<=1048576):PureD Tryz.prog 88 [.i (oF l)] (intD (KA none l)):=by
 refine ai λR hR=>?_;refine aa 76 Tryz.func88 ?_;refine wkl ?_;clear hR;intro hR;have hR':Hr (intD (KA (GH l 0) (l.drop 0))) R:=hR;clear hR;refine aS (ι:=Nat) (λi=>i<=l.length/\Hr (intD (KA (GH l i) (l.drop i))) R)
  (λi=>dP [(0,.i (oF l)),(5,.i (oF l)),(6,intD l.length),(7,intD i)] []) (λi=>l.length-i) 0 ⟨Nat.zero_le _,hR'⟩ ?_ ?_
 ·exact dB [] []
 ·rintro i ⟨hi,hR⟩ RL hL;clear hR';rw[ag];by_cases h:i<l.length
  ·have e1:=aI (f:=bf) h;rw[List.drop_eq_getElem_cons h,KA]at hR;have hnx:GH l (i+1)=some l[i]:=by simp[GH,h]
   rw[<- hnx]at hR;have b1:=λσ' (hq:Hr _ R)=>bk [] [] (hL (i+1) σ' ⟨h,hq⟩);clear hL;cases i with
   |zero =>have hp:GH l 0=none:=rfl;rw[hp]at hR;simp only[Option.any_none,Bool.false_eq_true,if_false]at hR;clear hp hnx;generalize hv0:l[0]=v at*;exact wkl trivial
   |succ j =>
    have hj:j<l.length:=by omega
    have hp:GH l (j+1)=some l[j]:=by simp[GH,hj]
    have e2:=aI (f:=bf) hj;rw[hp]at hR;simp only[Option.any_some,decide_eq_true_eq]at hR;have hg0:(0:Int)<((j+1:Nat):Int):=by omega
    have w0:IntKind.i64.wrap (((j+1:Nat):Int)-1)=(j:Int):=by rw[au (by omega) (by omega)];omega
    have n0:(((j+1:Nat):Int)).toNat=j+1:=by omega
    clear hnx hp;generalize hv0:l[j+1]=v at*;generalize hq0:l[j]=q at*;by_cases hqo:q.o=v.o
    ·have h0:nJ v.o v.o=0:=cmpS_zero.2 rfl;simp only[hqo,h0,Int.lt_irrefl,true_and,false_or]at hR;exact wkl trivial
    ·have hqb:(q.o==v.o)=false:=by rw[Yi];exact hqo
     simp only[hqo,false_and,or_false]at hR;exact wkl trivial
  ·rw[List.drop_eq_nil_of_le (by omega),KA]at hR;exact wkl trivial
theorem ET {α:Type}{f:α->Int}{l:List α}{i:Nat}(h:i<l.length):fstE f (l.drop i)=if f l[i]=0 then fstE f (l.drop (i+1))else f l[i]:=by rw[List.drop_eq_getElem_cons h,fstE]
theorem EU {α:Type}{f:α->Int}{l:List α}{i:Nat}(h:¬i<l.length):fstE f (l.drop i)=0:=by rw[List.drop_eq_nil_of_le (by omega),fstE]
def mrk (s:StateD):Nat->Int
 |0=>mksS s
 |1=>if rU none s.got=0 then(if rU none s.acks=0 then KA none s.pus else rU none s.acks)else rU none s.got
 |2=>if rU none s.acks=0 then KA none s.pus else rU none s.acks
 |_=>KA none s.pus
theorem iL (s:StateD)(hs:StSm s):PureD Tryz.prog 27 [stateD s] (intD (bq s)):=by
 refine ai λR hR=>?_;have c1:=EQ s.name;have c2:=tK s.h;have c3:=tK s.t;have l1:=hs.cls;have l2:=hs.cns;have l3:=hs.chs;have l4:=hs.sent;have l5:=hs.got;have l6:=hs.acks;have l7:=hs.pus;unfold bq at hR;refine aa 134 Tryz.func27 ?_;refine wkl ?_;clear hR c1 c2 c3;intro hR
 repeat' (intro _)
 have hR':Hr (intD (if fstE wrongC (s.cls.drop 0)=0 then aeF s else fstE wrongC (s.cls.drop 0))) R:=hR;clear hR;refine aS (ι:=Nat) (λi=>i<=s.cls.length/\Hr (intD (if fstE wrongC (s.cls.drop i)=0 then aeF s else fstE wrongC (s.cls.drop i))) R)
  (λi=>dP [(1,.pt 100 0 0 0),(71,.i (.sl (s.cls.map gF))),(72,intD s.cls.length),(73,intD i)] [(100,.box ((encSt s).map .i))]) (λi=>s.cls.length-i) 0 ⟨Nat.zero_le _,hR'⟩ ?_ ?_
 ·exact dB [] [(100,1000)]
 ·rintro i ⟨hi,hR⟩ RL hL;clear hR';rw[ag];by_cases h:i<s.cls.length
  ·have e1:=aI (f:=gF) h;rw[ET h]at hR;have b1:=λσ' (hq:Hr _ R)=>bk [] [(100,100)] (hL (i+1) σ' ⟨h,hq⟩);have c1:=Av s.cls[i] (hs.cl _ (List.getElem_mem h)).l;clear hL hs;generalize s.cls[i]=v at*;by_cases hz:wrongC v=0
   ·rw[if_pos hz]at hR;rw[hz]at c1;exact wkl trivial
   ·rw[if_neg hz,if_neg hz]at hR;generalize wrongC v=W at*;exact wkl trivial
  ·rw[EU h,if_pos rfl]at hR;clear hL;unfold aeF at hR;refine wkl ?_;clear hR;intro hR;have hR':Hr (intD (if fstE cnE (s.cns.drop 0)=0 then(if fstE chE s.chs=0 then mksS s else fstE chE s.chs)else fstE cnE (s.cns.drop 0))) R:=hR;clear hR;refine aS (ι:=Nat) (λi=>i<=s.cns.length/\Hr (intD (if fstE cnE (s.cns.drop i)=0 then(if fstE chE s.chs=0 then mksS s else fstE chE s.chs)else fstE cnE (s.cns.drop i))) R)
    (λi=>dP [(1,.pt 100 0 0 0),(85,intD s.cns.length),(86,intD i)] [(100,.box ((encSt s).map .i))]) (λi=>s.cns.length-i) 0 ⟨Nat.zero_le _,hR'⟩ ?_ ?_
   ·exact dB [] [(100,100)]
   ·rintro i ⟨hi,hR⟩ RL hL;clear hR';rw[ag];by_cases h:i<s.cns.length
    ·have e1:=aI (f:=d_) h;rw[ET h]at hR;have b1:=λσ' (hq:Hr _ R)=>bk [] [(100,100)] (hL (i+1) σ' ⟨h,hq⟩);have c1:=Za s.cns[i];clear hL hs;generalize s.cns[i]=v at*;by_cases hz:cnE v=0
     ·rw[if_pos hz]at hR;rw[hz]at c1;exact wkl trivial
     ·rw[if_neg hz,if_neg hz]at hR;generalize cnE v=W at*;exact wkl trivial
    ·rw[EU h,if_pos rfl]at hR;clear hL;refine wkl ?_;clear hR;intro hR;have hR':Hr (intD (if fstE chE (s.chs.drop 0)=0 then mksS s else fstE chE (s.chs.drop 0))) R:=hR;clear hR;refine aS (ι:=Nat) (λi=>i<=s.chs.length/\Hr (intD (if fstE chE (s.chs.drop i)=0 then mksS s else fstE chE (s.chs.drop i))) R)
      (λi=>dP [(1,.pt 100 0 0 0),(100,intD s.chs.length),(101,intD i)] [(100,.box ((encSt s).map .i))]) (λi=>s.chs.length-i) 0 ⟨Nat.zero_le _,hR'⟩ ?_ ?_
     ·exact dB [] [(100,100)]
     ·rintro i ⟨hi,hR⟩ RL hL;clear hR';rw[ag];by_cases h:i<s.chs.length
      ·have e1:=aI (f:=bK) h;rw[ET h]at hR;have b1:=λσ' (hq:Hr _ R)=>bk [] [(100,100)] (hL (i+1) σ' ⟨h,hq⟩);have c1:=Zb s.chs[i];clear hL hs;generalize s.chs[i]=v at*;by_cases hz:chE v=0
       ·rw[if_pos hz]at hR;rw[hz]at c1;exact wkl trivial
       ·rw[if_neg hz,if_neg hz]at hR;generalize chE v=W at*;exact wkl trivial
      ·rw[EU h,if_pos rfl]at hR;clear hL;unfold mksS at hR;refine wkl ?_;clear hR;intro hR;have hR':Hr (intD (mrk s 0)) R:=hR;clear hR;refine aS (ι:=Nat) (λi=>i<=3/\Hr (intD (mrk s i)) R)
        (λi=>dP [(1,.pt 100 0 0 0),(119,.os 101 1 0 3),(120,intD 3),(121,intD i)] [(100,.box ((encSt s).map .i)),(101,.arr 1 [[.sl (s.sent.map bJ)],[.sl (s.got.map bJ)],[.sl (s.acks.map bJ)]])]) (λi=>3-i) 0 ⟨Nat.zero_le _,hR'⟩ ?_ ?_
       ·exact dB [] [(100,100),(101,8174)]
       ·rintro i ⟨hi,hR⟩ RL hL;clear hR' hs;rw[ag];have b1:=λσ' (h:i+1<=3) (hq:Hr _ R)=>bk [] [(100,100),(101,101)] (hL (i+1) σ' ⟨h,hq⟩);clear hL
        match i,hi with
        |0,_ =>
         have c1:=zt s.sent l4;have b1:=λσ' (hq:Hr (intD (mrk s 1)) R)=>b1 σ' (by omega) hq;simp only[mrk]at b1;by_cases hz:rU none s.sent=0
         ·simp only[mrk,mksS,hz,if_true]at hR;rw[hz]at c1;exact wkl trivial
         ·simp only[mrk,mksS,hz,if_false]at hR;generalize rU none s.sent=W at*;exact wkl trivial
        |1,_ =>
         have c1:=zt s.got l5;have b1:=λσ' (hq:Hr (intD (mrk s 2)) R)=>b1 σ' (by omega) hq;simp only[mrk]at b1;by_cases hz:rU none s.got=0
         ·simp only[mrk,hz,if_true]at hR;rw[hz]at c1;exact wkl trivial
         ·simp only[mrk,hz,if_false]at hR;generalize rU none s.got=W at*;exact wkl trivial
        |2,_ =>
         have c1:=zt s.acks l6;have b1:=λσ' (hq:Hr (intD (mrk s 3)) R)=>b1 σ' (by omega) hq;simp only[mrk]at b1;by_cases hz:rU none s.acks=0
         ·simp only[mrk,hz,if_true]at hR;rw[hz]at c1;exact wkl trivial
         ·simp only[mrk,hz,if_false]at hR;generalize rU none s.acks=W at*;exact wkl trivial
        |3,_ =>have c1:=MC s.pus l7;clear b1;simp only[mrk]at hR;exact wkl trivial
end Go.Proofs.YtdmeldhlbpdeeaaGreatDoor
