/- Merged texts: BrP, BrX, SrtV, BrE, BrA. -/
import Derived.Test.YtfenipelcpmkpaaGreatDoorGAp
import Derived.Test.YtfenipelcpmkpaaGreatDoorGSo
set_option linter.all false
set_option maxHeartbeats 16000000
set_option maxRecDepth 20000
namespace Go.Proofs.YtfenipelcpmkpaaGreatDoor
open Go Go.Abs
structure EndD where
 sg:gQ
 st:StateD
structure aV where
 s:StateD
 seeds:List (List UInt8)
 vals:List dO
 past:List EndD
structure EvD where
 kind:Int
 side:Int
 later:Int
 trust:Int
 cl:Int
 m:MsgD
def bH (e:EndD):List I:=[.s (.string e.sg.hdr.c),.s (.int .i64 e.sg.hdr.h),.s (.int .i64 e.sg.hdr.t),bI e.sg.hdr.root,bI e.sg.hdr.vals,bI e.sg.hdr.next,valsI e.sg.vals,votesI e.sg.votes,
 .s (.string e.st.name),.s (.int .i64 e.st.h),.s (.int .i64 e.st.t),.sl (e.st.cls.map gG),.sl (e.st.cns.map dU),.sl (e.st.chs.map bG),.sl (e.st.sent.map bN),.sl (e.st.got.map bN),.sl (e.st.acks.map bN),.sl (e.st.pus.map aX)]
def Lx (c:aV):List I:=[.s (.string c.s.name),.s (.int .i64 c.s.h),.s (.int .i64 c.s.t),.sl (c.s.cls.map gG),.sl (c.s.cns.map dU),.sl (c.s.chs.map bG),.sl (c.s.sent.map bN),.sl (c.s.got.map bN),.sl (c.s.acks.map bN),.sl (c.s.pus.map aX),
 bbI c.seeds,valsI c.vals,.sl (c.past.map bH)]
def mE (c:aV) (o:Nat):List D:=[.i (.s (.string c.s.name)),.i (.s (.int .i64 c.s.h)),.i (.s (.int .i64 c.s.t)),.i (.sl (c.s.cls.map gG)),.i (.sl (c.s.cns.map dU)),.i (.sl (c.s.chs.map bG)),.i (.sl (c.s.sent.map bN)),.i (.sl (c.s.got.map bN)),.i (.sl (c.s.acks.map bN)),.i (.sl (c.s.pus.map aX)),
 .i (bbI c.seeds),.i (valsI c.vals),.os o 18 0 c.past.length]
attribute [simp,go_sem] bH Lx mE
def jT (s:StateD):List UInt8 × Int:=if (ic s).2=0 then (GX (ic s).1,((dM (ic s).1).1:Nat)) else ([],(ic s).2)
def ui (c:aV):oN:=⟨c.s.name,c.s.h,c.s.t,(jT c.s).1,cO c.vals,cO c.vals⟩
def dH (c:aV) (later:Int):aV × jN :=
 if (jr c.s later).2=0 then
  (if (jT c.s).2=0 then
   (if (kF (ui c) c.vals c.seeds).2=0 then ({ c with s:=(jr c.s later).1,past:=c.past++[⟨(kF (ui c) c.vals c.seeds).1,c.s⟩] },⟨0,((c.past.length+1:Nat):Int),zeroPk⟩)
   else (c,dE (kF (ui c) c.vals c.seeds).2))
  else (c,dE (jT c.s).2))
 else (c,dE (jr c.s later).2)
def mQ (c:aV) (m:MsgD):aV × jN:=(if (doS c.s m).2.err=0 then { c with s:=(doS c.s m).1 } else c,(doS c.s m).2)
def ZE:EndD:=⟨⟨⟨⟨#[]⟩,0,0,[],[],[]⟩,[],[]⟩,zeroSt⟩
def CO (o:aV):EndD:=o.past.getLastD ZE
def vS (o:aV) (trust:Int):MsgD:={ oP with kind:=1,chain:=(CO o).sg.hdr.c,trust:=trust,kn:=ofH (CO o).sg.hdr }
def iB (c o:aV) (trust:Int):aV × jN:=if o.past.length=0 then (c,dE 6) else mQ c (vS o trust)
def vO (c o:aV) (i:Int):MsgD:={ oP with kind:=2,cl:=i,up:=⟨(kJ (kN c.s i)).h,(CO o).sg,o.vals⟩ }
def iA (c o:aV) (i:Int):aV × jN:=if o.past.length=0\/i < 0\/(c.s.cls.length:Int)<=i then (c,dE 6) else mQ c (vO c o i)
def kH (c:aV) (i:Int):Int × Bool:=if i < 0\/(c.s.cns.length:Int)<=i then (0,false) else ((cnAt c.s i).cl,true)
def gM (c:aV) (i:Int):ChanD × Int × Bool:=if i < 0\/(c.s.chs.length:Int)<=i then (zeroCh,0,false) else (chAt c.s i,kH c (chAt c.s i).cn)
def nH (c:aV) (m:MsgD):Int × List UInt8 × Bool × Bool :=
 if m.kind=5 then (m.cl,keyC m.oend,false,true)
 else if m.kind=6 then ((kH c m.ed).1,keyC m.oend,false,(kH c m.ed).2)
 else if m.kind=7 then ((kH c m.ed).1,if (kH c m.ed).2=true then keyC (cnAt c.s m.ed).on else [],false,(kH c m.ed).2)
 else if m.kind=9 then ((kH c m.ed).1,keyH m.oend,false,(kH c m.ed).2)
 else if m.kind=10 then ((gM c m.ed).2.1,keyH m.oend,false,(gM c m.ed).2.2)
 else if m.kind=11\/m.kind=13 then ((gM c m.ed).2.1,keyH (gM c m.ed).1.oc,false,(gM c m.ed).2.2)
 else if m.kind=15 then ((gM c m.pk.de).2.1,keyM nM m.pk.fr m.pk.seq,false,(gM c m.pk.de).2.2)
 else if m.kind=16 then ((gM c m.pk.fr).2.1,keyM GA m.pk.de m.pk.seq,false,(gM c m.pk.fr).2.2)
 else if m.kind=17 then (if (gM c m.pk.fr).1.ord=true then ((gM c m.pk.fr).2.1,keyN m.pk.de,false,(gM c m.pk.fr).2.2) else ((gM c m.pk.fr).2.1,keyM Gz m.pk.de m.pk.seq,true,(gM c m.pk.fr).2.2))
 else (0,[],false,false)
def atB (o:aV) (h:Int):Option EndD:=o.past.find? fun e=>decide (e.sg.hdr.h=h)
def XG (m:MsgD) (s:StateD):Int:=if m.kind=17/\0<=m.pk.de/\m.pk.de < (s.chs.length:Int) then (chAt s m.pk.de).rcv else m.next
def EM (c o:aV) (m:MsgD):MsgD :=
 if (nH c m).2.2.2=false\/(nH c m).1 < 0\/(c.s.cls.length:Int)<=(nH c m).1 then m
 else match atB o (kJ (kN c.s (nH c m).1)).h with
  | none=>m
  | some e =>
   if (nH c m).2.2.1=true then { m with sh:={ zSh with h:=(kJ (kN c.s (nH c m).1)).h,g:=(Yk (ic e.st).1 (nH c m).2.1).1 } }
   else { m with sh:={ zSh with h:=(kJ (kN c.s (nH c m).1)).h,p:=(GR (ic e.st).1 (nH c m).2.1).1 },next:=XG m e.st }
def nV (c o:aV) (m:MsgD):MsgD:=EM c o { m with sh:=zSh }
def gK (c o:aV) (e:EvD):aV × jN :=
 if e.kind=1 then dH c e.later else if e.kind=2 then iB c o e.trust else if e.kind=3 then iA c o e.cl
 else if e.kind=4 then mQ c e.m else if e.kind=5 then mQ c (nV c o e.m) else (c,dE 1)
abbrev qD:=aV × aV
def stepB (w:qD) (e:EvD):qD × jN :=
 if e.side=0 then (((gK w.1 w.2 e).1,w.2),(gK w.1 w.2 e).2)
 else if e.side=1 then ((w.1,(gK w.2 w.1 e).1),(gK w.2 w.1 e).2)
 else (w,dE 1)
def runB:qD->List EvD->qD × List jN
 | w,[]=>(w,[])
 | w,e :: t=>((runB (stepB w e).1 t).1,(stepB w e).2 :: (runB (stepB w e).1 t).2)
theorem nY (e:EvD):∀ (l:List EvD) (w:qD),runB w (l++[e])=((stepB (runB w l).1 e).1,(runB w l).2++[(stepB (runB w l).1 e).2])
 | [],w=>rfl
 | a :: t,w=>by simp only [List.cons_append,runB]; rw [nY e t]
theorem jS (l2:List EvD):∀ (l:List EvD) (w:qD),runB w (l++l2)=((runB (runB w l).1 l2).1,(runB w l).2++(runB (runB w l).1 l2).2)
 | [],w=>rfl
 | a :: t,w=>by simp only [List.cons_append,runB]; rw [jS l2 t]
theorem rE:∀ (l:List EvD) (w:qD),(runB w l).2.length=l.length
 | [],_=>rfl
 | a :: t,w=>by simp only [runB,List.length_cons]; rw [rE t]
def PP (v:dO):List dO->List dO
 | []=>[v]
 | a :: t=>if v.k < a.k then v :: a :: t else a :: PP v t
def seedB (name:ByteArray) (i:Nat):List UInt8:=name.data.toList++Lib.itoa (i:Nat)
def GG (name:ByteArray):List dO:=PP ⟨keyF (seedB name 2),1⟩ (PP ⟨keyF (seedB name 1),1⟩ [⟨keyF (seedB name 0),1⟩])
def aW (name owner denom:ByteArray):aV:=⟨⟨name,1,1,[],[],[],[],[],[],[⟨owner,denom,1000⟩]⟩,[seedB name 0,seedB name 1,seedB name 2],GG name,[]⟩
end Go.Proofs.YtfenipelcpmkpaaGreatDoor
namespace Go.Abs
open Go Go.RowKit
def BD:List (Nat × Ob)->(Nat->Ob)->Nat->Ob
 | [],H=>H
 | (j,x) :: t,H=>upd (BD t H) j x
attribute [simp,go_sem] BD
theorem IJ (H:Nat->Ob) (a:Nat):∀ l:List (Nat × Ob),BD l H a=(fnd l a).getD (H a)
 | []=>rfl
 | (j,x) :: t=>by
  simp only [BD,fnd]
  by_cases h:a=j
  ·subst h; simp [upd]
  ·rw [upd_ne _ _ h,if_neg h]; exact IJ H a t
theorem fnd_some {α:Type} {l:List (Nat × α)} {k:Nat} {x:α} (h:fnd l k=some x):(k,x)∈l:=Dk h
theorem yC {α:Type} {k:Nat}:∀ {l:List (Nat × α)},fnd l k=none->∀ p∈l,p.1≠k
 | [],_,p,hp=>by cases hp
 | (j,x) :: t,h,p,hp=>by
  simp only [fnd] at h
  split at h
  ·cases h
  ·rename_i hne
   rcases List.mem_cons.1 hp with rfl | hp
   ·exact fun e=>hne e.symm
   ·exact yC h p hp
section
variable {P:Program} {H:Nat->Ob} {f:FuncId} {ds gs:List D} {r r':D} {objs objs' new:List (Nat × Ob)}
theorem Gd (ρ ρ':List (Nat × Nat)) (hL:aR P f ds (hF objs) r (hOf (hF objs) objs')) (hgs:cvs H [] (fnd ρ) gs ds)
  (ho:∀ p∈objs,∃ o,fnd ρ p.1=some o/\cvO H [] (fnd ρ) (H o) p.2) (hk:(ρ.all fun q=>objs.any fun p=>p.1 == q.1)=true)
  (hinj:(ρ.all fun p=>ρ.all fun q=>p.2 != q.2 || p.1 == q.1)=true)
  (hn:∀ p∈new,∃ l,fnd ρ' p.1=some l/\cvO (hOf (hF objs) objs') [] (fnd ρ') (hOf (hF objs) objs' l) p.2) (hk':(ρ'.all fun q=>new.any fun p=>p.1 == q.1)=true)
  (hinj':(ρ'.all fun p=>ρ'.all fun q=>p.2 != q.2 || p.1 == q.1)=true) (hr':cv (hOf (hF objs) objs') [] (fnd ρ') r r')
  (hback:(ρ.all fun p=>fnd ρ' p.2 == some p.1)=true) (hnew:∀ q∈ρ',fnd ρ q.2=some q.1\/H q.1=.fresh):aR P f gs H r' (BD new H):=by
 have hfl:∀ a,hF objs a=(fnd objs a).getD .fresh:=fun a=>by show lk objs .fresh a=_; rw [RO]
 have h:=eH (H:=H) (gs:=gs) (L2:=fun a=>(fnd new a).getD .dead) (r':=r') [] (fnd ρ) (fnd ρ') hL hgs
  (fun a=>by
   cases e:fnd ρ a with
   | none =>
    cases e2:fnd objs a with
    | none=>left; exact ⟨by rw [hfl,e2]; rfl,rfl⟩
    | some x =>
     obtain ⟨o,h1,_⟩:=ho _ (fnd_some e2)
     rw [e] at h1; cases h1
   | some o =>
    right; right; right
    refine ⟨o,rfl,?_⟩
    rw [iX]
    cases e2:fnd objs a with
    | none =>
     have:=List.all_eq_true.1 hk _ (fnd_some e)
     obtain ⟨p,hp,hpe⟩:=List.any_eq_true.1 this
     exact absurd (by simpa using hpe) (yC e2 p hp)
    | some x =>
     obtain ⟨o2,h1,h2⟩:=ho _ (fnd_some e2)
     rw [e] at h1; cases h1
     rw [hfl,e2]; exact h2)
  (fun a b d _ _ h3 h4=>by
   have:=List.all_eq_true.1 (List.all_eq_true.1 hinj _ (fnd_some h3)) _ (fnd_some h4)
   simpa using this)
  (fun a=>by
   cases e:fnd new a with
   | none=>right; left; rfl
   | some x =>
    right; right; right
    obtain ⟨l,h1,h2⟩:=hn _ (fnd_some e)
    exact ⟨l,h1,by rw [iX]; exact h2⟩)
  (fun a b d _ _ h3 h4=>by
   have:=List.all_eq_true.1 (List.all_eq_true.1 hinj' _ (fnd_some h3)) _ (fnd_some h4)
   simpa using this)
  hr'
  (fun l g hg=>by
   have:=List.all_eq_true.1 hback _ (fnd_some hg)
   simpa using this)
  (fun g l hg=>by
   rcases hnew _ (fnd_some hg) with h | h
   ·exact .inl h
   ·exact .inr ⟨h,by simp⟩)
 have e:(fun a=>if (fnd ρ' a).isSome then (fnd new a).getD .dead else frz [] H a)=BD new H:=by
  funext a
  rw [IJ,iX]
  cases e:fnd ρ' a with
  | none =>
   cases e2:fnd new a with
   | none=>rfl
   | some x =>
    obtain ⟨l,h1,_⟩:=hn _ (fnd_some e2)
    rw [e] at h1; cases h1
  | some l =>
   cases e2:fnd new a with
   | none =>
    have:=List.all_eq_true.1 hk' _ (fnd_some e)
    obtain ⟨p,hp,hpe⟩:=List.any_eq_true.1 this
    exact absurd (by simpa using hpe) (yC e2 p hp)
   | some x=>rfl
 rw [e] at h
 exact h
variable {n:Nat} {σ:St} {ks:List Fr} {Q:Ex->St->Prop} {rid:Nat} {rest:List It} {dst:Option Nat}
attribute [local simp] fnd
theorem si (ρ ρ':List (Nat × Nat)) (new:List (Nat × Ob)) (r':D) (hL:aR P f ds (hF objs) r (hOf (hF objs) objs')) (h:Ro P n rid rest (St.put ⟨σ.sl,BD new σ.H⟩ dst r') ks Q)
  (hgs:cvs σ.H [] (fnd ρ) gs ds:=by simp [and_assoc,cvs,fnd]) (ho:∀ p∈objs,∃ o,fnd ρ p.1=some o/\cvO σ.H [] (fnd ρ) (σ.H o) p.2:=by simp [fnd,and_assoc,hF,lk]) (hk:(ρ.all fun q=>objs.any fun p=>p.1 == q.1)=true:=by rfl)
  (hinj:(ρ.all fun p=>ρ.all fun q=>p.2 != q.2 || p.1 == q.1)=true:=by rfl)
  (hn:∀ p∈new,∃ l,fnd ρ' p.1=some l/\cvO (hOf (hF objs) objs') [] (fnd ρ') (hOf (hF objs) objs' l) p.2:=by simp [fnd,and_assoc,hF,hOf,lk]) (hk':(ρ'.all fun q=>new.any fun p=>p.1 == q.1)=true:=by rfl)
  (hinj':(ρ'.all fun p=>ρ'.all fun q=>p.2 != q.2 || p.1 == q.1)=true:=by rfl) (hr':cv (hOf (hF objs) objs') [] (fnd ρ') r r':=by simp)
  (hback:(ρ.all fun p=>fnd ρ' p.2 == some p.1)=true:=by simp [fnd]) (hnew:∀ q∈ρ',fnd ρ q.2=some q.1\/σ.H q.1=.fresh:=by simp [fnd,hF,lk,noH]):Call P n rid f gs dst rest σ ks Q :=
 ⟨_,_,.inl (Gd ρ ρ' hL hgs ho hk hinj hn hk' hinj' hr' hback hnew),h⟩
end
end Go.Abs
namespace Go.Proofs.YtfenipelcpmkpaaGreatDoor
open Go Go.Abs Go.RowKit Go.Proofs.YtfenipelcpmkpaaGreatDoor.Ty
def Ws (a b:Nat):Int:=if (a:Int) < b then -1 else if (b:Int) < a then 1 else 0
theorem Rj (a:Nat):PureD Tryz.prog 166 [.i (.s (.int .u64 (a:Int)))] (boolD false):=by
 refine ak fun R hR=>?_
 refine aa 6 Tryz.func166 rfl rfl rfl (fun _ _=>rfl) ?_
 exact wkl trivial
theorem SH (a b:Nat):PureD Tryz.prog 119 [.i (.s (.int .u64 (a:Int))),.i (.s (.int .u64 (b:Int)))] (intD (Ws a b)):=by
 refine ak fun R hR=>?_
 have c1:=Rj a
 have c2:=Rj b
 unfold Ws at hR
 refine aa 20 Tryz.func119 rfl rfl rfl (fun _ _=>rfl) ?_
 exact wkl trivial
theorem SG (u v:dO):PureD Tryz.prog 118 [.agg [.i (.s (.int .u64 u.k)),.i (.s (.int .u64 u.p))],.agg [.i (.s (.int .u64 v.k)),.i (.s (.int .u64 v.p))]] (intD (Ws u.k v.k)):=by
 refine ak fun R hR=>?_
 have c1:=SH u.k v.k
 generalize Ws u.k v.k=C at *
 refine aa 10 Tryz.func118 rfl rfl rfl (fun _ _=>rfl) ?_
 exact wkl trivial
theorem WB (l:List dO) (h3:l.length=3) (hs:∀ i (h:i+1 < l.length),l[i].k < l[i+1].k) :
  aR Tryz.prog 196 [.os 0 2 0 3,intD 0,intD 3,.fn 118 []] (hF [(0,.arr 2 (l.map ja))]) (.tup []) (hOf (hF [(0,.arr 2 (l.map ja))]) [(0,.arr 2 (l.map ja))]):=by
 refine iV fun R R' hR hR'=>?_
 have d1:jc [] []:=⟨trivial⟩
 refine aa 53 Tryz.func196 rfl rfl rfl (fun o ho=>by simp [hF,lk,show o≠0 by omega,show o≠1 by omega,show o≠2 by omega,show o≠3 by omega,show o≠4 by omega,show o≠5 by omega]) ?_
 refine wkl ?_
 clear hR; intro hR
 refine aY (ι:=Nat) (fun i=>1<=i/\i<=3) (fun i=>eu [(0,.os 0 2 0 3),(1,intD 0),(2,intD 3),(3,.fn 118 []),(8,intD i)] [(0,.arr 2 (l.map ja))]) (fun i=>3 - i) 1 ⟨Nat.le_refl _,by decide⟩ ?_ ?_
 ·exact dR [] []
 ·rintro i ⟨hi1,hi3⟩ RL hL
  rw [au]
  by_cases h:i < 3
  ·obtain ⟨j,rfl⟩:∃ j,i=j+1:=⟨i - 1,by omega⟩
   have hj:j+1 < l.length:=by omega
   have s0:=aF (f:=ja) hj
   have s1:=aF (f:=ja) (l:=l) (i:=j) (by omega)
   have w1:IntKind.i64.wrap (((j+1:Nat):Int) - 1)=(j:Int):=by rw [aB (by omega) (by omega)]; omega
   have w2:IntKind.i64.wrap (((j+1:Nat):Int)+1)=((j+2:Nat):Int):=by rw [aB (by omega) (by omega)]; omega
   have hk:=hs j hj
   have b1:=fun σ'=>bk [] [] (hL (j+2) σ' ⟨by omega,by omega⟩)
   have c1:=SG l[j+1] l[j]
   have hc:Ws l[j+1].k l[j].k=1:=by unfold Ws; rw [if_neg (by omega),if_pos (by omega)]
   rw [hc] at c1
   have g1:(0:Int) < ((j+1:Nat):Int):=by omega
   have n0:(((j+1:Nat):Int)).toNat=j+1:=by omega
   clear hL hs hc hk
   generalize hu:l[j+1]=u at *
   generalize hv:l[j]=v at *
   simp only [ja] at s0 s1
   refine wkl ?_
   clear hR; intro hR
   refine aY (ι:=Unit) (fun _=>True) (fun _=>eu [(0,.os 0 2 0 3),(1,intD 0),(2,intD 3),(3,.fn 118 []),(8,intD ((j+1:Nat):Int)),(9,intD ((j+1:Nat):Int))] [(0,.arr 2 (l.map ja))]) (fun _=>0) () trivial ?_ ?_
   ·exact dR [] []
   ·rintro _ _ RL2 hL2
    rw [au]
    clear hL2
    exact wkl trivial
  ·have hi:i=3:=by omega
   subst hi
   clear hL hs
   obtain ⟨rfl⟩:=hR'
   exact wkl trivial
theorem Wz (l:List dO) (h3:l.length=3) (hs:∀ i (h:i+1 < l.length),l[i].k < l[i+1].k) :
  aR Tryz.prog 165 [.os 0 2 0 3,intD 0,intD 3,intD 2,.fn 118 []] (hF [(0,.arr 2 (l.map ja))]) (.tup []) (hOf (hF [(0,.arr 2 (l.map ja))]) [(0,.arr 2 (l.map ja))]):=by
 refine iV fun R R' hR hR'=>?_
 have d1:jc [] []:=⟨trivial⟩
 have hD:=WB l h3 hs
 clear hs
 refine aa 148 Tryz.func165 rfl rfl rfl (fun o ho=>by simp [hF,lk,show o≠0 by omega,show o≠1 by omega,show o≠2 by omega,show o≠3 by omega,show o≠4 by omega,show o≠5 by omega]) ?_
 refine wkl ?_
 clear hR; intro hR
 refine aY (ι:=Unit) (fun _=>True) (fun _=>eu [(0,.os 0 2 0 3),(1,intD 0),(2,intD 3),(3,intD 2),(4,.fn 118 [])] [(0,.arr 2 (l.map ja))]) (fun _=>0) () trivial ?_ ?_
 ·exact dR [] []
 ·rintro _ _ RL hL
  rw [au]
  clear hL
  refine wkl ?_
  clear hR; intro hR
  repeat' (intro _)
  refine si [(0,0)] [(0,0)] [(0,.arr 2 (l.map ja))] (.tup []) hD ?_
  clear hD
  obtain ⟨rfl⟩:=hR'
  exact wkl trivial
theorem WA:PureD Tryz.prog 89 [.i (.s (.int .u64 3))] (intD 2):=by
 refine ak fun R hR=>?_
 have c1:=CK 3 (by decide) (by decide)
 rw [show Nat.log2 3+1=2 by decide] at c1
 refine aa 8 Tryz.func89 rfl rfl rfl (fun _ _=>rfl) ?_
 exact wkl trivial
theorem SF (l:List dO) (h3:l.length=3) (hs:∀ i (h:i+1 < l.length),l[i].k < l[i+1].k) :
  aR Tryz.prog 117 [.os 0 2 0 3,.fn 118 []] (hF [(0,.arr 2 (l.map ja))]) (.tup []) (hOf (hF [(0,.arr 2 (l.map ja))]) [(0,.arr 2 (l.map ja))]):=by
 refine iV fun R R' hR hR'=>?_
 have d1:jc [] []:=⟨trivial⟩
 have hD:=Wz l h3 hs
 have c1:=WA
 clear hs
 refine aa 14 Tryz.func117 rfl rfl rfl (fun o ho=>by simp [hF,lk,show o≠0 by omega,show o≠1 by omega,show o≠2 by omega,show o≠3 by omega,show o≠4 by omega,show o≠5 by omega]) ?_
 refine wkl ?_
 clear hR; intro hR
 repeat' (intro _)
 refine si [(0,0)] [(0,0)] [(0,.arr 2 (l.map ja))] (.tup []) hD ?_
 clear hD
 obtain ⟨rfl⟩:=hR'
 exact wkl trivial
theorem zD {name:ByteArray} (h1:keyF (seedB name 0) < keyF (seedB name 1)) (h2:keyF (seedB name 1) < keyF (seedB name 2)):GG name=(List.range 3).map fun j=>⟨keyF (seedB name j),1⟩:=by
 unfold GG
 have h3:¬ keyF (seedB name 1) < keyF (seedB name 0):=by omega
 have h4:¬ keyF (seedB name 2) < keyF (seedB name 0):=by omega
 have h5:¬ keyF (seedB name 2) < keyF (seedB name 1):=by omega
 simp [PP,h3,h4,h5,List.range_succ]
theorem Gm (name owner denom:ByteArray) (hn:name.size<=20) (h1:keyF (seedB name 0) < keyF (seedB name 1)) (h2:keyF (seedB name 1) < keyF (seedB name 2)) :
  aR Tryz.prog 62 [.i (.s (.string name)),.i (.s (.string owner)),.i (.s (.string denom))] noH (.pt 1 0 0 0) (hOf noH [(1,.box (mE (aW name owner denom) 2)),(2,.arr 18 [])]):=by
 refine iV fun R R' hR hR'=>?_
 have hv:=zD h1 h2
 have hD:=SF ((List.range 3).map fun j=>(⟨keyF (seedB name j),1⟩:dO)) (by simp) (fun i hi=>by
  simp at hi
  have:i=0\/i=1:=by omega
  rcases this with rfl | rfl
  ·simpa using h1
  ·simpa using h2)
 unfold aW at hR'
 rw [hv] at hR'
 have hsd:(List.range 3).map (fun j=>seedB name j)=[seedB name 0,seedB name 1,seedB name 2]:=rfl
 rw [<- hsd] at hR'
 clear h1 h2 hv hsd
 refine aa 55 Tryz.func62 rfl rfl rfl (fun _ _=>rfl) ?_
 refine wkl ?_
 clear hR; intro hR
 refine aY (ι:=Nat) (fun i=>i<=3) (fun i=>eu [(0,.i (.s (.string name))),(7,.pt 100 0 0 0),(18,intD i)]
  [(100,.box [.i (.s (.string name)),.i (.s (.int .i64 1)),.i (.s (.int .i64 1)),.i (.s (.slice none 0 0)),.i (.s (.slice none 0 0)),.i (.s (.slice none 0 0)),.i (.s (.slice none 0 0)),.i (.s (.slice none 0 0)),.i (.s (.slice none 0 0)),.os 103 3 0 1,.os 101 1 0 i,.os 102 2 0 i,.i (.s (.slice none 0 0))]),
   (101,.arr 1 (((List.range i).map (fun j=>seedB name j)).map fun s=>[bI s])),(102,.arr 2 (((List.range i).map fun j=>(⟨keyF (seedB name j),1⟩:dO)).map ja)),(103,.arr 3 [[.s (.string owner),.s (.string denom),.s (.int .u64 1000)]])]) (fun i=>3 - i) 0 (Nat.zero_le _) ?_ ?_
 ·exact dR [] [(100,1263),(103,1260)]
 ·rintro i hi RL hL
  rw [au]
  by_cases h:i < 3
  ·have c1:=qL (i:Int) (by omega) (by omega)
   have hl:=Lib.itoa_length_le (i:Int) (by omega) (by omega)
   have hz:(seedB name i).length<=1000:=by
    have hz:name.data.toList.length=name.size:=rfl
    simp only [seedB,List.length_append]; omega
   have c2:=PL (seedB name i) (by omega)
   have hcat:name++⟨(Lib.itoa (i:Int)).toArray⟩=⟨(seedB name i).toArray⟩:=by
    apply ByteArray.ext
    simp [seedB,ByteArray.data_append]
   have q1:∀ P t x y,fV P .add t x y (some (.string name)) (some (.string ⟨(Lib.itoa (i:Int)).toArray⟩))=some (.i (.s (.string ⟨(seedB name i).toArray⟩))):=fun P t x y=>by rw [iK (by simp only [ByteArray.size,List.size_toArray] at hn ⊢; omega),hcat]
   have q2:SX ⟨(seedB name i).toArray⟩=bI (seedB name i):=rfl
   have m1:((List.range i).map (fun j=>seedB name j)).map (fun s=>[bI s])++[[bI (seedB name i)]]=((List.range (i+1)).map (fun j=>seedB name j)).map fun s=>[bI s]:=by rw [List.range_succ]; simp
   have m2:((List.range i).map fun j=>(⟨keyF (seedB name j),1⟩:dO)).map ja++[ja ⟨keyF (seedB name i),1⟩]=((List.range (i+1)).map fun j=>(⟨keyF (seedB name j),1⟩:dO)).map ja:=by rw [List.range_succ]; simp
   have b1:=fun σ'=>bk [] [(100,100),(101,2543),(102,2801),(103,103)] (hL (i+1) σ' h)
   have lr:(List.range i).length=i:=List.length_range
   have a1:i+1<=140737488355328:=by omega
   have a2:(i+1) * 24<=140737488355328:=by omega
   have a3:(i+1) * 16<=140737488355328:=by omega
   simp only [bI,ja,bO,Int.natCast_one] at m1 m2 c2 q2
   clear hL hD hcat hl
   generalize (Lib.itoa (i:Int))=I at *
   have l1:((List.range i).map (fun j=>seedB name j)).length=i:=by simp
   have l2:((List.range i).map fun j=>(⟨keyF (seedB name j),1⟩:dO)).length=i:=by simp
   generalize (List.range i).map (fun j=>seedB name j)=SD at *
   generalize ((List.range i).map fun j=>(⟨keyF (seedB name j),1⟩:dO))=V at *
   generalize (List.range (i+1)).map (fun j=>seedB name j)=SD2 at *
   generalize ((List.range (i+1)).map fun j=>(⟨keyF (seedB name j),1⟩:dO))=V2 at *
   generalize seedB name i=S at *
   generalize keyF S=K at *
   clear lr
   exact wkl trivial
  ·have h3:i=3:=by omega
   subst h3
   clear hL
   have t1:(((List.range 3).map (fun j=>seedB name j)).map fun s=>[bI s]).take 3=((List.range 3).map (fun j=>seedB name j)).map fun s=>[bI s]:=by rw [List.take_of_length_le (by simp)]
   have g1:((List.range 3).map (fun j=>seedB name j)).length=3:=by simp
   have g2:((List.range 3).map fun j=>(⟨keyF (seedB name j),1⟩:dO)).length=3:=by simp
   have t2:(((List.range 3).map fun j=>(⟨keyF (seedB name j),1⟩:dO)).map ja).take 3=((List.range 3).map fun j=>(⟨keyF (seedB name j),1⟩:dO)).map ja:=by rw [List.take_of_length_le (by simp)]
   generalize ((List.range 3).map fun j=>(⟨keyF (seedB name j),1⟩:dO))=V at *
   generalize ((List.range 3).map (fun j=>seedB name j))=SD at *
   simp only [bI] at t1
   refine wkl ?_
   clear hR; intro hR
   repeat' (intro _)
   refine si [(0,102)] [(102,0)] [(102,.arr 2 (V.map ja))] (.tup []) hD ?_
   clear hD
   have d1:jc [101,102,103] [(1,100)]:=⟨trivial⟩
   obtain ⟨rfl⟩:=hR'
   refine wkl ?_
   clear hR; intro hR
   obtain ⟨rfl⟩:=hR
   refine fin_d d1 rfl ?_ ?_ rfl ?_ rfl
   all_goals (try simp only [go_sem,Nat.reduceLT,Nat.reduceAdd,Nat.reduceMul,reduceIte,Nat.reduceEqDiff,reduceCtorEq,Nat.reducePow,Nat.reduceLeDiff,Int.reduceLE,Int.reduceLT,Int.reduceToNat,Int.reduceEq,Nat.reduceBEq])
   all_goals simp [*]
theorem zf (c:aV) (ok:StOk c.s) (i:Int):PureD Tryz.prog 178 [.rp (Lx c) 0,intD i] (.tup [intD (kH c i).1,boolD (kH c i).2]):=by
 refine ak fun R hR=>?_
 have hl:=ok.lcn
 unfold kH at hR
 by_cases h:i < 0\/(c.s.cns.length:Int)<=i
 ·rw [if_pos h] at hR
  clear ok
  refine aa 27 Tryz.func178 rfl rfl rfl (fun _ _=>rfl) ?_
  exact wkl trivial
 ·rw [if_neg h] at hR
  have hi:i.toNat < c.s.cns.length:=by omega
  have s0:=aF (f:=dU) hi
  rw [(dG (s:=c.s) (i:=i) (by omega)).1] at hR
  clear ok
  generalize c.s.cns[i.toNat]=x at *
  refine aa 27 Tryz.func178 rfl rfl rfl (fun _ _=>rfl) ?_
  exact wkl trivial
theorem uR (c:aV) (ok:StOk c.s) (i:Int):PureD Tryz.prog 179 [.rp (Lx c) 0,intD i] (.tup [chanD (gM c i).1,intD (gM c i).2.1,boolD (gM c i).2.2]):=by
 refine ak fun R hR=>?_
 have hl:=ok.lch
 unfold gM at hR
 by_cases h:i < 0\/(c.s.chs.length:Int)<=i
 ·rw [if_pos h] at hR
  clear ok
  refine aa 41 Tryz.func179 rfl rfl rfl (fun _ _=>rfl) ?_
  exact wkl trivial
 ·rw [if_neg h] at hR
  have hi:i.toNat < c.s.chs.length:=by omega
  have s0:=aF (f:=bG) hi
  have c1:=zf c ok (chAt c.s i).cn
  rw [(bQ (s:=c.s) (i:=i) (by omega)).1] at hR c1
  clear ok
  generalize c.s.chs[i.toNat]=x at *
  generalize kH c x.cn=Y at *
  refine aa 41 Tryz.func179 rfl rfl rfl (fun _ _=>rfl) ?_
  exact wkl trivial
theorem Vl {c:aV} (ok:StOk c.s) (i:Int):gW (gM c i).1.oc:=by
 unfold gM gW
 split
 ·simp
 ·rename_i h
  have:=(ok.chs _ (bQ (s:=c.s) (i:=i) (by omega)).2).oc
  unfold N12 at this
  simp only; omega
structure NA (m:MsgD):Prop where
 oend:gW m.oend
 fr:gW m.pk.fr
 de:gW m.pk.de
 seq:gW m.pk.seq
def Zv (c:aV) (m:MsgD):List (Nat × Ob):=[(0,.box (mE c 1)),(1,.arr 18 (c.past.map bH)),(2,.box ((encMsg m).map .i))]
attribute [simp,go_sem] Zv
theorem Vx (c:aV) (ok:StOk c.s) (m:MsgD) (hm:NA m):aR Tryz.prog 123 [.pt 0 0 0 0,.pt 2 0 0 0] (hF (Zv c m)) (.tup [intD (nH c m).1,.i (bI (nH c m).2.1),boolD (nH c m).2.2.1,boolD (nH c m).2.2.2]) (hOf (hF (Zv c m)) (Zv c m)):=by
 refine iV fun R R' hR hR'=>?_
 have d1:jc [] []:=⟨trivial⟩
 obtain ⟨rfl⟩:=hR'
 unfold nH at hR
 by_cases k5:m.kind=5
 ·rw [if_pos k5] at hR
  have c1:=AU m.oend hm.oend
  generalize keyC m.oend=K at *
  clear ok hm
  refine aa 197 Tryz.func123 rfl rfl rfl (fun o ho=>by simp [hF,lk,show o≠0 by omega,show o≠1 by omega,show o≠2 by omega,show o≠3 by omega,show o≠4 by omega,show o≠5 by omega]) ?_
  exact wkl trivial
 ·rw [if_neg k5] at hR
  by_cases k6:m.kind=6
  ·rw [if_pos k6] at hR
   have c1:=AU m.oend hm.oend
   have c2:=zf c ok m.ed
   generalize keyC m.oend=K at *
   generalize kH c m.ed=Y at *
   clear ok hm
   refine aa 197 Tryz.func123 rfl rfl rfl (fun o ho=>by simp [hF,lk,show o≠0 by omega,show o≠1 by omega,show o≠2 by omega,show o≠3 by omega,show o≠4 by omega,show o≠5 by omega]) ?_
   exact wkl trivial
  ·rw [if_neg k6] at hR
   by_cases k7:m.kind=7
   ·rw [if_pos k7] at hR
    have c1:=zf c ok m.ed
    have hl:=ok.lcn
    by_cases h:m.ed < 0\/(c.s.cns.length:Int)<=m.ed
    ·have e:kH c m.ed=(0,false):=by unfold kH; rw [if_pos h]
     rw [e] at hR c1
     simp only [Bool.false_eq_true,if_false] at hR c1
     clear ok hm e
     refine aa 197 Tryz.func123 rfl rfl rfl (fun o ho=>by simp [hF,lk,show o≠0 by omega,show o≠1 by omega,show o≠2 by omega,show o≠3 by omega,show o≠4 by omega,show o≠5 by omega]) ?_
     exact wkl trivial
    ·have e:kH c m.ed=((cnAt c.s m.ed).cl,true):=by unfold kH; rw [if_neg h]
     have hi:m.ed.toNat < c.s.cns.length:=by omega
     have s0:=aF (f:=dU) hi
     have hon:=(ok.cns _ (dG (s:=c.s) (i:=m.ed) (by omega)).2).on
     have c2:=AU (cnAt c.s m.ed).on (by unfold N12 at hon; unfold gW; omega)
     rw [e] at hR c1
     simp only [if_true] at hR c1
     rw [(dG (s:=c.s) (i:=m.ed) (by omega)).1] at hR c1 c2
     clear ok hm e hon
     generalize c.s.cns[m.ed.toNat]=x at *
     generalize keyC x.on=K at *
     refine aa 197 Tryz.func123 rfl rfl rfl (fun o ho=>by simp [hF,lk,show o≠0 by omega,show o≠1 by omega,show o≠2 by omega,show o≠3 by omega,show o≠4 by omega,show o≠5 by omega]) ?_
     exact wkl trivial
   ·rw [if_neg k7] at hR
    by_cases k9:m.kind=9
    ·rw [if_pos k9] at hR
     have c1:=Ay m.oend hm.oend
     have c2:=zf c ok m.ed
     generalize keyH m.oend=K at *
     generalize kH c m.ed=Y at *
     clear ok hm
     refine aa 197 Tryz.func123 rfl rfl rfl (fun o ho=>by simp [hF,lk,show o≠0 by omega,show o≠1 by omega,show o≠2 by omega,show o≠3 by omega,show o≠4 by omega,show o≠5 by omega]) ?_
     exact wkl trivial
    ·rw [if_neg k9] at hR
     by_cases k10:m.kind=10
     ·rw [if_pos k10] at hR
      have c1:=Ay m.oend hm.oend
      have c2:=uR c ok m.ed
      generalize keyH m.oend=K at *
      generalize gM c m.ed=Y at *
      clear ok hm
      refine aa 197 Tryz.func123 rfl rfl rfl (fun o ho=>by simp [hF,lk,show o≠0 by omega,show o≠1 by omega,show o≠2 by omega,show o≠3 by omega,show o≠4 by omega,show o≠5 by omega]) ?_
      exact wkl trivial
     ·rw [if_neg k10] at hR
      by_cases k11:m.kind=11\/m.kind=13
      ·rw [if_pos k11] at hR
       have c1:=Ay (gM c m.ed).1.oc (Vl ok m.ed)
       have c2:=uR c ok m.ed
       generalize keyH (gM c m.ed).1.oc=K at *
       generalize gM c m.ed=Y at *
       clear ok hm
       rcases k11 with k11 | k11
       all_goals
        refine aa 197 Tryz.func123 rfl rfl rfl (fun o ho=>by simp [hF,lk,show o≠0 by omega,show o≠1 by omega,show o≠2 by omega,show o≠3 by omega,show o≠4 by omega,show o≠5 by omega]) ?_
        exact wkl trivial
      ·rw [if_neg k11] at hR
       have k11a:¬ m.kind=11:=fun e=>k11 (.inl e)
       have k11b:¬ m.kind=13:=fun e=>k11 (.inr e)
       clear k11
       by_cases k15:m.kind=15
       ·rw [if_pos k15] at hR
        have c1:=om nM m.pk.fr m.pk.seq (by decide) hm.fr hm.seq
        have c2:=uR c ok m.pk.de
        generalize keyM nM m.pk.fr m.pk.seq=K at *
        generalize gM c m.pk.de=Y at *
        simp only [nM,GA,Gz] at *
        clear ok hm
        refine aa 197 Tryz.func123 rfl rfl rfl (fun o ho=>by simp [hF,lk,show o≠0 by omega,show o≠1 by omega,show o≠2 by omega,show o≠3 by omega,show o≠4 by omega,show o≠5 by omega]) ?_
        exact wkl trivial
       ·rw [if_neg k15] at hR
        by_cases k16:m.kind=16
        ·rw [if_pos k16] at hR
         have c1:=om GA m.pk.de m.pk.seq (by decide) hm.de hm.seq
         have c2:=uR c ok m.pk.fr
         generalize keyM GA m.pk.de m.pk.seq=K at *
         generalize gM c m.pk.fr=Y at *
         simp only [nM,GA,Gz] at *
         clear ok hm
         refine aa 197 Tryz.func123 rfl rfl rfl (fun o ho=>by simp [hF,lk,show o≠0 by omega,show o≠1 by omega,show o≠2 by omega,show o≠3 by omega,show o≠4 by omega,show o≠5 by omega]) ?_
         exact wkl trivial
        ·rw [if_neg k16] at hR
         by_cases k17:m.kind=17
         ·rw [if_pos k17] at hR
          have c1:=om Gz m.pk.de m.pk.seq (by decide) hm.de hm.seq
          have c2:=Ki m.pk.de hm.de
          have c3:=uR c ok m.pk.fr
          generalize keyM Gz m.pk.de m.pk.seq=K at *
          generalize keyN m.pk.de=K2 at *
          generalize gM c m.pk.fr=Y at *
          simp only [nM,GA,Gz] at *
          clear ok hm
          cases ho:Y.1.ord
          ·simp only [ho,Bool.false_eq_true,if_false] at hR
           refine aa 197 Tryz.func123 rfl rfl rfl (fun o ho=>by simp [hF,lk,show o≠0 by omega,show o≠1 by omega,show o≠2 by omega,show o≠3 by omega,show o≠4 by omega,show o≠5 by omega]) ?_
           exact wkl trivial
          ·simp only [ho,if_true] at hR
           refine aa 197 Tryz.func123 rfl rfl rfl (fun o ho=>by simp [hF,lk,show o≠0 by omega,show o≠1 by omega,show o≠2 by omega,show o≠3 by omega,show o≠4 by omega,show o≠5 by omega]) ?_
           exact wkl trivial
         ·rw [if_neg k17] at hR
          clear ok hm
          refine aa 197 Tryz.func123 rfl rfl rfl (fun o ho=>by simp [hF,lk,show o≠0 by omega,show o≠1 by omega,show o≠2 by omega,show o≠3 by omega,show o≠4 by omega,show o≠5 by omega]) ?_
          exact wkl trivial
end Go.Proofs.YtfenipelcpmkpaaGreatDoor
