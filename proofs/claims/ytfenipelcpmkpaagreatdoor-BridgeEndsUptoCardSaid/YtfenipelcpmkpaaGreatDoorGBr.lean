/- Merged texts: BrP, BrX, SrtV, BrE, BrA. -/
import Derived.Test.YtfenipelcpmkpaaGreatDoorGAp
import Derived.Test.YtfenipelcpmkpaaGreatDoorGSo
set_option linter.all false
set_option maxHeartbeats 16000000
set_option maxRecDepth 20000
namespace Go.Proofs.YtfenipelcpmkpaaGreatDoor
open Go Go.Abs
structure EndD where
 sg:gU
 st:StateD
structure aR where
 s:StateD
 seeds:List (List UInt8)
 vals:List dR
 past:List EndD
structure EvD where
 kind:Int
 side:Int
 later:Int
 trust:Int
 cl:Int
 m:MsgD
def bJ (e:EndD):List I:=[.s (.string e.sg.hdr.c),.s (.int .i64 e.sg.hdr.h),.s (.int .i64 e.sg.hdr.t),bI e.sg.hdr.root,bI e.sg.hdr.vals,bI e.sg.hdr.next,valsI e.sg.vals,votesI e.sg.votes,
 .s (.string e.st.name),.s (.int .i64 e.st.h),.s (.int .i64 e.st.t),.sl (e.st.cls.map gI),.sl (e.st.cns.map dF),.sl (e.st.chs.map bF),.sl (e.st.sent.map bQ),.sl (e.st.got.map bQ),.sl (e.st.acks.map bQ),.sl (e.st.pus.map aZ)]
def LQ (c:aR):List I:=[.s (.string c.s.name),.s (.int .i64 c.s.h),.s (.int .i64 c.s.t),.sl (c.s.cls.map gI),.sl (c.s.cns.map dF),.sl (c.s.chs.map bF),.sl (c.s.sent.map bQ),.sl (c.s.got.map bQ),.sl (c.s.acks.map bQ),.sl (c.s.pus.map aZ),
 bbI c.seeds,valsI c.vals,.sl (c.past.map bJ)]
def mJ (c:aR) (o:Nat):List D:=[.i (.s (.string c.s.name)),.i (.s (.int .i64 c.s.h)),.i (.s (.int .i64 c.s.t)),.i (.sl (c.s.cls.map gI)),.i (.sl (c.s.cns.map dF)),.i (.sl (c.s.chs.map bF)),.i (.sl (c.s.sent.map bQ)),.i (.sl (c.s.got.map bQ)),.i (.sl (c.s.acks.map bQ)),.i (.sl (c.s.pus.map aZ)),
 .i (bbI c.seeds),.i (valsI c.vals),.os o 18 0 c.past.length]
attribute [simp,go_sem] bJ LQ mJ
def jW (s:StateD):List UInt8 × Int:=if (gF s).2=0 then (Hm (gF s).1,((dP (gF s).1).1:Nat)) else ([],(gF s).2)
def uk (c:aR):oQ:=⟨c.s.name,c.s.h,c.s.t,(jW c.s).1,dh c.vals,dh c.vals⟩
def dC (c:aR) (later:Int):aR × lT :=
 if (jA c.s later).2=0 then
  (if (jW c.s).2=0 then
   (if (kG (uk c) c.vals c.seeds).2=0 then ({ c with s:=(jA c.s later).1,past:=c.past++[⟨(kG (uk c) c.vals c.seeds).1,c.s⟩] },⟨0,((c.past.length+1:Nat):Int),zeroPk⟩)
   else (c,dE (kG (uk c) c.vals c.seeds).2))
  else (c,dE (jW c.s).2))
 else (c,dE (jA c.s later).2)
def oJ (c:aR) (m:MsgD):aR × lT:=(if (doS c.s m).2.err=0 then { c with s:=(doS c.s m).1 } else c,(doS c.s m).2)
def ZG:EndD:=⟨⟨⟨⟨#[]⟩,0,0,[],[],[]⟩,[],[]⟩,zeroSt⟩
def CS (o:aR):EndD:=o.past.getLastD ZG
def vV (o:aR) (trust:Int):MsgD:={ sw with kind:=1,chain:=(CS o).sg.hdr.c,trust:=trust,kn:=ofH (CS o).sg.hdr }
def ja (c o:aR) (trust:Int):aR × lT:=if o.past.length=0 then (c,dE 6) else oJ c (vV o trust)
def vR (c o:aR) (i:Int):MsgD:={ sw with kind:=2,cl:=i,up:=⟨(kK (jR c.s i)).h,(CS o).sg,o.vals⟩ }
def iY (c o:aR) (i:Int):aR × lT:=if o.past.length=0\/i < 0\/(c.s.cls.length:Int)<=i then (c,dE 6) else oJ c (vR c o i)
def kI (c:aR) (i:Int):Int × Bool:=if i < 0\/(c.s.cns.length:Int)<=i then (0,false) else ((cnAt c.s i).cl,true)
def gP (c:aR) (i:Int):ChanD × Int × Bool:=if i < 0\/(c.s.chs.length:Int)<=i then (zeroCh,0,false) else (chAt c.s i,kI c (chAt c.s i).cn)
def nJ (c:aR) (m:MsgD):Int × List UInt8 × Bool × Bool :=
 if m.kind=5 then (m.cl,keyC m.oend,false,true)
 else if m.kind=6 then ((kI c m.ed).1,keyC m.oend,false,(kI c m.ed).2)
 else if m.kind=7 then ((kI c m.ed).1,if (kI c m.ed).2=true then keyC (cnAt c.s m.ed).on else [],false,(kI c m.ed).2)
 else if m.kind=9 then ((kI c m.ed).1,keyH m.oend,false,(kI c m.ed).2)
 else if m.kind=10 then ((gP c m.ed).2.1,keyH m.oend,false,(gP c m.ed).2.2)
 else if m.kind=11\/m.kind=13 then ((gP c m.ed).2.1,keyH (gP c m.ed).1.oc,false,(gP c m.ed).2.2)
 else if m.kind=15 then ((gP c m.pk.de).2.1,keyM nP m.pk.fr m.pk.seq,false,(gP c m.pk.de).2.2)
 else if m.kind=16 then ((gP c m.pk.fr).2.1,keyM GM m.pk.de m.pk.seq,false,(gP c m.pk.fr).2.2)
 else if m.kind=17 then (if (gP c m.pk.fr).1.ord=true then ((gP c m.pk.fr).2.1,keyN m.pk.de,false,(gP c m.pk.fr).2.2) else ((gP c m.pk.fr).2.1,keyM GL m.pk.de m.pk.seq,true,(gP c m.pk.fr).2.2))
 else (0,[],false,false)
def atB (o:aR) (h:Int):Option EndD:=o.past.find? fun e=>decide (e.sg.hdr.h=h)
def XG (m:MsgD) (s:StateD):Int:=if m.kind=17/\0<=m.pk.de/\m.pk.de < (s.chs.length:Int) then (chAt s m.pk.de).rcv else m.next
def EO (c o:aR) (m:MsgD):MsgD :=
 if (nJ c m).2.2.2=false\/(nJ c m).1 < 0\/(c.s.cls.length:Int)<=(nJ c m).1 then m
 else match atB o (kK (jR c.s (nJ c m).1)).h with
  | none=>m
  | some e =>
   if (nJ c m).2.2.1=true then { m with sh:={ zSh with h:=(kK (jR c.s (nJ c m).1)).h,g:=(Yl (gF e.st).1 (nJ c m).2.1).1 } }
   else { m with sh:={ zSh with h:=(kK (jR c.s (nJ c m).1)).h,p:=(u_ (gF e.st).1 (nJ c m).2.1).1 },next:=XG m e.st }
def showB (c o:aR) (m:MsgD):MsgD:=EO c o { m with sh:=zSh }
def iD (c o:aR) (e:EvD):aR × lT :=
 if e.kind=1 then dC c e.later else if e.kind=2 then ja c o e.trust else if e.kind=3 then iY c o e.cl
 else if e.kind=4 then oJ c e.m else if e.kind=5 then oJ c (showB c o e.m) else (c,dE 1)
abbrev uX:=aR × aR
def kU (w:uX) (e:EvD):uX × lT :=
 if e.side=0 then (((iD w.1 w.2 e).1,w.2),(iD w.1 w.2 e).2)
 else if e.side=1 then ((w.1,(iD w.2 w.1 e).1),(iD w.2 w.1 e).2)
 else (w,dE 1)
def n_:uX->List EvD->uX × List lT
 | w,[]=>(w,[])
 | w,e :: t=>((n_ (kU w e).1 t).1,(kU w e).2 :: (n_ (kU w e).1 t).2)
theorem z_ (e:EvD):∀ (l:List EvD) (w:uX),n_ w (l++[e])=((kU (n_ w l).1 e).1,(n_ w l).2++[(kU (n_ w l).1 e).2])
 | [],w=>rfl
 | a :: t,w=>by simp only [List.cons_append,n_]; rw [z_ e t]
theorem EQ:∀ (l:List EvD) (w:uX),(n_ w l).2.length=l.length
 | [],_=>rfl
 | a :: t,w=>by simp only [n_,List.length_cons]; rw [EQ t]
def PY (v:dR):List dR->List dR
 | []=>[v]
 | a :: t=>if v.k < a.k then v :: a :: t else a :: PY v t
def seedB (name:ByteArray) (i:Nat):List UInt8:=name.data.toList++Lib.itoa (i:Nat)
def GQ (name:ByteArray):List dR:=PY ⟨keyF (seedB name 2),1⟩ (PY ⟨keyF (seedB name 1),1⟩ [⟨keyF (seedB name 0),1⟩])
def aX (name owner denom:ByteArray):aR:=⟨⟨name,1,1,[],[],[],[],[],[],[⟨owner,denom,1000⟩]⟩,[seedB name 0,seedB name 1,seedB name 2],GQ name,[]⟩
end Go.Proofs.YtfenipelcpmkpaaGreatDoor
namespace Go.Abs
open Go Go.RowKit
def BK:List (Nat × Ob)->(Nat->Ob)->Nat->Ob
 | [],H=>H
 | (j,x) :: t,H=>upd (BK t H) j x
attribute [simp,go_sem] BK
theorem IX (H:Nat->Ob) (a:Nat):∀ l:List (Nat × Ob),BK l H a=(fnd l a).getD (H a)
 | []=>rfl
 | (j,x) :: t=>by
  simp only [BK,fnd]
  by_cases h:a=j
  ·subst h; simp [upd]
  ·rw [upd_ne _ _ h,if_neg h]; exact IX H a t
theorem fnd_some {α:Type} {l:List (Nat × α)} {k:Nat} {x:α} (h:fnd l k=some x):(k,x)∈l:=Dp h
theorem yG {α:Type} {k:Nat}:∀ {l:List (Nat × α)},fnd l k=none->∀ p∈l,p.1≠k
 | [],_,p,hp=>by cases hp
 | (j,x) :: t,h,p,hp=>by
  simp only [fnd] at h
  split at h
  ·cases h
  ·rename_i hne
   rcases List.mem_cons.1 hp with rfl | hp
   ·exact fun e=>hne e.symm
   ·exact yG h p hp
section
variable {P:Program} {H:Nat->Ob} {f:FuncId} {ds gs:List D} {r r':D} {objs objs' new:List (Nat × Ob)}
theorem Gn (ρ ρ':List (Nat × Nat)) (hL:aS P f ds (hF objs) r (hOf (hF objs) objs')) (hgs:cvs H [] (fnd ρ) gs ds)
  (ho:∀ p∈objs,∃ o,fnd ρ p.1=some o/\cvO H [] (fnd ρ) (H o) p.2) (hk:(ρ.all fun q=>objs.any fun p=>p.1 == q.1)=true)
  (hinj:(ρ.all fun p=>ρ.all fun q=>p.2 != q.2 || p.1 == q.1)=true)
  (hn:∀ p∈new,∃ l,fnd ρ' p.1=some l/\cvO (hOf (hF objs) objs') [] (fnd ρ') (hOf (hF objs) objs' l) p.2) (hk':(ρ'.all fun q=>new.any fun p=>p.1 == q.1)=true)
  (hinj':(ρ'.all fun p=>ρ'.all fun q=>p.2 != q.2 || p.1 == q.1)=true) (hr':cv (hOf (hF objs) objs') [] (fnd ρ') r r')
  (hback:(ρ.all fun p=>fnd ρ' p.2 == some p.1)=true) (hnew:∀ q∈ρ',fnd ρ q.2=some q.1\/H q.1=.fresh):aS P f gs H r' (BK new H):=by
 have hfl:∀ a,hF objs a=(fnd objs a).getD .fresh:=fun a=>by show lk objs .fresh a=_; rw [RZ]
 have h:=eO (H:=H) (gs:=gs) (L2:=fun a=>(fnd new a).getD .dead) (r':=r') [] (fnd ρ) (fnd ρ') hL hgs
  (fun a=>by
   cases e:fnd ρ a with
   | none =>
    cases e2:fnd objs a with
    | none=>left; exact ⟨by rw [hfl,e2]; rfl,rfl⟩
    | some x =>
     obtain ⟨o,h1,_⟩:=ho _ (fnd_some e2)
     rw [e] at h1; cases h1
   | some o =>
    right; right; right
    refine ⟨o,rfl,?_⟩
    rw [iX]
    cases e2:fnd objs a with
    | none =>
     have:=List.all_eq_true.1 hk _ (fnd_some e)
     obtain ⟨p,hp,hpe⟩:=List.any_eq_true.1 this
     exact absurd (by simpa using hpe) (yG e2 p hp)
    | some x =>
     obtain ⟨o2,h1,h2⟩:=ho _ (fnd_some e2)
     rw [e] at h1; cases h1
     rw [hfl,e2]; exact h2)
  (fun a b d _ _ h3 h4=>by
   have:=List.all_eq_true.1 (List.all_eq_true.1 hinj _ (fnd_some h3)) _ (fnd_some h4)
   simpa using this)
  (fun a=>by
   cases e:fnd new a with
   | none=>right; left; rfl
   | some x =>
    right; right; right
    obtain ⟨l,h1,h2⟩:=hn _ (fnd_some e)
    exact ⟨l,h1,by rw [iX]; exact h2⟩)
  (fun a b d _ _ h3 h4=>by
   have:=List.all_eq_true.1 (List.all_eq_true.1 hinj' _ (fnd_some h3)) _ (fnd_some h4)
   simpa using this)
  hr'
  (fun l g hg=>by
   have:=List.all_eq_true.1 hback _ (fnd_some hg)
   simpa using this)
  (fun g l hg=>by
   rcases hnew _ (fnd_some hg) with h | h
   ·exact .inl h
   ·exact .inr ⟨h,by simp⟩)
 have e:(fun a=>if (fnd ρ' a).isSome then (fnd new a).getD .dead else frz [] H a)=BK new H:=by
  funext a
  rw [IX,iX]
  cases e:fnd ρ' a with
  | none =>
   cases e2:fnd new a with
   | none=>rfl
   | some x =>
    obtain ⟨l,h1,_⟩:=hn _ (fnd_some e2)
    rw [e] at h1; cases h1
  | some l =>
   cases e2:fnd new a with
   | none =>
    have:=List.all_eq_true.1 hk' _ (fnd_some e)
    obtain ⟨p,hp,hpe⟩:=List.any_eq_true.1 this
    exact absurd (by simpa using hpe) (yG e2 p hp)
   | some x=>rfl
 rw [e] at h
 exact h
variable {n:Nat} {σ:St} {ks:List Fr} {Q:Ex->St->Prop} {rid:Nat} {rest:List It} {dst:Option Nat}
attribute [local simp] fnd
theorem sj (ρ ρ':List (Nat × Nat)) (new:List (Nat × Ob)) (r':D) (hL:aS P f ds (hF objs) r (hOf (hF objs) objs')) (h:Ro P n rid rest (St.put ⟨σ.sl,BK new σ.H⟩ dst r') ks Q)
  (hgs:cvs σ.H [] (fnd ρ) gs ds:=by simp [and_assoc,cvs,fnd]) (ho:∀ p∈objs,∃ o,fnd ρ p.1=some o/\cvO σ.H [] (fnd ρ) (σ.H o) p.2:=by simp [fnd,and_assoc,hF,lk]) (hk:(ρ.all fun q=>objs.any fun p=>p.1 == q.1)=true:=by rfl)
  (hinj:(ρ.all fun p=>ρ.all fun q=>p.2 != q.2 || p.1 == q.1)=true:=by rfl)
  (hn:∀ p∈new,∃ l,fnd ρ' p.1=some l/\cvO (hOf (hF objs) objs') [] (fnd ρ') (hOf (hF objs) objs' l) p.2:=by simp [fnd,and_assoc,hF,hOf,lk]) (hk':(ρ'.all fun q=>new.any fun p=>p.1 == q.1)=true:=by rfl)
  (hinj':(ρ'.all fun p=>ρ'.all fun q=>p.2 != q.2 || p.1 == q.1)=true:=by rfl) (hr':cv (hOf (hF objs) objs') [] (fnd ρ') r r':=by simp)
  (hback:(ρ.all fun p=>fnd ρ' p.2 == some p.1)=true:=by simp [fnd]) (hnew:∀ q∈ρ',fnd ρ q.2=some q.1\/σ.H q.1=.fresh:=by simp [fnd,hF,lk,noH]):Call P n rid f gs dst rest σ ks Q :=
 ⟨_,_,.inl (Gn ρ ρ' hL hgs ho hk hinj hn hk' hinj' hr' hback hnew),h⟩
end
end Go.Abs
namespace Go.Proofs.YtfenipelcpmkpaaGreatDoor
open Go Go.Abs Go.RowKit Go.Proofs.YtfenipelcpmkpaaGreatDoor.Ty
def Wu (a b:Nat):Int:=if (a:Int) < b then -1 else if (b:Int) < a then 1 else 0
theorem Rw (a:Nat):PureD Tryz.prog 166 [.i (.s (.int .u64 (a:Int)))] (boolD false):=by
 refine au fun R hR=>?_
 refine aa 6 Tryz.func166 rfl rfl rfl (fun _ _=>rfl) ?_
 exact wkl trivial
theorem SV (a b:Nat):PureD Tryz.prog 119 [.i (.s (.int .u64 (a:Int))),.i (.s (.int .u64 (b:Int)))] (intD (Wu a b)):=by
 refine au fun R hR=>?_
 have c1:=Rw a
 have c2:=Rw b
 unfold Wu at hR
 refine aa 20 Tryz.func119 rfl rfl rfl (fun _ _=>rfl) ?_
 exact wkl trivial
theorem SS (u v:dR):PureD Tryz.prog 118 [.agg [.i (.s (.int .u64 u.k)),.i (.s (.int .u64 u.p))],.agg [.i (.s (.int .u64 v.k)),.i (.s (.int .u64 v.p))]] (intD (Wu u.k v.k)):=by
 refine au fun R hR=>?_
 have c1:=SV u.k v.k
 generalize Wu u.k v.k=C at *
 refine aa 10 Tryz.func118 rfl rfl rfl (fun _ _=>rfl) ?_
 exact wkl trivial
theorem WE (l:List dR) (h3:l.length=3) (hs:∀ i (h:i+1 < l.length),l[i].k < l[i+1].k) :
  aS Tryz.prog 196 [.os 0 2 0 3,intD 0,intD 3,.fn 118 []] (hF [(0,.arr 2 (l.map jd))]) (.tup []) (hOf (hF [(0,.arr 2 (l.map jd))]) [(0,.arr 2 (l.map jd))]):=by
 refine iV fun R R' hR hR'=>?_
 have d1:jf [] []:=⟨trivial⟩
 refine aa 53 Tryz.func196 rfl rfl rfl (fun o ho=>by simp [hF,lk,show o≠0 by omega,show o≠1 by omega,show o≠2 by omega,show o≠3 by omega,show o≠4 by omega,show o≠5 by omega]) ?_
 refine wkl ?_
 clear hR; intro hR
 refine aW (ι:=Nat) (fun i=>1<=i/\i<=3) (fun i=>dZ [(0,.os 0 2 0 3),(1,intD 0),(2,intD 3),(3,.fn 118 []),(8,intD i)] [(0,.arr 2 (l.map jd))]) (fun i=>3 - i) 1 ⟨Nat.le_refl _,by decide⟩ ?_ ?_
 ·exact dK [] []
 ·rintro i ⟨hi1,hi3⟩ RL hL
  rw [ak]
  by_cases h:i < 3
  ·obtain ⟨j,rfl⟩:∃ j,i=j+1:=⟨i - 1,by omega⟩
   have hj:j+1 < l.length:=by omega
   have s0:=aF (f:=jd) hj
   have s1:=aF (f:=jd) (l:=l) (i:=j) (by omega)
   have w1:IntKind.i64.wrap (((j+1:Nat):Int) - 1)=(j:Int):=by rw [aC (by omega) (by omega)]; omega
   have w2:IntKind.i64.wrap (((j+1:Nat):Int)+1)=((j+2:Nat):Int):=by rw [aC (by omega) (by omega)]; omega
   have hk:=hs j hj
   have b1:=fun σ'=>bk [] [] (hL (j+2) σ' ⟨by omega,by omega⟩)
   have c1:=SS l[j+1] l[j]
   have hc:Wu l[j+1].k l[j].k=1:=by unfold Wu; rw [if_neg (by omega),if_pos (by omega)]
   rw [hc] at c1
   have g1:(0:Int) < ((j+1:Nat):Int):=by omega
   have n0:(((j+1:Nat):Int)).toNat=j+1:=by omega
   clear hL hs hc hk
   generalize hu:l[j+1]=u at *
   generalize hv:l[j]=v at *
   simp only [jd] at s0 s1
   refine wkl ?_
   clear hR; intro hR
   refine aW (ι:=Unit) (fun _=>True) (fun _=>dZ [(0,.os 0 2 0 3),(1,intD 0),(2,intD 3),(3,.fn 118 []),(8,intD ((j+1:Nat):Int)),(9,intD ((j+1:Nat):Int))] [(0,.arr 2 (l.map jd))]) (fun _=>0) () trivial ?_ ?_
   ·exact dK [] []
   ·rintro _ _ RL2 hL2
    rw [ak]
    clear hL2
    exact wkl trivial
  ·have hi:i=3:=by omega
   subst hi
   clear hL hs
   obtain ⟨rfl⟩:=hR'
   exact wkl trivial
theorem WB (l:List dR) (h3:l.length=3) (hs:∀ i (h:i+1 < l.length),l[i].k < l[i+1].k) :
  aS Tryz.prog 165 [.os 0 2 0 3,intD 0,intD 3,intD 2,.fn 118 []] (hF [(0,.arr 2 (l.map jd))]) (.tup []) (hOf (hF [(0,.arr 2 (l.map jd))]) [(0,.arr 2 (l.map jd))]):=by
 refine iV fun R R' hR hR'=>?_
 have d1:jf [] []:=⟨trivial⟩
 have hD:=WE l h3 hs
 clear hs
 refine aa 148 Tryz.func165 rfl rfl rfl (fun o ho=>by simp [hF,lk,show o≠0 by omega,show o≠1 by omega,show o≠2 by omega,show o≠3 by omega,show o≠4 by omega,show o≠5 by omega]) ?_
 refine wkl ?_
 clear hR; intro hR
 refine aW (ι:=Unit) (fun _=>True) (fun _=>dZ [(0,.os 0 2 0 3),(1,intD 0),(2,intD 3),(3,intD 2),(4,.fn 118 [])] [(0,.arr 2 (l.map jd))]) (fun _=>0) () trivial ?_ ?_
 ·exact dK [] []
 ·rintro _ _ RL hL
  rw [ak]
  clear hL
  refine wkl ?_
  clear hR; intro hR
  repeat' (intro _)
  refine sj [(0,0)] [(0,0)] [(0,.arr 2 (l.map jd))] (.tup []) hD ?_
  clear hD
  obtain ⟨rfl⟩:=hR'
  exact wkl trivial
theorem WC:PureD Tryz.prog 89 [.i (.s (.int .u64 3))] (intD 2):=by
 refine au fun R hR=>?_
 have c1:=CQ 3 (by decide) (by decide)
 rw [show Nat.log2 3+1=2 by decide] at c1
 refine aa 8 Tryz.func89 rfl rfl rfl (fun _ _=>rfl) ?_
 exact wkl trivial
theorem SQ (l:List dR) (h3:l.length=3) (hs:∀ i (h:i+1 < l.length),l[i].k < l[i+1].k) :
  aS Tryz.prog 117 [.os 0 2 0 3,.fn 118 []] (hF [(0,.arr 2 (l.map jd))]) (.tup []) (hOf (hF [(0,.arr 2 (l.map jd))]) [(0,.arr 2 (l.map jd))]):=by
 refine iV fun R R' hR hR'=>?_
 have d1:jf [] []:=⟨trivial⟩
 have hD:=WB l h3 hs
 have c1:=WC
 clear hs
 refine aa 14 Tryz.func117 rfl rfl rfl (fun o ho=>by simp [hF,lk,show o≠0 by omega,show o≠1 by omega,show o≠2 by omega,show o≠3 by omega,show o≠4 by omega,show o≠5 by omega]) ?_
 refine wkl ?_
 clear hR; intro hR
 repeat' (intro _)
 refine sj [(0,0)] [(0,0)] [(0,.arr 2 (l.map jd))] (.tup []) hD ?_
 clear hD
 obtain ⟨rfl⟩:=hR'
 exact wkl trivial
theorem zK {name:ByteArray} (h1:keyF (seedB name 0) < keyF (seedB name 1)) (h2:keyF (seedB name 1) < keyF (seedB name 2)):GQ name=(List.range 3).map fun j=>⟨keyF (seedB name j),1⟩:=by
 unfold GQ
 have h3:¬ keyF (seedB name 1) < keyF (seedB name 0):=by omega
 have h4:¬ keyF (seedB name 2) < keyF (seedB name 0):=by omega
 have h5:¬ keyF (seedB name 2) < keyF (seedB name 1):=by omega
 simp [PY,h3,h4,h5,List.range_succ]
theorem Gw (name owner denom:ByteArray) (hn:name.size<=20) (h1:keyF (seedB name 0) < keyF (seedB name 1)) (h2:keyF (seedB name 1) < keyF (seedB name 2)) :
  aS Tryz.prog 62 [.i (.s (.string name)),.i (.s (.string owner)),.i (.s (.string denom))] noH (.pt 1 0 0 0) (hOf noH [(1,.box (mJ (aX name owner denom) 2)),(2,.arr 18 [])]):=by
 refine iV fun R R' hR hR'=>?_
 have hv:=zK h1 h2
 have hD:=SQ ((List.range 3).map fun j=>(⟨keyF (seedB name j),1⟩:dR)) (by simp) (fun i hi=>by
  simp at hi
  have:i=0\/i=1:=by omega
  rcases this with rfl | rfl
  ·simpa using h1
  ·simpa using h2)
 unfold aX at hR'
 rw [hv] at hR'
 have hsd:(List.range 3).map (fun j=>seedB name j)=[seedB name 0,seedB name 1,seedB name 2]:=rfl
 rw [<- hsd] at hR'
 clear h1 h2 hv hsd
 refine aa 55 Tryz.func62 rfl rfl rfl (fun _ _=>rfl) ?_
 refine wkl ?_
 clear hR; intro hR
 refine aW (ι:=Nat) (fun i=>i<=3) (fun i=>dZ [(0,.i (.s (.string name))),(7,.pt 100 0 0 0),(18,intD i)]
  [(100,.box [.i (.s (.string name)),.i (.s (.int .i64 1)),.i (.s (.int .i64 1)),.i (.s (.slice none 0 0)),.i (.s (.slice none 0 0)),.i (.s (.slice none 0 0)),.i (.s (.slice none 0 0)),.i (.s (.slice none 0 0)),.i (.s (.slice none 0 0)),.os 103 3 0 1,.os 101 1 0 i,.os 102 2 0 i,.i (.s (.slice none 0 0))]),
   (101,.arr 1 (((List.range i).map (fun j=>seedB name j)).map fun s=>[bI s])),(102,.arr 2 (((List.range i).map fun j=>(⟨keyF (seedB name j),1⟩:dR)).map jd)),(103,.arr 3 [[.s (.string owner),.s (.string denom),.s (.int .u64 1000)]])]) (fun i=>3 - i) 0 (Nat.zero_le _) ?_ ?_
 ·exact dK [] [(100,1263),(103,1260)]
 ·rintro i hi RL hL
  rw [ak]
  by_cases h:i < 3
  ·have c1:=qO (i:Int) (by omega) (by omega)
   have hl:=Lib.itoa_length_le (i:Int) (by omega) (by omega)
   have hz:(seedB name i).length<=1000:=by
    have hz:name.data.toList.length=name.size:=rfl
    simp only [seedB,List.length_append]; omega
   have c2:=PW (seedB name i) (by omega)
   have hcat:name++⟨(Lib.itoa (i:Int)).toArray⟩=⟨(seedB name i).toArray⟩:=by
    apply ByteArray.ext
    simp [seedB,ByteArray.data_append]
   have q1:∀ P t x y,fZ P .add t x y (some (.string name)) (some (.string ⟨(Lib.itoa (i:Int)).toArray⟩))=some (.i (.s (.string ⟨(seedB name i).toArray⟩))):=fun P t x y=>by rw [iL (by simp only [ByteArray.size,List.size_toArray] at hn ⊢; omega),hcat]
   have q2:Tg ⟨(seedB name i).toArray⟩=bI (seedB name i):=rfl
   have m1:((List.range i).map (fun j=>seedB name j)).map (fun s=>[bI s])++[[bI (seedB name i)]]=((List.range (i+1)).map (fun j=>seedB name j)).map fun s=>[bI s]:=by rw [List.range_succ]; simp
   have m2:((List.range i).map fun j=>(⟨keyF (seedB name j),1⟩:dR)).map jd++[jd ⟨keyF (seedB name i),1⟩]=((List.range (i+1)).map fun j=>(⟨keyF (seedB name j),1⟩:dR)).map jd:=by rw [List.range_succ]; simp
   have b1:=fun σ'=>bk [] [(100,100),(101,2543),(102,2801),(103,103)] (hL (i+1) σ' h)
   have lr:(List.range i).length=i:=List.length_range
   have a1:i+1<=140737488355328:=by omega
   have a2:(i+1) * 24<=140737488355328:=by omega
   have a3:(i+1) * 16<=140737488355328:=by omega
   simp only [bI,jd,bR,Int.natCast_one] at m1 m2 c2 q2
   clear hL hD hcat hl
   generalize (Lib.itoa (i:Int))=I at *
   have l1:((List.range i).map (fun j=>seedB name j)).length=i:=by simp
   have l2:((List.range i).map fun j=>(⟨keyF (seedB name j),1⟩:dR)).length=i:=by simp
   generalize (List.range i).map (fun j=>seedB name j)=SD at *
   generalize ((List.range i).map fun j=>(⟨keyF (seedB name j),1⟩:dR))=V at *
   generalize (List.range (i+1)).map (fun j=>seedB name j)=SD2 at *
   generalize ((List.range (i+1)).map fun j=>(⟨keyF (seedB name j),1⟩:dR))=V2 at *
   generalize seedB name i=S at *
   generalize keyF S=K at *
   clear lr
   exact wkl trivial
  ·have h3:i=3:=by omega
   subst h3
   clear hL
   have t1:(((List.range 3).map (fun j=>seedB name j)).map fun s=>[bI s]).take 3=((List.range 3).map (fun j=>seedB name j)).map fun s=>[bI s]:=by rw [List.take_of_length_le (by simp)]
   have g1:((List.range 3).map (fun j=>seedB name j)).length=3:=by simp
   have g2:((List.range 3).map fun j=>(⟨keyF (seedB name j),1⟩:dR)).length=3:=by simp
   have t2:(((List.range 3).map fun j=>(⟨keyF (seedB name j),1⟩:dR)).map jd).take 3=((List.range 3).map fun j=>(⟨keyF (seedB name j),1⟩:dR)).map jd:=by rw [List.take_of_length_le (by simp)]
   generalize ((List.range 3).map fun j=>(⟨keyF (seedB name j),1⟩:dR))=V at *
   generalize ((List.range 3).map (fun j=>seedB name j))=SD at *
   simp only [bI] at t1
   refine wkl ?_
   clear hR; intro hR
   repeat' (intro _)
   refine sj [(0,102)] [(102,0)] [(102,.arr 2 (V.map jd))] (.tup []) hD ?_
   clear hD
   have d1:jf [101,102,103] [(1,100)]:=⟨trivial⟩
   obtain ⟨rfl⟩:=hR'
   refine wkl ?_
   clear hR; intro hR
   obtain ⟨rfl⟩:=hR
   refine fin_d d1 rfl ?_ ?_ rfl ?_ rfl
   all_goals (try simp only [go_sem,Nat.reduceLT,Nat.reduceAdd,Nat.reduceMul,reduceIte,Nat.reduceEqDiff,reduceCtorEq,Nat.reducePow,Nat.reduceLeDiff,Int.reduceLE,Int.reduceLT,Int.reduceToNat,Int.reduceEq,Nat.reduceBEq])
   all_goals simp [*]
theorem zm (c:aR) (ok:StOk c.s) (i:Int):PureD Tryz.prog 178 [.rp (LQ c) 0,intD i] (.tup [intD (kI c i).1,boolD (kI c i).2]):=by
 refine au fun R hR=>?_
 have hl:=ok.lcn
 unfold kI at hR
 by_cases h:i < 0\/(c.s.cns.length:Int)<=i
 ·rw [if_pos h] at hR
  clear ok
  refine aa 27 Tryz.func178 rfl rfl rfl (fun _ _=>rfl) ?_
  exact wkl trivial
 ·rw [if_neg h] at hR
  have hi:i.toNat < c.s.cns.length:=by omega
  have s0:=aF (f:=dF) hi
  rw [(bT (s:=c.s) (i:=i) (by omega)).1] at hR
  clear ok
  generalize c.s.cns[i.toNat]=x at *
  refine aa 27 Tryz.func178 rfl rfl rfl (fun _ _=>rfl) ?_
  exact wkl trivial
theorem uT (c:aR) (ok:StOk c.s) (i:Int):PureD Tryz.prog 179 [.rp (LQ c) 0,intD i] (.tup [chanD (gP c i).1,intD (gP c i).2.1,boolD (gP c i).2.2]):=by
 refine au fun R hR=>?_
 have hl:=ok.lch
 unfold gP at hR
 by_cases h:i < 0\/(c.s.chs.length:Int)<=i
 ·rw [if_pos h] at hR
  clear ok
  refine aa 41 Tryz.func179 rfl rfl rfl (fun _ _=>rfl) ?_
  exact wkl trivial
 ·rw [if_neg h] at hR
  have hi:i.toNat < c.s.chs.length:=by omega
  have s0:=aF (f:=bF) hi
  have c1:=zm c ok (chAt c.s i).cn
  rw [(bO (s:=c.s) (i:=i) (by omega)).1] at hR c1
  clear ok
  generalize c.s.chs[i.toNat]=x at *
  generalize kI c x.cn=Y at *
  refine aa 41 Tryz.func179 rfl rfl rfl (fun _ _=>rfl) ?_
  exact wkl trivial
theorem Vn {c:aR} (ok:StOk c.s) (i:Int):gY (gP c i).1.oc:=by
 unfold gP gY
 split
 ·simp
 ·rename_i h
  have:=(ok.chs _ (bO (s:=c.s) (i:=i) (by omega)).2).oc
  unfold N12 at this
  simp only; omega
structure NL (m:MsgD):Prop where
 oend:gY m.oend
 fr:gY m.pk.fr
 de:gY m.pk.de
 seq:gY m.pk.seq
def Zy (c:aR) (m:MsgD):List (Nat × Ob):=[(0,.box (mJ c 1)),(1,.arr 18 (c.past.map bJ)),(2,.box ((encMsg m).map .i))]
attribute [simp,go_sem] Zy
theorem Vz (c:aR) (ok:StOk c.s) (m:MsgD) (hm:NL m):aS Tryz.prog 123 [.pt 0 0 0 0,.pt 2 0 0 0] (hF (Zy c m)) (.tup [intD (nJ c m).1,.i (bI (nJ c m).2.1),boolD (nJ c m).2.2.1,boolD (nJ c m).2.2.2]) (hOf (hF (Zy c m)) (Zy c m)):=by
 refine iV fun R R' hR hR'=>?_
 have d1:jf [] []:=⟨trivial⟩
 obtain ⟨rfl⟩:=hR'
 unfold nJ at hR
 by_cases k5:m.kind=5
 ·rw [if_pos k5] at hR
  have c1:=AZ m.oend hm.oend
  generalize keyC m.oend=K at *
  clear ok hm
  refine aa 197 Tryz.func123 rfl rfl rfl (fun o ho=>by simp [hF,lk,show o≠0 by omega,show o≠1 by omega,show o≠2 by omega,show o≠3 by omega,show o≠4 by omega,show o≠5 by omega]) ?_
  exact wkl trivial
 ·rw [if_neg k5] at hR
  by_cases k6:m.kind=6
  ·rw [if_pos k6] at hR
   have c1:=AZ m.oend hm.oend
   have c2:=zm c ok m.ed
   generalize keyC m.oend=K at *
   generalize kI c m.ed=Y at *
   clear ok hm
   refine aa 197 Tryz.func123 rfl rfl rfl (fun o ho=>by simp [hF,lk,show o≠0 by omega,show o≠1 by omega,show o≠2 by omega,show o≠3 by omega,show o≠4 by omega,show o≠5 by omega]) ?_
   exact wkl trivial
  ·rw [if_neg k6] at hR
   by_cases k7:m.kind=7
   ·rw [if_pos k7] at hR
    have c1:=zm c ok m.ed
    have hl:=ok.lcn
    by_cases h:m.ed < 0\/(c.s.cns.length:Int)<=m.ed
    ·have e:kI c m.ed=(0,false):=by unfold kI; rw [if_pos h]
     rw [e] at hR c1
     simp only [Bool.false_eq_true,if_false] at hR c1
     clear ok hm e
     refine aa 197 Tryz.func123 rfl rfl rfl (fun o ho=>by simp [hF,lk,show o≠0 by omega,show o≠1 by omega,show o≠2 by omega,show o≠3 by omega,show o≠4 by omega,show o≠5 by omega]) ?_
     exact wkl trivial
    ·have e:kI c m.ed=((cnAt c.s m.ed).cl,true):=by unfold kI; rw [if_neg h]
     have hi:m.ed.toNat < c.s.cns.length:=by omega
     have s0:=aF (f:=dF) hi
     have hon:=(ok.cns _ (bT (s:=c.s) (i:=m.ed) (by omega)).2).on
     have c2:=AZ (cnAt c.s m.ed).on (by unfold N12 at hon; unfold gY; omega)
     rw [e] at hR c1
     simp only [if_true] at hR c1
     rw [(bT (s:=c.s) (i:=m.ed) (by omega)).1] at hR c1 c2
     clear ok hm e hon
     generalize c.s.cns[m.ed.toNat]=x at *
     generalize keyC x.on=K at *
     refine aa 197 Tryz.func123 rfl rfl rfl (fun o ho=>by simp [hF,lk,show o≠0 by omega,show o≠1 by omega,show o≠2 by omega,show o≠3 by omega,show o≠4 by omega,show o≠5 by omega]) ?_
     exact wkl trivial
   ·rw [if_neg k7] at hR
    by_cases k9:m.kind=9
    ·rw [if_pos k9] at hR
     have c1:=AC m.oend hm.oend
     have c2:=zm c ok m.ed
     generalize keyH m.oend=K at *
     generalize kI c m.ed=Y at *
     clear ok hm
     refine aa 197 Tryz.func123 rfl rfl rfl (fun o ho=>by simp [hF,lk,show o≠0 by omega,show o≠1 by omega,show o≠2 by omega,show o≠3 by omega,show o≠4 by omega,show o≠5 by omega]) ?_
     exact wkl trivial
    ·rw [if_neg k9] at hR
     by_cases k10:m.kind=10
     ·rw [if_pos k10] at hR
      have c1:=AC m.oend hm.oend
      have c2:=uT c ok m.ed
      generalize keyH m.oend=K at *
      generalize gP c m.ed=Y at *
      clear ok hm
      refine aa 197 Tryz.func123 rfl rfl rfl (fun o ho=>by simp [hF,lk,show o≠0 by omega,show o≠1 by omega,show o≠2 by omega,show o≠3 by omega,show o≠4 by omega,show o≠5 by omega]) ?_
      exact wkl trivial
     ·rw [if_neg k10] at hR
      by_cases k11:m.kind=11\/m.kind=13
      ·rw [if_pos k11] at hR
       have c1:=AC (gP c m.ed).1.oc (Vn ok m.ed)
       have c2:=uT c ok m.ed
       generalize keyH (gP c m.ed).1.oc=K at *
       generalize gP c m.ed=Y at *
       clear ok hm
       rcases k11 with k11 | k11
       all_goals
        refine aa 197 Tryz.func123 rfl rfl rfl (fun o ho=>by simp [hF,lk,show o≠0 by omega,show o≠1 by omega,show o≠2 by omega,show o≠3 by omega,show o≠4 by omega,show o≠5 by omega]) ?_
        exact wkl trivial
      ·rw [if_neg k11] at hR
       have k11a:¬ m.kind=11:=fun e=>k11 (.inl e)
       have k11b:¬ m.kind=13:=fun e=>k11 (.inr e)
       clear k11
       by_cases k15:m.kind=15
       ·rw [if_pos k15] at hR
        have c1:=oq nP m.pk.fr m.pk.seq (by decide) hm.fr hm.seq
        have c2:=uT c ok m.pk.de
        generalize keyM nP m.pk.fr m.pk.seq=K at *
        generalize gP c m.pk.de=Y at *
        simp only [nP,GM,GL] at *
        clear ok hm
        refine aa 197 Tryz.func123 rfl rfl rfl (fun o ho=>by simp [hF,lk,show o≠0 by omega,show o≠1 by omega,show o≠2 by omega,show o≠3 by omega,show o≠4 by omega,show o≠5 by omega]) ?_
        exact wkl trivial
       ·rw [if_neg k15] at hR
        by_cases k16:m.kind=16
        ·rw [if_pos k16] at hR
         have c1:=oq GM m.pk.de m.pk.seq (by decide) hm.de hm.seq
         have c2:=uT c ok m.pk.fr
         generalize keyM GM m.pk.de m.pk.seq=K at *
         generalize gP c m.pk.fr=Y at *
         simp only [nP,GM,GL] at *
         clear ok hm
         refine aa 197 Tryz.func123 rfl rfl rfl (fun o ho=>by simp [hF,lk,show o≠0 by omega,show o≠1 by omega,show o≠2 by omega,show o≠3 by omega,show o≠4 by omega,show o≠5 by omega]) ?_
         exact wkl trivial
        ·rw [if_neg k16] at hR
         by_cases k17:m.kind=17
         ·rw [if_pos k17] at hR
          have c1:=oq GL m.pk.de m.pk.seq (by decide) hm.de hm.seq
          have c2:=Ky m.pk.de hm.de
          have c3:=uT c ok m.pk.fr
          generalize keyM GL m.pk.de m.pk.seq=K at *
          generalize keyN m.pk.de=K2 at *
          generalize gP c m.pk.fr=Y at *
          simp only [nP,GM,GL] at *
          clear ok hm
          cases ho:Y.1.ord
          ·simp only [ho,Bool.false_eq_true,if_false] at hR
           refine aa 197 Tryz.func123 rfl rfl rfl (fun o ho=>by simp [hF,lk,show o≠0 by omega,show o≠1 by omega,show o≠2 by omega,show o≠3 by omega,show o≠4 by omega,show o≠5 by omega]) ?_
           exact wkl trivial
          ·simp only [ho,if_true] at hR
           refine aa 197 Tryz.func123 rfl rfl rfl (fun o ho=>by simp [hF,lk,show o≠0 by omega,show o≠1 by omega,show o≠2 by omega,show o≠3 by omega,show o≠4 by omega,show o≠5 by omega]) ?_
           exact wkl trivial
         ·rw [if_neg k17] at hR
          clear ok hm
          refine aa 197 Tryz.func123 rfl rfl rfl (fun o ho=>by simp [hF,lk,show o≠0 by omega,show o≠1 by omega,show o≠2 by omega,show o≠3 by omega,show o≠4 by omega,show o≠5 by omega]) ?_
          exact wkl trivial
end Go.Proofs.YtfenipelcpmkpaaGreatDoor
