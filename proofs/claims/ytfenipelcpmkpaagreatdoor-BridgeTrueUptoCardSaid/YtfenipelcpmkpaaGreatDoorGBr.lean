/- Merged texts: BrP, BrX, SrtV, BrE, BrA. -/
import Derived.Test.YtfenipelcpmkpaaGreatDoorGAp
import Derived.Test.YtfenipelcpmkpaaGreatDoorGSo
set_option linter.all false
set_option maxHeartbeats 16000000
set_option maxRecDepth 20000
namespace Go.Proofs.YtfenipelcpmkpaaGreatDoor
open Go Go.Abs
structure EndD where
 sg:gU
 st:StateD
structure aJ where
 s:StateD
 seeds:List (List UInt8)
 vals:List dN
 past:List EndD
structure EvD where
 kind:Int
 side:Int
 later:Int
 trust:Int
 cl:Int
 m:MsgD
def bE (e:EndD):List I:=[.s (.string e.sg.hdr.c),.s (.int .i64 e.sg.hdr.h),.s (.int .i64 e.sg.hdr.t),bI e.sg.hdr.root,bI e.sg.hdr.vals,bI e.sg.hdr.next,valsI e.sg.vals,votesI e.sg.votes,
 .s (.string e.st.name),.s (.int .i64 e.st.h),.s (.int .i64 e.st.t),.sl (e.st.cls.map fZ),.sl (e.st.cns.map dS),.sl (e.st.chs.map bK),.sl (e.st.sent.map bM),.sl (e.st.got.map bM),.sl (e.st.acks.map bM),.sl (e.st.pus.map aZ)]
def Lx (c:aJ):List I:=[.s (.string c.s.name),.s (.int .i64 c.s.h),.s (.int .i64 c.s.t),.sl (c.s.cls.map fZ),.sl (c.s.cns.map dS),.sl (c.s.chs.map bK),.sl (c.s.sent.map bM),.sl (c.s.got.map bM),.sl (c.s.acks.map bM),.sl (c.s.pus.map aZ),
 bbI c.seeds,valsI c.vals,.sl (c.past.map bE)]
def mE (c:aJ) (o:Nat):List D:=[.i (.s (.string c.s.name)),.i (.s (.int .i64 c.s.h)),.i (.s (.int .i64 c.s.t)),.i (.sl (c.s.cls.map fZ)),.i (.sl (c.s.cns.map dS)),.i (.sl (c.s.chs.map bK)),.i (.sl (c.s.sent.map bM)),.i (.sl (c.s.got.map bM)),.i (.sl (c.s.acks.map bM)),.i (.sl (c.s.pus.map aZ)),
 .i (bbI c.seeds),.i (valsI c.vals),.os o 18 0 c.past.length]
attribute [simp,go_sem] bE Lx mE
def gu (s:StateD):List UInt8 × Int:=if (iq s).2=0 then (GQ (iq s).1,((dK (iq s).1).1:Nat)) else ([],(iq s).2)
def ug (c:aJ):oJ:=⟨c.s.name,c.s.h,c.s.t,(gu c.s).1,bX c.vals,bX c.vals⟩
def dn (c:aJ) (later:Int):aJ × lN :=
 if (jD c.s later).2=0 then
  (if (gu c.s).2=0 then
   (if (kJ (ug c) c.vals c.seeds).2=0 then ({ c with s:=(jD c.s later).1,past:=c.past++[⟨(kJ (ug c) c.vals c.seeds).1,c.s⟩] },⟨0,((c.past.length+1:Nat):Int),zeroPk⟩)
   else (c,dE (kJ (ug c) c.vals c.seeds).2))
  else (c,dE (gu c.s).2))
 else (c,dE (jD c.s later).2)
def jy (c:aJ) (m:MsgD):aJ × lN:=(if (doS c.s m).2.err=0 then { c with s:=(doS c.s m).1 } else c,(doS c.s m).2)
def ZC:EndD:=⟨⟨⟨⟨#[]⟩,0,0,[],[],[]⟩,[],[]⟩,zeroSt⟩
def yc (o:aJ):EndD:=o.past.getLastD ZC
def oo (o:aJ) (trust:Int):MsgD:={ r_ with kind:=1,chain:=(yc o).sg.hdr.c,trust:=trust,kn:=ofH (yc o).sg.hdr }
def gN (c o:aJ) (trust:Int):aJ × lN:=if o.past.length=0 then (c,dE 6) else jy c (oo o trust)
def kE (c o:aJ) (i:Int):MsgD:={ r_ with kind:=2,cl:=i,up:=⟨(kN (kG c.s i)).h,(yc o).sg,o.vals⟩ }
def gM (c o:aJ) (i:Int):aJ × lN:=if o.past.length=0\/i < 0\/(c.s.cls.length:Int)<=i then (c,dE 6) else jy c (kE c o i)
def kL (c:aJ) (i:Int):Int × Bool:=if i < 0\/(c.s.cns.length:Int)<=i then (0,false) else ((cnAt c.s i).cl,true)
def gP (c:aJ) (i:Int):ChanD × Int × Bool:=if i < 0\/(c.s.chs.length:Int)<=i then (zeroCh,0,false) else (chAt c.s i,kL c (chAt c.s i).cn)
def nC (c:aJ) (m:MsgD):Int × List UInt8 × Bool × Bool :=
 if m.kind=5 then (m.cl,keyC m.oend,false,true)
 else if m.kind=6 then ((kL c m.ed).1,keyC m.oend,false,(kL c m.ed).2)
 else if m.kind=7 then ((kL c m.ed).1,if (kL c m.ed).2=true then keyC (cnAt c.s m.ed).on else [],false,(kL c m.ed).2)
 else if m.kind=9 then ((kL c m.ed).1,keyH m.oend,false,(kL c m.ed).2)
 else if m.kind=10 then ((gP c m.ed).2.1,keyH m.oend,false,(gP c m.ed).2.2)
 else if m.kind=11\/m.kind=13 then ((gP c m.ed).2.1,keyH (gP c m.ed).1.oc,false,(gP c m.ed).2.2)
 else if m.kind=15 then ((gP c m.pk.de).2.1,keyM nH m.pk.fr m.pk.seq,false,(gP c m.pk.de).2.2)
 else if m.kind=16 then ((gP c m.pk.fr).2.1,keyM Gw m.pk.de m.pk.seq,false,(gP c m.pk.fr).2.2)
 else if m.kind=17 then (if (gP c m.pk.fr).1.ord=true then ((gP c m.pk.fr).2.1,keyN m.pk.de,false,(gP c m.pk.fr).2.2) else ((gP c m.pk.fr).2.1,keyM Gv m.pk.de m.pk.seq,true,(gP c m.pk.fr).2.2))
 else (0,[],false,false)
def atB (o:aJ) (h:Int):Option EndD:=o.past.find? fun e=>decide (e.sg.hdr.h=h)
def XG (m:MsgD) (s:StateD):Int:=if m.kind=17/\0<=m.pk.de/\m.pk.de < (s.chs.length:Int) then (chAt s m.pk.de).rcv else m.next
def EI (c o:aJ) (m:MsgD):MsgD :=
 if (nC c m).2.2.2=false\/(nC c m).1 < 0\/(c.s.cls.length:Int)<=(nC c m).1 then m
 else match atB o (kN (kG c.s (nC c m).1)).h with
  | none=>m
  | some e =>
   if (nC c m).2.2.1=true then { m with sh:={ zSh with h:=(kN (kG c.s (nC c m).1)).h,g:=(Yl (iq e.st).1 (nC c m).2.1).1 } }
   else { m with sh:={ zSh with h:=(kN (kG c.s (nC c m).1)).h,p:=(GL (iq e.st).1 (nC c m).2.1).1 },next:=XG m e.st }
def oZ (c o:aJ) (m:MsgD):MsgD:=EI c o { m with sh:=zSh }
def fM (c o:aJ) (e:EvD):aJ × lN :=
 if e.kind=1 then dn c e.later else if e.kind=2 then gN c o e.trust else if e.kind=3 then gM c o e.cl
 else if e.kind=4 then jy c e.m else if e.kind=5 then jy c (oZ c o e.m) else (c,dE 1)
abbrev qA:=aJ × aJ
def iC (w:qA) (e:EvD):qA × lN :=
 if e.side=0 then (((fM w.1 w.2 e).1,w.2),(fM w.1 w.2 e).2)
 else if e.side=1 then ((w.1,(fM w.2 w.1 e).1),(fM w.2 w.1 e).2)
 else (w,dE 1)
def gW:qA->List EvD->qA × List lN
 | w,[]=>(w,[])
 | w,e :: t=>((gW (iC w e).1 t).1,(iC w e).2 :: (gW (iC w e).1 t).2)
theorem nS (e:EvD):∀ (l:List EvD) (w:qA),gW w (l++[e])=((iC (gW w l).1 e).1,(gW w l).2++[(iC (gW w l).1 e).2])
 | [],w=>rfl
 | a :: t,w=>by simp only [List.cons_append,gW]; rw [nS e t]
theorem sQ (l2:List EvD):∀ (l:List EvD) (w:qA),gW w (l++l2)=((gW (gW w l).1 l2).1,(gW w l).2++(gW (gW w l).1 l2).2)
 | [],w=>rfl
 | a :: t,w=>by simp only [List.cons_append,gW]; rw [sQ l2 t]
theorem rD:∀ (l:List EvD) (w:qA),(gW w l).2.length=l.length
 | [],_=>rfl
 | a :: t,w=>by simp only [gW,List.length_cons]; rw [rD t]
def PR (v:dN):List dN->List dN
 | []=>[v]
 | a :: t=>if v.k < a.k then v :: a :: t else a :: PR v t
def seedB (name:ByteArray) (i:Nat):List UInt8:=name.data.toList++Lib.itoa (i:Nat)
def Gy (name:ByteArray):List dN:=PR ⟨keyF (seedB name 2),1⟩ (PR ⟨keyF (seedB name 1),1⟩ [⟨keyF (seedB name 0),1⟩])
def aX (name owner denom:ByteArray):aJ:=⟨⟨name,1,1,[],[],[],[],[],[],[⟨owner,denom,1000⟩]⟩,[seedB name 0,seedB name 1,seedB name 2],Gy name,[]⟩
end Go.Proofs.YtfenipelcpmkpaaGreatDoor
namespace Go.Abs
open Go Go.RowKit
def BB:List (Nat × Ob)->(Nat->Ob)->Nat->Ob
 | [],H=>H
 | (j,x) :: t,H=>upd (BB t H) j x
attribute [simp,go_sem] BB
theorem IB (H:Nat->Ob) (a:Nat):∀ l:List (Nat × Ob),BB l H a=(fnd l a).getD (H a)
 | []=>rfl
 | (j,x) :: t=>by
  simp only [BB,fnd]
  by_cases h:a=j
  ·subst h; simp [upd]
  ·rw [upd_ne _ _ h,if_neg h]; exact IB H a t
theorem fnd_some {α:Type} {l:List (Nat × α)} {k:Nat} {x:α} (h:fnd l k=some x):(k,x)∈l:=Df h
theorem yD {α:Type} {k:Nat}:∀ {l:List (Nat × α)},fnd l k=none->∀ p∈l,p.1≠k
 | [],_,p,hp=>by cases hp
 | (j,x) :: t,h,p,hp=>by
  simp only [fnd] at h
  split at h
  ·cases h
  ·rename_i hne
   rcases List.mem_cons.1 hp with rfl | hp
   ·exact fun e=>hne e.symm
   ·exact yD h p hp
section
variable {P:Program} {H:Nat->Ob} {f:FuncId} {ds gs:List D} {r r':D} {objs objs' new:List (Nat × Ob)}
theorem FZ (ρ ρ':List (Nat × Nat)) (hL:aT P f ds (hF objs) r (hOf (hF objs) objs')) (hgs:cvs H [] (fnd ρ) gs ds)
  (ho:∀ p∈objs,∃ o,fnd ρ p.1=some o/\cvO H [] (fnd ρ) (H o) p.2) (hk:(ρ.all fun q=>objs.any fun p=>p.1 == q.1)=true)
  (hinj:(ρ.all fun p=>ρ.all fun q=>p.2 != q.2 || p.1 == q.1)=true)
  (hn:∀ p∈new,∃ l,fnd ρ' p.1=some l/\cvO (hOf (hF objs) objs') [] (fnd ρ') (hOf (hF objs) objs' l) p.2) (hk':(ρ'.all fun q=>new.any fun p=>p.1 == q.1)=true)
  (hinj':(ρ'.all fun p=>ρ'.all fun q=>p.2 != q.2 || p.1 == q.1)=true) (hr':cv (hOf (hF objs) objs') [] (fnd ρ') r r')
  (hback:(ρ.all fun p=>fnd ρ' p.2 == some p.1)=true) (hnew:∀ q∈ρ',fnd ρ q.2=some q.1\/H q.1=.fresh):aT P f gs H r' (BB new H):=by
 have hfl:∀ a,hF objs a=(fnd objs a).getD .fresh:=fun a=>by show lk objs .fresh a=_; rw [RU]
 have h:=eG (H:=H) (gs:=gs) (L2:=fun a=>(fnd new a).getD .dead) (r':=r') [] (fnd ρ) (fnd ρ') hL hgs
  (fun a=>by
   cases e:fnd ρ a with
   | none =>
    cases e2:fnd objs a with
    | none=>left; exact ⟨by rw [hfl,e2]; rfl,rfl⟩
    | some x =>
     obtain ⟨o,h1,_⟩:=ho _ (fnd_some e2)
     rw [e] at h1; cases h1
   | some o =>
    right; right; right
    refine ⟨o,rfl,?_⟩
    rw [jd]
    cases e2:fnd objs a with
    | none =>
     have:=List.all_eq_true.1 hk _ (fnd_some e)
     obtain ⟨p,hp,hpe⟩:=List.any_eq_true.1 this
     exact absurd (by simpa using hpe) (yD e2 p hp)
    | some x =>
     obtain ⟨o2,h1,h2⟩:=ho _ (fnd_some e2)
     rw [e] at h1; cases h1
     rw [hfl,e2]; exact h2)
  (fun a b d _ _ h3 h4=>by
   have:=List.all_eq_true.1 (List.all_eq_true.1 hinj _ (fnd_some h3)) _ (fnd_some h4)
   simpa using this)
  (fun a=>by
   cases e:fnd new a with
   | none=>right; left; rfl
   | some x =>
    right; right; right
    obtain ⟨l,h1,h2⟩:=hn _ (fnd_some e)
    exact ⟨l,h1,by rw [jd]; exact h2⟩)
  (fun a b d _ _ h3 h4=>by
   have:=List.all_eq_true.1 (List.all_eq_true.1 hinj' _ (fnd_some h3)) _ (fnd_some h4)
   simpa using this)
  hr'
  (fun l g hg=>by
   have:=List.all_eq_true.1 hback _ (fnd_some hg)
   simpa using this)
  (fun g l hg=>by
   rcases hnew _ (fnd_some hg) with h | h
   ·exact .inl h
   ·exact .inr ⟨h,by simp⟩)
 have e:(fun a=>if (fnd ρ' a).isSome then (fnd new a).getD .dead else frz [] H a)=BB new H:=by
  funext a
  rw [IB,jd]
  cases e:fnd ρ' a with
  | none =>
   cases e2:fnd new a with
   | none=>rfl
   | some x =>
    obtain ⟨l,h1,_⟩:=hn _ (fnd_some e2)
    rw [e] at h1; cases h1
  | some l =>
   cases e2:fnd new a with
   | none =>
    have:=List.all_eq_true.1 hk' _ (fnd_some e)
    obtain ⟨p,hp,hpe⟩:=List.any_eq_true.1 this
    exact absurd (by simpa using hpe) (yD e2 p hp)
   | some x=>rfl
 rw [e] at h
 exact h
variable {n:Nat} {σ:St} {ks:List Fr} {Q:Ex->St->Prop} {rid:Nat} {rest:List It} {dst:Option Nat}
attribute [local simp] fnd
theorem rY (ρ ρ':List (Nat × Nat)) (new:List (Nat × Ob)) (r':D) (hL:aT P f ds (hF objs) r (hOf (hF objs) objs')) (h:Ro P n rid rest (St.put ⟨σ.sl,BB new σ.H⟩ dst r') ks Q)
  (hgs:cvs σ.H [] (fnd ρ) gs ds:=by simp [and_assoc,cvs,fnd]) (ho:∀ p∈objs,∃ o,fnd ρ p.1=some o/\cvO σ.H [] (fnd ρ) (σ.H o) p.2:=by simp [fnd,and_assoc,hF,lk]) (hk:(ρ.all fun q=>objs.any fun p=>p.1 == q.1)=true:=by rfl)
  (hinj:(ρ.all fun p=>ρ.all fun q=>p.2 != q.2 || p.1 == q.1)=true:=by rfl)
  (hn:∀ p∈new,∃ l,fnd ρ' p.1=some l/\cvO (hOf (hF objs) objs') [] (fnd ρ') (hOf (hF objs) objs' l) p.2:=by simp [fnd,and_assoc,hF,hOf,lk]) (hk':(ρ'.all fun q=>new.any fun p=>p.1 == q.1)=true:=by rfl)
  (hinj':(ρ'.all fun p=>ρ'.all fun q=>p.2 != q.2 || p.1 == q.1)=true:=by rfl) (hr':cv (hOf (hF objs) objs') [] (fnd ρ') r r':=by simp)
  (hback:(ρ.all fun p=>fnd ρ' p.2 == some p.1)=true:=by simp [fnd]) (hnew:∀ q∈ρ',fnd ρ q.2=some q.1\/σ.H q.1=.fresh:=by simp [fnd,hF,lk,noH]):Call P n rid f gs dst rest σ ks Q :=
 ⟨_,_,.inl (FZ ρ ρ' hL hgs ho hk hinj hn hk' hinj' hr' hback hnew),h⟩
end
end Go.Abs
namespace Go.Proofs.YtfenipelcpmkpaaGreatDoor
open Go Go.Abs Go.RowKit Go.Proofs.YtfenipelcpmkpaaGreatDoor.Ty
def Wq (a b:Nat):Int:=if (a:Int) < b then -1 else if (b:Int) < a then 1 else 0
theorem Rn (a:Nat):PureD Tryz.prog 166 [.i (.s (.int .u64 (a:Int)))] (boolD false):=by
 refine au fun R hR=>?_
 refine aa 6 Tryz.func166 rfl rfl rfl (fun _ _=>rfl) ?_
 exact wkl trivial
theorem SL (a b:Nat):PureD Tryz.prog 119 [.i (.s (.int .u64 (a:Int))),.i (.s (.int .u64 (b:Int)))] (intD (Wq a b)):=by
 refine au fun R hR=>?_
 have c1:=Rn a
 have c2:=Rn b
 unfold Wq at hR
 refine aa 20 Tryz.func119 rfl rfl rfl (fun _ _=>rfl) ?_
 exact wkl trivial
theorem SK (u v:dN):PureD Tryz.prog 118 [.agg [.i (.s (.int .u64 u.k)),.i (.s (.int .u64 u.p))],.agg [.i (.s (.int .u64 v.k)),.i (.s (.int .u64 v.p))]] (intD (Wq u.k v.k)):=by
 refine au fun R hR=>?_
 have c1:=SL u.k v.k
 generalize Wq u.k v.k=C at *
 refine aa 10 Tryz.func118 rfl rfl rfl (fun _ _=>rfl) ?_
 exact wkl trivial
theorem WB (l:List dN) (h3:l.length=3) (hs:∀ i (h:i+1 < l.length),l[i].k < l[i+1].k) :
  aT Tryz.prog 196 [.os 0 2 0 3,intD 0,intD 3,.fn 118 []] (hF [(0,.arr 2 (l.map jh))]) (.tup []) (hOf (hF [(0,.arr 2 (l.map jh))]) [(0,.arr 2 (l.map jh))]):=by
 refine jb fun R R' hR hR'=>?_
 have d1:ji [] []:=⟨trivial⟩
 refine aa 53 Tryz.func196 rfl rfl rfl (fun o ho=>by simp [hF,lk,show o≠0 by omega,show o≠1 by omega,show o≠2 by omega,show o≠3 by omega,show o≠4 by omega,show o≠5 by omega]) ?_
 refine wkl ?_
 clear hR; intro hR
 refine aW (ι:=Nat) (fun i=>1<=i/\i<=3) (fun i=>dQ [(0,.os 0 2 0 3),(1,intD 0),(2,intD 3),(3,.fn 118 []),(8,intD i)] [(0,.arr 2 (l.map jh))]) (fun i=>3 - i) 1 ⟨Nat.le_refl _,by decide⟩ ?_ ?_
 ·exact dA [] []
 ·rintro i ⟨hi1,hi3⟩ RL hL
  rw [ak]
  by_cases h:i < 3
  ·obtain ⟨j,rfl⟩:∃ j,i=j+1:=⟨i - 1,by omega⟩
   have hj:j+1 < l.length:=by omega
   have s0:=aF (f:=jh) hj
   have s1:=aF (f:=jh) (l:=l) (i:=j) (by omega)
   have w1:IntKind.i64.wrap (((j+1:Nat):Int) - 1)=(j:Int):=by rw [aC (by omega) (by omega)]; omega
   have w2:IntKind.i64.wrap (((j+1:Nat):Int)+1)=((j+2:Nat):Int):=by rw [aC (by omega) (by omega)]; omega
   have hk:=hs j hj
   have b1:=fun σ'=>bk [] [] (hL (j+2) σ' ⟨by omega,by omega⟩)
   have c1:=SK l[j+1] l[j]
   have hc:Wq l[j+1].k l[j].k=1:=by unfold Wq; rw [if_neg (by omega),if_pos (by omega)]
   rw [hc] at c1
   have g1:(0:Int) < ((j+1:Nat):Int):=by omega
   have n0:(((j+1:Nat):Int)).toNat=j+1:=by omega
   clear hL hs hc hk
   generalize hu:l[j+1]=u at *
   generalize hv:l[j]=v at *
   simp only [jh] at s0 s1
   refine wkl ?_
   clear hR; intro hR
   refine aW (ι:=Unit) (fun _=>True) (fun _=>dQ [(0,.os 0 2 0 3),(1,intD 0),(2,intD 3),(3,.fn 118 []),(8,intD ((j+1:Nat):Int)),(9,intD ((j+1:Nat):Int))] [(0,.arr 2 (l.map jh))]) (fun _=>0) () trivial ?_ ?_
   ·exact dA [] []
   ·rintro _ _ RL2 hL2
    rw [ak]
    clear hL2
    exact wkl trivial
  ·have hi:i=3:=by omega
   subst hi
   clear hL hs
   obtain ⟨rfl⟩:=hR'
   exact wkl trivial
theorem Wz (l:List dN) (h3:l.length=3) (hs:∀ i (h:i+1 < l.length),l[i].k < l[i+1].k) :
  aT Tryz.prog 165 [.os 0 2 0 3,intD 0,intD 3,intD 2,.fn 118 []] (hF [(0,.arr 2 (l.map jh))]) (.tup []) (hOf (hF [(0,.arr 2 (l.map jh))]) [(0,.arr 2 (l.map jh))]):=by
 refine jb fun R R' hR hR'=>?_
 have d1:ji [] []:=⟨trivial⟩
 have hD:=WB l h3 hs
 clear hs
 refine aa 148 Tryz.func165 rfl rfl rfl (fun o ho=>by simp [hF,lk,show o≠0 by omega,show o≠1 by omega,show o≠2 by omega,show o≠3 by omega,show o≠4 by omega,show o≠5 by omega]) ?_
 refine wkl ?_
 clear hR; intro hR
 refine aW (ι:=Unit) (fun _=>True) (fun _=>dQ [(0,.os 0 2 0 3),(1,intD 0),(2,intD 3),(3,intD 2),(4,.fn 118 [])] [(0,.arr 2 (l.map jh))]) (fun _=>0) () trivial ?_ ?_
 ·exact dA [] []
 ·rintro _ _ RL hL
  rw [ak]
  clear hL
  refine wkl ?_
  clear hR; intro hR
  repeat' (intro _)
  refine rY [(0,0)] [(0,0)] [(0,.arr 2 (l.map jh))] (.tup []) hD ?_
  clear hD
  obtain ⟨rfl⟩:=hR'
  exact wkl trivial
theorem WA:PureD Tryz.prog 89 [.i (.s (.int .u64 3))] (intD 2):=by
 refine au fun R hR=>?_
 have c1:=CF 3 (by decide) (by decide)
 rw [show Nat.log2 3+1=2 by decide] at c1
 refine aa 8 Tryz.func89 rfl rfl rfl (fun _ _=>rfl) ?_
 exact wkl trivial
theorem SI (l:List dN) (h3:l.length=3) (hs:∀ i (h:i+1 < l.length),l[i].k < l[i+1].k) :
  aT Tryz.prog 117 [.os 0 2 0 3,.fn 118 []] (hF [(0,.arr 2 (l.map jh))]) (.tup []) (hOf (hF [(0,.arr 2 (l.map jh))]) [(0,.arr 2 (l.map jh))]):=by
 refine jb fun R R' hR hR'=>?_
 have d1:ji [] []:=⟨trivial⟩
 have hD:=Wz l h3 hs
 have c1:=WA
 clear hs
 refine aa 14 Tryz.func117 rfl rfl rfl (fun o ho=>by simp [hF,lk,show o≠0 by omega,show o≠1 by omega,show o≠2 by omega,show o≠3 by omega,show o≠4 by omega,show o≠5 by omega]) ?_
 refine wkl ?_
 clear hR; intro hR
 repeat' (intro _)
 refine rY [(0,0)] [(0,0)] [(0,.arr 2 (l.map jh))] (.tup []) hD ?_
 clear hD
 obtain ⟨rfl⟩:=hR'
 exact wkl trivial
theorem zF {name:ByteArray} (h1:keyF (seedB name 0) < keyF (seedB name 1)) (h2:keyF (seedB name 1) < keyF (seedB name 2)):Gy name=(List.range 3).map fun j=>⟨keyF (seedB name j),1⟩:=by
 unfold Gy
 have h3:¬ keyF (seedB name 1) < keyF (seedB name 0):=by omega
 have h4:¬ keyF (seedB name 2) < keyF (seedB name 0):=by omega
 have h5:¬ keyF (seedB name 2) < keyF (seedB name 1):=by omega
 simp [PR,h3,h4,h5,List.range_succ]
theorem Gg (name owner denom:ByteArray) (hn:name.size<=20) (h1:keyF (seedB name 0) < keyF (seedB name 1)) (h2:keyF (seedB name 1) < keyF (seedB name 2)) :
  aT Tryz.prog 62 [.i (.s (.string name)),.i (.s (.string owner)),.i (.s (.string denom))] noH (.pt 1 0 0 0) (hOf noH [(1,.box (mE (aX name owner denom) 2)),(2,.arr 18 [])]):=by
 refine jb fun R R' hR hR'=>?_
 have hv:=zF h1 h2
 have hD:=SI ((List.range 3).map fun j=>(⟨keyF (seedB name j),1⟩:dN)) (by simp) (fun i hi=>by
  simp at hi
  have:i=0\/i=1:=by omega
  rcases this with rfl | rfl
  ·simpa using h1
  ·simpa using h2)
 unfold aX at hR'
 rw [hv] at hR'
 have hsd:(List.range 3).map (fun j=>seedB name j)=[seedB name 0,seedB name 1,seedB name 2]:=rfl
 rw [<- hsd] at hR'
 clear h1 h2 hv hsd
 refine aa 55 Tryz.func62 rfl rfl rfl (fun _ _=>rfl) ?_
 refine wkl ?_
 clear hR; intro hR
 refine aW (ι:=Nat) (fun i=>i<=3) (fun i=>dQ [(0,.i (.s (.string name))),(7,.pt 100 0 0 0),(18,intD i)]
  [(100,.box [.i (.s (.string name)),.i (.s (.int .i64 1)),.i (.s (.int .i64 1)),.i (.s (.slice none 0 0)),.i (.s (.slice none 0 0)),.i (.s (.slice none 0 0)),.i (.s (.slice none 0 0)),.i (.s (.slice none 0 0)),.i (.s (.slice none 0 0)),.os 103 3 0 1,.os 101 1 0 i,.os 102 2 0 i,.i (.s (.slice none 0 0))]),
   (101,.arr 1 (((List.range i).map (fun j=>seedB name j)).map fun s=>[bI s])),(102,.arr 2 (((List.range i).map fun j=>(⟨keyF (seedB name j),1⟩:dN)).map jh)),(103,.arr 3 [[.s (.string owner),.s (.string denom),.s (.int .u64 1000)]])]) (fun i=>3 - i) 0 (Nat.zero_le _) ?_ ?_
 ·exact dA [] [(100,1263),(103,1260)]
 ·rintro i hi RL hL
  rw [ak]
  by_cases h:i < 3
  ·have c1:=qJ (i:Int) (by omega) (by omega)
   have hl:=Lib.itoa_length_le (i:Int) (by omega) (by omega)
   have hz:(seedB name i).length<=1000:=by
    have hz:name.data.toList.length=name.size:=rfl
    simp only [seedB,List.length_append]; omega
   have c2:=PN (seedB name i) (by omega)
   have hcat:name++⟨(Lib.itoa (i:Int)).toArray⟩=⟨(seedB name i).toArray⟩:=by
    apply ByteArray.ext
    simp [seedB,ByteArray.data_append]
   have q1:∀ P t x y,fV P .add t x y (some (.string name)) (some (.string ⟨(Lib.itoa (i:Int)).toArray⟩))=some (.i (.s (.string ⟨(seedB name i).toArray⟩))):=fun P t x y=>by rw [iQ (by simp only [ByteArray.size,List.size_toArray] at hn ⊢; omega),hcat]
   have q2:Ta ⟨(seedB name i).toArray⟩=bI (seedB name i):=rfl
   have m1:((List.range i).map (fun j=>seedB name j)).map (fun s=>[bI s])++[[bI (seedB name i)]]=((List.range (i+1)).map (fun j=>seedB name j)).map fun s=>[bI s]:=by rw [List.range_succ]; simp
   have m2:((List.range i).map fun j=>(⟨keyF (seedB name j),1⟩:dN)).map jh++[jh ⟨keyF (seedB name i),1⟩]=((List.range (i+1)).map fun j=>(⟨keyF (seedB name j),1⟩:dN)).map jh:=by rw [List.range_succ]; simp
   have b1:=fun σ'=>bk [] [(100,100),(101,2543),(102,2801),(103,103)] (hL (i+1) σ' h)
   have lr:(List.range i).length=i:=List.length_range
   have a1:i+1<=140737488355328:=by omega
   have a2:(i+1) * 24<=140737488355328:=by omega
   have a3:(i+1) * 16<=140737488355328:=by omega
   simp only [bI,jh,bN,Int.natCast_one] at m1 m2 c2 q2
   clear hL hD hcat hl
   generalize (Lib.itoa (i:Int))=I at *
   have l1:((List.range i).map (fun j=>seedB name j)).length=i:=by simp
   have l2:((List.range i).map fun j=>(⟨keyF (seedB name j),1⟩:dN)).length=i:=by simp
   generalize (List.range i).map (fun j=>seedB name j)=SD at *
   generalize ((List.range i).map fun j=>(⟨keyF (seedB name j),1⟩:dN))=V at *
   generalize (List.range (i+1)).map (fun j=>seedB name j)=SD2 at *
   generalize ((List.range (i+1)).map fun j=>(⟨keyF (seedB name j),1⟩:dN))=V2 at *
   generalize seedB name i=S at *
   generalize keyF S=K at *
   clear lr
   exact wkl trivial
  ·have h3:i=3:=by omega
   subst h3
   clear hL
   have t1:(((List.range 3).map (fun j=>seedB name j)).map fun s=>[bI s]).take 3=((List.range 3).map (fun j=>seedB name j)).map fun s=>[bI s]:=by rw [List.take_of_length_le (by simp)]
   have g1:((List.range 3).map (fun j=>seedB name j)).length=3:=by simp
   have g2:((List.range 3).map fun j=>(⟨keyF (seedB name j),1⟩:dN)).length=3:=by simp
   have t2:(((List.range 3).map fun j=>(⟨keyF (seedB name j),1⟩:dN)).map jh).take 3=((List.range 3).map fun j=>(⟨keyF (seedB name j),1⟩:dN)).map jh:=by rw [List.take_of_length_le (by simp)]
   generalize ((List.range 3).map fun j=>(⟨keyF (seedB name j),1⟩:dN))=V at *
   generalize ((List.range 3).map (fun j=>seedB name j))=SD at *
   simp only [bI] at t1
   refine wkl ?_
   clear hR; intro hR
   repeat' (intro _)
   refine rY [(0,102)] [(102,0)] [(102,.arr 2 (V.map jh))] (.tup []) hD ?_
   clear hD
   have d1:ji [101,102,103] [(1,100)]:=⟨trivial⟩
   obtain ⟨rfl⟩:=hR'
   refine wkl ?_
   clear hR; intro hR
   obtain ⟨rfl⟩:=hR
   refine fin_d d1 rfl ?_ ?_ rfl ?_ rfl
   all_goals (try simp only [go_sem,Nat.reduceLT,Nat.reduceAdd,Nat.reduceMul,reduceIte,Nat.reduceEqDiff,reduceCtorEq,Nat.reducePow,Nat.reduceLeDiff,Int.reduceLE,Int.reduceLT,Int.reduceToNat,Int.reduceEq,Nat.reduceBEq])
   all_goals simp [*]
theorem zg (c:aJ) (ok:StOk c.s) (i:Int):PureD Tryz.prog 178 [.rp (Lx c) 0,intD i] (.tup [intD (kL c i).1,boolD (kL c i).2]):=by
 refine au fun R hR=>?_
 have hl:=ok.lcn
 unfold kL at hR
 by_cases h:i < 0\/(c.s.cns.length:Int)<=i
 ·rw [if_pos h] at hR
  clear ok
  refine aa 27 Tryz.func178 rfl rfl rfl (fun _ _=>rfl) ?_
  exact wkl trivial
 ·rw [if_neg h] at hR
  have hi:i.toNat < c.s.cns.length:=by omega
  have s0:=aF (f:=dS) hi
  rw [(dH (s:=c.s) (i:=i) (by omega)).1] at hR
  clear ok
  generalize c.s.cns[i.toNat]=x at *
  refine aa 27 Tryz.func178 rfl rfl rfl (fun _ _=>rfl) ?_
  exact wkl trivial
theorem uP (c:aJ) (ok:StOk c.s) (i:Int):PureD Tryz.prog 179 [.rp (Lx c) 0,intD i] (.tup [chanD (gP c i).1,intD (gP c i).2.1,boolD (gP c i).2.2]):=by
 refine au fun R hR=>?_
 have hl:=ok.lch
 unfold gP at hR
 by_cases h:i < 0\/(c.s.chs.length:Int)<=i
 ·rw [if_pos h] at hR
  clear ok
  refine aa 41 Tryz.func179 rfl rfl rfl (fun _ _=>rfl) ?_
  exact wkl trivial
 ·rw [if_neg h] at hR
  have hi:i.toNat < c.s.chs.length:=by omega
  have s0:=aF (f:=bK) hi
  have c1:=zg c ok (chAt c.s i).cn
  rw [(b_ (s:=c.s) (i:=i) (by omega)).1] at hR c1
  clear ok
  generalize c.s.chs[i.toNat]=x at *
  generalize kL c x.cn=Y at *
  refine aa 41 Tryz.func179 rfl rfl rfl (fun _ _=>rfl) ?_
  exact wkl trivial
theorem Vj {c:aJ} (ok:StOk c.s) (i:Int):gZ (gP c i).1.oc:=by
 unfold gP gZ
 split
 ·simp
 ·rename_i h
  have:=(ok.chs _ (b_ (s:=c.s) (i:=i) (by omega)).2).oc
  unfold N12 at this
  simp only; omega
structure NA (m:MsgD):Prop where
 oend:gZ m.oend
 fr:gZ m.pk.fr
 de:gZ m.pk.de
 seq:gZ m.pk.seq
def Zu (c:aJ) (m:MsgD):List (Nat × Ob):=[(0,.box (mE c 1)),(1,.arr 18 (c.past.map bE)),(2,.box ((encMsg m).map .i))]
attribute [simp,go_sem] Zu
theorem Vu (c:aJ) (ok:StOk c.s) (m:MsgD) (hm:NA m):aT Tryz.prog 123 [.pt 0 0 0 0,.pt 2 0 0 0] (hF (Zu c m)) (.tup [intD (nC c m).1,.i (bI (nC c m).2.1),boolD (nC c m).2.2.1,boolD (nC c m).2.2.2]) (hOf (hF (Zu c m)) (Zu c m)):=by
 refine jb fun R R' hR hR'=>?_
 have d1:ji [] []:=⟨trivial⟩
 obtain ⟨rfl⟩:=hR'
 unfold nC at hR
 by_cases k5:m.kind=5
 ·rw [if_pos k5] at hR
  have c1:=AP m.oend hm.oend
  generalize keyC m.oend=K at *
  clear ok hm
  refine aa 197 Tryz.func123 rfl rfl rfl (fun o ho=>by simp [hF,lk,show o≠0 by omega,show o≠1 by omega,show o≠2 by omega,show o≠3 by omega,show o≠4 by omega,show o≠5 by omega]) ?_
  exact wkl trivial
 ·rw [if_neg k5] at hR
  by_cases k6:m.kind=6
  ·rw [if_pos k6] at hR
   have c1:=AP m.oend hm.oend
   have c2:=zg c ok m.ed
   generalize keyC m.oend=K at *
   generalize kL c m.ed=Y at *
   clear ok hm
   refine aa 197 Tryz.func123 rfl rfl rfl (fun o ho=>by simp [hF,lk,show o≠0 by omega,show o≠1 by omega,show o≠2 by omega,show o≠3 by omega,show o≠4 by omega,show o≠5 by omega]) ?_
   exact wkl trivial
  ·rw [if_neg k6] at hR
   by_cases k7:m.kind=7
   ·rw [if_pos k7] at hR
    have c1:=zg c ok m.ed
    have hl:=ok.lcn
    by_cases h:m.ed < 0\/(c.s.cns.length:Int)<=m.ed
    ·have e:kL c m.ed=(0,false):=by unfold kL; rw [if_pos h]
     rw [e] at hR c1
     simp only [Bool.false_eq_true,if_false] at hR c1
     clear ok hm e
     refine aa 197 Tryz.func123 rfl rfl rfl (fun o ho=>by simp [hF,lk,show o≠0 by omega,show o≠1 by omega,show o≠2 by omega,show o≠3 by omega,show o≠4 by omega,show o≠5 by omega]) ?_
     exact wkl trivial
    ·have e:kL c m.ed=((cnAt c.s m.ed).cl,true):=by unfold kL; rw [if_neg h]
     have hi:m.ed.toNat < c.s.cns.length:=by omega
     have s0:=aF (f:=dS) hi
     have hon:=(ok.cns _ (dH (s:=c.s) (i:=m.ed) (by omega)).2).on
     have c2:=AP (cnAt c.s m.ed).on (by unfold N12 at hon; unfold gZ; omega)
     rw [e] at hR c1
     simp only [if_true] at hR c1
     rw [(dH (s:=c.s) (i:=m.ed) (by omega)).1] at hR c1 c2
     clear ok hm e hon
     generalize c.s.cns[m.ed.toNat]=x at *
     generalize keyC x.on=K at *
     refine aa 197 Tryz.func123 rfl rfl rfl (fun o ho=>by simp [hF,lk,show o≠0 by omega,show o≠1 by omega,show o≠2 by omega,show o≠3 by omega,show o≠4 by omega,show o≠5 by omega]) ?_
     exact wkl trivial
   ·rw [if_neg k7] at hR
    by_cases k9:m.kind=9
    ·rw [if_pos k9] at hR
     have c1:=Av m.oend hm.oend
     have c2:=zg c ok m.ed
     generalize keyH m.oend=K at *
     generalize kL c m.ed=Y at *
     clear ok hm
     refine aa 197 Tryz.func123 rfl rfl rfl (fun o ho=>by simp [hF,lk,show o≠0 by omega,show o≠1 by omega,show o≠2 by omega,show o≠3 by omega,show o≠4 by omega,show o≠5 by omega]) ?_
     exact wkl trivial
    ·rw [if_neg k9] at hR
     by_cases k10:m.kind=10
     ·rw [if_pos k10] at hR
      have c1:=Av m.oend hm.oend
      have c2:=uP c ok m.ed
      generalize keyH m.oend=K at *
      generalize gP c m.ed=Y at *
      clear ok hm
      refine aa 197 Tryz.func123 rfl rfl rfl (fun o ho=>by simp [hF,lk,show o≠0 by omega,show o≠1 by omega,show o≠2 by omega,show o≠3 by omega,show o≠4 by omega,show o≠5 by omega]) ?_
      exact wkl trivial
     ·rw [if_neg k10] at hR
      by_cases k11:m.kind=11\/m.kind=13
      ·rw [if_pos k11] at hR
       have c1:=Av (gP c m.ed).1.oc (Vj ok m.ed)
       have c2:=uP c ok m.ed
       generalize keyH (gP c m.ed).1.oc=K at *
       generalize gP c m.ed=Y at *
       clear ok hm
       rcases k11 with k11 | k11
       all_goals
        refine aa 197 Tryz.func123 rfl rfl rfl (fun o ho=>by simp [hF,lk,show o≠0 by omega,show o≠1 by omega,show o≠2 by omega,show o≠3 by omega,show o≠4 by omega,show o≠5 by omega]) ?_
        exact wkl trivial
      ·rw [if_neg k11] at hR
       have k11a:¬ m.kind=11:=fun e=>k11 (.inl e)
       have k11b:¬ m.kind=13:=fun e=>k11 (.inr e)
       clear k11
       by_cases k15:m.kind=15
       ·rw [if_pos k15] at hR
        have c1:=nY nH m.pk.fr m.pk.seq (by decide) hm.fr hm.seq
        have c2:=uP c ok m.pk.de
        generalize keyM nH m.pk.fr m.pk.seq=K at *
        generalize gP c m.pk.de=Y at *
        simp only [nH,Gw,Gv] at *
        clear ok hm
        refine aa 197 Tryz.func123 rfl rfl rfl (fun o ho=>by simp [hF,lk,show o≠0 by omega,show o≠1 by omega,show o≠2 by omega,show o≠3 by omega,show o≠4 by omega,show o≠5 by omega]) ?_
        exact wkl trivial
       ·rw [if_neg k15] at hR
        by_cases k16:m.kind=16
        ·rw [if_pos k16] at hR
         have c1:=nY Gw m.pk.de m.pk.seq (by decide) hm.de hm.seq
         have c2:=uP c ok m.pk.fr
         generalize keyM Gw m.pk.de m.pk.seq=K at *
         generalize gP c m.pk.fr=Y at *
         simp only [nH,Gw,Gv] at *
         clear ok hm
         refine aa 197 Tryz.func123 rfl rfl rfl (fun o ho=>by simp [hF,lk,show o≠0 by omega,show o≠1 by omega,show o≠2 by omega,show o≠3 by omega,show o≠4 by omega,show o≠5 by omega]) ?_
         exact wkl trivial
        ·rw [if_neg k16] at hR
         by_cases k17:m.kind=17
         ·rw [if_pos k17] at hR
          have c1:=nY Gv m.pk.de m.pk.seq (by decide) hm.de hm.seq
          have c2:=Kh m.pk.de hm.de
          have c3:=uP c ok m.pk.fr
          generalize keyM Gv m.pk.de m.pk.seq=K at *
          generalize keyN m.pk.de=K2 at *
          generalize gP c m.pk.fr=Y at *
          simp only [nH,Gw,Gv] at *
          clear ok hm
          cases ho:Y.1.ord
          ·simp only [ho,Bool.false_eq_true,if_false] at hR
           refine aa 197 Tryz.func123 rfl rfl rfl (fun o ho=>by simp [hF,lk,show o≠0 by omega,show o≠1 by omega,show o≠2 by omega,show o≠3 by omega,show o≠4 by omega,show o≠5 by omega]) ?_
           exact wkl trivial
          ·simp only [ho,if_true] at hR
           refine aa 197 Tryz.func123 rfl rfl rfl (fun o ho=>by simp [hF,lk,show o≠0 by omega,show o≠1 by omega,show o≠2 by omega,show o≠3 by omega,show o≠4 by omega,show o≠5 by omega]) ?_
           exact wkl trivial
         ·rw [if_neg k17] at hR
          clear ok hm
          refine aa 197 Tryz.func123 rfl rfl rfl (fun o ho=>by simp [hF,lk,show o≠0 by omega,show o≠1 by omega,show o≠2 by omega,show o≠3 by omega,show o≠4 by omega,show o≠5 by omega]) ?_
          exact wkl trivial
end Go.Proofs.YtfenipelcpmkpaaGreatDoor
