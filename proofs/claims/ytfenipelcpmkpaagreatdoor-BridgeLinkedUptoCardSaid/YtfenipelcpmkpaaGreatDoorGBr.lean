/- Merged texts: BrP, BrX, SrtV, BrE, BrA. -/
import Derived.Test.YtfenipelcpmkpaaGreatDoorGAp
import Derived.Test.YtfenipelcpmkpaaGreatDoorGSo
set_option linter.all false
set_option maxHeartbeats 16000000
set_option maxRecDepth 20000
namespace Go.Proofs.YtfenipelcpmkpaaGreatDoor
open Go Go.Abs
structure EndD where
 sg:gQ
 st:StateD
structure aA where
 s:StateD
 seeds:List (List UInt8)
 vals:List dJ
 past:List EndD
structure EvD where
 kind:Int
 side:Int
 later:Int
 trust:Int
 cl:Int
 m:MsgD
def bG (e:EndD):List I:=[.s (.string e.sg.hdr.c),.s (.int .i64 e.sg.hdr.h),.s (.int .i64 e.sg.hdr.t),bI e.sg.hdr.root,bI e.sg.hdr.vals,bI e.sg.hdr.next,valsI e.sg.vals,votesI e.sg.votes,
 .s (.string e.st.name),.s (.int .i64 e.st.h),.s (.int .i64 e.st.t),.sl (e.st.cls.map gW),.sl (e.st.cns.map dW),.sl (e.st.chs.map bM),.sl (e.st.sent.map bN),.sl (e.st.got.map bN),.sl (e.st.acks.map bN),.sl (e.st.pus.map a_)]
def MH (c:aA):List I:=[.s (.string c.s.name),.s (.int .i64 c.s.h),.s (.int .i64 c.s.t),.sl (c.s.cls.map gW),.sl (c.s.cns.map dW),.sl (c.s.chs.map bM),.sl (c.s.sent.map bN),.sl (c.s.got.map bN),.sl (c.s.acks.map bN),.sl (c.s.pus.map a_),
 bbI c.seeds,valsI c.vals,.sl (c.past.map bG)]
def nk (c:aA) (o:Nat):List D:=[.i (.s (.string c.s.name)),.i (.s (.int .i64 c.s.h)),.i (.s (.int .i64 c.s.t)),.i (.sl (c.s.cls.map gW)),.i (.sl (c.s.cns.map dW)),.i (.sl (c.s.chs.map bM)),.i (.sl (c.s.sent.map bN)),.i (.sl (c.s.got.map bN)),.i (.sl (c.s.acks.map bN)),.i (.sl (c.s.pus.map a_)),
 .i (bbI c.seeds),.i (valsI c.vals),.os o 18 0 c.past.length]
attribute [simp,go_sem] bG MH nk
def g_ (s:StateD):List UInt8 × Int:=if (fG s).2=0 then (Cv (fG s).1,((dQ (fG s).1).1:Nat)) else ([],(fG s).2)
def rM (c:aA):lm:=⟨c.s.name,c.s.h,c.s.t,(g_ c.s).1,bW c.vals,bW c.vals⟩
def aQ (c:aA) (later:Int):aA × ll :=
 if (ji c.s later).2=0 then
  (if (g_ c.s).2=0 then
   (if (jO (rM c) c.vals c.seeds).2=0 then ({ c with s:=(ji c.s later).1,past:=c.past++[⟨(jO (rM c) c.vals c.seeds).1,c.s⟩] },⟨0,((c.past.length+1:Nat):Int),zeroPk⟩)
   else (c,dE (jO (rM c) c.vals c.seeds).2))
  else (c,dE (g_ c.s).2))
 else (c,dE (ji c.s later).2)
def ny (c:aA) (m:MsgD):aA × ll:=(if (doS c.s m).2.err=0 then { c with s:=(doS c.s m).1 } else c,(doS c.s m).2)
def aaH:EndD:=⟨⟨⟨⟨#[]⟩,0,0,[],[],[]⟩,[],[]⟩,zeroSt⟩
def lastB (o:aA):EndD:=o.past.getLastD aaH
def cliMsg (o:aA) (trust:Int):MsgD:={ zeroMsg with kind:=1,chain:=(lastB o).sg.hdr.c,trust:=trust,kn:=ofH (lastB o).sg.hdr }
def dh (c o:aA) (trust:Int):aA × ll:=if o.past.length=0 then (c,dE 6) else ny c (cliMsg o trust)
def folMsg (c o:aA) (i:Int):MsgD:={ zeroMsg with kind:=2,cl:=i,up:=⟨(jy (iQ c.s i)).h,(lastB o).sg,o.vals⟩ }
def cZ (c o:aA) (i:Int):aA × ll:=if o.past.length=0\/i < 0\/(c.s.cls.length:Int)<=i then (c,dE 6) else ny c (folMsg c o i)
def iV (c:aA) (i:Int):Int × Bool:=if i < 0\/(c.s.cns.length:Int)<=i then (0,false) else ((cnAt c.s i).cl,true)
def fQ (c:aA) (i:Int):ChanD × Int × Bool:=if i < 0\/(c.s.chs.length:Int)<=i then (zeroCh,0,false) else (chAt c.s i,iV c (chAt c.s i).cn)
def iM (c:aA) (m:MsgD):Int × List UInt8 × Bool × Bool :=
 if m.kind=5 then (m.cl,keyC m.oend,false,true)
 else if m.kind=6 then ((iV c m.ed).1,keyC m.oend,false,(iV c m.ed).2)
 else if m.kind=7 then ((iV c m.ed).1,if (iV c m.ed).2=true then keyC (cnAt c.s m.ed).on else [],false,(iV c m.ed).2)
 else if m.kind=9 then ((iV c m.ed).1,keyH m.oend,false,(iV c m.ed).2)
 else if m.kind=10 then ((fQ c m.ed).2.1,keyH m.oend,false,(fQ c m.ed).2.2)
 else if m.kind=11\/m.kind=13 then ((fQ c m.ed).2.1,keyH (fQ c m.ed).1.oc,false,(fQ c m.ed).2.2)
 else if m.kind=15 then ((fQ c m.pk.de).2.1,keyM ol m.pk.fr m.pk.seq,false,(fQ c m.pk.de).2.2)
 else if m.kind=16 then ((fQ c m.pk.fr).2.1,keyM Ic m.pk.de m.pk.seq,false,(fQ c m.pk.fr).2.2)
 else if m.kind=17 then (if (fQ c m.pk.fr).1.ord=true then ((fQ c m.pk.fr).2.1,keyN m.pk.de,false,(fQ c m.pk.fr).2.2) else ((fQ c m.pk.fr).2.1,keyM Ib m.pk.de m.pk.seq,true,(fQ c m.pk.fr).2.2))
 else (0,[],false,false)
def atB (o:aA) (h:Int):Option EndD:=o.past.find? fun e=>decide (e.sg.hdr.h=h)
def UY (m:MsgD) (s:StateD):Int:=if m.kind=17/\0<=m.pk.de/\m.pk.de < (s.chs.length:Int) then (chAt s m.pk.de).rcv else m.next
def Au (c o:aA) (m:MsgD):MsgD :=
 if (iM c m).2.2.2=false\/(iM c m).1 < 0\/(c.s.cls.length:Int)<=(iM c m).1 then m
 else match atB o (jy (iQ c.s (iM c m).1)).h with
  | none=>m
  | some e =>
   if (iM c m).2.2.1=true then { m with sh:={ zSh with h:=(jy (iQ c.s (iM c m).1)).h,g:=(Zn (fG e.st).1 (iM c m).2.1).1 } }
   else { m with sh:={ zSh with h:=(jy (iQ c.s (iM c m).1)).h,p:=(kX (fG e.st).1 (iM c m).2.1).1 },next:=UY m e.st }
def showB (c o:aA) (m:MsgD):MsgD:=Au c o { m with sh:=zSh }
def oneB (c o:aA) (e:EvD):aA × ll :=
 if e.kind=1 then aQ c e.later else if e.kind=2 then dh c o e.trust else if e.kind=3 then cZ c o e.cl
 else if e.kind=4 then ny c e.m else if e.kind=5 then ny c (showB c o e.m) else (c,dE 1)
abbrev si:=aA × aA
def lD (w:si) (e:EvD):si × ll :=
 if e.side=0 then (((oneB w.1 w.2 e).1,w.2),(oneB w.1 w.2 e).2)
 else if e.side=1 then ((w.1,(oneB w.2 w.1 e).1),(oneB w.2 w.1 e).2)
 else (w,dE 1)
def gV:si->List EvD->si × List ll
 | w,[]=>(w,[])
 | w,e :: t=>((gV (lD w e).1 t).1,(lD w e).2 :: (gV (lD w e).1 t).2)
theorem AB (e:EvD):∀ (l:List EvD) (w:si),gV w (l++[e])=((lD (gV w l).1 e).1,(gV w l).2++[(lD (gV w l).1 e).2])
 | [],w=>rfl
 | a :: t,w=>by simp only [List.cons_append,gV]; rw [AB e t]
theorem uq (l2:List EvD):∀ (l:List EvD) (w:si),gV w (l++l2)=((gV (gV w l).1 l2).1,(gV w l).2++(gV (gV w l).1 l2).2)
 | [],w=>rfl
 | a :: t,w=>by simp only [List.cons_append,gV]; rw [uq l2 t]
theorem xR:∀ (l:List EvD) (w:si),(gV w l).2.length=l.length
 | [],_=>rfl
 | a :: t,w=>by simp only [gV,List.length_cons]; rw [xR t]
def QT (v:dJ):List dJ->List dJ
 | []=>[v]
 | a :: t=>if v.k < a.k then v :: a :: t else a :: QT v t
def seedB (name:ByteArray) (i:Nat):List UInt8:=name.data.toList++Lib.itoa (i:Nat)
def mX (name:ByteArray):List dJ:=QT ⟨keyF (seedB name 2),1⟩ (QT ⟨keyF (seedB name 1),1⟩ [⟨keyF (seedB name 0),1⟩])
def aY (name owner denom:ByteArray):aA:=⟨⟨name,1,1,[],[],[],[],[],[],[⟨owner,denom,1000⟩]⟩,[seedB name 0,seedB name 1,seedB name 2],mX name,[]⟩
end Go.Proofs.YtfenipelcpmkpaaGreatDoor
namespace Go.Abs
open Go Go.RowKit
def Ci:List (Nat × Ob)->(Nat->Ob)->Nat->Ob
 | [],H=>H
 | (j,x) :: t,H=>upd (Ci t H) j x
attribute [simp,go_sem] Ci
theorem Jy (H:Nat->Ob) (a:Nat):∀ l:List (Nat × Ob),Ci l H a=(fnd l a).getD (H a)
 | []=>rfl
 | (j,x) :: t=>by
  simp only [Ci,fnd]
  by_cases h:a=j
  ·subst h; simp [upd]
  ·rw [upd_ne _ _ h,if_neg h]; exact Jy H a t
theorem fnd_some {α:Type} {l:List (Nat × α)} {k:Nat} {x:α} (h:fnd l k=some x):(k,x)∈l:=DW h
theorem zl {α:Type} {k:Nat}:∀ {l:List (Nat × α)},fnd l k=none->∀ p∈l,p.1≠k
 | [],_,p,hp=>by cases hp
 | (j,x) :: t,h,p,hp=>by
  simp only [fnd] at h
  split at h
  ·cases h
  ·rename_i hne
   rcases List.mem_cons.1 hp with rfl | hp
   ·exact fun e=>hne e.symm
   ·exact zl h p hp
section
variable {P:Program} {H:Nat->Ob} {f:FuncId} {ds gs:List D} {r r':D} {objs objs' new:List (Nat × Ob)}
theorem G_ (ρ ρ':List (Nat × Nat)) (hL:aN P f ds (hF objs) r (hOf (hF objs) objs')) (hgs:cvs H [] (fnd ρ) gs ds)
  (ho:∀ p∈objs,∃ o,fnd ρ p.1=some o/\cvO H [] (fnd ρ) (H o) p.2) (hk:(ρ.all fun q=>objs.any fun p=>p.1 == q.1)=true)
  (hinj:(ρ.all fun p=>ρ.all fun q=>p.2 != q.2 || p.1 == q.1)=true)
  (hn:∀ p∈new,∃ l,fnd ρ' p.1=some l/\cvO (hOf (hF objs) objs') [] (fnd ρ') (hOf (hF objs) objs' l) p.2) (hk':(ρ'.all fun q=>new.any fun p=>p.1 == q.1)=true)
  (hinj':(ρ'.all fun p=>ρ'.all fun q=>p.2 != q.2 || p.1 == q.1)=true) (hr':cv (hOf (hF objs) objs') [] (fnd ρ') r r')
  (hback:(ρ.all fun p=>fnd ρ' p.2 == some p.1)=true) (hnew:∀ q∈ρ',fnd ρ q.2=some q.1\/H q.1=.fresh):aN P f gs H r' (Ci new H):=by
 have hfl:∀ a,hF objs a=(fnd objs a).getD .fresh:=fun a=>by show lk objs .fresh a=_; rw [Tn]
 have h:=dC (H:=H) (gs:=gs) (L2:=fun a=>(fnd new a).getD .dead) (r':=r') [] (fnd ρ) (fnd ρ') hL hgs
  (fun a=>by
   cases e:fnd ρ a with
   | none =>
    cases e2:fnd objs a with
    | none=>left; exact ⟨by rw [hfl,e2]; rfl,rfl⟩
    | some x =>
     obtain ⟨o,h1,_⟩:=ho _ (fnd_some e2)
     rw [e] at h1; cases h1
   | some o =>
    right; right; right
    refine ⟨o,rfl,?_⟩
    rw [jq]
    cases e2:fnd objs a with
    | none =>
     have:=List.all_eq_true.1 hk _ (fnd_some e)
     obtain ⟨p,hp,hpe⟩:=List.any_eq_true.1 this
     exact absurd (by simpa using hpe) (zl e2 p hp)
    | some x =>
     obtain ⟨o2,h1,h2⟩:=ho _ (fnd_some e2)
     rw [e] at h1; cases h1
     rw [hfl,e2]; exact h2)
  (fun a b d _ _ h3 h4=>by
   have:=List.all_eq_true.1 (List.all_eq_true.1 hinj _ (fnd_some h3)) _ (fnd_some h4)
   simpa using this)
  (fun a=>by
   cases e:fnd new a with
   | none=>right; left; rfl
   | some x =>
    right; right; right
    obtain ⟨l,h1,h2⟩:=hn _ (fnd_some e)
    exact ⟨l,h1,by rw [jq]; exact h2⟩)
  (fun a b d _ _ h3 h4=>by
   have:=List.all_eq_true.1 (List.all_eq_true.1 hinj' _ (fnd_some h3)) _ (fnd_some h4)
   simpa using this)
  hr'
  (fun l g hg=>by
   have:=List.all_eq_true.1 hback _ (fnd_some hg)
   simpa using this)
  (fun g l hg=>by
   rcases hnew _ (fnd_some hg) with h | h
   ·exact .inl h
   ·exact .inr ⟨h,by simp⟩)
 have e:(fun a=>if (fnd ρ' a).isSome then (fnd new a).getD .dead else frz [] H a)=Ci new H:=by
  funext a
  rw [Jy,jq]
  cases e:fnd ρ' a with
  | none =>
   cases e2:fnd new a with
   | none=>rfl
   | some x =>
    obtain ⟨l,h1,_⟩:=hn _ (fnd_some e2)
    rw [e] at h1; cases h1
  | some l =>
   cases e2:fnd new a with
   | none =>
    have:=List.all_eq_true.1 hk' _ (fnd_some e)
    obtain ⟨p,hp,hpe⟩:=List.any_eq_true.1 this
    exact absurd (by simpa using hpe) (zl e2 p hp)
   | some x=>rfl
 rw [e] at h
 exact h
variable {n:Nat} {σ:St} {ks:List Fr} {Q:Ex->St->Prop} {rid:Nat} {rest:List It} {dst:Option Nat}
attribute [local simp] fnd
theorem tQ (ρ ρ':List (Nat × Nat)) (new:List (Nat × Ob)) (r':D) (hL:aN P f ds (hF objs) r (hOf (hF objs) objs')) (h:Ro P n rid rest (St.put ⟨σ.sl,Ci new σ.H⟩ dst r') ks Q)
  (hgs:cvs σ.H [] (fnd ρ) gs ds:=by simp [and_assoc,cvs,fnd]) (ho:∀ p∈objs,∃ o,fnd ρ p.1=some o/\cvO σ.H [] (fnd ρ) (σ.H o) p.2:=by simp [fnd,and_assoc,hF,lk]) (hk:(ρ.all fun q=>objs.any fun p=>p.1 == q.1)=true:=by rfl)
  (hinj:(ρ.all fun p=>ρ.all fun q=>p.2 != q.2 || p.1 == q.1)=true:=by rfl)
  (hn:∀ p∈new,∃ l,fnd ρ' p.1=some l/\cvO (hOf (hF objs) objs') [] (fnd ρ') (hOf (hF objs) objs' l) p.2:=by simp [fnd,and_assoc,hF,hOf,lk]) (hk':(ρ'.all fun q=>new.any fun p=>p.1 == q.1)=true:=by rfl)
  (hinj':(ρ'.all fun p=>ρ'.all fun q=>p.2 != q.2 || p.1 == q.1)=true:=by rfl) (hr':cv (hOf (hF objs) objs') [] (fnd ρ') r r':=by simp)
  (hback:(ρ.all fun p=>fnd ρ' p.2 == some p.1)=true:=by simp [fnd]) (hnew:∀ q∈ρ',fnd ρ q.2=some q.1\/σ.H q.1=.fresh:=by simp [fnd,hF,lk,noH]):Call P n rid f gs dst rest σ ks Q :=
 ⟨_,_,.inl (G_ ρ ρ' hL hgs ho hk hinj hn hk' hinj' hr' hback hnew),h⟩
end
end Go.Abs
namespace Go.Proofs.YtfenipelcpmkpaaGreatDoor
open Go Go.Abs Go.RowKit Go.Proofs.YtfenipelcpmkpaaGreatDoor.Ty
def Xy (a b:Nat):Int:=if (a:Int) < b then -1 else if (b:Int) < a then 1 else 0
theorem SH (a:Nat):PureD Tryz.prog 166 [.i (.s (.int .u64 (a:Int)))] (boolD false):=by
 refine ak fun R hR=>?_
 refine aa 6 Tryz.func166 rfl rfl rfl (fun _ _=>rfl) ?_
 exact wkl trivial
theorem TY (a b:Nat):PureD Tryz.prog 119 [.i (.s (.int .u64 (a:Int))),.i (.s (.int .u64 (b:Int)))] (intD (Xy a b)):=by
 refine ak fun R hR=>?_
 have c1:=SH a
 have c2:=SH b
 unfold Xy at hR
 refine aa 20 Tryz.func119 rfl rfl rfl (fun _ _=>rfl) ?_
 exact wkl trivial
theorem TW (u v:dJ):PureD Tryz.prog 118 [.agg [.i (.s (.int .u64 u.k)),.i (.s (.int .u64 u.p))],.agg [.i (.s (.int .u64 v.k)),.i (.s (.int .u64 v.p))]] (intD (Xy u.k v.k)):=by
 refine ak fun R hR=>?_
 have c1:=TY u.k v.k
 generalize Xy u.k v.k=C at *
 refine aa 10 Tryz.func118 rfl rfl rfl (fun _ _=>rfl) ?_
 exact wkl trivial
theorem XG (l:List dJ) (h3:l.length=3) (hs:∀ i (h:i+1 < l.length),l[i].k < l[i+1].k) :
  aN Tryz.prog 196 [.os 0 2 0 3,intD 0,intD 3,.fn 118 []] (hF [(0,.arr 2 (l.map jZ))]) (.tup []) (hOf (hF [(0,.arr 2 (l.map jZ))]) [(0,.arr 2 (l.map jZ))]):=by
 refine gX fun R R' hR hR'=>?_
 have d1:iN [] []:=⟨trivial⟩
 refine aa 53 Tryz.func196 rfl rfl rfl (fun o ho=>by simp [hF,lk,show o≠0 by omega,show o≠1 by omega,show o≠2 by omega,show o≠3 by omega,show o≠4 by omega,show o≠5 by omega]) ?_
 refine wkl ?_
 clear hR; intro hR
 refine aZ (ι:=Nat) (fun i=>1<=i/\i<=3) (fun i=>ek [(0,.os 0 2 0 3),(1,intD 0),(2,intD 3),(3,.fn 118 []),(8,intD i)] [(0,.arr 2 (l.map jZ))]) (fun i=>3 - i) 1 ⟨Nat.le_refl _,by decide⟩ ?_ ?_
 ·exact dP [] []
 ·rintro i ⟨hi1,hi3⟩ RL hL
  rw [au]
  by_cases h:i < 3
  ·obtain ⟨j,rfl⟩:∃ j,i=j+1:=⟨i - 1,by omega⟩
   have hj:j+1 < l.length:=by omega
   have s0:=aH (f:=jZ) hj
   have s1:=aH (f:=jZ) (l:=l) (i:=j) (by omega)
   have w1:IntKind.i64.wrap (((j+1:Nat):Int) - 1)=(j:Int):=by rw [aD (by omega) (by omega)]; omega
   have w2:IntKind.i64.wrap (((j+1:Nat):Int)+1)=((j+2:Nat):Int):=by rw [aD (by omega) (by omega)]; omega
   have hk:=hs j hj
   have b1:=fun σ'=>bk [] [] (hL (j+2) σ' ⟨by omega,by omega⟩)
   have c1:=TW l[j+1] l[j]
   have hc:Xy l[j+1].k l[j].k=1:=by unfold Xy; rw [if_neg (by omega),if_pos (by omega)]
   rw [hc] at c1
   have g1:(0:Int) < ((j+1:Nat):Int):=by omega
   have n0:(((j+1:Nat):Int)).toNat=j+1:=by omega
   clear hL hs hc hk
   generalize hu:l[j+1]=u at *
   generalize hv:l[j]=v at *
   simp only [jZ] at s0 s1
   refine wkl ?_
   clear hR; intro hR
   refine aZ (ι:=Unit) (fun _=>True) (fun _=>ek [(0,.os 0 2 0 3),(1,intD 0),(2,intD 3),(3,.fn 118 []),(8,intD ((j+1:Nat):Int)),(9,intD ((j+1:Nat):Int))] [(0,.arr 2 (l.map jZ))]) (fun _=>0) () trivial ?_ ?_
   ·exact dP [] []
   ·rintro _ _ RL2 hL2
    rw [au]
    clear hL2
    exact wkl trivial
  ·have hi:i=3:=by omega
   subst hi
   clear hL hs
   obtain ⟨rfl⟩:=hR'
   exact wkl trivial
theorem XE (l:List dJ) (h3:l.length=3) (hs:∀ i (h:i+1 < l.length),l[i].k < l[i+1].k) :
  aN Tryz.prog 165 [.os 0 2 0 3,intD 0,intD 3,intD 2,.fn 118 []] (hF [(0,.arr 2 (l.map jZ))]) (.tup []) (hOf (hF [(0,.arr 2 (l.map jZ))]) [(0,.arr 2 (l.map jZ))]):=by
 refine gX fun R R' hR hR'=>?_
 have d1:iN [] []:=⟨trivial⟩
 have hD:=XG l h3 hs
 clear hs
 refine aa 148 Tryz.func165 rfl rfl rfl (fun o ho=>by simp [hF,lk,show o≠0 by omega,show o≠1 by omega,show o≠2 by omega,show o≠3 by omega,show o≠4 by omega,show o≠5 by omega]) ?_
 refine wkl ?_
 clear hR; intro hR
 refine aZ (ι:=Unit) (fun _=>True) (fun _=>ek [(0,.os 0 2 0 3),(1,intD 0),(2,intD 3),(3,intD 2),(4,.fn 118 [])] [(0,.arr 2 (l.map jZ))]) (fun _=>0) () trivial ?_ ?_
 ·exact dP [] []
 ·rintro _ _ RL hL
  rw [au]
  clear hL
  refine wkl ?_
  clear hR; intro hR
  repeat' (intro _)
  refine tQ [(0,0)] [(0,0)] [(0,.arr 2 (l.map jZ))] (.tup []) hD ?_
  clear hD
  obtain ⟨rfl⟩:=hR'
  exact wkl trivial
theorem XF:PureD Tryz.prog 89 [.i (.s (.int .u64 3))] (intD 2):=by
 refine ak fun R hR=>?_
 have c1:=Dq 3 (by decide) (by decide)
 rw [show Nat.log2 3+1=2 by decide] at c1
 refine aa 8 Tryz.func89 rfl rfl rfl (fun _ _=>rfl) ?_
 exact wkl trivial
theorem TV (l:List dJ) (h3:l.length=3) (hs:∀ i (h:i+1 < l.length),l[i].k < l[i+1].k) :
  aN Tryz.prog 117 [.os 0 2 0 3,.fn 118 []] (hF [(0,.arr 2 (l.map jZ))]) (.tup []) (hOf (hF [(0,.arr 2 (l.map jZ))]) [(0,.arr 2 (l.map jZ))]):=by
 refine gX fun R R' hR hR'=>?_
 have d1:iN [] []:=⟨trivial⟩
 have hD:=XE l h3 hs
 have c1:=XF
 clear hs
 refine aa 14 Tryz.func117 rfl rfl rfl (fun o ho=>by simp [hF,lk,show o≠0 by omega,show o≠1 by omega,show o≠2 by omega,show o≠3 by omega,show o≠4 by omega,show o≠5 by omega]) ?_
 refine wkl ?_
 clear hR; intro hR
 repeat' (intro _)
 refine tQ [(0,0)] [(0,0)] [(0,.arr 2 (l.map jZ))] (.tup []) hD ?_
 clear hD
 obtain ⟨rfl⟩:=hR'
 exact wkl trivial
theorem tX {name:ByteArray} (h1:keyF (seedB name 0) < keyF (seedB name 1)) (h2:keyF (seedB name 1) < keyF (seedB name 2)):mX name=(List.range 3).map fun j=>⟨keyF (seedB name j),1⟩:=by
 unfold mX
 have h3:¬ keyF (seedB name 1) < keyF (seedB name 0):=by omega
 have h4:¬ keyF (seedB name 2) < keyF (seedB name 0):=by omega
 have h5:¬ keyF (seedB name 2) < keyF (seedB name 1):=by omega
 simp [QT,h3,h4,h5,List.range_succ]
theorem Hm (name owner denom:ByteArray) (hn:name.size<=20) (h1:keyF (seedB name 0) < keyF (seedB name 1)) (h2:keyF (seedB name 1) < keyF (seedB name 2)) :
  aN Tryz.prog 62 [.i (.s (.string name)),.i (.s (.string owner)),.i (.s (.string denom))] noH (.pt 1 0 0 0) (hOf noH [(1,.box (nk (aY name owner denom) 2)),(2,.arr 18 [])]):=by
 refine gX fun R R' hR hR'=>?_
 have hv:=tX h1 h2
 have hD:=TV ((List.range 3).map fun j=>(⟨keyF (seedB name j),1⟩:dJ)) (by simp) (fun i hi=>by
  simp at hi
  have:i=0\/i=1:=by omega
  rcases this with rfl | rfl
  ·simpa using h1
  ·simpa using h2)
 unfold aY at hR'
 rw [hv] at hR'
 have hsd:(List.range 3).map (fun j=>seedB name j)=[seedB name 0,seedB name 1,seedB name 2]:=rfl
 rw [<- hsd] at hR'
 clear h1 h2 hv hsd
 refine aa 55 Tryz.func62 rfl rfl rfl (fun _ _=>rfl) ?_
 refine wkl ?_
 clear hR; intro hR
 refine aZ (ι:=Nat) (fun i=>i<=3) (fun i=>ek [(0,.i (.s (.string name))),(7,.pt 100 0 0 0),(18,intD i)]
  [(100,.box [.i (.s (.string name)),.i (.s (.int .i64 1)),.i (.s (.int .i64 1)),.i (.s (.slice none 0 0)),.i (.s (.slice none 0 0)),.i (.s (.slice none 0 0)),.i (.s (.slice none 0 0)),.i (.s (.slice none 0 0)),.i (.s (.slice none 0 0)),.os 103 3 0 1,.os 101 1 0 i,.os 102 2 0 i,.i (.s (.slice none 0 0))]),
   (101,.arr 1 (((List.range i).map (fun j=>seedB name j)).map fun s=>[bI s])),(102,.arr 2 (((List.range i).map fun j=>(⟨keyF (seedB name j),1⟩:dJ)).map jZ)),(103,.arr 3 [[.s (.string owner),.s (.string denom),.s (.int .u64 1000)]])]) (fun i=>3 - i) 0 (Nat.zero_le _) ?_ ?_
 ·exact dP [] [(100,1263),(103,1260)]
 ·rintro i hi RL hL
  rw [au]
  by_cases h:i < 3
  ·have c1:=rH (i:Int) (by omega) (by omega)
   have hl:=Lib.itoa_length_le (i:Int) (by omega) (by omega)
   have hz:(seedB name i).length<=1000:=by
    have hz:name.data.toList.length=name.size:=rfl
    simp only [seedB,List.length_append]; omega
   have c2:=QN (seedB name i) (by omega)
   have hcat:name++⟨(Lib.itoa (i:Int)).toArray⟩=⟨(seedB name i).toArray⟩:=by
    apply ByteArray.ext
    simp [seedB,ByteArray.data_append]
   have q1:∀ P t x y,gz P .add t x y (some (.string name)) (some (.string ⟨(Lib.itoa (i:Int)).toArray⟩))=some (.i (.s (.string ⟨(seedB name i).toArray⟩))):=fun P t x y=>by rw [jb (by simp only [ByteArray.size,List.size_toArray] at hn ⊢; omega),hcat]
   have q2:Ug ⟨(seedB name i).toArray⟩=bI (seedB name i):=rfl
   have m1:((List.range i).map (fun j=>seedB name j)).map (fun s=>[bI s])++[[bI (seedB name i)]]=((List.range (i+1)).map (fun j=>seedB name j)).map fun s=>[bI s]:=by rw [List.range_succ]; simp
   have m2:((List.range i).map fun j=>(⟨keyF (seedB name j),1⟩:dJ)).map jZ++[jZ ⟨keyF (seedB name i),1⟩]=((List.range (i+1)).map fun j=>(⟨keyF (seedB name j),1⟩:dJ)).map jZ:=by rw [List.range_succ]; simp
   have b1:=fun σ'=>bk [] [(100,100),(101,2543),(102,2801),(103,103)] (hL (i+1) σ' h)
   have lr:(List.range i).length=i:=List.length_range
   have a1:i+1<=140737488355328:=by omega
   have a2:(i+1) * 24<=140737488355328:=by omega
   have a3:(i+1) * 16<=140737488355328:=by omega
   simp only [bI,jZ,bO,Int.natCast_one] at m1 m2 c2 q2
   clear hL hD hcat hl
   generalize (Lib.itoa (i:Int))=I at *
   have l1:((List.range i).map (fun j=>seedB name j)).length=i:=by simp
   have l2:((List.range i).map fun j=>(⟨keyF (seedB name j),1⟩:dJ)).length=i:=by simp
   generalize (List.range i).map (fun j=>seedB name j)=SD at *
   generalize ((List.range i).map fun j=>(⟨keyF (seedB name j),1⟩:dJ))=V at *
   generalize (List.range (i+1)).map (fun j=>seedB name j)=SD2 at *
   generalize ((List.range (i+1)).map fun j=>(⟨keyF (seedB name j),1⟩:dJ))=V2 at *
   generalize seedB name i=S at *
   generalize keyF S=K at *
   clear lr
   exact wkl trivial
  ·have h3:i=3:=by omega
   subst h3
   clear hL
   have t1:(((List.range 3).map (fun j=>seedB name j)).map fun s=>[bI s]).take 3=((List.range 3).map (fun j=>seedB name j)).map fun s=>[bI s]:=by rw [List.take_of_length_le (by simp)]
   have g1:((List.range 3).map (fun j=>seedB name j)).length=3:=by simp
   have g2:((List.range 3).map fun j=>(⟨keyF (seedB name j),1⟩:dJ)).length=3:=by simp
   have t2:(((List.range 3).map fun j=>(⟨keyF (seedB name j),1⟩:dJ)).map jZ).take 3=((List.range 3).map fun j=>(⟨keyF (seedB name j),1⟩:dJ)).map jZ:=by rw [List.take_of_length_le (by simp)]
   generalize ((List.range 3).map fun j=>(⟨keyF (seedB name j),1⟩:dJ))=V at *
   generalize ((List.range 3).map (fun j=>seedB name j))=SD at *
   simp only [bI] at t1
   refine wkl ?_
   clear hR; intro hR
   repeat' (intro _)
   refine tQ [(0,102)] [(102,0)] [(102,.arr 2 (V.map jZ))] (.tup []) hD ?_
   clear hD
   have d1:iN [101,102,103] [(1,100)]:=⟨trivial⟩
   obtain ⟨rfl⟩:=hR'
   refine wkl ?_
   clear hR; intro hR
   obtain ⟨rfl⟩:=hR
   refine fin_d d1 rfl ?_ ?_ rfl ?_ rfl
   all_goals (try simp only [go_sem,Nat.reduceLT,Nat.reduceAdd,Nat.reduceMul,reduceIte,Nat.reduceEqDiff,reduceCtorEq,Nat.reducePow,Nat.reduceLeDiff,Int.reduceLE,Int.reduceLT,Int.reduceToNat,Int.reduceEq,Nat.reduceBEq])
   all_goals simp [*]
theorem zU (c:aA) (ok:StOk c.s) (i:Int):PureD Tryz.prog 178 [.rp (MH c) 0,intD i] (.tup [intD (iV c i).1,boolD (iV c i).2]):=by
 refine ak fun R hR=>?_
 have hl:=ok.lcn
 unfold iV at hR
 by_cases h:i < 0\/(c.s.cns.length:Int)<=i
 ·rw [if_pos h] at hR
  clear ok
  refine aa 27 Tryz.func178 rfl rfl rfl (fun _ _=>rfl) ?_
  exact wkl trivial
 ·rw [if_neg h] at hR
  have hi:i.toNat < c.s.cns.length:=by omega
  have s0:=aH (f:=dW) hi
  rw [(dM (s:=c.s) (i:=i) (by omega)).1] at hR
  clear ok
  generalize c.s.cns[i.toNat]=x at *
  refine aa 27 Tryz.func178 rfl rfl rfl (fun _ _=>rfl) ?_
  exact wkl trivial
theorem vN (c:aA) (ok:StOk c.s) (i:Int):PureD Tryz.prog 179 [.rp (MH c) 0,intD i] (.tup [chanD (fQ c i).1,intD (fQ c i).2.1,boolD (fQ c i).2.2]):=by
 refine ak fun R hR=>?_
 have hl:=ok.lch
 unfold fQ at hR
 by_cases h:i < 0\/(c.s.chs.length:Int)<=i
 ·rw [if_pos h] at hR
  clear ok
  refine aa 41 Tryz.func179 rfl rfl rfl (fun _ _=>rfl) ?_
  exact wkl trivial
 ·rw [if_neg h] at hR
  have hi:i.toNat < c.s.chs.length:=by omega
  have s0:=aH (f:=bM) hi
  have c1:=zU c ok (chAt c.s i).cn
  rw [(cO (s:=c.s) (i:=i) (by omega)).1] at hR c1
  clear ok
  generalize c.s.chs[i.toNat]=x at *
  generalize iV c x.cn=Y at *
  refine aa 41 Tryz.func179 rfl rfl rfl (fun _ _=>rfl) ?_
  exact wkl trivial
theorem Wt {c:aA} (ok:StOk c.s) (i:Int):iG (fQ c i).1.oc:=by
 unfold fQ iG
 split
 ·simp
 ·rename_i h
  have:=(ok.chs _ (cO (s:=c.s) (i:=i) (by omega)).2).oc
  unfold N12 at this
  simp only; omega
structure OE (m:MsgD):Prop where
 oend:iG m.oend
 fr:iG m.pk.fr
 de:iG m.pk.de
 seq:iG m.pk.seq
def aaA (c:aA) (m:MsgD):List (Nat × Ob):=[(0,.box (nk c 1)),(1,.arr 18 (c.past.map bG)),(2,.box ((encMsg m).map .i))]
attribute [simp,go_sem] aaA
theorem WG (c:aA) (ok:StOk c.s) (m:MsgD) (hm:OE m):aN Tryz.prog 123 [.pt 0 0 0 0,.pt 2 0 0 0] (hF (aaA c m)) (.tup [intD (iM c m).1,.i (bI (iM c m).2.1),boolD (iM c m).2.2.1,boolD (iM c m).2.2.2]) (hOf (hF (aaA c m)) (aaA c m)):=by
 refine gX fun R R' hR hR'=>?_
 have d1:iN [] []:=⟨trivial⟩
 obtain ⟨rfl⟩:=hR'
 unfold iM at hR
 by_cases k5:m.kind=5
 ·rw [if_pos k5] at hR
  have c1:=BA m.oend hm.oend
  generalize keyC m.oend=K at *
  clear ok hm
  refine aa 197 Tryz.func123 rfl rfl rfl (fun o ho=>by simp [hF,lk,show o≠0 by omega,show o≠1 by omega,show o≠2 by omega,show o≠3 by omega,show o≠4 by omega,show o≠5 by omega]) ?_
  exact wkl trivial
 ·rw [if_neg k5] at hR
  by_cases k6:m.kind=6
  ·rw [if_pos k6] at hR
   have c1:=BA m.oend hm.oend
   have c2:=zU c ok m.ed
   generalize keyC m.oend=K at *
   generalize iV c m.ed=Y at *
   clear ok hm
   refine aa 197 Tryz.func123 rfl rfl rfl (fun o ho=>by simp [hF,lk,show o≠0 by omega,show o≠1 by omega,show o≠2 by omega,show o≠3 by omega,show o≠4 by omega,show o≠5 by omega]) ?_
   exact wkl trivial
  ·rw [if_neg k6] at hR
   by_cases k7:m.kind=7
   ·rw [if_pos k7] at hR
    have c1:=zU c ok m.ed
    have hl:=ok.lcn
    by_cases h:m.ed < 0\/(c.s.cns.length:Int)<=m.ed
    ·have e:iV c m.ed=(0,false):=by unfold iV; rw [if_pos h]
     rw [e] at hR c1
     simp only [Bool.false_eq_true,if_false] at hR c1
     clear ok hm e
     refine aa 197 Tryz.func123 rfl rfl rfl (fun o ho=>by simp [hF,lk,show o≠0 by omega,show o≠1 by omega,show o≠2 by omega,show o≠3 by omega,show o≠4 by omega,show o≠5 by omega]) ?_
     exact wkl trivial
    ·have e:iV c m.ed=((cnAt c.s m.ed).cl,true):=by unfold iV; rw [if_neg h]
     have hi:m.ed.toNat < c.s.cns.length:=by omega
     have s0:=aH (f:=dW) hi
     have hon:=(ok.cns _ (dM (s:=c.s) (i:=m.ed) (by omega)).2).on
     have c2:=BA (cnAt c.s m.ed).on (by unfold N12 at hon; unfold iG; omega)
     rw [e] at hR c1
     simp only [if_true] at hR c1
     rw [(dM (s:=c.s) (i:=m.ed) (by omega)).1] at hR c1 c2
     clear ok hm e hon
     generalize c.s.cns[m.ed.toNat]=x at *
     generalize keyC x.on=K at *
     refine aa 197 Tryz.func123 rfl rfl rfl (fun o ho=>by simp [hF,lk,show o≠0 by omega,show o≠1 by omega,show o≠2 by omega,show o≠3 by omega,show o≠4 by omega,show o≠5 by omega]) ?_
     exact wkl trivial
   ·rw [if_neg k7] at hR
    by_cases k9:m.kind=9
    ·rw [if_pos k9] at hR
     have c1:=Bn m.oend hm.oend
     have c2:=zU c ok m.ed
     generalize keyH m.oend=K at *
     generalize iV c m.ed=Y at *
     clear ok hm
     refine aa 197 Tryz.func123 rfl rfl rfl (fun o ho=>by simp [hF,lk,show o≠0 by omega,show o≠1 by omega,show o≠2 by omega,show o≠3 by omega,show o≠4 by omega,show o≠5 by omega]) ?_
     exact wkl trivial
    ·rw [if_neg k9] at hR
     by_cases k10:m.kind=10
     ·rw [if_pos k10] at hR
      have c1:=Bn m.oend hm.oend
      have c2:=vN c ok m.ed
      generalize keyH m.oend=K at *
      generalize fQ c m.ed=Y at *
      clear ok hm
      refine aa 197 Tryz.func123 rfl rfl rfl (fun o ho=>by simp [hF,lk,show o≠0 by omega,show o≠1 by omega,show o≠2 by omega,show o≠3 by omega,show o≠4 by omega,show o≠5 by omega]) ?_
      exact wkl trivial
     ·rw [if_neg k10] at hR
      by_cases k11:m.kind=11\/m.kind=13
      ·rw [if_pos k11] at hR
       have c1:=Bn (fQ c m.ed).1.oc (Wt ok m.ed)
       have c2:=vN c ok m.ed
       generalize keyH (fQ c m.ed).1.oc=K at *
       generalize fQ c m.ed=Y at *
       clear ok hm
       rcases k11 with k11 | k11
       all_goals
        refine aa 197 Tryz.func123 rfl rfl rfl (fun o ho=>by simp [hF,lk,show o≠0 by omega,show o≠1 by omega,show o≠2 by omega,show o≠3 by omega,show o≠4 by omega,show o≠5 by omega]) ?_
        exact wkl trivial
      ·rw [if_neg k11] at hR
       have k11a:¬ m.kind=11:=fun e=>k11 (.inl e)
       have k11b:¬ m.kind=13:=fun e=>k11 (.inr e)
       clear k11
       by_cases k15:m.kind=15
       ·rw [if_pos k15] at hR
        have c1:=oU ol m.pk.fr m.pk.seq (by decide) hm.fr hm.seq
        have c2:=vN c ok m.pk.de
        generalize keyM ol m.pk.fr m.pk.seq=K at *
        generalize fQ c m.pk.de=Y at *
        simp only [ol,Ic,Ib] at *
        clear ok hm
        refine aa 197 Tryz.func123 rfl rfl rfl (fun o ho=>by simp [hF,lk,show o≠0 by omega,show o≠1 by omega,show o≠2 by omega,show o≠3 by omega,show o≠4 by omega,show o≠5 by omega]) ?_
        exact wkl trivial
       ·rw [if_neg k15] at hR
        by_cases k16:m.kind=16
        ·rw [if_pos k16] at hR
         have c1:=oU Ic m.pk.de m.pk.seq (by decide) hm.de hm.seq
         have c2:=vN c ok m.pk.fr
         generalize keyM Ic m.pk.de m.pk.seq=K at *
         generalize fQ c m.pk.fr=Y at *
         simp only [ol,Ic,Ib] at *
         clear ok hm
         refine aa 197 Tryz.func123 rfl rfl rfl (fun o ho=>by simp [hF,lk,show o≠0 by omega,show o≠1 by omega,show o≠2 by omega,show o≠3 by omega,show o≠4 by omega,show o≠5 by omega]) ?_
         exact wkl trivial
        ·rw [if_neg k16] at hR
         by_cases k17:m.kind=17
         ·rw [if_pos k17] at hR
          have c1:=oU Ib m.pk.de m.pk.seq (by decide) hm.de hm.seq
          have c2:=Lg m.pk.de hm.de
          have c3:=vN c ok m.pk.fr
          generalize keyM Ib m.pk.de m.pk.seq=K at *
          generalize keyN m.pk.de=K2 at *
          generalize fQ c m.pk.fr=Y at *
          simp only [ol,Ic,Ib] at *
          clear ok hm
          cases ho:Y.1.ord
          ·simp only [ho,Bool.false_eq_true,if_false] at hR
           refine aa 197 Tryz.func123 rfl rfl rfl (fun o ho=>by simp [hF,lk,show o≠0 by omega,show o≠1 by omega,show o≠2 by omega,show o≠3 by omega,show o≠4 by omega,show o≠5 by omega]) ?_
           exact wkl trivial
          ·simp only [ho,if_true] at hR
           refine aa 197 Tryz.func123 rfl rfl rfl (fun o ho=>by simp [hF,lk,show o≠0 by omega,show o≠1 by omega,show o≠2 by omega,show o≠3 by omega,show o≠4 by omega,show o≠5 by omega]) ?_
           exact wkl trivial
         ·rw [if_neg k17] at hR
          clear ok hm
          refine aa 197 Tryz.func123 rfl rfl rfl (fun o ho=>by simp [hF,lk,show o≠0 by omega,show o≠1 by omega,show o≠2 by omega,show o≠3 by omega,show o≠4 by omega,show o≠5 by omega]) ?_
          exact wkl trivial
end Go.Proofs.YtfenipelcpmkpaaGreatDoor
