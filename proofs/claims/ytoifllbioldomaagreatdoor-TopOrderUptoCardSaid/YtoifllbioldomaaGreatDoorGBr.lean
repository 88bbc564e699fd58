/- Merged texts: BrP, BrX, SrtV, BrE, BrA. -/
import Derived.Test.YtoifllbioldomaaGreatDoorGAp
import Derived.Test.YtoifllbioldomaaGreatDoorGSo
set_option linter.all false
set_option maxHeartbeats 16000000
set_option maxRecDepth 20000
namespace Go.Proofs.YtoifllbioldomaaGreatDoor
open Go Go.Abs
structure EndD where
 sg:gu
 st:StateD
structure av where
 s:StateD
 seeds:List (List UInt8)
 vals:List bW
 past:List EndD
structure EvD where
 kind:Int
 side:Int
 later:Int
 trust:Int
 cl:Int
 m:MsgD
def bC (e:EndD):List I:=[.s (.string e.sg.hdr.c),.s (.int .i64 e.sg.hdr.h),.s (.int .i64 e.sg.hdr.t),bI e.sg.hdr.root,bI e.sg.hdr.vals,bI e.sg.hdr.next,valsI e.sg.vals,votesI e.sg.votes,
 .s (.string e.st.name),.s (.int .i64 e.st.h),.s (.int .i64 e.st.t),.sl (e.st.cls.map gJ),.sl (e.st.cns.map dN),.sl (e.st.chs.map bA),.sl (e.st.sent.map bB),.sl (e.st.got.map bB),.sl (e.st.acks.map bB),.sl (e.st.pus.map aZ)]
def Pf (c:av):List I:=[.s (.string c.s.name),.s (.int .i64 c.s.h),.s (.int .i64 c.s.t),.sl (c.s.cls.map gJ),.sl (c.s.cns.map dN),.sl (c.s.chs.map bA),.sl (c.s.sent.map bB),.sl (c.s.got.map bB),.sl (c.s.acks.map bB),.sl (c.s.pus.map aZ),
 bbI c.seeds,valsI c.vals,.sl (c.past.map bC)]
def oW (c:av)(o:Nat):List D:=[.i (.s (.string c.s.name)),.i (.s (.int .i64 c.s.h)),.i (.s (.int .i64 c.s.t)),.i (.sl (c.s.cls.map gJ)),.i (.sl (c.s.cns.map dN)),.i (.sl (c.s.chs.map bA)),.i (.sl (c.s.sent.map bB)),.i (.sl (c.s.got.map bB)),.i (.sl (c.s.acks.map bB)),.i (.sl (c.s.pus.map aZ)),
 .i (bbI c.seeds),.i (valsI c.vals),.os o 18 0 c.past.length]
attribute [simp,go_sem] bC Pf oW
def fG (s:StateD):List UInt8×Int:=if(dW s).2=0 then(JX (dW s).1,((dQ (dW s).1).1:Nat))else([],(dW s).2)
def Ag (c:av):mX:=⟨c.s.name,c.s.h,c.s.t,(fG c.s).1,bF c.vals,bF c.vals⟩
def aR (c:av)(later:Int):av×jm :=
 if(kZ c.s later).2=0 then
  (if(fG c.s).2=0 then
   (if(lD (Ag c) c.vals c.seeds).2=0 then({c with s:=(kZ c.s later).1,past:=c.past++[⟨(lD (Ag c) c.vals c.seeds).1,c.s⟩]},⟨0,((c.past.length+1:Nat):Int),zeroPk⟩)
   else(c,dE (lD (Ag c) c.vals c.seeds).2))
  else(c,dE (fG c.s).2))
 else(c,dE (kZ c.s later).2)
def mU (c:av)(m:MsgD):av×jm:=(if(doS c.s m).2.err=0 then{c with s:=(doS c.s m).1}else c,(doS c.s m).2)
def aeY:EndD:=⟨⟨⟨⟨#[]⟩,0,0,[],[],[]⟩,[],[]⟩,zeroSt⟩
def lastB (o:av):EndD:=o.past.getLastD aeY
def cliMsg (o:av)(trust:Int):MsgD:={zeroMsg with kind:=1,chain:=(lastB o).sg.hdr.c,trust:=trust,kn:=ofH (lastB o).sg.hdr}
def cu (c o:av)(trust:Int):av×jm:=if o.past.length=0 then(c,dE 6)else mU c (cliMsg o trust)
def folMsg (c o:av)(i:Int):MsgD:={zeroMsg with kind:=2,cl:=i,up:=⟨(kE (iL c.s i)).h,(lastB o).sg,o.vals⟩}
def b_ (c o:av)(i:Int):av×jm:=if o.past.length=0\/i<0\/(c.s.cls.length:Int)<=i then(c,dE 6)else mU c (folMsg c o i)
def iQ (c:av)(i:Int):Int×Bool:=if i<0\/(c.s.cns.length:Int)<=i then(0,false)else((cnAt c.s i).cl,true)
def eZ (c:av)(i:Int):ChanD×Int×Bool:=if i<0\/(c.s.chs.length:Int)<=i then(zeroCh,0,false)else(chAt c.s i,iQ c (chAt c.s i).cn)
def gm (c:av)(m:MsgD):Int×List UInt8×Bool×Bool :=
 if m.kind=5 then(m.cl,keyC m.oend,false,true)
 else if m.kind=6 then((iQ c m.ed).1,keyC m.oend,false,(iQ c m.ed).2)
 else if m.kind=7 then((iQ c m.ed).1,if(iQ c m.ed).2=true then keyC (cnAt c.s m.ed).on else[],false,(iQ c m.ed).2)
 else if m.kind=9 then((iQ c m.ed).1,keyH m.oend,false,(iQ c m.ed).2)
 else if m.kind=10 then((eZ c m.ed).2.1,keyH m.oend,false,(eZ c m.ed).2.2)
 else if m.kind=11\/m.kind=13 then((eZ c m.ed).2.1,keyH (eZ c m.ed).1.oc,false,(eZ c m.ed).2.2)
 else if m.kind=15 then((eZ c m.pk.de).2.1,keyM mQ m.pk.fr m.pk.seq,false,(eZ c m.pk.de).2.2)
 else if m.kind=16 then((eZ c m.pk.fr).2.1,keyM Bf m.pk.de m.pk.seq,false,(eZ c m.pk.fr).2.2)
 else if m.kind=17 then(if(eZ c m.pk.fr).1.ord=true then((eZ c m.pk.fr).2.1,keyN m.pk.de,false,(eZ c m.pk.fr).2.2)else((eZ c m.pk.fr).2.1,keyM xC m.pk.de m.pk.seq,true,(eZ c m.pk.fr).2.2))
 else(0,[],false,false)
def atB (o:av)(h:Int):Option EndD:=o.past.find? λe=>decide (e.sg.hdr.h=h)
def NH (m:MsgD)(s:StateD):Int:=if m.kind=17/\0<=m.pk.de/\m.pk.de<(s.chs.length:Int)then(chAt s m.pk.de).rcv else m.next
def tO (c o:av)(m:MsgD):MsgD :=
 if(gm c m).2.2.2=false\/(gm c m).1<0\/(c.s.cls.length:Int)<=(gm c m).1 then m
 else match atB o (kE (iL c.s (gm c m).1)).h with
  |none=>m
  |some e =>
   if(gm c m).2.2.1=true then{m with sh:={zSh with h:=(kE (iL c.s (gm c m).1)).h,g:=(Rp (dW e.st).1 (gm c m).2.1).1}}
   else{m with sh:={zSh with h:=(kE (iL c.s (gm c m).1)).h,p:=(kD (dW e.st).1 (gm c m).2.1).1},next:=NH m e.st}
def showB (c o:av)(m:MsgD):MsgD:=tO c o {m with sh:=zSh}
def oneB (c o:av)(e:EvD):av×jm :=
 if e.kind=1 then aR c e.later else if e.kind=2 then cu c o e.trust else if e.kind=3 then b_ c o e.cl
 else if e.kind=4 then mU c e.m else if e.kind=5 then mU c (showB c o e.m)else(c,dE 1)
abbrev jw:=av×av
def fK (w:jw)(e:EvD):jw×jm :=
 if e.side=0 then(((oneB w.1 w.2 e).1,w.2),(oneB w.1 w.2 e).2)
 else if e.side=1 then((w.1,(oneB w.2 w.1 e).1),(oneB w.2 w.1 e).2)
 else(w,dE 1)
def fV:jw->List EvD->jw×List jm
 |w,[]=>(w,[])
 |w,e::t=>((fV (fK w e).1 t).1,(fK w e).2::(fV (fK w e).1 t).2)
theorem qH (e:EvD):∀(l:List EvD)(w:jw),fV w (l++[e])=((fK (fV w l).1 e).1,(fV w l).2++[(fK (fV w l).1 e).2])
 |[],w=>rfl
 |a::t,w=>by simp only[List.cons_append,fV];rw[qH e t]
theorem jS (l2:List EvD):∀(l:List EvD)(w:jw),fV w (l++l2)=((fV (fV w l).1 l2).1,(fV w l).2++(fV (fV w l).1 l2).2)
 |[],w=>rfl
 |a::t,w=>by simp only[List.cons_append,fV];rw[jS l2 t]
theorem oz:∀(l:List EvD)(w:jw),(fV w l).2.length=l.length
 |[],_=>rfl
 |a::t,w=>by simp only[fV,List.length_cons];rw[oz t]
def TK (v:bW):List bW->List bW
 |[]=>[v]
 |a::t=>if v.k<a.k then v::a::t else a::TK v t
def seedB (name:ByteArray)(i:Nat):List UInt8:=name.data.toList++Lib.itoa (i:Nat)
def pQ (name:ByteArray):List bW:=TK ⟨keyF (seedB name 2),1⟩ (TK ⟨keyF (seedB name 1),1⟩ [⟨keyF (seedB name 0),1⟩])
def bQ (name owner denom:ByteArray):av:=⟨⟨name,1,1,[],[],[],[],[],[],[⟨owner,denom,1000⟩]⟩,[seedB name 0,seedB name 1,seedB name 2],pQ name,[]⟩
end Go.Proofs.YtoifllbioldomaaGreatDoor
namespace Go.Abs
open Go Go.RowKit
def DN:List (Nat×Ob)->(Nat->Ob)->Nat->Ob
 |[],H=>H
 |(j,x)::t,H=>upd (DN t H) j x
attribute [simp,go_sem] DN
theorem Lr (H:Nat->Ob)(a:Nat):∀l:List (Nat×Ob),DN l H a=(fnd l a).getD (H a)
 |[]=>rfl
 |(j,x)::t=>by
  simp only[DN,fnd];by_cases h:a=j
  ·subst h;simp[upd]
  ·rw[upd_ne _ _ h,if_neg h];exact Lr H a t
theorem fnd_some {α:Type}{l:List (Nat×α)}{k:Nat}{x:α}(h:fnd l k=some x):(k,x)∈l:=EH h
theorem Aj {α:Type}{k:Nat}:∀{l:List (Nat×α)},fnd l k=none->∀p∈l,p.1≠k
 |[],_,p,hp=>by cases hp
 |(j,x)::t,h,p,hp=>by
  simp only[fnd]at h;split at h
  ·cases h
  ·rename_i hne;rcases List.mem_cons.1 hp with rfl|hp
   ·exact λe=>hne e.symm
   ·exact Aj h p hp
section
variable {P:Program}{H:Nat->Ob}{f:FuncId}{ds gs:List D}{r r':D}{objs objs' new:List (Nat×Ob)}
theorem Jg (ρ ρ':List (Nat×Nat))(hL:aI P f ds (hF objs) r (hOf (hF objs) objs'))(hgs:cvs H [] (fnd ρ) gs ds)
  (ho:∀p∈objs,∃o,fnd ρ p.1=some o/\cvO H [] (fnd ρ) (H o) p.2) (hk:(ρ.all λq=>objs.any λp=>p.1==q.1)=true)
  (hinj:(ρ.all λp=>ρ.all λq=>p.2 != q.2||p.1==q.1)=true)
  (hn:∀p∈new,∃l,fnd ρ' p.1=some l/\cvO (hOf (hF objs) objs') [] (fnd ρ') (hOf (hF objs) objs' l) p.2) (hk':(ρ'.all λq=>new.any λp=>p.1==q.1)=true)
  (hinj':(ρ'.all λp=>ρ'.all λq=>p.2 != q.2||p.1==q.1)=true) (hr':cv (hOf (hF objs) objs') [] (fnd ρ') r r')
  (hback:(ρ.all λp=>fnd ρ' p.2==some p.1)=true) (hnew:∀q∈ρ',fnd ρ q.2=some q.1\/H q.1=.fresh):aI P f gs H r' (DN new H):=by
 have hfl:∀a,hF objs a=(fnd objs a).getD .fresh:=λa=>by show lk objs .fresh a=_;rw[Wu]
 have h:=dw (H:=H) (gs:=gs) (L2:=λa=>(fnd new a).getD .dead) (r':=r') [] (fnd ρ) (fnd ρ') hL hgs
  (λa=>by
   cases e:fnd ρ a with
   |none =>
    cases e2:fnd objs a with
    |none=>left;exact⟨by rw[hfl,e2];rfl,rfl⟩
    |some x =>obtain⟨o,h1,_⟩:=ho _ (fnd_some e2);rw[e]at h1;cases h1
   |some o =>
    right;right;right;refine⟨o,rfl,?_⟩;rw[ll];cases e2:fnd objs a with
    |none =>have:=List.all_eq_true.1 hk _ (fnd_some e);obtain⟨p,hp,hpe⟩:=List.any_eq_true.1 this;exact absurd (by simpa using hpe) (Aj e2 p hp)
    |some x =>obtain⟨o2,h1,h2⟩:=ho _ (fnd_some e2);rw[e]at h1;cases h1;rw[hfl,e2];exact h2)
  (λa b d _ _ h3 h4=>by have:=List.all_eq_true.1 (List.all_eq_true.1 hinj _ (fnd_some h3)) _ (fnd_some h4);simpa using this)
  (λa=>by
   cases e:fnd new a with
   |none=>right;left;rfl
   |some x =>right;right;right;obtain⟨l,h1,h2⟩:=hn _ (fnd_some e);exact⟨l,h1,by rw[ll];exact h2⟩)
  (λa b d _ _ h3 h4=>by have:=List.all_eq_true.1 (List.all_eq_true.1 hinj' _ (fnd_some h3)) _ (fnd_some h4);simpa using this)
  hr'
  (λl g hg=>by have:=List.all_eq_true.1 hback _ (fnd_some hg);simpa using this)
  (λg l hg=>by
   rcases hnew _ (fnd_some hg)with h|h
   ·exact .inl h
   ·exact .inr ⟨h,by simp⟩)
 have e:(λa=>if(fnd ρ' a).isSome then(fnd new a).getD .dead else frz [] H a)=DN new H:=by
  funext a;rw[Lr,ll];cases e:fnd ρ' a with
  |none =>
   cases e2:fnd new a with
   |none=>rfl
   |some x =>obtain⟨l,h1,_⟩:=hn _ (fnd_some e2);rw[e]at h1;cases h1
  |some l =>
   cases e2:fnd new a with
   |none =>have:=List.all_eq_true.1 hk' _ (fnd_some e);obtain⟨p,hp,hpe⟩:=List.any_eq_true.1 this;exact absurd (by simpa using hpe) (Aj e2 p hp)
   |some x=>rfl
 rw[e]at h;exact h
variable {n:Nat}{σ:St}{ks:List Fr}{Q:Ex->St->Prop}{rid:Nat}{rest:List It}{dst:Option Nat}
attribute [local simp] fnd
theorem vE (ρ ρ':List (Nat×Nat))(new:List (Nat×Ob))(r':D)(hL:aI P f ds (hF objs) r (hOf (hF objs) objs'))(h:Ro P n rid rest (St.put ⟨σ.sl,DN new σ.H⟩ dst r') ks Q)
  (hgs:cvs σ.H [] (fnd ρ) gs ds:=by simp[and_assoc,cvs,fnd]) (ho:∀p∈objs,∃o,fnd ρ p.1=some o/\cvO σ.H [] (fnd ρ) (σ.H o) p.2:=by simp[fnd,and_assoc,hF,lk]) (hk:(ρ.all λq=>objs.any λp=>p.1==q.1)=true:=by rfl)
  (hinj:(ρ.all λp=>ρ.all λq=>p.2 != q.2||p.1==q.1)=true:=by rfl)
  (hn:∀p∈new,∃l,fnd ρ' p.1=some l/\cvO (hOf (hF objs) objs') [] (fnd ρ') (hOf (hF objs) objs' l) p.2:=by simp[fnd,and_assoc,hF,hOf,lk]) (hk':(ρ'.all λq=>new.any λp=>p.1==q.1)=true:=by rfl)
  (hinj':(ρ'.all λp=>ρ'.all λq=>p.2 != q.2||p.1==q.1)=true:=by rfl) (hr':cv (hOf (hF objs) objs') [] (fnd ρ') r r':=by simp)
  (hback:(ρ.all λp=>fnd ρ' p.2==some p.1)=true:=by simp[fnd]) (hnew:∀q∈ρ',fnd ρ q.2=some q.1\/σ.H q.1=.fresh:=by simp[fnd,hF,lk,noH]):Call P n rid f gs dst rest σ ks Q :=
 ⟨_,_,.inl (Jg ρ ρ' hL hgs ho hk hinj hn hk' hinj' hr' hback hnew),h⟩
end
end Go.Abs
namespace Go.Proofs.YtoifllbioldomaaGreatDoor
open Go Go.Abs Go.RowKit Go.Proofs.YtoifllbioldomaaGreatDoor.Ty
def aaC (a b:Nat):Int:=if(a:Int)<b then -1 else if(b:Int)<a then 1 else 0
theorem Vo (a:Nat):PureD Tryz.prog 84 [.i (.s (.int .u64 (a:Int)))] (boolD false):=by refine af λR hR=>?_;refine aa 6 Tryz.func84 ?_;exact wkl trivial
theorem XT (a b:Nat):PureD Tryz.prog 45 [.i (.s (.int .u64 (a:Int))),.i (.s (.int .u64 (b:Int)))] (intD (aaC a b)):=by refine af λR hR=>?_;have c1:=Vo a;have c2:=Vo b;unfold aaC at hR;refine aa 20 Tryz.func45 ?_;exact wkl trivial
theorem XR (u v:bW):PureD Tryz.prog 44 [.agg [.i (.s (.int .u64 u.k)),.i (.s (.int .u64 u.p))],.agg [.i (.s (.int .u64 v.k)),.i (.s (.int .u64 v.p))]] (intD (aaC u.k v.k)):=by refine af λR hR=>?_;have c1:=XT u.k v.k;generalize aaC u.k v.k=C at*;refine aa 10 Tryz.func44 ?_;exact wkl trivial
theorem aaK (l:List bW)(h3:l.length=3)(hs:∀i (h:i+1<l.length),l[i].k<l[i+1].k):
  aI Tryz.prog 136 [.os 0 2 0 3,intD 0,intD 3,.fn 44 []] (hF [(0,.arr 2 (l.map eQ))]) (.tup []) (hOf (hF [(0,.arr 2 (l.map eQ))]) [(0,.arr 2 (l.map eQ))]):=by
 refine il λR R' hR hR'=>?_;have d1:jl [] []:=⟨trivial⟩
 refine aK 53 Tryz.func136 rfl rfl rfl (λo ho=>by simp[hF,lk,show o≠0 by omega,show o≠1 by omega,show o≠2 by omega,show o≠3 by omega,show o≠4 by omega,show o≠5 by omega]) ?_;refine wkl ?_;clear hR;intro hR;refine aF (ι:=Nat) (λi=>1<=i/\i<=3) (λi=>cO [(0,.os 0 2 0 3),(1,intD 0),(2,intD 3),(3,.fn 44 []),(8,intD i)] [(0,.arr 2 (l.map eQ))]) (λi=>3-i) 1 ⟨Nat.le_refl _,by decide⟩ ?_ ?_
 ·exact bO [] []
 ·rintro i ⟨hi1,hi3⟩ RL hL;rw[ae];by_cases h:i<3
  ·obtain⟨j,rfl⟩:∃j,i=j+1:=⟨i-1,by omega⟩
   have hj:j+1<l.length:=by omega
   have s0:=ay (f:=eQ) hj;have s1:=ay (f:=eQ) (l:=l) (i:=j) (by omega);have w1:IntKind.i64.wrap (((j+1:Nat):Int)-1)=(j:Int):=by rw[ai (by omega) (by omega)];omega
   have w2:IntKind.i64.wrap (((j+1:Nat):Int)+1)=((j+2:Nat):Int):=by rw[ai (by omega) (by omega)];omega
   have hk:=hs j hj;have b1:=λσ'=>bk [] [] (hL (j+2) σ' ⟨by omega,by omega⟩);have c1:=XR l[j+1] l[j];have hc:aaC l[j+1].k l[j].k=1:=by unfold aaC;rw[if_neg (by omega),if_pos (by omega)]
   rw[hc]at c1;have g1:(0:Int)<((j+1:Nat):Int):=by omega
   have n0:(((j+1:Nat):Int)).toNat=j+1:=by omega
   clear hL hs hc hk;generalize hu:l[j+1]=u at*;generalize hv:l[j]=v at*;simp only[eQ]at s0 s1;refine wkl ?_;clear hR;intro hR;refine aF (ι:=Unit) (λ_=>True) (λ_=>cO [(0,.os 0 2 0 3),(1,intD 0),(2,intD 3),(3,.fn 44 []),(8,intD ((j+1:Nat):Int)),(9,intD ((j+1:Nat):Int))] [(0,.arr 2 (l.map eQ))]) (λ_=>0) () trivial ?_ ?_
   ·exact bO [] []
   ·rintro _ _ RL2 hL2;rw[ae];clear hL2;exact wkl trivial
  ·have hi:i=3:=by omega
   subst hi;clear hL hs;obtain⟨rfl⟩:=hR';exact wkl trivial
theorem aaI (l:List bW)(h3:l.length=3)(hs:∀i (h:i+1<l.length),l[i].k<l[i+1].k):
  aI Tryz.prog 82 [.os 0 2 0 3,intD 0,intD 3,intD 2,.fn 44 []] (hF [(0,.arr 2 (l.map eQ))]) (.tup []) (hOf (hF [(0,.arr 2 (l.map eQ))]) [(0,.arr 2 (l.map eQ))]):=by
 refine il λR R' hR hR'=>?_;have d1:jl [] []:=⟨trivial⟩
 have hD:=aaK l h3 hs;clear hs;refine aK 148 Tryz.func82 rfl rfl rfl (λo ho=>by simp[hF,lk,show o≠0 by omega,show o≠1 by omega,show o≠2 by omega,show o≠3 by omega,show o≠4 by omega,show o≠5 by omega]) ?_;refine wkl ?_;clear hR;intro hR;refine aF (ι:=Unit) (λ_=>True) (λ_=>cO [(0,.os 0 2 0 3),(1,intD 0),(2,intD 3),(3,intD 2),(4,.fn 44 [])] [(0,.arr 2 (l.map eQ))]) (λ_=>0) () trivial ?_ ?_
 ·exact bO [] []
 ·rintro _ _ RL hL;rw[ae];clear hL;refine wkl ?_;clear hR;intro hR
  repeat' (intro _)
  refine vE [(0,0)] [(0,0)] [(0,.arr 2 (l.map eQ))] (.tup []) hD ?_;clear hD;obtain⟨rfl⟩:=hR';exact wkl trivial
theorem aaJ:PureD Tryz.prog 83 [.i (.s (.int .u64 3))] (intD 2):=by refine af λR hR=>?_;have c1:=NT 3 (by decide) (by decide);rw[show Nat.log2 3+1=2 by decide]at c1;refine aa 8 Tryz.func83 ?_;exact wkl trivial
theorem XQ (l:List bW)(h3:l.length=3)(hs:∀i (h:i+1<l.length),l[i].k<l[i+1].k):
  aI Tryz.prog 43 [.os 0 2 0 3,.fn 44 []] (hF [(0,.arr 2 (l.map eQ))]) (.tup []) (hOf (hF [(0,.arr 2 (l.map eQ))]) [(0,.arr 2 (l.map eQ))]):=by
 refine il λR R' hR hR'=>?_;have d1:jl [] []:=⟨trivial⟩
 have hD:=aaI l h3 hs;have c1:=aaJ;clear hs;refine aK 14 Tryz.func43 rfl rfl rfl (λo ho=>by simp[hF,lk,show o≠0 by omega,show o≠1 by omega,show o≠2 by omega,show o≠3 by omega,show o≠4 by omega,show o≠5 by omega]) ?_;refine wkl ?_;clear hR;intro hR
 repeat' (intro _)
 refine vE [(0,0)] [(0,0)] [(0,.arr 2 (l.map eQ))] (.tup []) hD ?_;clear hD;obtain⟨rfl⟩:=hR';exact wkl trivial
theorem Bh {name:ByteArray}(h1:keyF (seedB name 0)<keyF (seedB name 1))(h2:keyF (seedB name 1)<keyF (seedB name 2)):pQ name=(List.range 3).map λj=>⟨keyF (seedB name j),1⟩:=by
 unfold pQ;have h3:¬keyF (seedB name 1)<keyF (seedB name 0):=by omega
 have h4:¬keyF (seedB name 2)<keyF (seedB name 0):=by omega
 have h5:¬keyF (seedB name 2)<keyF (seedB name 1):=by omega
 simp[TK,h3,h4,h5,List.range_succ]
theorem Jp (name owner denom:ByteArray)(hn:name.size<=20)(h1:keyF (seedB name 0)<keyF (seedB name 1))(h2:keyF (seedB name 1)<keyF (seedB name 2)):
  aI Tryz.prog 20 [.i (.s (.string name)),.i (.s (.string owner)),.i (.s (.string denom))] noH (.pt 1 0 0 0) (hOf noH [(1,.box (oW (bQ name owner denom) 2)),(2,.arr 18 [])]):=by
 refine il λR R' hR hR'=>?_;have hv:=Bh h1 h2;have hD:=XQ ((List.range 3).map λj=>(⟨keyF (seedB name j),1⟩:bW)) (by simp) (λi hi=>by
  simp at hi;have:i=0\/i=1:=by omega
  rcases this with rfl|rfl
  ·simpa using h1
  ·simpa using h2)
 unfold bQ at hR';rw[hv]at hR';have hsd:(List.range 3).map (λj=>seedB name j)=[seedB name 0,seedB name 1,seedB name 2]:=rfl;rw[<- hsd]at hR';clear h1 h2 hv hsd;refine aa 55 Tryz.func20 ?_;refine wkl ?_;clear hR;intro hR;refine aF (ι:=Nat) (λi=>i<=3) (λi=>cO [(0,.i (.s (.string name))),(7,.pt 100 0 0 0),(18,intD i)]
  [(100,.box [.i (.s (.string name)),.i (.s (.int .i64 1)),.i (.s (.int .i64 1)),.i (.s (.slice none 0 0)),.i (.s (.slice none 0 0)),.i (.s (.slice none 0 0)),.i (.s (.slice none 0 0)),.i (.s (.slice none 0 0)),.i (.s (.slice none 0 0)),.os 103 3 0 1,.os 101 1 0 i,.os 102 2 0 i,.i (.s (.slice none 0 0))]),
   (101,.arr 1 (((List.range i).map (λj=>seedB name j)).map λs=>[bI s])),(102,.arr 2 (((List.range i).map λj=>(⟨keyF (seedB name j),1⟩:bW)).map eQ)),(103,.arr 3 [[.s (.string owner),.s (.string denom),.s (.int .u64 1000)]])]) (λi=>3-i) 0 (Nat.zero_le _) ?_ ?_
 ·exact bO [] [(100,1263),(103,1260)]
 ·rintro i hi RL hL;rw[ae];by_cases h:i<3
  ·have c1:=t_ (i:Int) (by omega) (by omega);have hl:=Lib.itoa_length_le (i:Int) (by omega) (by omega);have hz:(seedB name i).length<=1000:=by
    have hz:name.data.toList.length=name.size:=rfl;simp only[seedB,List.length_append];omega
   have c2:=Zf (seedB name i) (by omega);have hcat:name++⟨(Lib.itoa (i:Int)).toArray⟩=⟨(seedB name i).toArray⟩:=by apply ByteArray.ext;simp[seedB,ByteArray.data_append]
   have q1:∀P t x y,fZ P .add t x y (some (.string name)) (some (.string ⟨(Lib.itoa (i:Int)).toArray⟩))=some (.i (.s (.string ⟨(seedB name i).toArray⟩))):=λP t x y=>by rw[lQ (by simp only[ByteArray.size,List.size_toArray]at hn⊢;omega),hcat]
   have q2:Yd ⟨(seedB name i).toArray⟩=bI (seedB name i):=rfl;have m1:((List.range i).map (λj=>seedB name j)).map (λs=>[bI s])++[[bI (seedB name i)]]=((List.range (i+1)).map (λj=>seedB name j)).map λs=>[bI s]:=by rw[List.range_succ];simp
   have m2:((List.range i).map λj=>(⟨keyF (seedB name j),1⟩:bW)).map eQ++[eQ ⟨keyF (seedB name i),1⟩]=((List.range (i+1)).map λj=>(⟨keyF (seedB name j),1⟩:bW)).map eQ:=by rw[List.range_succ];simp
   have b1:=λσ'=>bk [] [(100,100),(101,2543),(102,2801),(103,103)] (hL (i+1) σ' h);have lr:(List.range i).length=i:=List.length_range;have a1:i+1<=140737488355328:=by omega
   have a2:(i+1)*24<=140737488355328:=by omega
   have a3:(i+1)*16<=140737488355328:=by omega
   simp only[bI,eQ,cz,Int.natCast_one]at m1 m2 c2 q2;clear hL hD hcat hl;generalize(Lib.itoa (i:Int))=I at*;have l1:((List.range i).map (λj=>seedB name j)).length=i:=by simp
   have l2:((List.range i).map λj=>(⟨keyF (seedB name j),1⟩:bW)).length=i:=by simp
   generalize(List.range i).map (λj=>seedB name j)=SD at*;generalize((List.range i).map λj=>(⟨keyF (seedB name j),1⟩:bW))=V at*;generalize(List.range (i+1)).map (λj=>seedB name j)=SD2 at*;generalize((List.range (i+1)).map λj=>(⟨keyF (seedB name j),1⟩:bW))=V2 at*;generalize seedB name i=S at*;generalize keyF S=K at*;clear lr;exact wkl trivial
  ·have h3:i=3:=by omega
   subst h3;clear hL;have t1:(((List.range 3).map (λj=>seedB name j)).map λs=>[bI s]).take 3=((List.range 3).map (λj=>seedB name j)).map λs=>[bI s]:=by rw[List.take_of_length_le (by simp)]
   have g1:((List.range 3).map (λj=>seedB name j)).length=3:=by simp
   have g2:((List.range 3).map λj=>(⟨keyF (seedB name j),1⟩:bW)).length=3:=by simp
   have t2:(((List.range 3).map λj=>(⟨keyF (seedB name j),1⟩:bW)).map eQ).take 3=((List.range 3).map λj=>(⟨keyF (seedB name j),1⟩:bW)).map eQ:=by rw[List.take_of_length_le (by simp)]
   generalize((List.range 3).map λj=>(⟨keyF (seedB name j),1⟩:bW))=V at*;generalize((List.range 3).map (λj=>seedB name j))=SD at*;simp only[bI]at t1;refine wkl ?_;clear hR;intro hR
   repeat' (intro _)
   refine vE [(0,102)] [(102,0)] [(102,.arr 2 (V.map eQ))] (.tup []) hD ?_;clear hD;have d1:jl [101,102,103] [(1,100)]:=⟨trivial⟩
   obtain⟨rfl⟩:=hR';refine wkl ?_;clear hR;intro hR;obtain⟨rfl⟩:=hR;refine fin_d d1 rfl ?_ ?_ rfl ?_ rfl;all_goals(try simp only[go_sem,Nat.reduceLT,Nat.reduceAdd,Nat.reduceMul,reduceIte,Nat.reduceEqDiff,reduceCtorEq,Nat.reducePow,Nat.reduceLeDiff,Int.reduceLE,Int.reduceLT,Int.reduceToNat,Int.reduceEq,Nat.reduceBEq])
   all_goals simp[*]
theorem AL (c:av)(ok:StOk c.s)(i:Int):PureD Tryz.prog 99 [.rp (Pf c) 0,intD i] (.tup [intD (iQ c i).1,boolD (iQ c i).2]):=by
 refine af λR hR=>?_;have hl:=ok.lcn;unfold iQ at hR;by_cases h:i<0\/(c.s.cns.length:Int)<=i
 ·rw[if_pos h]at hR;clear ok;refine aa 27 Tryz.func99 ?_;exact wkl trivial
 ·rw[if_neg h]at hR;have hi:i.toNat<c.s.cns.length:=by omega
  have s0:=ay (f:=dN) hi;rw[(dJ (s:=c.s) (i:=i) (by omega)).1]at hR;clear ok;generalize c.s.cns[i.toNat]=x at*;refine aa 27 Tryz.func99 ?_;exact wkl trivial
theorem xn (c:av)(ok:StOk c.s)(i:Int):PureD Tryz.prog 101 [.rp (Pf c) 0,intD i] (.tup [chanD (eZ c i).1,intD (eZ c i).2.1,boolD (eZ c i).2.2]):=by
 refine af λR hR=>?_;have hl:=ok.lch;unfold eZ at hR;by_cases h:i<0\/(c.s.chs.length:Int)<=i
 ·rw[if_pos h]at hR;clear ok;refine aa 41 Tryz.func101 ?_;exact wkl trivial
 ·rw[if_neg h]at hR;have hi:i.toNat<c.s.chs.length:=by omega
  have s0:=ay (f:=bA) hi;have c1:=AL c ok (chAt c.s i).cn;rw[(bZ (s:=c.s) (i:=i) (by omega)).1]at hR c1;clear ok;generalize c.s.chs[i.toNat]=x at*;generalize iQ c x.cn=Y at*;refine aa 41 Tryz.func101 ?_;exact wkl trivial
theorem ZP {c:av}(ok:StOk c.s)(i:Int):fe (eZ c i).1.oc:=by
 unfold eZ fe;split
 ·simp
 ·rename_i h;have:=(ok.chs _ (bZ (s:=c.s) (i:=i) (by omega)).2).oc;unfold N12 at this;simp only;omega
structure QQ (m:MsgD):Prop where
 oend:fe m.oend
 fr:fe m.pk.fr
 de:fe m.pk.de
 seq:fe m.pk.seq
def aeU (c:av)(m:MsgD):List (Nat×Ob):=[(0,.box (oW c 1)),(1,.arr 18 (c.past.map bC)),(2,.box ((encMsg m).map .i))]
attribute [simp,go_sem] aeU
theorem Z_ (c:av)(ok:StOk c.s)(m:MsgD)(hm:QQ m):aI Tryz.prog 49 [.pt 0 0 0 0,.pt 2 0 0 0] (hF (aeU c m)) (.tup [intD (gm c m).1,.i (bI (gm c m).2.1),boolD (gm c m).2.2.1,boolD (gm c m).2.2.2]) (hOf (hF (aeU c m)) (aeU c m)):=by
 refine il λR R' hR hR'=>?_;have d1:jl [] []:=⟨trivial⟩
 obtain⟨rfl⟩:=hR';unfold gm at hR;by_cases k5:m.kind=5
 ·rw[if_pos k5]at hR;have c1:=CU m.oend hm.oend;generalize keyC m.oend=K at*;clear ok hm;refine aK 197 Tryz.func49 rfl rfl rfl (λo ho=>by simp[hF,lk,show o≠0 by omega,show o≠1 by omega,show o≠2 by omega,show o≠3 by omega,show o≠4 by omega,show o≠5 by omega]) ?_;exact wkl trivial
 ·rw[if_neg k5]at hR;by_cases k6:m.kind=6
  ·rw[if_pos k6]at hR;have c1:=CU m.oend hm.oend;have c2:=AL c ok m.ed;generalize keyC m.oend=K at*;generalize iQ c m.ed=Y at*;clear ok hm;refine aK 197 Tryz.func49 rfl rfl rfl (λo ho=>by simp[hF,lk,show o≠0 by omega,show o≠1 by omega,show o≠2 by omega,show o≠3 by omega,show o≠4 by omega,show o≠5 by omega]) ?_;exact wkl trivial
  ·rw[if_neg k6]at hR;by_cases k7:m.kind=7
   ·rw[if_pos k7]at hR;have c1:=AL c ok m.ed;have hl:=ok.lcn;by_cases h:m.ed<0\/(c.s.cns.length:Int)<=m.ed
    ·have e:iQ c m.ed=(0,false):=by unfold iQ;rw[if_pos h]
     rw[e]at hR c1;simp only[Bool.false_eq_true,if_false]at hR c1;clear ok hm e;refine aK 197 Tryz.func49 rfl rfl rfl (λo ho=>by simp[hF,lk,show o≠0 by omega,show o≠1 by omega,show o≠2 by omega,show o≠3 by omega,show o≠4 by omega,show o≠5 by omega]) ?_;exact wkl trivial
    ·have e:iQ c m.ed=((cnAt c.s m.ed).cl,true):=by unfold iQ;rw[if_neg h]
     have hi:m.ed.toNat<c.s.cns.length:=by omega
     have s0:=ay (f:=dN) hi;have hon:=(ok.cns _ (dJ (s:=c.s) (i:=m.ed) (by omega)).2).on;have c2:=CU (cnAt c.s m.ed).on (by unfold N12 at hon;unfold fe;omega);rw[e]at hR c1;simp only[if_true]at hR c1;rw[(dJ (s:=c.s) (i:=m.ed) (by omega)).1]at hR c1 c2;clear ok hm e hon;generalize c.s.cns[m.ed.toNat]=x at*;generalize keyC x.on=K at*;refine aK 197 Tryz.func49 rfl rfl rfl (λo ho=>by simp[hF,lk,show o≠0 by omega,show o≠1 by omega,show o≠2 by omega,show o≠3 by omega,show o≠4 by omega,show o≠5 by omega]) ?_;exact wkl trivial
   ·rw[if_neg k7]at hR;by_cases k9:m.kind=9
    ·rw[if_pos k9]at hR;have c1:=Cv m.oend hm.oend;have c2:=AL c ok m.ed;generalize keyH m.oend=K at*;generalize iQ c m.ed=Y at*;clear ok hm;refine aK 197 Tryz.func49 rfl rfl rfl (λo ho=>by simp[hF,lk,show o≠0 by omega,show o≠1 by omega,show o≠2 by omega,show o≠3 by omega,show o≠4 by omega,show o≠5 by omega]) ?_;exact wkl trivial
    ·rw[if_neg k9]at hR;by_cases k10:m.kind=10
     ·rw[if_pos k10]at hR;have c1:=Cv m.oend hm.oend;have c2:=xn c ok m.ed;generalize keyH m.oend=K at*;generalize eZ c m.ed=Y at*;clear ok hm;refine aK 197 Tryz.func49 rfl rfl rfl (λo ho=>by simp[hF,lk,show o≠0 by omega,show o≠1 by omega,show o≠2 by omega,show o≠3 by omega,show o≠4 by omega,show o≠5 by omega]) ?_;exact wkl trivial
     ·rw[if_neg k10]at hR;by_cases k11:m.kind=11\/m.kind=13
      ·rw[if_pos k11]at hR;have c1:=Cv (eZ c m.ed).1.oc (ZP ok m.ed);have c2:=xn c ok m.ed;generalize keyH (eZ c m.ed).1.oc=K at*;generalize eZ c m.ed=Y at*;clear ok hm;rcases k11 with k11|k11;all_goals
        refine aK 197 Tryz.func49 rfl rfl rfl (λo ho=>by simp[hF,lk,show o≠0 by omega,show o≠1 by omega,show o≠2 by omega,show o≠3 by omega,show o≠4 by omega,show o≠5 by omega]) ?_;exact wkl trivial
      ·rw[if_neg k11]at hR;have k11a:¬m.kind=11:=λe=>k11 (.inl e);have k11b:¬m.kind=13:=λe=>k11 (.inr e);clear k11;by_cases k15:m.kind=15
       ·rw[if_pos k15]at hR;have c1:=qU mQ m.pk.fr m.pk.seq (by decide) hm.fr hm.seq;have c2:=xn c ok m.pk.de;generalize keyM mQ m.pk.fr m.pk.seq=K at*;generalize eZ c m.pk.de=Y at*;simp only[mQ,Bf,xC]at*;clear ok hm;refine aK 197 Tryz.func49 rfl rfl rfl (λo ho=>by simp[hF,lk,show o≠0 by omega,show o≠1 by omega,show o≠2 by omega,show o≠3 by omega,show o≠4 by omega,show o≠5 by omega]) ?_;exact wkl trivial
       ·rw[if_neg k15]at hR;by_cases k16:m.kind=16
        ·rw[if_pos k16]at hR;have c1:=qU Bf m.pk.de m.pk.seq (by decide) hm.de hm.seq;have c2:=xn c ok m.pk.fr;generalize keyM Bf m.pk.de m.pk.seq=K at*;generalize eZ c m.pk.fr=Y at*;simp only[mQ,Bf,xC]at*;clear ok hm;refine aK 197 Tryz.func49 rfl rfl rfl (λo ho=>by simp[hF,lk,show o≠0 by omega,show o≠1 by omega,show o≠2 by omega,show o≠3 by omega,show o≠4 by omega,show o≠5 by omega]) ?_;exact wkl trivial
        ·rw[if_neg k16]at hR;by_cases k17:m.kind=17
         ·rw[if_pos k17]at hR;have c1:=qU xC m.pk.de m.pk.seq (by decide) hm.de hm.seq;have c2:=NF m.pk.de hm.de;have c3:=xn c ok m.pk.fr;generalize keyM xC m.pk.de m.pk.seq=K at*;generalize keyN m.pk.de=K2 at*;generalize eZ c m.pk.fr=Y at*;simp only[mQ,Bf,xC]at*;clear ok hm;cases ho:Y.1.ord
          ·simp only[ho,Bool.false_eq_true,if_false]at hR;refine aK 197 Tryz.func49 rfl rfl rfl (λo ho=>by simp[hF,lk,show o≠0 by omega,show o≠1 by omega,show o≠2 by omega,show o≠3 by omega,show o≠4 by omega,show o≠5 by omega]) ?_;exact wkl trivial
          ·simp only[ho,if_true]at hR;refine aK 197 Tryz.func49 rfl rfl rfl (λo ho=>by simp[hF,lk,show o≠0 by omega,show o≠1 by omega,show o≠2 by omega,show o≠3 by omega,show o≠4 by omega,show o≠5 by omega]) ?_;exact wkl trivial
         ·rw[if_neg k17]at hR;clear ok hm;refine aK 197 Tryz.func49 rfl rfl rfl (λo ho=>by simp[hF,lk,show o≠0 by omega,show o≠1 by omega,show o≠2 by omega,show o≠3 by omega,show o≠4 by omega,show o≠5 by omega]) ?_;exact wkl trivial
end Go.Proofs.YtoifllbioldomaaGreatDoor
