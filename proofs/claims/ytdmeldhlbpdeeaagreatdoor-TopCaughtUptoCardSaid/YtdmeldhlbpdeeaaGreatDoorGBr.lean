/- Merged texts: BrP, BrX, SrtV, BrE, BrA. -/
import Derived.Test.YtdmeldhlbpdeeaaGreatDoorGAp
import Derived.Test.YtdmeldhlbpdeeaaGreatDoorGSo
set_option linter.all false
set_option maxHeartbeats 16000000
set_option maxRecDepth 20000
namespace Go.Proofs.YtdmeldhlbpdeeaaGreatDoor
open Go Go.Abs
structure EndD where
 sg:gG
 st:StateD
structure ay where
 s:StateD
 seeds:List (List UInt8)
 vals:List dA
 past:List EndD
structure EvD where
 kind:Int
 side:Int
 later:Int
 trust:Int
 cl:Int
 m:MsgD
def bM (e:EndD):List I:=[.s (.string e.sg.hdr.c),.s (.int .i64 e.sg.hdr.h),.s (.int .i64 e.sg.hdr.t),bI e.sg.hdr.root,bI e.sg.hdr.vals,bI e.sg.hdr.next,valsI e.sg.vals,votesI e.sg.votes,
 .s (.string e.st.name),.s (.int .i64 e.st.h),.s (.int .i64 e.st.t),.sl (e.st.cls.map gF),.sl (e.st.cns.map d_),.sl (e.st.chs.map bK),.sl (e.st.sent.map bJ),.sl (e.st.got.map bJ),.sl (e.st.acks.map bJ),.sl (e.st.pus.map bf)]
def PM (c:ay):List I:=[.s (.string c.s.name),.s (.int .i64 c.s.h),.s (.int .i64 c.s.t),.sl (c.s.cls.map gF),.sl (c.s.cns.map d_),.sl (c.s.chs.map bK),.sl (c.s.sent.map bJ),.sl (c.s.got.map bJ),.sl (c.s.acks.map bJ),.sl (c.s.pus.map bf),
 bbI c.seeds,valsI c.vals,.sl (c.past.map bM)]
def oJ (c:ay)(o:Nat):List D:=[.i (.s (.string c.s.name)),.i (.s (.int .i64 c.s.h)),.i (.s (.int .i64 c.s.t)),.i (.sl (c.s.cls.map gF)),.i (.sl (c.s.cns.map d_)),.i (.sl (c.s.chs.map bK)),.i (.sl (c.s.sent.map bJ)),.i (.sl (c.s.got.map bJ)),.i (.sl (c.s.acks.map bJ)),.i (.sl (c.s.pus.map bf)),
 .i (bbI c.seeds),.i (valsI c.vals),.os o 18 0 c.past.length]
attribute [simp,go_sem] bM PM oJ
def dW (s:StateD):List UInt8×Int:=if(fM s).2=0 then(zA (fM s).1,((dQ (fM s).1).1:Nat))else([],(fM s).2)
def Ag (c:ay):kv:=⟨c.s.name,c.s.h,c.s.t,(dW c.s).1,digestV c.vals,digestV c.vals⟩
def aV (c:ay)(later:Int):ay×jE :=
 if(kV c.s later).2=0 then
  (if(dW c.s).2=0 then
   (if(kU (Ag c) c.vals c.seeds).2=0 then({c with s:=(kV c.s later).1,past:=c.past++[⟨(kU (Ag c) c.vals c.seeds).1,c.s⟩]},⟨0,((c.past.length+1:Nat):Int),zeroPk⟩)
   else(c,dE (kU (Ag c) c.vals c.seeds).2))
  else(c,dE (dW c.s).2))
 else(c,dE (kV c.s later).2)
def kX (c:ay)(m:MsgD):ay×jE:=(if(doS c.s m).2.err=0 then{c with s:=(doS c.s m).1}else c,(doS c.s m).2)
def YB:EndD:=⟨⟨⟨⟨#[]⟩,0,0,[],[],[]⟩,[],[]⟩,zeroSt⟩
def lastB (o:ay):EndD:=o.past.getLastD YB
def cliMsg (o:ay)(trust:Int):MsgD:={zeroMsg with kind:=1,chain:=(lastB o).sg.hdr.c,trust:=trust,kn:=ofH (lastB o).sg.hdr}
def dH (c o:ay)(trust:Int):ay×jE:=if o.past.length=0 then(c,dE 6)else kX c (cliMsg o trust)
def folMsg (c o:ay)(i:Int):MsgD:={zeroMsg with kind:=2,cl:=i,up:=⟨(ky (gU c.s i)).h,(lastB o).sg,o.vals⟩}
def dw (c o:ay)(i:Int):ay×jE:=if o.past.length=0\/i<0\/(c.s.cls.length:Int)<=i then(c,dE 6)else kX c (folMsg c o i)
def jg (c:ay)(i:Int):Int×Bool:=if i<0\/(c.s.cns.length:Int)<=i then(0,false)else((cnAt c.s i).cl,true)
def f_ (c:ay)(i:Int):ChanD×Int×Bool:=if i<0\/(c.s.chs.length:Int)<=i then(zeroCh,0,false)else(chAt c.s i,jg c (chAt c.s i).cn)
def iA (c:ay)(m:MsgD):Int×List UInt8×Bool×Bool :=
 if m.kind=5 then(m.cl,keyC m.oend,false,true)
 else if m.kind=6 then((jg c m.ed).1,keyC m.oend,false,(jg c m.ed).2)
 else if m.kind=7 then((jg c m.ed).1,if(jg c m.ed).2=true then keyC (cnAt c.s m.ed).on else[],false,(jg c m.ed).2)
 else if m.kind=9 then((jg c m.ed).1,keyH m.oend,false,(jg c m.ed).2)
 else if m.kind=10 then((f_ c m.ed).2.1,keyH m.oend,false,(f_ c m.ed).2.2)
 else if m.kind=11\/m.kind=13 then((f_ c m.ed).2.1,keyH (f_ c m.ed).1.oc,false,(f_ c m.ed).2.2)
 else if m.kind=15 then((f_ c m.pk.de).2.1,keyM mK m.pk.fr m.pk.seq,false,(f_ c m.pk.de).2.2)
 else if m.kind=16 then((f_ c m.pk.fr).2.1,keyM FQ m.pk.de m.pk.seq,false,(f_ c m.pk.fr).2.2)
 else if m.kind=17 then(if(f_ c m.pk.fr).1.ord=true then((f_ c m.pk.fr).2.1,keyN m.pk.de,false,(f_ c m.pk.fr).2.2)else((f_ c m.pk.fr).2.1,keyM FP m.pk.de m.pk.seq,true,(f_ c m.pk.fr).2.2))
 else(0,[],false,false)
def atB (o:ay)(h:Int):Option EndD:=o.past.find? λe=>decide (e.sg.hdr.h=h)
def ZA (m:MsgD)(s:StateD):Int:=if m.kind=17/\0<=m.pk.de/\m.pk.de<(s.chs.length:Int)then(chAt s m.pk.de).rcv else m.next
def vM (c o:ay)(m:MsgD):MsgD :=
 if(iA c m).2.2.2=false\/(iA c m).1<0\/(c.s.cls.length:Int)<=(iA c m).1 then m
 else match atB o (ky (gU c.s (iA c m).1)).h with
  |none=>m
  |some e =>
   if(iA c m).2.2.1=true then{m with sh:={zSh with h:=(ky (gU c.s (iA c m).1)).h,g:=(LD (fM e.st).1 (iA c m).2.1).1}}
   else{m with sh:={zSh with h:=(ky (gU c.s (iA c m).1)).h,p:=(iQ (fM e.st).1 (iA c m).2.1).1},next:=ZA m e.st}
def showB (c o:ay)(m:MsgD):MsgD:=vM c o {m with sh:=zSh}
def oneB (c o:ay)(e:EvD):ay×jE :=
 if e.kind=1 then aV c e.later else if e.kind=2 then dH c o e.trust else if e.kind=3 then dw c o e.cl
 else if e.kind=4 then kX c e.m else if e.kind=5 then kX c (showB c o e.m)else(c,dE 1)
abbrev kY:=ay×ay
def iF (w:kY)(e:EvD):kY×jE :=
 if e.side=0 then(((oneB w.1 w.2 e).1,w.2),(oneB w.1 w.2 e).2)
 else if e.side=1 then((w.1,(oneB w.2 w.1 e).1),(oneB w.2 w.1 e).2)
 else(w,dE 1)
def gJ:kY->List EvD->kY×List jE
 |w,[]=>(w,[])
 |w,e::t=>((gJ (iF w e).1 t).1,(iF w e).2::(gJ (iF w e).1 t).2)
theorem vR (e:EvD):∀(l:List EvD)(w:kY),gJ w (l++[e])=((iF (gJ w l).1 e).1,(gJ w l).2++[(iF (gJ w l).1 e).2])
 |[],w=>rfl
 |a::t,w=>by simp only[List.cons_append,gJ];rw[vR e t]
theorem jN (l2:List EvD):∀(l:List EvD)(w:kY),gJ w (l++l2)=((gJ (gJ w l).1 l2).1,(gJ w l).2++(gJ (gJ w l).1 l2).2)
 |[],w=>rfl
 |a::t,w=>by simp only[List.cons_append,gJ];rw[jN l2 t]
theorem nX:∀(l:List EvD)(w:kY),(gJ w l).2.length=l.length
 |[],_=>rfl
 |a::t,w=>by simp only[gJ,List.length_cons];rw[nX t]
def Uo (v:dA):List dA->List dA
 |[]=>[v]
 |a::t=>if v.k<a.k then v::a::t else a::Uo v t
def seedB (name:ByteArray)(i:Nat):List UInt8:=name.data.toList++Lib.itoa (i:Nat)
def eY (name:ByteArray):List dA:=Uo ⟨keyF (seedB name 2),1⟩ (Uo ⟨keyF (seedB name 1),1⟩ [⟨keyF (seedB name 0),1⟩])
def bZ (name owner denom:ByteArray):ay:=⟨⟨name,1,1,[],[],[],[],[],[],[⟨owner,denom,1000⟩]⟩,[seedB name 0,seedB name 1,seedB name 2],eY name,[]⟩
end Go.Proofs.YtdmeldhlbpdeeaaGreatDoor
namespace Go.Abs
open Go Go.RowKit
def D_:List (Nat×Ob)->(Nat->Ob)->Nat->Ob
 |[],H=>H
 |(j,x)::t,H=>upd (D_ t H) j x
attribute [simp,go_sem] D_
theorem L_ (H:Nat->Ob)(a:Nat):∀l:List (Nat×Ob),D_ l H a=(fnd l a).getD (H a)
 |[]=>rfl
 |(j,x)::t=>by
  simp only[D_,fnd];by_cases h:a=j
  ·subst h;simp[upd]
  ·rw[upd_ne _ _ h,if_neg h];exact L_ H a t
theorem fnd_some {α:Type}{l:List (Nat×α)}{k:Nat}{x:α}(h:fnd l k=some x):(k,x)∈l:=EX h
theorem Ak {α:Type}{k:Nat}:∀{l:List (Nat×α)},fnd l k=none->∀p∈l,p.1≠k
 |[],_,p,hp=>by cases hp
 |(j,x)::t,h,p,hp=>by
  simp only[fnd]at h;split at h
  ·cases h
  ·rename_i hne;rcases List.mem_cons.1 hp with rfl|hp
   ·exact λe=>hne e.symm
   ·exact Ak h p hp
section
variable {P:Program}{H:Nat->Ob}{f:FuncId}{ds gs:List D}{r r':D}{objs objs' new:List (Nat×Ob)}
theorem JA (ρ ρ':List (Nat×Nat))(hL:aL P f ds (hF objs) r (hOf (hF objs) objs'))(hgs:cvs H [] (fnd ρ) gs ds)
  (ho:∀p∈objs,∃o,fnd ρ p.1=some o/\cvO H [] (fnd ρ) (H o) p.2) (hk:(ρ.all λq=>objs.any λp=>p.1==q.1)=true)
  (hinj:(ρ.all λp=>ρ.all λq=>p.2 != q.2||p.1==q.1)=true)
  (hn:∀p∈new,∃l,fnd ρ' p.1=some l/\cvO (hOf (hF objs) objs') [] (fnd ρ') (hOf (hF objs) objs' l) p.2) (hk':(ρ'.all λq=>new.any λp=>p.1==q.1)=true)
  (hinj':(ρ'.all λp=>ρ'.all λq=>p.2 != q.2||p.1==q.1)=true) (hr':cv (hOf (hF objs) objs') [] (fnd ρ') r r')
  (hback:(ρ.all λp=>fnd ρ' p.2==some p.1)=true) (hnew:∀q∈ρ',fnd ρ q.2=some q.1\/H q.1=.fresh):aL P f gs H r' (D_ new H):=by
 have hfl:∀a,hF objs a=(fnd objs a).getD .fresh:=λa=>by show lk objs .fresh a=_;rw[Xe]
 have h:=dF (H:=H) (gs:=gs) (L2:=λa=>(fnd new a).getD .dead) (r':=r') [] (fnd ρ) (fnd ρ') hL hgs
  (λa=>by
   cases e:fnd ρ a with
   |none =>
    cases e2:fnd objs a with
    |none=>left;exact⟨by rw[hfl,e2];rfl,rfl⟩
    |some x =>obtain⟨o,h1,_⟩:=ho _ (fnd_some e2);rw[e]at h1;cases h1
   |some o =>
    right;right;right;refine⟨o,rfl,?_⟩;rw[kW];cases e2:fnd objs a with
    |none =>have:=List.all_eq_true.1 hk _ (fnd_some e);obtain⟨p,hp,hpe⟩:=List.any_eq_true.1 this;exact absurd (by simpa using hpe) (Ak e2 p hp)
    |some x =>obtain⟨o2,h1,h2⟩:=ho _ (fnd_some e2);rw[e]at h1;cases h1;rw[hfl,e2];exact h2)
  (λa b d _ _ h3 h4=>by have:=List.all_eq_true.1 (List.all_eq_true.1 hinj _ (fnd_some h3)) _ (fnd_some h4);simpa using this)
  (λa=>by
   cases e:fnd new a with
   |none=>right;left;rfl
   |some x =>right;right;right;obtain⟨l,h1,h2⟩:=hn _ (fnd_some e);exact⟨l,h1,by rw[kW];exact h2⟩)
  (λa b d _ _ h3 h4=>by have:=List.all_eq_true.1 (List.all_eq_true.1 hinj' _ (fnd_some h3)) _ (fnd_some h4);simpa using this)
  hr'
  (λl g hg=>by have:=List.all_eq_true.1 hback _ (fnd_some hg);simpa using this)
  (λg l hg=>by
   rcases hnew _ (fnd_some hg)with h|h
   ·exact .inl h
   ·exact .inr ⟨h,by simp⟩)
 have e:(λa=>if(fnd ρ' a).isSome then(fnd new a).getD .dead else frz [] H a)=D_ new H:=by
  funext a;rw[L_,kW];cases e:fnd ρ' a with
  |none =>
   cases e2:fnd new a with
   |none=>rfl
   |some x =>obtain⟨l,h1,_⟩:=hn _ (fnd_some e2);rw[e]at h1;cases h1
  |some l =>
   cases e2:fnd new a with
   |none =>have:=List.all_eq_true.1 hk' _ (fnd_some e);obtain⟨p,hp,hpe⟩:=List.any_eq_true.1 this;exact absurd (by simpa using hpe) (Ak e2 p hp)
   |some x=>rfl
 rw[e]at h;exact h
variable {n:Nat}{σ:St}{ks:List Fr}{Q:Ex->St->Prop}{rid:Nat}{rest:List It}{dst:Option Nat}
attribute [local simp] fnd
theorem vz (ρ ρ':List (Nat×Nat))(new:List (Nat×Ob))(r':D)(hL:aL P f ds (hF objs) r (hOf (hF objs) objs'))(h:Ro P n rid rest (St.put ⟨σ.sl,D_ new σ.H⟩ dst r') ks Q)
  (hgs:cvs σ.H [] (fnd ρ) gs ds:=by simp[and_assoc,cvs,fnd]) (ho:∀p∈objs,∃o,fnd ρ p.1=some o/\cvO σ.H [] (fnd ρ) (σ.H o) p.2:=by simp[fnd,and_assoc,hF,lk]) (hk:(ρ.all λq=>objs.any λp=>p.1==q.1)=true:=by rfl)
  (hinj:(ρ.all λp=>ρ.all λq=>p.2 != q.2||p.1==q.1)=true:=by rfl)
  (hn:∀p∈new,∃l,fnd ρ' p.1=some l/\cvO (hOf (hF objs) objs') [] (fnd ρ') (hOf (hF objs) objs' l) p.2:=by simp[fnd,and_assoc,hF,hOf,lk]) (hk':(ρ'.all λq=>new.any λp=>p.1==q.1)=true:=by rfl)
  (hinj':(ρ'.all λp=>ρ'.all λq=>p.2 != q.2||p.1==q.1)=true:=by rfl) (hr':cv (hOf (hF objs) objs') [] (fnd ρ') r r':=by simp)
  (hback:(ρ.all λp=>fnd ρ' p.2==some p.1)=true:=by simp[fnd]) (hnew:∀q∈ρ',fnd ρ q.2=some q.1\/σ.H q.1=.fresh:=by simp[fnd,hF,lk,noH]):Call P n rid f gs dst rest σ ks Q :=
 ⟨_,_,.inl (JA ρ ρ' hL hgs ho hk hinj hn hk' hinj' hr' hback hnew),h⟩
end
end Go.Abs
namespace Go.Proofs.YtdmeldhlbpdeeaaGreatDoor
open Go Go.Abs Go.RowKit Go.Proofs.YtdmeldhlbpdeeaaGreatDoor.Ty
def abB (a b:Nat):Int:=if(a:Int)<b then -1 else if(b:Int)<a then 1 else 0
theorem VZ (a:Nat):PureD Tryz.prog 157 [.i (.s (.int .u64 (a:Int)))] (boolD false):=by refine ai λR hR=>?_;refine aa 6 Tryz.func157 ?_;exact wkl trivial
theorem YJ (a b:Nat):PureD Tryz.prog 117 [.i (.s (.int .u64 (a:Int))),.i (.s (.int .u64 (b:Int)))] (intD (abB a b)):=by refine ai λR hR=>?_;have c1:=VZ a;have c2:=VZ b;unfold abB at hR;refine aa 20 Tryz.func117 ?_;exact wkl trivial
theorem YH (u v:dA):PureD Tryz.prog 116 [.agg [.i (.s (.int .u64 u.k)),.i (.s (.int .u64 u.p))],.agg [.i (.s (.int .u64 v.k)),.i (.s (.int .u64 v.p))]] (intD (abB u.k v.k)):=by refine ai λR hR=>?_;have c1:=YJ u.k v.k;generalize abB u.k v.k=C at*;refine aa 10 Tryz.func116 ?_;exact wkl trivial
theorem abN (l:List dA)(h3:l.length=3)(hs:∀i (h:i+1<l.length),l[i].k<l[i+1].k):
  aL Tryz.prog 186 [.os 0 2 0 3,intD 0,intD 3,.fn 116 []] (hF [(0,.arr 2 (l.map bW))]) (.tup []) (hOf (hF [(0,.arr 2 (l.map bW))]) [(0,.arr 2 (l.map bW))]):=by
 refine ik λR R' hR hR'=>?_;have d1:iY [] []:=⟨trivial⟩
 refine aP 53 Tryz.func186 rfl rfl rfl (λo ho=>by simp[hF,lk,show o≠0 by omega,show o≠1 by omega,show o≠2 by omega,show o≠3 by omega,show o≠4 by omega,show o≠5 by omega]) ?_;refine wkl ?_;clear hR;intro hR;refine aS (ι:=Nat) (λi=>1<=i/\i<=3) (λi=>dP [(0,.os 0 2 0 3),(1,intD 0),(2,intD 3),(3,.fn 116 []),(8,intD i)] [(0,.arr 2 (l.map bW))]) (λi=>3-i) 1 ⟨Nat.le_refl _,by decide⟩ ?_ ?_
 ·exact dB [] []
 ·rintro i ⟨hi1,hi3⟩ RL hL;rw[ag];by_cases h:i<3
  ·obtain⟨j,rfl⟩:∃j,i=j+1:=⟨i-1,by omega⟩
   have hj:j+1<l.length:=by omega
   have s0:=aI (f:=bW) hj;have s1:=aI (f:=bW) (l:=l) (i:=j) (by omega);have w1:IntKind.i64.wrap (((j+1:Nat):Int)-1)=(j:Int):=by rw[au (by omega) (by omega)];omega
   have w2:IntKind.i64.wrap (((j+1:Nat):Int)+1)=((j+2:Nat):Int):=by rw[au (by omega) (by omega)];omega
   have hk:=hs j hj;have b1:=λσ'=>bk [] [] (hL (j+2) σ' ⟨by omega,by omega⟩);have c1:=YH l[j+1] l[j];have hc:abB l[j+1].k l[j].k=1:=by unfold abB;rw[if_neg (by omega),if_pos (by omega)]
   rw[hc]at c1;have g1:(0:Int)<((j+1:Nat):Int):=by omega
   have n0:(((j+1:Nat):Int)).toNat=j+1:=by omega
   clear hL hs hc hk;generalize hu:l[j+1]=u at*;generalize hv:l[j]=v at*;simp only[bW]at s0 s1;refine wkl ?_;clear hR;intro hR;refine aS (ι:=Unit) (λ_=>True) (λ_=>dP [(0,.os 0 2 0 3),(1,intD 0),(2,intD 3),(3,.fn 116 []),(8,intD ((j+1:Nat):Int)),(9,intD ((j+1:Nat):Int))] [(0,.arr 2 (l.map bW))]) (λ_=>0) () trivial ?_ ?_
   ·exact dB [] []
   ·rintro _ _ RL2 hL2;rw[ag];clear hL2;exact wkl trivial
  ·have hi:i=3:=by omega
   subst hi;clear hL hs;obtain⟨rfl⟩:=hR';exact wkl trivial
theorem abK (l:List dA)(h3:l.length=3)(hs:∀i (h:i+1<l.length),l[i].k<l[i+1].k):
  aL Tryz.prog 156 [.os 0 2 0 3,intD 0,intD 3,intD 2,.fn 116 []] (hF [(0,.arr 2 (l.map bW))]) (.tup []) (hOf (hF [(0,.arr 2 (l.map bW))]) [(0,.arr 2 (l.map bW))]):=by
 refine ik λR R' hR hR'=>?_;have d1:iY [] []:=⟨trivial⟩
 have hD:=abN l h3 hs;clear hs;refine aP 148 Tryz.func156 rfl rfl rfl (λo ho=>by simp[hF,lk,show o≠0 by omega,show o≠1 by omega,show o≠2 by omega,show o≠3 by omega,show o≠4 by omega,show o≠5 by omega]) ?_;refine wkl ?_;clear hR;intro hR;refine aS (ι:=Unit) (λ_=>True) (λ_=>dP [(0,.os 0 2 0 3),(1,intD 0),(2,intD 3),(3,intD 2),(4,.fn 116 [])] [(0,.arr 2 (l.map bW))]) (λ_=>0) () trivial ?_ ?_
 ·exact dB [] []
 ·rintro _ _ RL hL;rw[ag];clear hL;refine wkl ?_;clear hR;intro hR
  repeat' (intro _)
  refine vz [(0,0)] [(0,0)] [(0,.arr 2 (l.map bW))] (.tup []) hD ?_;clear hD;obtain⟨rfl⟩:=hR';exact wkl trivial
theorem abL:PureD Tryz.prog 93 [.i (.s (.int .u64 3))] (intD 2):=by refine ai λR hR=>?_;have c1:=Oy 3 (by decide) (by decide);rw[show Nat.log2 3+1=2 by decide]at c1;refine aa 8 Tryz.func93 ?_;exact wkl trivial
theorem YG (l:List dA)(h3:l.length=3)(hs:∀i (h:i+1<l.length),l[i].k<l[i+1].k):
  aL Tryz.prog 115 [.os 0 2 0 3,.fn 116 []] (hF [(0,.arr 2 (l.map bW))]) (.tup []) (hOf (hF [(0,.arr 2 (l.map bW))]) [(0,.arr 2 (l.map bW))]):=by
 refine ik λR R' hR hR'=>?_;have d1:iY [] []:=⟨trivial⟩
 have hD:=abK l h3 hs;have c1:=abL;clear hs;refine aP 14 Tryz.func115 rfl rfl rfl (λo ho=>by simp[hF,lk,show o≠0 by omega,show o≠1 by omega,show o≠2 by omega,show o≠3 by omega,show o≠4 by omega,show o≠5 by omega]) ?_;refine wkl ?_;clear hR;intro hR
 repeat' (intro _)
 refine vz [(0,0)] [(0,0)] [(0,.arr 2 (l.map bW))] (.tup []) hD ?_;clear hD;obtain⟨rfl⟩:=hR';exact wkl trivial
theorem vE {name:ByteArray}(h1:keyF (seedB name 0)<keyF (seedB name 1))(h2:keyF (seedB name 1)<keyF (seedB name 2)):eY name=(List.range 3).map λj=>⟨keyF (seedB name j),1⟩:=by
 unfold eY;have h3:¬keyF (seedB name 1)<keyF (seedB name 0):=by omega
 have h4:¬keyF (seedB name 2)<keyF (seedB name 0):=by omega
 have h5:¬keyF (seedB name 2)<keyF (seedB name 1):=by omega
 simp[Uo,h3,h4,h5,List.range_succ]
theorem JI (name owner denom:ByteArray)(hn:name.size<=20)(h1:keyF (seedB name 0)<keyF (seedB name 1))(h2:keyF (seedB name 1)<keyF (seedB name 2)):
  aL Tryz.prog 62 [.i (.s (.string name)),.i (.s (.string owner)),.i (.s (.string denom))] noH (.pt 1 0 0 0) (hOf noH [(1,.box (oJ (bZ name owner denom) 2)),(2,.arr 18 [])]):=by
 refine ik λR R' hR hR'=>?_;have hv:=vE h1 h2;have hD:=YG ((List.range 3).map λj=>(⟨keyF (seedB name j),1⟩:dA)) (by simp) (λi hi=>by
  simp at hi;have:i=0\/i=1:=by omega
  rcases this with rfl|rfl
  ·simpa using h1
  ·simpa using h2)
 unfold bZ at hR';rw[hv]at hR';have hsd:(List.range 3).map (λj=>seedB name j)=[seedB name 0,seedB name 1,seedB name 2]:=rfl;rw[<- hsd]at hR';clear h1 h2 hv hsd;refine aa 55 Tryz.func62 ?_;refine wkl ?_;clear hR;intro hR;refine aS (ι:=Nat) (λi=>i<=3) (λi=>dP [(0,.i (.s (.string name))),(7,.pt 100 0 0 0),(18,intD i)]
  [(100,.box [.i (.s (.string name)),.i (.s (.int .i64 1)),.i (.s (.int .i64 1)),.i (.s (.slice none 0 0)),.i (.s (.slice none 0 0)),.i (.s (.slice none 0 0)),.i (.s (.slice none 0 0)),.i (.s (.slice none 0 0)),.i (.s (.slice none 0 0)),.os 103 3 0 1,.os 101 1 0 i,.os 102 2 0 i,.i (.s (.slice none 0 0))]),
   (101,.arr 1 (((List.range i).map (λj=>seedB name j)).map λs=>[bI s])),(102,.arr 2 (((List.range i).map λj=>(⟨keyF (seedB name j),1⟩:dA)).map bW)),(103,.arr 3 [[.s (.string owner),.s (.string denom),.s (.int .u64 1000)]])]) (λi=>3-i) 0 (Nat.zero_le _) ?_ ?_
 ·exact dB [] [(100,1263),(103,1260)]
 ·rintro i hi RL hL;rw[ag];by_cases h:i<3
  ·have c1:=tJ (i:Int) (by omega) (by omega);have hl:=Lib.itoa_length_le (i:Int) (by omega) (by omega);have hz:(seedB name i).length<=1000:=by
    have hz:name.data.toList.length=name.size:=rfl;simp only[seedB,List.length_append];omega
   have c2:=Z_ (seedB name i) (by omega);have hcat:name++⟨(Lib.itoa (i:Int)).toArray⟩=⟨(seedB name i).toArray⟩:=by apply ByteArray.ext;simp[seedB,ByteArray.data_append]
   have q1:∀P t x y,gM P .add t x y (some (.string name)) (some (.string ⟨(Lib.itoa (i:Int)).toArray⟩))=some (.i (.s (.string ⟨(seedB name i).toArray⟩))):=λP t x y=>by rw[lK (by simp only[ByteArray.size,List.size_toArray]at hn⊢;omega),hcat]
   have q2:Wm ⟨(seedB name i).toArray⟩=bI (seedB name i):=rfl;have m1:((List.range i).map (λj=>seedB name j)).map (λs=>[bI s])++[[bI (seedB name i)]]=((List.range (i+1)).map (λj=>seedB name j)).map λs=>[bI s]:=by rw[List.range_succ];simp
   have m2:((List.range i).map λj=>(⟨keyF (seedB name j),1⟩:dA)).map bW++[bW ⟨keyF (seedB name i),1⟩]=((List.range (i+1)).map λj=>(⟨keyF (seedB name j),1⟩:dA)).map bW:=by rw[List.range_succ];simp
   have b1:=λσ'=>bk [] [(100,100),(101,2543),(102,2801),(103,103)] (hL (i+1) σ' h);have lr:(List.range i).length=i:=List.length_range;have a1:i+1<=140737488355328:=by omega
   have a2:(i+1)*24<=140737488355328:=by omega
   have a3:(i+1)*16<=140737488355328:=by omega
   simp only[bI,bW,dI,Int.natCast_one]at m1 m2 c2 q2;clear hL hD hcat hl;generalize(Lib.itoa (i:Int))=I at*;have l1:((List.range i).map (λj=>seedB name j)).length=i:=by simp
   have l2:((List.range i).map λj=>(⟨keyF (seedB name j),1⟩:dA)).length=i:=by simp
   generalize(List.range i).map (λj=>seedB name j)=SD at*;generalize((List.range i).map λj=>(⟨keyF (seedB name j),1⟩:dA))=V at*;generalize(List.range (i+1)).map (λj=>seedB name j)=SD2 at*;generalize((List.range (i+1)).map λj=>(⟨keyF (seedB name j),1⟩:dA))=V2 at*;generalize seedB name i=S at*;generalize keyF S=K at*;clear lr;exact wkl trivial
  ·have h3:i=3:=by omega
   subst h3;clear hL;have t1:(((List.range 3).map (λj=>seedB name j)).map λs=>[bI s]).take 3=((List.range 3).map (λj=>seedB name j)).map λs=>[bI s]:=by rw[List.take_of_length_le (by simp)]
   have g1:((List.range 3).map (λj=>seedB name j)).length=3:=by simp
   have g2:((List.range 3).map λj=>(⟨keyF (seedB name j),1⟩:dA)).length=3:=by simp
   have t2:(((List.range 3).map λj=>(⟨keyF (seedB name j),1⟩:dA)).map bW).take 3=((List.range 3).map λj=>(⟨keyF (seedB name j),1⟩:dA)).map bW:=by rw[List.take_of_length_le (by simp)]
   generalize((List.range 3).map λj=>(⟨keyF (seedB name j),1⟩:dA))=V at*;generalize((List.range 3).map (λj=>seedB name j))=SD at*;simp only[bI]at t1;refine wkl ?_;clear hR;intro hR
   repeat' (intro _)
   refine vz [(0,102)] [(102,0)] [(102,.arr 2 (V.map bW))] (.tup []) hD ?_;clear hD;have d1:iY [101,102,103] [(1,100)]:=⟨trivial⟩
   obtain⟨rfl⟩:=hR';refine wkl ?_;clear hR;intro hR;obtain⟨rfl⟩:=hR;refine fin_d d1 rfl ?_ ?_ rfl ?_ rfl;all_goals(try simp only[go_sem,Nat.reduceLT,Nat.reduceAdd,Nat.reduceMul,reduceIte,Nat.reduceEqDiff,reduceCtorEq,Nat.reducePow,Nat.reduceLeDiff,Int.reduceLE,Int.reduceLT,Int.reduceToNat,Int.reduceEq,Nat.reduceBEq])
   all_goals simp[*]
theorem AU (c:ay)(ok:StOk c.s)(i:Int):PureD Tryz.prog 169 [.rp (PM c) 0,intD i] (.tup [intD (jg c i).1,boolD (jg c i).2]):=by
 refine ai λR hR=>?_;have hl:=ok.lcn;unfold jg at hR;by_cases h:i<0\/(c.s.cns.length:Int)<=i
 ·rw[if_pos h]at hR;clear ok;refine aa 27 Tryz.func169 ?_;exact wkl trivial
 ·rw[if_neg h]at hR;have hi:i.toNat<c.s.cns.length:=by omega
  have s0:=aI (f:=d_) hi;rw[(eF (s:=c.s) (i:=i) (by omega)).1]at hR;clear ok;generalize c.s.cns[i.toNat]=x at*;refine aa 27 Tryz.func169 ?_;exact wkl trivial
theorem wZ (c:ay)(ok:StOk c.s)(i:Int):PureD Tryz.prog 170 [.rp (PM c) 0,intD i] (.tup [chanD (f_ c i).1,intD (f_ c i).2.1,boolD (f_ c i).2.2]):=by
 refine ai λR hR=>?_;have hl:=ok.lch;unfold f_ at hR;by_cases h:i<0\/(c.s.chs.length:Int)<=i
 ·rw[if_pos h]at hR;clear ok;refine aa 41 Tryz.func170 ?_;exact wkl trivial
 ·rw[if_neg h]at hR;have hi:i.toNat<c.s.chs.length:=by omega
  have s0:=aI (f:=bK) hi;have c1:=AU c ok (chAt c.s i).cn;rw[(dD (s:=c.s) (i:=i) (by omega)).1]at hR c1;clear ok;generalize c.s.chs[i.toNat]=x at*;generalize jg c x.cn=Y at*;refine aa 41 Tryz.func170 ?_;exact wkl trivial
theorem aaI {c:ay}(ok:StOk c.s)(i:Int):gT (f_ c i).1.oc:=by
 unfold f_ gT;split
 ·simp
 ·rename_i h;have:=(ok.chs _ (dD (s:=c.s) (i:=i) (by omega)).2).oc;unfold N12 at this;simp only;omega
structure Rq (m:MsgD):Prop where
 oend:gT m.oend
 fr:gT m.pk.fr
 de:gT m.pk.de
 seq:gT m.pk.seq
def afL (c:ay)(m:MsgD):List (Nat×Ob):=[(0,.box (oJ c 1)),(1,.arr 18 (c.past.map bM)),(2,.box ((encMsg m).map .i))]
attribute [simp,go_sem] afL
theorem aaV (c:ay)(ok:StOk c.s)(m:MsgD)(hm:Rq m):aL Tryz.prog 121 [.pt 0 0 0 0,.pt 2 0 0 0] (hF (afL c m)) (.tup [intD (iA c m).1,.i (bI (iA c m).2.1),boolD (iA c m).2.2.1,boolD (iA c m).2.2.2]) (hOf (hF (afL c m)) (afL c m)):=by
 refine ik λR R' hR hR'=>?_;have d1:iY [] []:=⟨trivial⟩
 obtain⟨rfl⟩:=hR';unfold iA at hR;by_cases k5:m.kind=5
 ·rw[if_pos k5]at hR;have c1:=Df m.oend hm.oend;generalize keyC m.oend=K at*;clear ok hm;refine aP 197 Tryz.func121 rfl rfl rfl (λo ho=>by simp[hF,lk,show o≠0 by omega,show o≠1 by omega,show o≠2 by omega,show o≠3 by omega,show o≠4 by omega,show o≠5 by omega]) ?_;exact wkl trivial
 ·rw[if_neg k5]at hR;by_cases k6:m.kind=6
  ·rw[if_pos k6]at hR;have c1:=Df m.oend hm.oend;have c2:=AU c ok m.ed;generalize keyC m.oend=K at*;generalize jg c m.ed=Y at*;clear ok hm;refine aP 197 Tryz.func121 rfl rfl rfl (λo ho=>by simp[hF,lk,show o≠0 by omega,show o≠1 by omega,show o≠2 by omega,show o≠3 by omega,show o≠4 by omega,show o≠5 by omega]) ?_;exact wkl trivial
  ·rw[if_neg k6]at hR;by_cases k7:m.kind=7
   ·rw[if_pos k7]at hR;have c1:=AU c ok m.ed;have hl:=ok.lcn;by_cases h:m.ed<0\/(c.s.cns.length:Int)<=m.ed
    ·have e:jg c m.ed=(0,false):=by unfold jg;rw[if_pos h]
     rw[e]at hR c1;simp only[Bool.false_eq_true,if_false]at hR c1;clear ok hm e;refine aP 197 Tryz.func121 rfl rfl rfl (λo ho=>by simp[hF,lk,show o≠0 by omega,show o≠1 by omega,show o≠2 by omega,show o≠3 by omega,show o≠4 by omega,show o≠5 by omega]) ?_;exact wkl trivial
    ·have e:jg c m.ed=((cnAt c.s m.ed).cl,true):=by unfold jg;rw[if_neg h]
     have hi:m.ed.toNat<c.s.cns.length:=by omega
     have s0:=aI (f:=d_) hi;have hon:=(ok.cns _ (eF (s:=c.s) (i:=m.ed) (by omega)).2).on;have c2:=Df (cnAt c.s m.ed).on (by unfold N12 at hon;unfold gT;omega);rw[e]at hR c1;simp only[if_true]at hR c1;rw[(eF (s:=c.s) (i:=m.ed) (by omega)).1]at hR c1 c2;clear ok hm e hon;generalize c.s.cns[m.ed.toNat]=x at*;generalize keyC x.on=K at*;refine aP 197 Tryz.func121 rfl rfl rfl (λo ho=>by simp[hF,lk,show o≠0 by omega,show o≠1 by omega,show o≠2 by omega,show o≠3 by omega,show o≠4 by omega,show o≠5 by omega]) ?_;exact wkl trivial
   ·rw[if_neg k7]at hR;by_cases k9:m.kind=9
    ·rw[if_pos k9]at hR;have c1:=CB m.oend hm.oend;have c2:=AU c ok m.ed;generalize keyH m.oend=K at*;generalize jg c m.ed=Y at*;clear ok hm;refine aP 197 Tryz.func121 rfl rfl rfl (λo ho=>by simp[hF,lk,show o≠0 by omega,show o≠1 by omega,show o≠2 by omega,show o≠3 by omega,show o≠4 by omega,show o≠5 by omega]) ?_;exact wkl trivial
    ·rw[if_neg k9]at hR;by_cases k10:m.kind=10
     ·rw[if_pos k10]at hR;have c1:=CB m.oend hm.oend;have c2:=wZ c ok m.ed;generalize keyH m.oend=K at*;generalize f_ c m.ed=Y at*;clear ok hm;refine aP 197 Tryz.func121 rfl rfl rfl (λo ho=>by simp[hF,lk,show o≠0 by omega,show o≠1 by omega,show o≠2 by omega,show o≠3 by omega,show o≠4 by omega,show o≠5 by omega]) ?_;exact wkl trivial
     ·rw[if_neg k10]at hR;by_cases k11:m.kind=11\/m.kind=13
      ·rw[if_pos k11]at hR;have c1:=CB (f_ c m.ed).1.oc (aaI ok m.ed);have c2:=wZ c ok m.ed;generalize keyH (f_ c m.ed).1.oc=K at*;generalize f_ c m.ed=Y at*;clear ok hm;rcases k11 with k11|k11;all_goals
        refine aP 197 Tryz.func121 rfl rfl rfl (λo ho=>by simp[hF,lk,show o≠0 by omega,show o≠1 by omega,show o≠2 by omega,show o≠3 by omega,show o≠4 by omega,show o≠5 by omega]) ?_;exact wkl trivial
      ·rw[if_neg k11]at hR;have k11a:¬m.kind=11:=λe=>k11 (.inl e);have k11b:¬m.kind=13:=λe=>k11 (.inr e);clear k11;by_cases k15:m.kind=15
       ·rw[if_pos k15]at hR;have c1:=qG mK m.pk.fr m.pk.seq (by decide) hm.fr hm.seq;have c2:=wZ c ok m.pk.de;generalize keyM mK m.pk.fr m.pk.seq=K at*;generalize f_ c m.pk.de=Y at*;simp only[mK,FQ,FP]at*;clear ok hm;refine aP 197 Tryz.func121 rfl rfl rfl (λo ho=>by simp[hF,lk,show o≠0 by omega,show o≠1 by omega,show o≠2 by omega,show o≠3 by omega,show o≠4 by omega,show o≠5 by omega]) ?_;exact wkl trivial
       ·rw[if_neg k15]at hR;by_cases k16:m.kind=16
        ·rw[if_pos k16]at hR;have c1:=qG FQ m.pk.de m.pk.seq (by decide) hm.de hm.seq;have c2:=wZ c ok m.pk.fr;generalize keyM FQ m.pk.de m.pk.seq=K at*;generalize f_ c m.pk.fr=Y at*;simp only[mK,FQ,FP]at*;clear ok hm;refine aP 197 Tryz.func121 rfl rfl rfl (λo ho=>by simp[hF,lk,show o≠0 by omega,show o≠1 by omega,show o≠2 by omega,show o≠3 by omega,show o≠4 by omega,show o≠5 by omega]) ?_;exact wkl trivial
        ·rw[if_neg k16]at hR;by_cases k17:m.kind=17
         ·rw[if_pos k17]at hR;have c1:=qG FP m.pk.de m.pk.seq (by decide) hm.de hm.seq;have c2:=Og m.pk.de hm.de;have c3:=wZ c ok m.pk.fr;generalize keyM FP m.pk.de m.pk.seq=K at*;generalize keyN m.pk.de=K2 at*;generalize f_ c m.pk.fr=Y at*;simp only[mK,FQ,FP]at*;clear ok hm;cases ho:Y.1.ord
          ·simp only[ho,Bool.false_eq_true,if_false]at hR;refine aP 197 Tryz.func121 rfl rfl rfl (λo ho=>by simp[hF,lk,show o≠0 by omega,show o≠1 by omega,show o≠2 by omega,show o≠3 by omega,show o≠4 by omega,show o≠5 by omega]) ?_;exact wkl trivial
          ·simp only[ho,if_true]at hR;refine aP 197 Tryz.func121 rfl rfl rfl (λo ho=>by simp[hF,lk,show o≠0 by omega,show o≠1 by omega,show o≠2 by omega,show o≠3 by omega,show o≠4 by omega,show o≠5 by omega]) ?_;exact wkl trivial
         ·rw[if_neg k17]at hR;clear ok hm;refine aP 197 Tryz.func121 rfl rfl rfl (λo ho=>by simp[hF,lk,show o≠0 by omega,show o≠1 by omega,show o≠2 by omega,show o≠3 by omega,show o≠4 by omega,show o≠5 by omega]) ?_;exact wkl trivial
end Go.Proofs.YtdmeldhlbpdeeaaGreatDoor
