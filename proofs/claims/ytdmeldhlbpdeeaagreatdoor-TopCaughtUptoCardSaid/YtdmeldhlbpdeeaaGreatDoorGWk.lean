/- Merged texts: Wn, Wq, Tab. -/
import Derived.Test.YtdmeldhlbpdeeaaGreatDoorRow2
set_option linter.all false
namespace Go.Abs
open Go Go.RowKit
def Wz (b:Nat):D->D
 | .os o sz off len=>.os (b+o) sz off len
 | .pt o sz i c=>.pt (b+o) sz i c
 |d=>d
def abv (b:Nat):D->D
 | .agg cs=>.agg (cs.map (Wz b))
 |d=>Wz b d
def Wy (b:Nat):D->D
 | .tup ds=>.tup (ds.map (abv b))
 |d=>abv b d
def Nf (b:Nat):Ob->Ob
 | .box cs=>.box (cs.map (Wz b))
 |x=>x
def okC (ks:List Nat):D->Bool
 | .i _ | .un | .any | .rp _ _=>true
 | .os o _ _ _ | .pt o _ _ _=>ks.contains o
 |_=>false
def okA (ks:List Nat):D->Bool
 | .agg cs=>cs.all (okC ks)
 |d=>okC ks d
def okT (ks:List Nat):D->Bool
 | .tup ds=>ds.all (okA ks)
 |d=>okA ks d
def okO (ks:List Nat):Ob->Bool
 | .arr _ _ | .fz _ _=>true
 | .box cs=>cs.all (okC ks)&&cs.all D.one
 |_=>false
def Ea (b:Nat):List (Nat×Ob)->(Nat->Ob)->Nat->Ob
 |[],H=>H
 |p::t,H=>upd (Ea b t H) (b+p.1) (Nf b p.2)
def frL (b:Nat)(H:Nat->Ob):List (Nat×Ob)->Bool
 |[]=>true
 |p::t=>(match H (b+p.1)with | .fresh=>true|_=>false)&&frL b H t
def fnd {α:Type}:List (Nat×α)->Nat->Option α
 |[],_=>none
 |(j,x)::t,i=>if i=j then some x else fnd t i
theorem Xe {α:Type}{l:List (Nat×α)}{d:α}{i:Nat}:lk l d i=(fnd l i).getD d:=by
 induction l with
 |nil=>rfl
 |cons p t ih =>
  obtain⟨j,x⟩:=p;simp only[lk,fnd];by_cases h:i=j
  ·simp[h]
  ·simp[h,ih]
theorem EY {α β:Type}{l:List (Nat×α)}{f:Nat->α->β}{b k:Nat}:fnd (l.map λp=>(b+p.1,f p.1 p.2)) (b+k)=(fnd l k).map (f k):=by
 induction l with
 |nil=>rfl
 |cons p t ih =>
  obtain⟨j,x⟩:=p;simp only[List.map_cons,fnd,ih];by_cases h:k=j
  ·subst h;simp
  ·rw[if_neg (by omega),if_neg h]
theorem CK {α β:Type}{l:List (Nat×α)}{f:Nat->α->β}{b a:Nat}(h:a<b):fnd (l.map λp=>(b+p.1,f p.1 p.2)) a=none:=by
 induction l with
 |nil=>rfl
 |cons p t ih =>obtain⟨j,x⟩:=p;simp only[List.map_cons,fnd,ih];rw[if_neg (by omega)]
theorem EX {α:Type}{l:List (Nat×α)}{k:Nat}{x:α}(h:fnd l k=some x):(k,x)∈l:=by
 induction l with
 |nil=>cases h
 |cons p t ih =>
  obtain⟨j,y⟩:=p;simp only[fnd]at h;split at h
  ·rename_i e;subst e;cases h;simp
  ·exact List.mem_cons_of_mem _ (ih h)
theorem fnd_key {α:Type}{l:List (Nat×α)}{k:Nat}(h:(l.map (·.1)).contains k=true):∃x,fnd l k=some x:=by
 induction l with
 |nil=>simp at h
 |cons p t ih =>
  obtain⟨j,y⟩:=p;simp only[fnd];by_cases e:k=j
  ·exact⟨y,by simp[e]⟩
  ·rw[if_neg e];refine ih ?_;simp only[List.map_cons,List.contains_cons,Bool.or_eq_true,beq_iff_eq]at h;exact h.resolve_left e
theorem Md (b:Nat)(H:Nat->Ob):∀(l:List (Nat×Ob)),Ea b l H=λa=>(fnd (l.map λp=>(b+p.1,Nf b p.2)) a).getD (H a)
 |[]=>rfl
 |p::t=>by
  funext a;simp only[Ea,Md b H t,List.map_cons,fnd];by_cases h:a=b+p.1
  ·subst h;simp[upd]
  ·simp[upd,h]
theorem Pn {b:Nat}{H:Nat->Ob}:∀{l:List (Nat×Ob)},frL b H l=true->∀{k:Nat}{x:Ob},fnd l k=some x->H (b+k)=.fresh
 |(j,y)::t,h,k,x,hx=>by
  simp only[frL,Bool.and_eq_true]at h;simp only[fnd]at hx;split at hx
  ·rename_i e;subst e;revert h;cases H (b+k)<;>simp
  ·exact Pn h.2 hx
section
variable {P:Program}{n:Nat}{σ:St}{ks:List Fr}{Q:Ex->St->Prop}{rid k:Nat}{ops:Array Oper}{rest:List It}{acc:Acc}{H:Nat->Ob}{g:FuncId}
def LB (b:Nat)(objs:List (Nat×Ob))(a:Nat):Option Nat:=fnd (objs.map λp=>(b+p.1,p.1)) a
theorem rD {b k:Nat}{objs:List (Nat×Ob)}:LB b objs (b+k)=(fnd objs k).map λ_=>k:=EY (f:=λj _=>j)
theorem pF {b:Nat}{objs:List (Nat×Ob)}{L:Nat->Ob}{d:D}(h:okC (objs.map (·.1)) d=true):cv0 L [] (LB b objs) d (Wz b d):=by
 cases d with
 |i x=>exact .inl rfl
 |un=>exact rfl
 |any=>exact trivial
 |rp xs c=>exact rfl
 |os o sz off len =>obtain⟨x,hx⟩:=fnd_key h;exact .inl ⟨o,by rw[rD,hx];rfl,rfl⟩
 |pt o sz i c =>obtain⟨x,hx⟩:=fnd_key h;exact⟨o,by rw[rD,hx];rfl,rfl⟩
 |_=>simp[okC]at h
theorem Fh {b:Nat}{objs:List (Nat×Ob)}{L:Nat->Ob}:∀{cs:List D},cs.all (okC (objs.map (·.1)))=true->cvL L [] (LB b objs) cs (cs.map (Wz b))
 |[],_=>trivial
 |d::t,h=>by simp only[List.all_cons,Bool.and_eq_true]at h;exact⟨pF h.1,Fh h.2⟩
theorem nH {b:Nat}{objs:List (Nat×Ob)}{L:Nat->Ob}{d:D}(h:okA (objs.map (·.1)) d=true):cv1 L [] (LB b objs) d (abv b d):=by
 cases d with
 |agg cs=>exact⟨cs,rfl,Fh h⟩
 |i x=>exact pF (b:=b) (objs:=objs) (L:=L) (d:=.i x) h
 |un=>exact pF (b:=b) (objs:=objs) (L:=L) (d:=.un) h
 |any=>exact pF (b:=b) (objs:=objs) (L:=L) (d:=.any) h
 |rp xs c=>exact pF (b:=b) (objs:=objs) (L:=L) (d:=.rp xs c) h
 |os o sz off len=>exact pF (b:=b) (objs:=objs) (L:=L) (d:=.os o sz off len) h
 |pt o sz i c=>exact pF (b:=b) (objs:=objs) (L:=L) (d:=.pt o sz i c) h
 |_=>simp[okA,okC]at h
theorem PV {b:Nat}{objs:List (Nat×Ob)}{L:Nat->Ob}:∀{cs:List D},cs.all (okA (objs.map (·.1)))=true->cvT L [] (LB b objs) cs (cs.map (abv b))
 |[],_=>trivial
 |d::t,h=>by simp only[List.all_cons,Bool.and_eq_true]at h;exact⟨nH h.1,PV h.2⟩
theorem aeO {b:Nat}{objs:List (Nat×Ob)}{L:Nat->Ob}{d:D}(h:okT (objs.map (·.1)) d=true):cv L [] (LB b objs) d (Wy b d):=by
 cases d with
 |tup cs=>exact⟨cs,rfl,PV h⟩
 |agg cs=>exact nH (b:=b) (objs:=objs) (L:=L) (d:=.agg cs) h
 |i x=>exact nH (b:=b) (objs:=objs) (L:=L) (d:=.i x) h
 |un=>exact nH (b:=b) (objs:=objs) (L:=L) (d:=.un) h
 |any=>exact nH (b:=b) (objs:=objs) (L:=L) (d:=.any) h
 |rp xs c=>exact nH (b:=b) (objs:=objs) (L:=L) (d:=.rp xs c) h
 |os o sz off len=>exact nH (b:=b) (objs:=objs) (L:=L) (d:=.os o sz off len) h
 |pt o sz i c=>exact nH (b:=b) (objs:=objs) (L:=L) (d:=.pt o sz i c) h
 |_=>simp[okT,okA,okC]at h
theorem Zp {b:Nat}{d:D}(h:d.one=true):(Wz b d).one=true:=by cases d<;>first|exact h|rfl
theorem Di {b:Nat}{objs:List (Nat×Ob)}{xs ds:List D}{r:D}(F:List Nat)(hL:aL P g ds noH r (hOf noH objs))(hx:cvs H F (λ_=>none) xs ds)
  (hf:frL b H objs=true) (hF:objs.all (λp=>!F.contains (b+p.1))=true) (ho:objs.all (λp=>okO (objs.map (·.1)) p.2)=true) (hr:okT (objs.map (·.1)) r=true):
  aL P g xs H (Wy b r) (Ea b objs (frz F H)):=by
 have hL':∀{k x},fnd objs k=some x->hOf noH objs k=x:=λh=>by simp only[hOf];rw[Xe,h];rfl
 have h:=dF (H:=H) (gs:=xs) (L2:=λa=>(fnd (objs.map λp=>(b+p.1,Nf b p.2)) a).getD .dead) (r':=Wy b r) F (λ_=>none) (LB b objs) hL
  hx
  (λa=>.inl ⟨rfl,rfl⟩)
  (λa b c h1 h2 h3 h4=>by simp at h3)
  (λa=>by
   by_cases hb:a<b
   ·right;left;rw[CK (f:=λ_ x=>Nf b x) hb];rfl
   ·obtain⟨k,rfl⟩:∃k,a=b+k:=⟨a-b,by omega⟩
    rw[EY (f:=λ_ x=>Nf b x)]
    cases e:fnd objs k with
    |none=>right;left;rfl
    |some x =>
     right;right;right
     refine⟨k,by rw[rD,e];rfl,?_⟩
     rw[show frz [] (hOf noH objs)=hOf noH objs from kW _,hL' e]
     have hk:=List.all_eq_true.1 ho _ (EX e)
     cases x<;>simp[okO]at hk
     ·rename_i cs
      simp only[Option.map_some,Option.getD_some,Nf,cvO]
      refine⟨cs,rfl,.inl (Fh (List.all_eq_true.2 hk.1)),?_⟩
      refine List.all_eq_true.2 λd hd=>?_
      obtain⟨d0,hd0,rfl⟩:=List.mem_map.1 hd
      exact Zp (hk.2 d0 hd0)
     ·exact .inl rfl
     ·rfl)
  (λa1 a2 c h1 h2 h3 h4=>by
   have key:∀{a:Nat},LB b objs a=some c->a=b+c:=by
    intro a ha
    by_cases hb:a<b
    ·unfold LB at ha;rw[CK (f:=λj _=>j) hb]at ha;cases ha
    ·obtain⟨k,rfl⟩:∃k,a=b+k:=⟨a-b,by omega⟩
     rw[rD]at ha
     cases e:fnd objs k with
     |none=>rw[e]at ha;cases ha
     |some x=>rw[e]at ha;cases ha;rfl
   rw[key h3,key h4])
  (aeO hr)
  (λl a h=>by simp at h)
  (λa l h=>by
   right
   by_cases hb:a<b
   ·unfold LB at h;rw[CK (f:=λj _=>j) hb]at h;cases h
   ·obtain⟨k,rfl⟩:∃k,a=b+k:=⟨a-b,by omega⟩
    rw[rD]at h
    cases e:fnd objs k with
    |none=>rw[e]at h;cases h
    |some x =>
     refine⟨Pn hf e,?_⟩
     have:=List.all_eq_true.1 hF _ (EX e)
     simpa using this)
 have e:(λa=>if(LB b objs a).isSome then(fnd (objs.map λp=>(b+p.1,Nf b p.2)) a).getD .dead else frz F H a)=Ea b objs (frz F H):=by
  rw[Md]
  funext a
  by_cases hb:a<b
  ·have h1:LB b objs a=none:=CK (f:=λj _=>j) hb
   rw[h1,CK (f:=λ_ x=>Nf b x) hb];rfl
  ·obtain⟨k,rfl⟩:∃k,a=b+k:=⟨a-b,by omega⟩
   rw[rD,EY (f:=λ_ x=>Nf b x)]
   cases fnd objs k<;>rfl
 rw[e]at h
 exact h
def frB (H:Nat->Ob)(objs:List (Nat×Ob)):Nat:=if frL 900 H objs then 900 else if frL 910 H objs then 910 else if frL 920 H objs then 920 else if frL 930 H objs then 930 else if frL 940 H objs then 940 else if frL 950 H objs then 950 else if frL 960 H objs then 960 else 970
def okN (σ:St)(objs:List (Nat×Ob))(r:D):Bool:=frL (frB σ.H objs) σ.H objs&&objs.all (λp=>okO (objs.map (·.1)) p.2)&&okT (objs.map (·.1)) r
theorem RA {objs:List (Nat×Ob)}{xs ds:List D}{r:D}{dst:Option Nat}(hL:aL P g ds noH r (hOf noH objs))(hc:cvs σ.H [] (λ_=>none) xs ds)(hx:okN σ objs r=true)
  (h:Ro P n rid rest (St.put ⟨σ.sl,Ea (frB σ.H objs) objs σ.H⟩ dst (Wy (frB σ.H objs) r)) ks Q):Call P n rid g xs dst rest σ ks Q:=by
 simp only[okN,Bool.and_eq_true]at hx;have:=Di (H:=σ.H) [] hL hc hx.1.1 (by simp) hx.1.2 hx.2;rw[kW]at this;exact⟨_,_,.inl this,h⟩
theorem FV {b j:Nat}{G:Nat->Ob}:∀{objs:List (Nat×Ob)},j ∉ objs.map (λp=>b+p.1)->Ea b objs G j=G j
 |[],_=>rfl
 |p::t,h=>by simp only[List.map_cons,List.mem_cons,not_or]at h;simp only[Ea];rw[upd_ne _ _ h.1];exact FV h.2
theorem Mc {b j:Nat}{G G':Nat->Ob}:∀{objs:List (Nat×Ob)},j∈objs.map (λp=>b+p.1)->Ea b objs G j=Ea b objs G' j
 |p::t,h=>by
  simp only[Ea];by_cases e:j=b+p.1
  ·subst e;rw[upd_same,upd_same]
  ·rw[upd_ne _ _ e,upd_ne _ _ e];simp only[List.map_cons,List.mem_cons]at h;exact Mc (h.resolve_left e)
theorem CG {b:Nat}{G G':Nat->Ob}:∀{objs:List (Nat×Ob)},mo (objs.map λp=>b+p.1) G G'->frL b G objs=frL b G' objs
 |[],_=>rfl
 |p::t,h=>by simp only[frL];rw[h (b+p.1) (by simp),CG λk hk=>h k (by simp at hk⊢;exact .inr hk)]
theorem Lr {objs:List (Nat×Ob)}{xs ds:List D}{r:D}{dst:Option Nat}(hL:aL P g ds noH r (hOf noH objs))(hc:∀G,cvs G [] (λ_=>none) xs ds)(hx:okN σ objs r=true)
  (h:Rd P n rid ops rest ((k,objs.map (λp=>frB σ.H objs+p.1),objs.map (λp=>frB σ.H objs+p.1))::acc) (St.put ⟨σ.sl,Ea (frB σ.H objs) objs σ.H⟩ dst (Wy (frB σ.H objs) r)) ks Q):mr P n rid ops g xs k dst rest acc σ ks Q:=by
 simp only[okN,Bool.and_eq_true]at hx;refine⟨⟨Wy (frB σ.H objs) r,_,_,λG=>Ea (frB σ.H objs) objs G⟩,⟨⟨λ_ h=>h,λG j hj=>FV hj,λG G' _ j hj=>Mc hj⟩,λG hG=>?_⟩,h⟩;have:=Di (H:=G) [] hL (hc G) (by rw[CG hG];exact hx.1.1) (by simp) hx.1.2 hx.2;rw[kW]at this;exact .inl this
def D.valA:D->Bool
 | .agg cs=>cs.all D.val
 |d=>d.val
theorem Jd {H:Nat->Ob}{F:List Nat}{s:Nat->Option Nat}:∀{xs:List D},xs.all D.valA=true->cvs H F s xs xs
 |[],_=>trivial
 |d::t,h=>by simp only[List.all_cons,Bool.and_eq_true]at h;refine⟨?_,Jd h.2⟩;have h1:=h.1;cases d<;>simp only[D.valA,D.val,Bool.false_eq_true]at h1<;>first|exact⟨_,rfl,si h1⟩|simp[cv1,cv0]
theorem Dj {sz sz' len len':Nat}{es es':List (List I)}{xs:List D}(hL:aL P g (.os 0 sz 0 len::xs) (hF [(0,.arr sz es)]) (.os 1 sz' 0 len') (hOf (hF [(0,.arr sz es)]) [(1,.arr sz' es')]))
  (hx:xs.all D.valA=true) {o o':Nat}(ho:H o=.arr sz es) (hf:H o'=.fresh):aL P g (.os o sz 0 len::xs) H (.os o' sz' 0 len') (upd (upd H o .dead) o' (.arr sz' es')):=by
 have hne:o≠o':=λe=>by subst e;rw[ho]at hf;cases hf
 have h:=dF (H:=H) (gs:=.os o sz 0 len::xs) (L2:=λa=>if a=o' then .arr sz' es' else .dead) (r':=.os o' sz' 0 len') [] (λl=>if l=0 then some o else none) (λa=>if a=o then some 0 else if a=o' then some 1 else none) hL
  ⟨by simp[cv1,cv0],Jd hx⟩
  (λa=>by
   by_cases h0:a=0
   ·subst h0;right;right;right;exact⟨o,by simp,by simp[hF,lk,cvO,frz,ho]⟩
   ·left;simp[hF,lk,h0])
  (λa b c h1 h2 h3 h4=>by simp at h3 h4;omega)
  (λa=>by
   by_cases h1:a=o'
   ·subst h1;right;right;right;exact⟨1,by simp[hne.symm],by simp[hOf,lk,cvO,frz]⟩
   ·right;left;simp[h1])
  (λa b c h1 h2 h3 h4=>by
   by_cases ha:a=o'<;>by_cases hb:b=o'
   ·rw[ha,hb]
   ·simp[hb,Ob.own]at h2
   ·simp[ha,Ob.own]at h1
   ·simp[ha,Ob.own]at h1)
  (by simp[cv,cv1,cv0,hne.symm])
  (λl a h=>by
   by_cases h0:l=0
   ·subst h0;simp at h;subst h;simp
   ·simp[h0]at h)
  (λa l h=>by
   by_cases h0:a=o
   ·subst h0;simp at h;subst h;left;simp
   ·simp[h0]at h;right;rw[h.1];exact⟨hf,by simp⟩)
 have e:(λa=>if((if a=o then some 0 else if a=o' then some 1 else none:Option Nat)).isSome then(if a=o' then Ob.arr sz' es' else .dead)else frz [] H a)=upd (upd H o .dead) o' (.arr sz' es'):=by
  funext a;by_cases h1:a=o'
  ·subst h1;simp[upd,hne.symm]
  ·by_cases h2:a=o
   ·subst h2;simp[upd,h1]
   ·simp[upd,h1,h2,frz]
 rw[e]at h;exact h
end
attribute [simp] cvs Wz abv Wy Nf okC okA okT okO Ea frL frB okN D.val D.valA
attribute [go_sem] Wz abv Wy Nf Ea frL frB
def LEs (F:List Nat)(src:List (Nat×Nat))(n:Nat)(σ:St)(slots:List (Nat×D))(objs:List (Nat×Ob)):Prop:=(src=src/\F=F)/\LE n σ (dP slots objs)
theorem zW {n:Nat}{σ:St}(slots:List (Nat×D))(objs:List (Nat×Ob)){F:List Nat}{src:List (Nat×Nat)}
  (hs:∀p∈slots,cv σ.H F (az src) (σ.sl p.1) p.2) (ho:∀p∈objs,aX σ.H F (az src) p)
  (hk:(src.all λp=>objs.any λq=>q.1==p.1)=true) (hinj:(src.all λp=>(decide (100<=p.2)||objs.all λq=>q.1 != p.2)&&src.all λq=>p.2 != q.2||p.1==q.1)=true):LEs F src n σ slots objs :=
 ⟨⟨rfl,rfl⟩,aj slots objs F src hs ho hk hinj⟩
theorem bk (F:List Nat)(src:List (Nat×Nat)){n:Nat}{σ:St}{slots:List (Nat×D)}{objs:List (Nat×Ob)}{A R:Prop}(h:LE n σ (dP slots objs)->A->R):LEs F src n σ slots objs->A->R:=λg=>h g.2
theorem dB (F:List Nat)(src:List (Nat×Nat)){n:Nat}{σ:St}{slots:List (Nat×D)}{objs:List (Nat×Ob)}(h:LEs F src n σ slots objs:=by(refine zW _ _ ?_ ?_ rfl rfl<;>(first|(simp[Int.natCast_add,Int.natCast_zero,Int.natCast_one];done)|(simp[Int.natCast_add,Int.natCast_zero,Int.natCast_one, *];done)))):LE n σ (dP slots objs):=h.2
structure iY (F:List Nat) (src:List (Nat×Nat)):Prop where
 ok:True
def UD (x:Option (List D))(H:Nat->Ob)(F:List Nat)(s:Nat->Option Nat)(r:D):Prop :=
 match x with
 |some ds=>cv H F s (Br ds) r
 |none=>False
theorem fin_d {P:Program}{sl:Nat->D}{H H0:Nat->Ob}{fn:Func}{r:D}{rs:List ResultVar}{objs:List (Nat×Ob)}{F:List Nat}{src:List (Nat×Nat)}(_d:iY F src)(h:fn.results=rs.toArray)
  (hv:UD (Gr P ⟨sl,H⟩ rs) H F (jc H0 src) r) (ho:∀p∈objs,aX H F (jc H0 src) p)
  (hk:(src.all λp=>objs.any λq=>q.1==p.1)=true) (hf:∀p∈src,H0 p.2=.fresh) (hinj:(src.all λp=>src.all λq=>p.2 != q.2||p.1==q.1)=true):Fin P fn H0 r (hOf H0 objs) .ret ⟨sl,H⟩:=by
 cases hx:Gr P ⟨sl,H⟩ rs with
 |none=>rw[hx]at hv;exact hv.elim
 |some ds =>rw[hx]at hv;have:=vS hx;refine⟨Br ds,?_,Co objs F src hv ho hk hf hinj⟩;unfold BN;rw[h];rw[show rs.toArray.toList=rs from rfl,this];rcases ds with _|⟨d,_|⟨d',t⟩⟩<;>rfl
theorem sl_nil {K:Ctx}{v:Value}(h:VD K v (.i (.sl []))):∃a c,v=.slice a 0 c:=by
 cases h with
 |i hx =>
  cases hx with
  |e a c=>exact⟨a,c,rfl⟩
  |sl b off cap sz es f h1 h2=>exact⟨_,_,rfl⟩
def rY:Ob->Bool
 | .fresh=>true
 |_=>false
def frs (H:Nat->Ob):Nat:=if rY (H 901)=true then 901 else if rY (H 902)=true then 902 else if rY (H 903)=true then 903 else if rY (H 904)=true then 904 else if rY (H 905)=true then 905 else if rY (H 906)=true then 906 else if rY (H 907)=true then 907 else if rY (H 908)=true then 908 else if rY (H 909)=true then 909 else if rY (H 910)=true then 910 else if rY (H 911)=true then 911 else if rY (H 912)=true then 912 else if rY (H 913)=true then 913 else 914
theorem jV {x:Ob}(h:rY x=true):x=.fresh:=by cases x<;>first|rfl|cases h
section
variable {P:Program}{n:Nat}{σ:St}{ks:List Fr}{Q:Ex->St->Prop}{rid k:Nat}{ops:Array Oper}{rest:List It}{acc:Acc}{g:FuncId}{sz sz2 sz' len len2 len' o o2:Nat}{es es2 es':List (List I)}{xs:List D}{x:D}{dst:Option Nat}
theorem Rz (hL:aL P g xs noH (.os 1 sz' 0 len') (hOf noH [(1,.arr sz' es')]))(hf:rY (σ.H (frs σ.H))=true)(hx:xs.all D.val=true)(h:Ro P n rid rest (St.put ⟨σ.sl,upd σ.H (frs σ.H) (.arr sz' es')⟩ dst (.os (frs σ.H) sz' 0 len')) ks Q):Call P n rid g xs dst rest σ ks Q :=
 Ka _ hL (jV hf) hx h
theorem Lm (hL:aL P g xs noH (.os 1 sz' 0 len') (hOf noH [(1,.arr sz' es')]))(hf:rY (σ.H (frs σ.H))=true)(hx:xs.all D.val=true)(h:Rd P n rid ops rest ((k,[frs σ.H],[frs σ.H])::acc) (St.put ⟨σ.sl,upd σ.H (frs σ.H) (.arr sz' es')⟩ dst (.os (frs σ.H) sz' 0 len')) ks Q):mr P n rid ops g xs k dst rest acc σ ks Q :=
 rq _ hL (jV hf) hx h
theorem RD (hL:aL P g (.os 0 sz 0 len::xs) (hF [(0,.arr sz es)]) (.os 1 sz' 0 len') (hOf (hF [(0,.arr sz es)]) [(1,.arr sz' es')]))(ho:σ.H o=.arr sz es)(hf:rY (σ.H (frs σ.H))=true)(hx:xs.all D.valA=true)(h:Ro P n rid rest (St.put ⟨σ.sl,upd (upd σ.H o .dead) (frs σ.H) (.arr sz' es')⟩ dst (.os (frs σ.H) sz' 0 len')) ks Q):Call P n rid g (.os o sz 0 len::xs) dst rest σ ks Q :=
 ⟨_,_,.inl (Dj hL hx ho (jV hf)),h⟩
theorem Lt (hL:aL P g (.os 0 sz 0 len::xs) (hF [(0,.arr sz es)]) (.os 1 sz' 0 len') (hOf (hF [(0,.arr sz es)]) [(1,.arr sz' es')]))(ho:σ.H o=.arr sz es)(hf:rY (σ.H (frs σ.H))=true)(hx:xs.all D.valA=true)(h:Rd P n rid ops rest ((k,[o,frs σ.H],[o,frs σ.H])::acc) (St.put ⟨σ.sl,upd (upd σ.H o .dead) (frs σ.H) (.arr sz' es')⟩ dst (.os (frs σ.H) sz' 0 len')) ks Q):mr P n rid ops g (.os o sz 0 len::xs) k dst rest acc σ ks Q:=by
 refine⟨⟨.os (frs σ.H) sz' 0 len',[o,frs σ.H],[o,frs σ.H],λG=>upd (upd G o .dead) (frs σ.H) (.arr sz' es')⟩,⟨⟨λ_ h=>h,λG k hk=>?_,λG G' _ k hk=>?_⟩,λG hG=>.inl (Dj hL hx ((hG o (by simp)).trans ho) ((hG (frs σ.H) (by simp)).trans (jV hf)))⟩,h⟩
 ·simp at hk;simp[upd,hk.1,hk.2]
 ·simp at hk;rcases hk with rfl|rfl<;>simp[upd]
theorem Ll (hL:aL P g [.os 0 sz 0 len,x,.os 2 sz2 0 len2] (hF [(0,.arr sz es),(2,.arr sz2 es2)]) (.os 1 sz' 0 len') (hOf (hF [(0,.arr sz es),(2,.arr sz2 es2)]) [(1,.arr sz' es')]))(ho:σ.H o=.arr sz es)(ho2:σ.H o2=.arr sz2 es2)(hf:rY (σ.H (frs σ.H))=true)(hx:(x.val&&o != o2)=true)
  (h:Ro P n rid rest (St.put ⟨σ.sl,upd (upd (upd σ.H o .dead) o2 .dead) (frs σ.H) (.arr sz' es')⟩ dst (.os (frs σ.H) sz' 0 len')) ks Q):Call P n rid g [.os o sz 0 len,x,.os o2 sz2 0 len2] dst rest σ ks Q :=
 RF _ hL ho ho2 (jV hf) hx h
theorem FI (hL:aL P g [.os 0 sz 0 len,x,.os 2 sz2 0 len2] (hF [(0,.arr sz es),(2,.arr sz2 es2)]) (.os 1 sz' 0 len') (hOf (hF [(0,.arr sz es),(2,.arr sz2 es2)]) [(1,.arr sz' es')]))(ho:σ.H o=.arr sz es)(ho2:σ.H o2=.arr sz2 es2)(hf:rY (σ.H (frs σ.H))=true)(hx:(x.val&&o != o2)=true)
  (h:Rd P n rid ops rest ((k,[o,o2,frs σ.H],[o,o2,frs σ.H])::acc) (St.put ⟨σ.sl,upd (upd (upd σ.H o .dead) o2 .dead) (frs σ.H) (.arr sz' es')⟩ dst (.os (frs σ.H) sz' 0 len')) ks Q):mr P n rid ops g [.os o sz 0 len,x,.os o2 sz2 0 len2] k dst rest acc σ ks Q :=
 Lu _ hL ho ho2 (jV hf) hx h
end
theorem Be {P:Program}{sl:Nat->D}{H H0:Nat->Ob}{fn:Func}{r:D}{objs:List (Nat×Ob)}(F:List Nat)(src:List (Nat×Nat))(h:iY F src->Fin P fn H0 r (hOf H0 objs) .ret ⟨sl,H⟩:=by intro d1;refine fin_d d1 rfl ?_ ?_ rfl ?_ rfl<;>(try simp only[go_sem,Nat.reduceLT,Nat.reduceAdd,Nat.reduceMul,reduceIte,Nat.reduceEqDiff,reduceCtorEq,Nat.reducePow,Nat.reduceLeDiff,Int.reduceLE,Int.reduceLT,Int.reduceToNat,Int.reduceEq,Nat.reduceBEq])<;>(simp;done)):Fin P fn H0 r (hOf H0 objs) .ret ⟨sl,H⟩:=h ⟨trivial⟩
theorem XR {P:Program}{t e n id:Nat}{H:Nat->Ob}{ps:List (Nat×List D)}(h:aG P t=some (.slice e))(hs:iE P e=some 1)(hz:(jo P e).map (·.cells.size)=some 1)(hn:n<=16777216)(h1:ps.map (·.1)=List.range n)
  (h2:ps.all (λp=>p.2.length=1/\p.2.all D.one)=true):bsX P t n (some ps) H .fresh id=some (.bs id 0 n,upd H id (.box (ps.flatMap (·.2)))):=by
 rw[AQ h,hs];cases hzz:jo P e with
 |none=>rw[hzz]at hz;cases hz
 |some zv =>
  rw[hzz]at hz;injection hz with hz
  rw[QL,if_pos ⟨hz,hn,h1,h2⟩]
theorem afc {P:Program}{t e:Nat}(h:aG P t=some (.slice e))(hs:iE P e=some 1)(hz:(jo P e).map (·.cells.size)=some 1)(id:Nat)(H:Nat->Ob)(o1 i1 c1 s1 o2 i2 c2 s2:Nat):
  bsX P t 2 (some [(0,[.pt o1 s1 i1 c1]),(1,[.pt o2 s2 i2 c2])]) H .fresh id=some (.bs id 0 2,upd H id (.box [.pt o1 s1 i1 c1,.pt o2 s2 i2 c2])):=by
 rw[XR h hs hz (by omega) rfl (by simp[D.one])];rfl
theorem afb {P:Program}{t e:Nat}(h:aG P t=some (.slice e))(hs:iE P e=some 1)(hz:(jo P e).map (·.cells.size)=some 1)(id:Nat)(H:Nat->Ob)(o1 i1 c1 s1 o2 i2 c2 s2 o3 i3 c3 s3:Nat):
  bsX P t 3 (some [(0,[.pt o1 s1 i1 c1]),(1,[.pt o2 s2 i2 c2]),(2,[.pt o3 s3 i3 c3])]) H .fresh id=some (.bs id 0 3,upd H id (.box [.pt o1 s1 i1 c1,.pt o2 s2 i2 c2,.pt o3 s3 i3 c3])):=by
 rw[XR h hs hz (by omega) rfl (by simp[D.one])];rfl
theorem aaQ (a:ByteArray):(a==a)=true:=(aaT a a).mpr rfl
theorem ltc {a b:Int}(h:a<b):(a<b)=True:=eq_true h
theorem ltf {a b:Int}(h:¬a<b):(a<b)=False:=eq_false h
theorem lec {a b:Int}(h:a<=b):(a<=b)=True:=eq_true h
theorem lef {a b:Int}(h:¬a<=b):(a<=b)=False:=eq_false h
theorem agE {a b:Nat}(h:a<b):(a<b)=True:=eq_true h
theorem agF {a b:Nat}(h:a<=b):(a<=b)=True:=eq_true h
attribute [simp] jc noH UD rY frs
attribute [go_sem] UD rY frs ZR ixX agy TT mkS
theorem wkA {C G Q:Prop}(c:C)(g:G)(h:PLift G->C->Q:=by
 intro hgo cc;first
  |((with_reducible refine abq cc ?_ ?_ ?_);(· (simp;done));(· first|(simp[and_assoc];done)|(simp[and_assoc, *];done)))
  |((with_reducible refine abp cc ?_ ?_);(· first|(simp[and_assoc];done)|(simp[and_assoc, *];done)))
  |((with_reducible refine VS cc ?_ ?_ ?_);(· (simp;done));(· (intro G hG;simp at hG;first|(simp[hG,and_assoc];done)|(simp[and_assoc, *];done))))
  |((with_reducible refine VR cc ?_ ?_);(· (intro G hG;simp at hG;first|(simp[hG,and_assoc];done)|(simp[and_assoc, *];done))))
 exact hgo.down):Q:=h ⟨g⟩ c
theorem wkB {C G Q:Prop}(c:C)(g:G)(h:PLift G->C->Q:=by
 intro hgo cc;first
  |((with_reducible refine Rz cc ?_ ?_ ?_);(· (simp;done));(· (simp[D.val];done)))
  |((with_reducible refine gB cc ?_ ?_ ?_);(· (simp;done));(· (simp[D.val];done)))
  |((with_reducible refine RD cc ?_ ?_ ?_ ?_);(· first|(simp;done)|(simp;rfl));(· (simp;done));(· (simp[D.val];done)))
  |((with_reducible refine Ll cc ?_ ?_ ?_ ?_ ?_);(· first|(simp;done)|(simp;rfl));(· first|(simp;done)|(simp;rfl));(· (simp;done));(· (simp[D.val];done)))
  |((with_reducible refine RA cc ?_ ?_ ?_);(· (first|(simp[and_assoc];done)|(simp[and_assoc, *];done)));(· (simp;done)))
  |((with_reducible refine Lm cc ?_ ?_ ?_);(· (simp;done));(· (simp[D.val];done)))
  |((with_reducible refine RJ cc ?_ ?_ ?_);(· (simp;done));(· (simp[D.val];done)))
  |((with_reducible refine Lt cc ?_ ?_ ?_ ?_);(· first|(simp;done)|(simp;rfl));(· (simp;done));(· (simp[D.val];done)))
  |((with_reducible refine FI cc ?_ ?_ ?_ ?_ ?_);(· first|(simp;done)|(simp;rfl));(· first|(simp;done)|(simp;rfl));(· (simp;done));(· (simp[D.val];done)))
  |((with_reducible refine Lr cc ?_ ?_ ?_);(· (intro G;first|(simp[and_assoc];done)|(simp[and_assoc, *];done)));(· (simp;done)))
 exact hgo.down):Q:=h ⟨g⟩ c
theorem wkC {C G Q:Prop}(c:C)(g:G)(h:PLift G->C->Q:=by
 intro hgo cc;first
  |((with_reducible refine abt cc ?_ ?_);(· first|(simp[and_assoc];done)|(simp[and_assoc, *];done)))
  |((with_reducible refine VT cc ?_ ?_);(· (intro G hG;simp at hG;simp[hG,and_assoc];done)))
 exact hgo.down):Q:=h ⟨g⟩ c
theorem wkD {C Q:Prop}(c:C)(h:C->Q:=by
 intro bb;first
  |((with_reducible refine bb _ hR ?_ ?_);(· (refine zW _ _ ?_ ?_ rfl rfl<;>(first|(simp[Int.natCast_add,Int.natCast_zero,Int.natCast_one];done)|(simp[Int.natCast_add,Int.natCast_zero,Int.natCast_one, *];done))));(· first|omega|(simp only;omega)))
  |((with_reducible refine bb _  ?_ ?_);(· (refine zW _ _ ?_ ?_ rfl rfl<;>(first|(simp[Int.natCast_add,Int.natCast_zero,Int.natCast_one];done)|(simp[Int.natCast_add,Int.natCast_zero,Int.natCast_one, *];done))));(· first|omega|(simp only;omega)))):Q:=h c
theorem wkl {G Q:Prop}(g:G)(h:PLift G->Q:=by
 intro hgo
 repeat' (first
  |(simp(maxSteps:=2000000) -implicitDefEqProofs only[go_sem,Nat.reduceLT,Nat.reduceAdd,Nat.reduceMul,reduceIte,Nat.reduceEqDiff,reduceCtorEq,Nat.reducePow,Nat.reduceLeDiff,Int.reduceLE,Int.reduceLT,Int.reduceToNat,Int.reduceEq,Nat.reduceBEq,lgc,not_true_eq_false,aaQ, *])
  |(with_reducible refine⟨?_,?_⟩;(· first|(obtain⟨rfl⟩:=‹Hq _ _›;with_reducible refine chk_ok ?_;kernel_rfl)|kernel_rfl))
  |(with_reducible intro ops hops)
  |(simp -implicitDefEqProofs (disch:=omega)only[afQ,YD,aI,ltc,ltf,lec,lef,agE,agF])
  |((with_reducible first|refine Fy ?_|refine AL ?_);(first|refine wkA c1 ?_|refine wkA c2 ?_|refine wkA c3 ?_|refine wkA c4 ?_|refine wkA c5 ?_|refine wkA c6 ?_|refine wkA c7 ?_|refine wkA c8 ?_|refine wkA c9 ?_|refine wkA c10 ?_|refine wkA c11 ?_|refine wkA c12 ?_|refine wkB e1 ?_|refine wkB e2 ?_|refine wkB e3 ?_|refine wkB e4 ?_|refine wkB e5 ?_|refine wkC c1 ?_|refine wkC c2 ?_|refine wkC c3 ?_|refine wkC c4 ?_|refine wkC c5 ?_|refine wkC c6 ?_|refine wkC c7 ?_|refine wkC c8 ?_|refine wkC c9 ?_|refine wkC c10 ?_|refine wkC c11 ?_|refine wkC c12 ?_))
  |((first|refine aK (λhg=>?_) (λhg=>?_)|refine xh (λhg=>?_) (λhg=>?_)|refine xk (λhg=>?_) (λhg=>?_))<;>(try simp only[nrm,eq_self,not_true_eq_false]at hg)<;>(try simp only[hg,lgc,reduceIte,reduceCtorEq]at hR)<;>(try(exfalso;omega)))
  |exact wkD b1|exact wkD b2|exact wkD b3|exact wkD b4|exact wkD b5
  |((try simp only[*,lgc,reduceIte,reduceCtorEq]at hR);(try obtain⟨rfl⟩:=hR);refine fin_q rfl ?_;(try simp only[go_sem,Nat.reduceLT,Nat.reduceAdd,Nat.reduceMul,reduceIte,Nat.reduceEqDiff,reduceCtorEq,Nat.reducePow,Nat.reduceLeDiff,Int.reduceLE,Int.reduceLT,Int.reduceToNat,Int.reduceEq,Nat.reduceBEq]);(first|(simp;done)|(simp;omega)|(simp[*];done)|(simp[*];omega)))
  |((try simp only[*,lgc,reduceIte,reduceCtorEq]at hR);(try obtain⟨rfl⟩:=hR);refine fin_d d1 rfl ?_ ?_ rfl ?_ rfl<;>(try simp only[go_sem,Nat.reduceLT,Nat.reduceAdd,Nat.reduceMul,reduceIte,Nat.reduceEqDiff,reduceCtorEq,Nat.reducePow,Nat.reduceLeDiff,Int.reduceLE,Int.reduceLT,Int.reduceToNat,Int.reduceEq,Nat.reduceBEq])<;>(simp;done)))
 all_goals(repeat(revert hg))
 all_goals(try(have hR:=hR;revert hR))
 all_goals exact hgo.down):Q:=h ⟨g⟩
theorem QE {P:Program}{f:FuncId}{ds:List D}{H H1 H2:Nat->Ob}{r r':D}(h:aL P f ds H r H1)(hl:LER H r H1 r' H2):aL P f ds H r' H2:=by refine⟨h.1,λK0 T K vs hr hrd=>(h.2 K0 T K vs hr hrd).mono ?_⟩;rintro e w' ⟨v,K',rfl,rfl,he,hr',hv⟩;obtain⟨K2,e2,x2,r2,v2⟩:=hl K0 K T K' v he (λo ho=>hr.get ho) hr' hv;exact⟨v,K2,rfl,e2,x2,r2,v2⟩
theorem Ra (es:List (List I)):acV (toD es)=true:=by simp only[acV,toD,List.all_eq_true,List.mem_map];rintro e ⟨r,_,rfl⟩ d hd;obtain⟨x,_,rfl⟩:=List.mem_map.1 hd;rfl
theorem aeQ {H:Nat->Ob}{F:List Nat}{s:Nat->Option Nat}:∀(r:List I),cvL H F s (r.map .i) (r.map .i)
 |[]=>trivial
 |x::t=>⟨.inl rfl,aeQ t⟩
theorem Aw {H:Nat->Ob}{F:List Nat}{s:Nat->Option Nat}:∀(es:List (List I)),cvW H F s (toD es) (toD es)
 |[]=>trivial
 |r::t=>⟨aeQ r,Aw t⟩
theorem Fg {H:Nat->Ob}{F:List Nat}{s:Nat->Option Nat}{r r':List D}(h:cvL H F s r r'):∀{es es':List (List D)}{i:Nat},cvW H F s es es'->cvW H F s (es.set i r) (es'.set i r')
 |[],[],i,_=>by cases i<;>trivial
 |a::t,a'::t',0,hw=>⟨h,hw.2⟩
 |a::t,a'::t',i+1,hw=>⟨hw.1,Fg h hw.2⟩
 |[],_::_,_,hw=>hw.elim
 |_::_,[],_,hw=>hw.elim
section
variable {α:Type}{f:α->List I}{l:List α}{i:Nat}
theorem YU (h:i<l.length):(toD (l.map f))[i]?=some ((f l[i]).map .i):=by simp[toD,h]
theorem YY (h:i<l.length)(row:List D):((toD (l.map f)).set i row)[i]?=some row:=by rw[List.getElem?_set_self (by simpa[toD]using h)]
theorem SF (h:i<l.length):(toD (l.map f)).set i ((f l[i]).map .i)=toD (l.map f):=by
 refine List.ext_getElem (by simp) λj h1 h2=>?_;rw[List.getElem_set];split
 ·rename_i e;subst e;simp[toD]
 ·rfl
theorem UL (h:i<l.length){H:Nat->Ob}{F:List Nat}{s:Nat->Option Nat}(row:List D)(hr:cvL H F s row ((f l[i]).map .i)):cvW H F s ((toD (l.map f)).set i row) (toD (l.map f)):=by have:=Fg (i:=i) hr (Aw (H:=H) (F:=F) (s:=s) (l.map f));rw[SF h]at this;exact this
theorem aeP {H:Nat->Ob}{F:List Nat}{s:Nat->Option Nat}(row row':List D)(hr:cvL H F s row row'):cvW H F s ((toD (l.map f)).set i row) ((toD (l.map f)).set i row'):=Fg hr (Aw _)
theorem UK {H:Nat->Ob}{F:List Nat}{s:Nat->Option Nat}(a b c:I)(o o' sz off n:Nat)(h:s o'=some o):
  cvW H F s ((toD (l.map f)).set i [.i a,.i b,.i c,.os o sz off n]) ((toD (l.map f)).set i [.i a,.i b,.i c,.os o' sz off n]) :=
 aeP _ _ ⟨.inl rfl,.inl rfl,.inl rfl,.inl ⟨o,h,rfl⟩,trivial⟩
theorem PU (h:i<l.length){H:Nat->Ob}{F:List Nat}{s:Nat->Option Nat}(a b c:I)(es:List (List I))(hl:f l[i]=[a,b,c,.sl es])(o sz off n:Nat)(ho:F.contains o=true)(he:aO H (.os o sz off n)=some es):
  cvW H F s ((toD (l.map f)).set i [.i a,.i b,.i c,.os o sz off n]) (toD (l.map f)) :=
 UL h _ (by rw[hl];exact⟨.inl rfl,.inl rfl,.inl rfl,.inr (.inr ⟨o,sz,off,n,es,rfl,by simpa using ho,he,rfl⟩),trivial⟩)
theorem aba (row:List D)(h:row.all D.one=true):acV ((toD (l.map f)).set i row)=true:=by
 unfold acV;rw[List.all_eq_true];intro e he;rcases List.mem_or_eq_of_mem_set he with he|rfl
 ·exact List.all_eq_true.1 (show((toD (l.map f)).all λe=>e.all D.one)=true from Ra _) e he
 ·exact h
end
end Go.Abs
