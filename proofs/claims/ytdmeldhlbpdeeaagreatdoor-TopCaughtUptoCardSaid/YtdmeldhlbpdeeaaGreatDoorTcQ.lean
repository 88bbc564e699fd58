/- A part of the proof. -/
import Derived.Test.YtdmeldhlbpdeeaaGreatDoorTcP
import Derived.Test.YtdmeldhlbpdeeaaGreatDoorGTq
set_option linter.all false
set_option maxHeartbeats 16000000
set_option maxRecDepth 20000
/- A call to which boxes are lent, that reads them and leaves them: its result bears none of them. -/
namespace Go.Abs
open Go Go.RowKit
section
variable {P:Program}{n:Nat}{σ:St}{ks:List Fr}{Q:Ex->St->Prop}{rid k:Nat}{ops:Array Oper}{rest:List It}{acc:Acc}{H:Nat->Ob}{g:FuncId}
def pts (l:List Nat):List D:=l.map λo=>.pt o 0 0 0
def hB (css:List (List D)):Nat->Ob:=λi=>match css[i]? with|some cs=>.box cs|none=>.fresh
theorem Oi:∀{l:List Nat}{i j:Nat}{o:Nat},l.Nodup->l[i]?=some o->l[j]?=some o->i=j
 |[],i,j,o,_,h,_=>by simp at h
 |a::t,0,0,o,_,_,_=>rfl
 |a::t,0,j+1,o,h,h1,h2=>by simp at h1 h2;subst h1;exact absurd (List.mem_of_getElem? h2) (List.nodup_cons.1 h).1
 |a::t,i+1,0,o,h,h1,h2=>by simp at h1 h2;subst h2;exact absurd (List.mem_of_getElem? h1) (List.nodup_cons.1 h).1
 |a::t,i+1,j+1,o,h,h1,h2=>by simp at h1 h2;rw[Oi (List.nodup_cons.1 h).2 h1 h2]
theorem PT {F:List Nat}{s:Nat->Option Nat}:∀(own:List Nat)(k:Nat),(∀j o,own[j]?=some o->s (k+j)=some o)->cvs H F s (pts own) (pts (List.range' k own.length))
 |[],_,_=>trivial
 |o::t,k,h=>by
  refine⟨?_,PT t (k+1) λj o' hj=>?_⟩
  ·simp only[cv1,cv0];exact⟨o,by simpa using h 0 o (by simp),rfl⟩
  ·have:=h (j+1) o' (by simpa using hj);rwa[show k+1+j=k+(j+1) by omega]
theorem idx_get {l:List Nat}{o:Nat}(h:o∈l):l[l.idxOf o]?=some o:=by rw[List.getElem?_eq_getElem (List.idxOf_lt_length_iff.2 h)];simp
def wV (H:Nat->Ob):List Nat->List (List D)->Prop
 |[],[]=>True
 |o::t,cs::u=>H o=.box cs/\wV H t u
 |_,_=>False
theorem boxes_get {G:Nat->Ob}:∀{own:List Nat}{css:List (List D)},wV G own css->own.length=css.length/\∀(j o:Nat)(cs:List D),own[j]?=some o->css[j]?=some cs->G o=.box cs
 |[],[],_=>⟨rfl,λj o cs h=>by simp at h⟩
 |o::t,cs::u,h=>by
  obtain⟨h1,h2⟩:=boxes_get h.2;refine⟨by simp[h1],λj o' cs' g1 g2=>?_⟩;cases j with
  |zero=>simp at g1 g2;subst g1 g2;exact h.1
  |succ j=>exact h2 j o' cs' (by simpa using g1) (by simpa using g2)
 |[],_::_,h=>h.elim
 |_::_,[],h=>h.elim
def agR (css:List (List D)):Bool:=css.all λcs=>cs.all D.val&&cs.all D.one
theorem lk_or {α:Type}{o:Nat}:∀(l:List (Nat×α)),(∀d d',lk l d o=lk l d' o)\/(∀d,lk l d o=d)
 |[]=>.inr λ_=>rfl
 |(i,x)::t=>by
  by_cases h:o=i
  ·left;intro d d';simp[lk,h]
  ·rcases lk_or (o:=o) t with h1|h1
   ·left;intro d d';simp[lk,h,h1 d d']
   ·right;intro d;simp[lk,h,h1]
theorem aeo (objs:List (Nat×Ob)):hOf (hF objs) objs=hF objs:=by
 funext o;unfold hOf hF;rcases lk_or (o:=o) objs with h|h
 ·exact h _ _
 ·rw[h,h]
theorem hB4 {a b c d:List D}:hB [a,b,c,d]=hF [(0,.box a),(1,.box b),(2,.box c),(3,.box d)]:=by
 funext i
 match i with
 |0=>rfl|1=>rfl|2=>rfl|3=>rfl
 |i+4=>simp[hB,hF,lk]
theorem hB5 {a b c d e:List D}:hB [a,b,c,d,e]=hF [(0,.box a),(1,.box b),(2,.box c),(3,.box d),(4,.box e)]:=by
 funext i
 match i with
 |0=>rfl|1=>rfl|2=>rfl|3=>rfl|4=>rfl
 |i+5=>simp[hB,hF,lk]
theorem hB3 {a b c:List D}:hB [a,b,c]=hF [(0,.box a),(1,.box b),(2,.box c)]:=by
 funext i
 match i with
 |0=>rfl|1=>rfl|2=>rfl
 |i+3=>simp[hB,hF,lk]
theorem hB2 {a b:List D}:hB [a,b]=hF [(0,.box a),(1,.box b)]:=by
 funext i
 match i with
 |0=>rfl|1=>rfl
 |i+2=>simp[hB,hF,lk]
end
end Go.Abs
/- A call with one argument by value, to which boxes are lent: they are left as they were. -/
namespace Go.Abs
open Go Go.RowKit
section
variable {P:Program}{n:Nat}{σ:St}{ks:List Fr}{Q:Ex->St->Prop}{rid k:Nat}{ops:Array Oper}{rest:List It}{acc:Acc}{H:Nat->Ob}{g:FuncId}
theorem Vk {x:I}{css:List (List D)}{r:D}{own:List Nat}(hL:aL P g (.i x::pts (List.range' 0 own.length)) (hB css) r (hB css))(hlen:own.length=css.length)(hnd:own.Nodup)
  (hown:∀(j o:Nat) (cs:List D),own[j]?=some o->css[j]?=some cs->H o=.box cs) (hc:∀cs∈css,cs.all D.val=true/\cs.all D.one=true) (hr:∀H' s',cv H' [] s' r r):aL P g (.i x::pts own) H r H:=by
 have hcs:∀{l o:Nat},own[l]?=some o->∃cs,css[l]?=some cs/\H o=.box cs/\cs.all D.val=true/\cs.all D.one=true:=by
  intro l o h
  have hl:l<css.length:=by have:=(List.getElem?_eq_some_iff.1 h).1;omega
  refine⟨css[l],List.getElem?_eq_getElem hl,hown l o _ h (List.getElem?_eq_getElem hl),hc _ (List.getElem_mem hl)⟩
 have h:=dF (H:=H) (gs:=.i x::pts own) (L2:=λa=>if a∈own then H a else .dead) (r':=r) [] (λl=>own[l]?) (λa=>if a∈own then some (own.idxOf a)else none) hL
  ⟨.inl rfl,PT own 0 λj o hj=>by rw[Nat.zero_add];exact hj⟩
  (λa=>by
   cases ha:own[a]? with
   |none =>
    left
    refine⟨?_,rfl⟩
    unfold hB
    rw[List.getElem?_eq_none (by have:=List.getElem?_eq_none_iff.1 ha;omega)]
   |some o =>
    right;right;right
    obtain⟨cs,h1,h2,h3,h4⟩:=hcs ha
    refine⟨o,rfl,?_⟩
    unfold hB
    rw[h1]
    exact⟨cs,by simpa[frz]using h2,.inl (si h3),h4⟩)
  (λa b c h1 h2 h3 h4=>Oi hnd h3 h4)
  (λa=>by
   by_cases h1:a∈own
   ·right;right;right
    refine⟨own.idxOf a,by simp[h1],?_⟩
    obtain⟨cs,g1,g2,g3,g4⟩:=hcs (idx_get h1)
    simp only[h1,if_true]
    rw[g2]
    refine⟨cs,?_,.inl (si g3),g4⟩
    unfold hB
    simp[frz,g1]
   ·right;left;simp[h1])
  (λa b c h1 h2 h3 h4=>by
   by_cases ha:a∈own
   ·by_cases hb:b∈own
    ·simp only[ha,hb,if_true,Option.some.injEq]at h3 h4
     have e1:=idx_get ha
     have e2:=idx_get hb
     rw[h3]at e1
     rw[h4,e1]at e2
     injection e2
    ·simp[hb]at h4
   ·simp[ha]at h3)
  (hr _ _)
  (λl a h=>by
   have hm:a∈own:=List.mem_of_getElem? h
   simp only[hm,if_true]
   rw[Oi hnd h (idx_get hm)])
  (λa l h=>by
   by_cases h0:a∈own
   ·simp only[h0,if_true,Option.some.injEq]at h
    subst h
    exact .inl (idx_get h0)
   ·simp[h0]at h)
 have e:(λa=>if((if a∈own then some (own.idxOf a)else none:Option Nat)).isSome then(if a∈own then H a else .dead)else frz [] H a)=H:=by
  funext a
  by_cases h1:a∈own
  ·simp[h1]
  ·simp[h1,frz]
 rw[e]at h
 exact h
theorem Kb {x:I}{css:List (List D)}{r:D}{dst:Option Nat}(own:List Nat){args:List D}(hL:aL P g (.i x::pts (List.range' 0 own.length)) (hB css) r (hB css))(hnd:own.Nodup)(ho:wV σ.H own css)(hc:agR css=true)(hr:∀H' s',cv H' [] s' r r)
  (ha:args=.i x::pts own) (h:Ro P n rid rest (σ.put dst r) ks Q):Call P n rid g args dst rest σ ks Q:=by
 subst ha;obtain⟨h1,h2⟩:=boxes_get ho;have hc':∀cs∈css,cs.all D.val=true/\cs.all D.one=true:=λcs hcs=>by have:=List.all_eq_true.1 hc cs hcs;simpa only[Bool.and_eq_true]using this
 exact⟨r,σ.H,.inl (Vk hL h1 hnd h2 hc' hr),h⟩
end
end Go.Abs
/- landtop.TopCaught: who signs what the right chain is shown; the closure, by value. -/
namespace Go.Proofs.YtdmeldhlbpdeeaaGreatDoor
open Go Go.Abs Go.RowKit Go.Proofs.YtdmeldhlbpdeeaaGreatDoor.Ty
theorem yT:eY nmA=[⟨137372978395941003,1⟩,⟨328794099354644600,1⟩,⟨939190343215927135,1⟩]:=by rw[vE (by rw[OL,EK];decide) (by rw[EK,OJ];decide)];simp[List.range_succ,OL,EK,OJ]
theorem valsA_sm:∀v∈eY nmA,v.k<18446744073709551616/\v.p<18446744073709551616:=by rw[yT];decide
theorem vF:(eY nmA).length=3:=by rw[yT];rfl
def xsA (i:Nat):ByteArray:=⟨#[97,UInt8.ofNat (48+i)]⟩
theorem nW {i:Nat}(h:i<10):seedB nmA i=unB (xsA i):=by unfold seedB;rw[Lib.itoa_nonneg,Lib.decDigits_one h];rfl
theorem BG:gQ nmA=(List.range 3).map λj=>unB (xsA j):=by unfold gQ;rw[show(0:Nat)=0 from rfl,nW (i:=0) (by decide),nW (i:=1) (by decide),nW (i:=2) (by decide)];rfl
theorem MP:Rl (gQ nmA):=by rw[BG];exact⟨by decide,by decide⟩
def tVA:Nat->List dA
 |0=>[]
 |i+1=>Dz (tVA i) ⟨keyF (unB (xsA i)),1⟩
def RP (i:Nat):List (List UInt8):=(List.range i).map λj=>unB (xsA j)
theorem Mt:∀i,(tVA i).length=i
 |0=>rfl
 |i+1=>by rw[tVA,Iq,Mt i]
theorem afY:tVA 3=eY nmA:=by
 have k0:keyF (unB (xsA 0))=137372978395941003:=by rw[<- nW (by decide)];exact OL
 have k1:keyF (unB (xsA 1))=328794099354644600:=by rw[<- nW (by decide)];exact EK
 have k2:keyF (unB (xsA 2))=939190343215927135:=by rw[<- nW (by decide)];exact OJ
 rw[yT];simp[tVA,Dz,plT,k0,k1,k2]
theorem hdC_sm {r:List UInt8}(hr:r.length=32):Li (hdC r) :=
 ⟨(show nmA.size<=1048576 by decide),by rw[show(hdC r).root.length=32 from hr];decide,by rw[show(hdC r).vals.length=32 from oI _];decide,by rw[show(hdC r).next.length=32 from oI _];decide⟩
theorem valsA_le:(eY nmA).length<=1048576:=by rw[vF];decide
theorem aaz:(digestV (eY nmA)).length<=1048576:=by rw[oI];decide
theorem V_ {r:List UInt8}(hr:r.length=32):Yo (upC r):=by
 have e1:(sgC r).vals=eY nmA:=by simp only[sgC]
 have e2:(upC r).tr=eY nmA:=by simp only[upC]
 have e3:(upC r).sg.hdr.next=digestV (eY nmA):=by simp only[upC,sgC,hdC]
 have e4:(sgC r).votes=(eY nmA).map (eO (hdC r) (gQ nmA)):=by simp only[sgC]
 have e5:(upC r).sg=sgC r:=by simp only[upC]
 have h1:VJ (sgC r):=⟨hdC_sm hr,by rw[e1];exact valsA_le,by rw[e1];exact valsA_sm,λx hx=>by rw[e4]at hx;obtain⟨v,_,rfl⟩:=List.mem_map.1 hx;exact yR _ _ _⟩
 exact⟨by rw[e5];exact h1,by rw[e2];exact valsA_le,by rw[e2];exact valsA_sm,by rw[e3];exact aaz⟩
theorem aaK {r r':List UInt8}(hr:r.length=32)(hr':r'.length=32){k s:Int}:JZ (oneL k s (catM r r')):=by
 have n0:gT 0:=by unfold gT;decide
 exact⟨⟨zeroMsg_sm.kn,V_ hr,V_ hr',zeroMsg_sm.tn,zeroMsg_sm.td,zeroMsg_sm.ts,zeroMsg_sm.tr,zeroMsg_sm.fr,zeroMsg_sm.de,zeroMsg_sm.data,zeroMsg_sm.ack⟩,⟨n0,n0,n0,n0⟩⟩
attribute [local go_sem] List.map_cons List.map_nil
theorem aho (r:List UInt8)(hr:r.length=32)(k0 k1:aT)(h0:k0.h=9)(h1:k1.h=10)(h2:k1.t=10):
  aL Tryz.prog 23 (.i (bI r)::pts (List.range' 0 5)) (hB [(gL k1).map .i,[.i (bI (digestV (eY nmA)))],[.i (valsI (eY nmA))],[.i (bbI (gQ nmA))],(gL k0).map .i]) (YM (upC r)) (hB [(gL k1).map .i,[.i (bI (digestV (eY nmA)))],[.i (valsI (eY nmA))],[.i (bbI (gQ nmA))],(gL k0).map .i]):=by
 rw[hB5];show aL _ _ [_,.pt 0 0 0 0,.pt 1 0 0 0,.pt 2 0 0 0,.pt 3 0 0 0,.pt 4 0 0 0] _ _ _;obtain⟨a0,b0,d0,e0⟩:=k0;obtain⟨a1,b1,r1,e1⟩:=k1;simp only at h0 h1 h2;subst h0;subst h1;subst h2;refine ik λR R' hR hR'=>?_;rw[<- aeo]at hR';have c1:=EP (hdC r) (eY nmA) (gQ nmA) (hdC_sm hr) (by rw[vF];decide) valsA_sm MP;rw[Tc hr]at c1;simp only[hdC,sgC,upC,nmA,LC,mU,YM,gL,votesI,valsI,bbI,intD]at c1 hR hR'⊢;generalize List.map IY _=VX at*;generalize List.map bW _=VV at*;generalize List.map _ (gQ _)=SS at*;generalize digestV _=DV at*;have d1:iY [] []:=⟨trivial⟩
 obtain⟨rfl⟩:=hR;obtain⟨rfl⟩:=hR';refine aP 29 Tryz.func23 rfl rfl rfl (λo ho=>by simp[hF,lk,show o≠0 by omega,show o≠1 by omega,show o≠2 by omega,show o≠3 by omega,show o≠4 by omega,show o≠5 by omega]) ?_;exact wkl trivial
end Go.Proofs.YtdmeldhlbpdeeaaGreatDoor
