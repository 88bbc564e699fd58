/- Merged texts: Put, PutW, SrtP, SrtA, BkP, StB. -/
import Derived.Shelf.SlSortCmp.NoneTotal
import Derived.Shelf.Small.Bits
import Derived.Test.YtdmeldhlbpdeeaaGreatDoorGKs
import Derived.Test.YtdmeldhlbpdeeaaGreatDoorGMk
set_option linter.all false
set_option maxHeartbeats 16000000
set_option maxRecDepth 20000
namespace Go.Abs
open Go Go.RowKit
section
variable {P:Program}{n:Nat}{σ:St}{ks:List Fr}{Q:Ex->St->Prop}{rid k:Nat}{ops:Array Oper}{rest:List It}{acc:Acc}{H:Nat->Ob}{g g2:FuncId}{sz len len' c o f:Nat}{es es':List (List I)}{x y:I}{dst:Option Nat}
theorem Jy (hL:aL P g [.i x,.i y,.pt 0 0 0 0] (hF [(0,.box [.os 1 sz 0 len]),(1,.arr sz es)]) (.tup []) (hOf (hF [(0,.box [.os 1 sz 0 len]),(1,.arr sz es)]) [(0,.box [.os 2 sz 0 len']),(1,.dead),(2,.arr sz es')]))
  (hb:H c=.box [.os o sz 0 len]) (ho:H o=.arr sz es) (hf:H f=.fresh):
  aL P g [.i x,.i y,.pt c 0 0 0] H (.tup []) (upd (upd (upd H o .dead) f (.arr sz es')) c (.box [.os f sz 0 len'])):=by
 have n1:c≠o:=λe=>by subst e;rw[hb]at ho;cases ho
 have n2:c≠f:=λe=>by subst e;rw[hb]at hf;cases hf
 have n3:o≠f:=λe=>by subst e;rw[ho]at hf;cases hf
 have h:=dF (H:=H) (gs:=[.i x,.i y,.pt c 0 0 0]) (L2:=λa=>if a=f then .arr sz es' else if a=c then .box [.os f sz 0 len']else .dead) (r':=.tup []) [] (λl=>if l=0 then some c else if l=1 then some o else none) (λa=>if a=c then some 0 else if a=o then some 1 else if a=f then some 2 else none) hL
  ⟨by simp[cv1,cv0],by simp[cv1,cv0],by simp[cv1,cv0],trivial⟩
  (λa=>by
   by_cases h0:a=0
   ·subst h0;right;right;right;exact⟨c,by simp,by simp[hF,lk,cvO,cvL,cv0,frz,hb,D.one]⟩
   ·by_cases h1:a=1
    ·subst h1;right;right;right;exact⟨o,by simp,by simp[hF,lk,cvO,frz,ho]⟩
    ·left;simp[hF,lk,h0,h1])
  (λa b d h1 h2 h3 h4=>by
   by_cases a0:a=0<;>by_cases b0:b=0
   ·rw[a0,b0]
   ·simp[a0,b0]at h3 h4;exact absurd (h3.trans h4.2.symm) n1
   ·simp[a0,b0]at h3 h4;exact absurd (h4.trans h3.2.symm) n1
   ·simp[a0,b0]at h3 h4;rw[h3.1,h4.1])
  (λa=>by
   by_cases h1:a=f
   ·subst h1;right;right;right;exact⟨2,by simp[n2.symm,n3.symm],by simp[hOf,lk,cvO,frz]⟩
   ·by_cases h2:a=c
    ·subst h2;right;right;right;exact⟨0,by simp,by simp[hOf,lk,cvO,cvL,cv0,frz,n2,n2.symm,n3.symm,D.one]⟩
    ·right;left;simp[h1,h2])
  (λa b d h1 h2 h3 h4=>by
   have key:∀{z:Nat},Ob.own (if z=f then .arr sz es' else if z=c then .box [.os f sz 0 len']else .dead)->z=f\/z=c:=λ{z} hz=>by
    by_cases e1:z=f
    ·exact .inl e1
    ·by_cases e2:z=c
     ·exact .inr e2
     ·simp[e1,e2,Ob.own]at hz
   rcases key h1 with rfl|rfl<;>rcases key h2 with rfl|rfl
   ·rfl
   ·simp[n2.symm,n3.symm]at h3 h4;omega
   ·simp[n2.symm,n3.symm]at h3 h4;omega
   ·rfl)
  (by simp[cv,cvT])
  (λl a h=>by
   by_cases h0:l=0
   ·subst h0;simp at h;subst h;simp
   ·by_cases h1:l=1
    ·subst h1;simp at h;subst h;simp[n1.symm]
    ·simp[h0,h1]at h)
  (λa l h=>by
   by_cases h0:a=c
   ·subst h0;simp at h;subst h;left;simp
   ·by_cases h1:a=o
    ·subst h1;simp[h0]at h;subst h;left;simp
    ·simp[h0,h1]at h;right;rw[h.1];exact⟨hf,by simp⟩)
 have e:(λa=>if((if a=c then some 0 else if a=o then some 1 else if a=f then some 2 else none:Option Nat)).isSome then(if a=f then Ob.arr sz es' else if a=c then .box [.os f sz 0 len']else .dead)else frz [] H a)=upd (upd (upd H o .dead) f (.arr sz es')) c (.box [.os f sz 0 len']):=by
  funext a;by_cases h1:a=c
  ·subst h1;simp[upd,n2]
  ·by_cases h2:a=f
   ·subst h2;simp[upd,h1,n3.symm]
   ·by_cases h3:a=o
    ·subst h3;simp[upd,h1,h2]
    ·simp[upd,h1,h2,h3,frz]
 rw[e]at h;exact h
def RQ:Ob->Nat
 | .box [.os o _ _ _]=>o
 |_=>0
@[simp,go_sem] theorem ahv {o a b d:Nat}:RQ (.box [.os o a b d])=o:=rfl
theorem VP (hL:aL P g [.i x,.i y,.pt 0 0 0 0] (hF [(0,.box [.os 1 sz 0 len]),(1,.arr sz es)]) (.tup []) (hOf (hF [(0,.box [.os 1 sz 0 len]),(1,.arr sz es)]) [(0,.box [.os 2 sz 0 len']),(1,.dead),(2,.arr sz es')]))
  (hb:σ.H c=.box [.os (RQ (σ.H c)) sz 0 len]) (ho:σ.H (RQ (σ.H c))=.arr sz es) (hf:rY (σ.H (frs σ.H))=true)
  (h:Ro P n rid rest (St.put ⟨σ.sl,upd (upd (upd σ.H (RQ (σ.H c)) .dead) (frs σ.H) (.arr sz es')) c (.box [.os (frs σ.H) sz 0 len'])⟩ dst (.tup [])) ks Q):Call P n rid g [.i x,.i y,.pt c 0 0 0] dst rest σ ks Q :=
 ⟨_,_,.inl (Jy hL hb ho (jV hf)),h⟩
theorem RH (hL:aL P g [.i x,.i y,.pt 0 0 0 0] (hF [(0,.box [.os 1 sz 0 len]),(1,.arr sz es)]) (.tup []) (hOf (hF [(0,.box [.os 1 sz 0 len]),(1,.arr sz es)]) [(0,.box [.os 2 sz 0 len']),(1,.dead),(2,.arr sz es')]))
  (hb:σ.H c=.box [.os (RQ (σ.H c)) sz 0 len]) (ho:σ.H (RQ (σ.H c))=.arr sz es) (hf:rY (σ.H (frs σ.H))=true)
  (h:Rd P n rid ops rest ((k,[c,RQ (σ.H c),frs σ.H],[c,RQ (σ.H c),frs σ.H])::acc) (St.put ⟨σ.sl,upd (upd (upd σ.H (RQ (σ.H c)) .dead) (frs σ.H) (.arr sz es')) c (.box [.os (frs σ.H) sz 0 len'])⟩ dst (.tup [])) ks Q):mr P n rid ops g [.i x,.i y,.pt c 0 0 0] k dst rest acc σ ks Q:=by
 revert hb ho h;generalize RQ (σ.H c)=o;intro hb ho h;refine⟨⟨.tup [],[c,o,frs σ.H],[c,o,frs σ.H],λG=>upd (upd (upd G o .dead) (frs σ.H) (.arr sz es')) c (.box [.os (frs σ.H) sz 0 len'])⟩,⟨⟨λ_ h=>h,λG k hk=>?_,λG G' _ k hk=>?_⟩,λG hG=>.inl (Jy hL ((hG c (by simp)).trans hb) ((hG o (by simp)).trans ho) ((hG (frs σ.H) (by simp)).trans (jV hf)))⟩,h⟩
 ·simp at hk;simp[upd,hk.1,hk.2.1,hk.2.2]
 ·simp at hk;by_cases e1:k=c
  ·simp[upd,e1]
  ·by_cases e2:k=frs σ.H
   ·simp[upd,e1,e2]
   ·have e3:k=o:=by rcases hk with h|h|h<;>first|exact absurd h e1|exact h|exact absurd h e2
    simp[upd,e1,e2,e3]
theorem QC (hL:aL P g [.os 0 sz 0 len,.fn g2 []] (hF [(0,.arr sz es)]) (.tup []) (hOf (hF [(0,.arr sz es)]) [(0,.arr sz es')]))(ho:H o=.arr sz es):
  aL P g [.os o sz 0 len,.fn g2 []] H (.tup []) (upd H o (.arr sz es')):=by
 have h:=dF (H:=H) (gs:=[.os o sz 0 len,.fn g2 []]) (L2:=λa=>if a=o then .arr sz es' else .dead) (r':=.tup []) [] (λl=>if l=0 then some o else none) (λa=>if a=o then some 0 else none) hL
  ⟨by simp[cv1,cv0],by simp[cv1,cvL],trivial⟩
  (λa=>by
   by_cases h0:a=0
   ·subst h0;right;right;right;exact⟨o,by simp,by simp[hF,lk,cvO,frz,ho]⟩
   ·left;simp[hF,lk,h0])
  (λa b d h1 h2 h3 h4=>by simp at h3 h4;omega)
  (λa=>by
   by_cases h1:a=o
   ·subst h1;right;right;right;exact⟨0,by simp,by simp[hOf,lk,cvO,frz]⟩
   ·right;left;simp[h1])
  (λa b d h1 h2 h3 h4=>by
   by_cases ha:a=o<;>by_cases hb:b=o
   ·rw[ha,hb]
   ·simp[hb,Ob.own]at h2
   ·simp[ha,Ob.own]at h1
   ·simp[ha,Ob.own]at h1)
  (by simp[cv,cvT])
  (λl a h=>by
   by_cases h0:l=0
   ·subst h0;simp at h;subst h;simp
   ·simp[h0]at h)
  (λa l h=>by
   by_cases h0:a=o
   ·subst h0;simp at h;subst h;left;simp
   ·simp[h0]at h)
 have e:(λa=>if((if a=o then some 0 else none:Option Nat)).isSome then(if a=o then Ob.arr sz es' else .dead)else frz [] H a)=upd H o (.arr sz es'):=by
  funext a
  by_cases h1:a=o
  ·subst h1;simp[upd]
  ·simp[upd,h1,frz]
 rw[e]at h
 exact h
theorem RB (hL:aL P g [.os 0 sz 0 len,.fn g2 []] (hF [(0,.arr sz es)]) (.tup []) (hOf (hF [(0,.arr sz es)]) [(0,.arr sz es')]))(ho:σ.H o=.arr sz es)
  (h:Ro P n rid rest (St.put ⟨σ.sl,upd σ.H o (.arr sz es')⟩ dst (.tup [])) ks Q):Call P n rid g [.os o sz 0 len,.fn g2 []] dst rest σ ks Q :=
 ⟨_,_,.inl (QC hL ho),h⟩
end
theorem wkE {C G Q:Prop}(c:C)(g:G)(h:PLift G->C->Q:=by
 intro hgo cc;first
  |((with_reducible refine VP cc ?_ ?_ ?_ ?_);(· (simp;done));(· (simp;done));(· (simp;done)))
  |((with_reducible refine RH cc ?_ ?_ ?_ ?_);(· (simp;done));(· (simp;done));(· (simp;done)))
  |((with_reducible refine RB cc ?_ ?_);(· (simp;done)))
 exact hgo.down):Q:=h ⟨g⟩ c
theorem wkp {G Q:Prop}(g:G)(h:PLift G->Q:=by
 intro hgo
 repeat' (first
  |(simp(maxSteps:=2000000) -implicitDefEqProofs only[go_sem,Nat.reduceLT,Nat.reduceAdd,Nat.reduceMul,reduceIte,Nat.reduceEqDiff,reduceCtorEq,Nat.reducePow,Nat.reduceLeDiff,Int.reduceLE,Int.reduceLT,Int.reduceToNat,Int.reduceEq,Nat.reduceBEq,lgc,not_true_eq_false,aaQ, *])
  |(with_reducible refine⟨?_,?_⟩;(· first|(obtain⟨rfl⟩:=‹Hq _ _›;with_reducible refine chk_ok ?_;kernel_rfl)|kernel_rfl))
  |(with_reducible intro ops hops)
  |(simp -implicitDefEqProofs (disch:=omega)only[afQ,YD,aI,ltc,ltf,lec,lef,agE,agF])
  |((with_reducible first|refine Fy ?_|refine AL ?_);(first|refine wkE p1 ?_|refine wkE p2 ?_|refine wkE p3 ?_|refine wkA c1 ?_|refine wkA c2 ?_|refine wkA c3 ?_|refine wkA c4 ?_|refine wkA c5 ?_|refine wkA c6 ?_|refine wkA c7 ?_|refine wkA c8 ?_|refine wkA c9 ?_|refine wkA c10 ?_|refine wkA c11 ?_|refine wkA c12 ?_|refine wkB e1 ?_|refine wkB e2 ?_|refine wkB e3 ?_|refine wkB e4 ?_|refine wkB e5 ?_|refine wkC c1 ?_|refine wkC c2 ?_|refine wkC c3 ?_|refine wkC c4 ?_|refine wkC c5 ?_|refine wkC c6 ?_|refine wkC c7 ?_|refine wkC c8 ?_|refine wkC c9 ?_|refine wkC c10 ?_|refine wkC c11 ?_|refine wkC c12 ?_))
  |((first|refine aK (λhg=>?_) (λhg=>?_)|refine xh (λhg=>?_) (λhg=>?_)|refine xk (λhg=>?_) (λhg=>?_))<;>(try simp only[nrm,eq_self,not_true_eq_false]at hg)<;>(try simp only[hg,lgc,reduceIte,reduceCtorEq]at hR)<;>(try(exfalso;omega)))
  |exact wkD b1|exact wkD b2|exact wkD b3|exact wkD b4|exact wkD b5
  |((try simp only[*,lgc,reduceIte,reduceCtorEq]at hR);(try obtain⟨rfl⟩:=hR);refine fin_q rfl ?_;(try simp only[go_sem,Nat.reduceLT,Nat.reduceAdd,Nat.reduceMul,reduceIte,Nat.reduceEqDiff,reduceCtorEq,Nat.reducePow,Nat.reduceLeDiff,Int.reduceLE,Int.reduceLT,Int.reduceToNat,Int.reduceEq,Nat.reduceBEq]);(first|(simp;done)|(simp;omega)|(simp[*];done)|(simp[*];omega)))
  |((try simp only[*,lgc,reduceIte,reduceCtorEq]at hR);(try obtain⟨rfl⟩:=hR);refine fin_d d1 rfl ?_ ?_ rfl ?_ rfl<;>(try simp only[go_sem,Nat.reduceLT,Nat.reduceAdd,Nat.reduceMul,reduceIte,Nat.reduceEqDiff,reduceCtorEq,Nat.reducePow,Nat.reduceLeDiff,Int.reduceLE,Int.reduceLT,Int.reduceToNat,Int.reduceEq,Nat.reduceBEq])<;>(simp;done)))
 all_goals(repeat(revert hg))
 all_goals(try(have hR:=hR;revert hR))
 all_goals exact hgo.down):Q:=h ⟨g⟩
end Go.Abs
namespace Go.Proofs.YtdmeldhlbpdeeaaGreatDoor
open Go Go.Abs
def leK (x y:aN):Bool:=!(decide (Lib.compareBytes y.k x.k<0))
def sortP (l:List aN):List aN:=l.mergeSort leK
theorem nV (l:List aN):(sortP l).Perm l:=List.mergeSort_perm l leK
theorem qm (l:List aN):(sortP l).length=l.length:=(nV l).length_eq
theorem OD (x y z:aN)(h1:leK x y=true)(h2:leK y z=true):leK x z=true:=by
 simp only[leK,Bool.not_eq_true',decide_eq_false_iff_not]at*;intro h3;by_cases h:Lib.compareBytes y.k x.k=0
 ·rw[(kL _ _).1 h]at h2;exact h2 h3
 ·have h4:Lib.compareBytes x.k y.k<0:=by rw[nI];omega
  exact h2 (jY _ _ _ h3 h4)
theorem OE (x y:aN):(leK x y||leK y x)=true:=by simp only[leK,Bool.or_eq_true,Bool.not_eq_true',decide_eq_false_iff_not];rw[nI x.k y.k];omega
theorem MG {l:List aN}(hn:(l.map (·.k)).Nodup):(sortP l).Pairwise λx y=>Lib.compareBytes x.k y.k<0:=by have h1:(sortP l).Pairwise λx y=>leK x y=true:=List.pairwise_mergeSort (le:=leK) OD OE l;have h2:((sortP l).map (·.k)).Nodup:=(((nV l).map _).nodup_iff).2 hn;rw[List.Nodup,List.pairwise_map]at h2;refine(h1.and h2).imp λ{a b} h=>?_;obtain⟨h,hne⟩:=h;simp only[leK,Bool.not_eq_true',decide_eq_false_iff_not]at h;rw[nI]at h;have:¬Lib.compareBytes a.k b.k=0:=λe=>hne ((kL _ _).1 e);omega
end Go.Proofs.YtdmeldhlbpdeeaaGreatDoor
namespace Go.Proofs
section
open Go.Shelf
def Tryz.sortPr_ren:Go.Shelf.Ren:=⟨λ|6=>37|15=>93|14=>92|28=>147|29=>148|20=>139|21=>140|22=>141|23=>142|24=>143|25=>144|26=>145|27=>146|46=>176|47=>177|48=>178|49=>179|50=>180|57=>224|n=>n,λ|22=>31|24=>41|25=>117|3=>3|39=>190|0=>0|53=>245|55=>59|4=>4|46=>239|45=>238|50=>126|5=>5|9=>9|66=>280|70=>284|76=>325|77=>326|n=>n,λ|n=>n⟩
theorem Tryz.sortPr:Go.Proofs.SlLaysF0.n6 Tryz.prog Tryz.sortPr_ren:={
 mixed:=by kernel_rfl
 f6:=⟨Tryz.f37.name,by decide,Tryz.func37.trans (congrArg some (by kernel_rfl))⟩
 f14:=⟨Tryz.f92.name,by decide,Tryz.func92.trans (congrArg some (by kernel_rfl))⟩
 f15:=Tryz.func93.trans (congrArg some (by kernel_rfl))
 f20:=⟨Tryz.f139.name,by decide,Tryz.func139.trans (congrArg some (by kernel_rfl))⟩
 f21:=⟨Tryz.f140.name,by decide,Tryz.func140.trans (congrArg some (by kernel_rfl))⟩
 f22:=⟨Tryz.f141.name,by decide,Tryz.func141.trans (congrArg some (by kernel_rfl))⟩
 f23:=⟨Tryz.f142.name,by decide,Tryz.func142.trans (congrArg some (by kernel_rfl))⟩
 f24:=⟨Tryz.f143.name,by decide,Tryz.func143.trans (congrArg some (by kernel_rfl))⟩
 f25:=⟨Tryz.f144.name,by decide,Tryz.func144.trans (congrArg some (by kernel_rfl))⟩
 f26:=⟨Tryz.f145.name,by decide,Tryz.func145.trans (congrArg some (by kernel_rfl))⟩
 f27:=⟨Tryz.f146.name,by decide,Tryz.func146.trans (congrArg some (by kernel_rfl))⟩
 f28:=Tryz.func147.trans (congrArg some (by kernel_rfl))
 f29:=Tryz.func148.trans (congrArg some (by kernel_rfl))
 f46:=⟨Tryz.f176.name,by decide,Tryz.func176.trans (congrArg some (by kernel_rfl))⟩
 f47:=Tryz.func177.trans (congrArg some (by kernel_rfl))
 f48:=Tryz.func178.trans (congrArg some (by kernel_rfl))
 f49:=⟨Tryz.f179.name,by decide,Tryz.func179.trans (congrArg some (by kernel_rfl))⟩
 f50:=⟨Tryz.f180.name,by decide,Tryz.func180.trans (congrArg some (by kernel_rfl))⟩
 f57:=⟨Tryz.f224.name,by decide,Tryz.func224.trans (congrArg some (by kernel_rfl))⟩
 t0:=Tryz.underlying0
 a0:=Tryz.isAgg0
 z0:=Tryz.sizeOf0
 v0:=Tryz.zeroValue0
 t3:=Tryz.underlying3
 a3:=Tryz.isAgg3
 z3:=Tryz.sizeOf3
 v3:=Tryz.zeroValue3
 t4:=Tryz.underlying4
 a4:=Tryz.isAgg4
 z4:=Tryz.sizeOf4
 v4:=Tryz.zeroValue4
 t5:=Tryz.underlying5
 a5:=Tryz.isAgg5
 z5:=Tryz.sizeOf5
 v5:=Tryz.zeroValue5
 t9:=Tryz.underlying9
 a9:=Tryz.isAgg9
 z9:=Tryz.sizeOf9
 v9:=Tryz.zeroValue9
 t22:=Tryz.underlying31
 a22:=Tryz.isAgg31
 z22:=Tryz.sizeOf31
 v22:=Tryz.zeroValue31
 t25:=Tryz.underlying117
 a25:=Tryz.isAgg117
 z25:=Tryz.sizeOf117
 v25:=Tryz.zeroValue117
 t39:=Tryz.underlying190
 a39:=Tryz.isAgg190
 z39:=Tryz.sizeOf190
 v39:=Tryz.zeroValue190
 t45:=Tryz.underlying238
 a45:=Tryz.isAgg238
 z45:=Tryz.sizeOf238
 v45:=Tryz.zeroValue238
 t46:=Tryz.underlying239
 a46:=Tryz.isAgg239
 z46:=Tryz.sizeOf239
 v46:=Tryz.zeroValue239
 t50:=Tryz.underlying126
 a50:=Tryz.isAgg126
 z50:=Tryz.sizeOf126
 v50:=Tryz.zeroValue126
 t53:=Tryz.underlying245
 a53:=Tryz.isAgg245
 z53:=Tryz.sizeOf245
 v53:=Tryz.zeroValue245
 t55:=Tryz.underlying59
 a55:=Tryz.isAgg59
 z55:=Tryz.sizeOf59
 v55:=Tryz.zeroValue59
 t66:=Tryz.underlying280
 a66:=Tryz.isAgg280
 z66:=Tryz.sizeOf280
 v66:=Tryz.zeroValue280
 t70:=Tryz.underlying284
 a70:=Tryz.isAgg284
 z70:=Tryz.sizeOf284
 v70:=Tryz.zeroValue284
 t76:=Tryz.underlying325
 a76:=Tryz.isAgg325
 z76:=Tryz.sizeOf325
 v76:=Tryz.zeroValue325
 t77:=Tryz.underlying326
 a77:=Tryz.isAgg326
 z77:=Tryz.sizeOf326
 v77:=Tryz.zeroValue326}
end
end Go.Proofs
namespace Go.Proofs.YtdmeldhlbpdeeaaGreatDoor
open Go Go.Abs Go.RowKit Go.Sort Go.Proofs.YtdmeldhlbpdeeaaGreatDoor.Ty
theorem swoK {α:Type}(key:α->List UInt8):SWO (ltOf λx y=>Lib.compareBytes (key x) (key y)) where
 irrefl x:=by have h:=(kL (key x) (key x)).2 rfl;simp only[ltOf,h];rfl
 trans x y z h1 h2:=by simp only[ltOf,decide_eq_true_eq]at*;exact jY _ _ _ h1 h2
 ntrans x y z h1 h2:=by
  simp only[ltOf,decide_eq_false_iff_not]at*;intro h3;by_cases h:Lib.compareBytes (key x) (key y)=0
  ·rw[(kL _ _).1 h]at h3;exact h2 h3
  ·have h4:Lib.compareBytes (key y) (key x)<0:=by rw[nI];omega
   exact h2 (jY _ _ _ h4 h3)
theorem wB {w:World}{b:Nat}{row:Array Value}{e:TypeId}{fr:Nat×Nat}(h:w.heap[b]?=some (.cells row e fr))(f:Array Value->Array Value):mapBlock w b f=w.setRow b (f row):=by
 unfold mapBlock World.setRow;congr 1;apply Array.ext_getElem?;intro k;simp only[Array.getElem?_modify];by_cases hk:b=k
 ·subst hk;simp only[if_true,h,Option.map_some,onCells]
 ·simp[hk]
theorem afh {K:Ctx}{u v:Value}{a b:List UInt8}(hu:VD K u (.i (bI a)))(hv:VD K v (.i (bI b))):
  Calls Tryz.prog 39 #[u,v] K.w λe w'=>e=.returned (.int .i64 (Lib.compareBytes a b))/\w'=K.w:=by
 have h1:=qW (P:=Tryz.prog) hu;have h2:=qW (P:=Tryz.prog) hv;have hx:(callFunc 94 #[u,v]).run Tryz.prog K.w=.ok (.value (.int .i64 (Lib.compareBytes a b))) K.w:=by rw[run_callFunc_extern Tryz.func94 (by kernel_rfl) (by kernel_rfl) (by kernel_rfl) (e:=Extern.BytealgCompare.compare) (by kernel_rfl)];show((Sem.run Tryz.prog (do pure (goInt (Extern.BytealgCompare.cmp (<- Extern.Bytes.bytesOf u) (<- Extern.Bytes.bytesOf v))):Sem Value) K.w).andThen λv w'=>Result.ok (Next.value v) w')=_;simp only[Sem.run_bind,Sem.run_pure,h1,h2,Result.andThen_ok,Lib.cmp_eq];rfl
 generalize Lib.compareBytes a b=r at*;clear h1 h2 hu hv
 go_enter Tryz.func39,Tryz.ntmps39
 go_wp2
 go_ret
 exact⟨rfl,rfl⟩
theorem adL {W:World}{S:Nat->Prop}(hB:∀b,S b->b<W.heap.size){u u' v v':Value}{a a' b b':List UInt8}(hu:VI W S u (bI a))(hu':VI W S u' (bI a'))(hv:VI W S v (bI b))(hv':VI W S v' (bI b')):
  Calls Tryz.prog 38 (#[.agg [u,u'].toArray,.agg [v,v'].toArray]++#[]) W λe w'=>e=.returned (.int .i64 (Lib.compareBytes a b))/\∃q os',w'=grow (W.drewN q) os':=by
 have hcon:∀o1 o2:Obj,Calls Tryz.prog 39 #[u,v] ((W.alloc o1).alloc o2) λe w'=>e=.returned (.int .i64 (Lib.compareBytes a b))/\w'=(W.alloc o1).alloc o2:=λo1 o2=>by
  have hm:∀k,S k->∀j,((W.alloc o1).alloc o2).cell? ⟨k,j,none⟩=W.cell? ⟨k,j,none⟩:=λk hk j =>World.cell?_of_block (w:=W) ((Below.heap_alloc (W.alloc o1) o2 k (by show k<(W.heap.push o1).size;have:=hB k hk;simp;omega)).trans (Below.heap_alloc W o1 k (hB k hk)))
  exact afh (K:=⟨(W.alloc o1).alloc o2,S,λ_=>none⟩) (.i (hu.mono (λ_ h=>h) hm)) (.i (hv.mono (λ_ h=>h) hm))
 obtain⟨p1,c1,rfl,_,_⟩:=VI.sub hu;obtain⟨p2,c2,rfl,_,_⟩:=VI.sub hu';obtain⟨p3,c3,rfl,_,_⟩:=VI.sub hv;obtain⟨p4,c4,rfl,_,_⟩:=VI.sub hv';clear hu hu' hv hv' hB;generalize(a.map aH).length=n1 at*;generalize(a'.map aH).length=n2 at*;generalize(b.map aH).length=n3 at*;generalize(b'.map aH).length=n4 at*;generalize Lib.compareBytes a b=r at*
 go_enter Tryz.func38,Tryz.ntmps38
 go_wp2_with (go_at_call 39;refine(hcon _ _).mono ?_;rintro e w' ⟨rfl,rfl⟩)
 go_ret
 exact⟨rfl,0,_,by rw[alloc_eq_grow,alloc_eq_grow,grow_grow];rfl⟩
theorem acf (l:List aN)(hl:l.length<=1048576)(hn:(l.map (·.k)).Nodup):
  aL Tryz.prog 37 [.os 0 2 0 l.length,.fn 38 []] (hF [(0,.arr 2 (l.map bu))]) (.tup []) (hOf (hF [(0,.arr 2 (l.map bu))]) [(0,.arr 2 ((sortP l).map bu))]):=by
 refine⟨gH Tryz.func37 (by kernel_rfl) (by kernel_rfl),λK0 T K vs hr hrd=>?_⟩;obtain⟨hs,hg⟩:=hrd;have e:vs=#[vs.getD 0 undef,vs.getD 1 undef]:=by
  apply Array.ext
  ·simpa using hs
  ·intro i h1 h2;simp at hs;have:i=0\/i=1:=by omega
   rcases this with rfl|rfl<;>simp[Array.getD,hs]
 have hv0:=hg 0 _ rfl;have hv1:=hg 1 _ rfl;rw[e];generalize vs.getD 0 undef=v0 at*;generalize vs.getD 1 undef=v1 at*;clear hg hs e;have h1:v1=.func (.func 38) #[] #[]:=by
  cases hv1 with
  |fn f cs _ hl hc=>rw[Array.eq_empty_of_size_eq_zero hl]
 subst h1;clear hv1;have hob:=hr.get (o:=0) (x:=.arr 2 (l.map bu)) rfl;obtain⟨_,hlen,hob⟩:=hob;have hH:hOf (hF [(0,.arr 2 (l.map bu))]) [(0,.arr 2 ((sortP l).map bu))]=upd (hF [(0,.arr 2 (l.map bu))]) 0 (.arr 2 ((sortP l).map bu)):=by funext o;by_cases ho:o=0<;>simp[hOf,hF,lk,upd,ho]
 generalize hN:l.length=N at hv0;by_cases h0:l=[]
 ·subst h0;obtain⟨a,cap,rfl⟩:∃a cap,v0=.slice a 0 cap:=by
   simp at hN;subst hN;cases hv0<;>exact⟨_,_,rfl⟩
  refine(AnyF.slices_SortFunc_none Tryz.sortPr a cap _ K.w).mono ?_;rintro e w' ⟨rfl,rfl⟩;refine⟨_,K,rfl,rfl,Ext.refl K,?_,.tup _ _ rfl (λj d hd=>by simp at hd)⟩;have:hOf (hF [(0,.arr 2 (([]:List aN).map bu))]) [(0,.arr 2 ((sortP []).map bu))]=hF [(0,.arr 2 (([]:List aN).map bu))]:=by funext o;by_cases ho:o=0<;>simp[hOf,hF,lk,ho,sortP]
  rw[this];exact hr
 obtain⟨m,hm⟩:∃m,l.length=m+1:=⟨l.length-1,by cases l with|nil=>exact absurd rfl h0|cons a t=>simp⟩
 cases hv0 with
 |os0=>omega
 |os _ _ _ _ b off cap hμ hz hc ho hrow =>
 have hoff:off=0:=by rcases ho with h|h<;>omega
 subst hoff;rcases hob with⟨hnn,_⟩|⟨b',row,ty,hμ',hheap,hsz,hcells,hS,hT⟩
 ·rw[hμ]at hnn;cases hnn
 rw[hμ]at hμ';cases hμ';rw[List.length_map]at hsz;have hget:∀(i:Fin (m+1)),(l.map bu)[i.val]?=some (bu (l[i.val]'(by omega))):=λi=>by
  have:i.val<l.length:=by omega
  simp[this]
 have k0:∀i:Fin (m+1),VI K.w K.S (row.getD (i.val*2) undef) (bI (l[i.val]'(by omega)).k):=λi=>hcells _ _ (bN (c:=0) hlen (hget i) rfl);have k1:∀i:Fin (m+1),VI K.w K.S (row.getD (i.val*2+1) undef) (bI (l[i.val]'(by omega)).v):=λi=>hcells _ _ (bN (c:=1) hlen (hget i) rfl);let enc:Fin (m+1)->List Value:=λi=>[row.getD (i.val*2) undef,row.getD (i.val*2+1) undef]
 let cf:Fin (m+1)->Fin (m+1)->Int:=λx y=>Lib.compareBytes (l[x.val]'(by omega)).k (l[y.val]'(by omega)).k;let d:Array (Fin (m+1)):=(List.finRange (m+1)).toArray;have hds:d.size=m+1:=by simp[d]
 have hb:b<K.w.heap.size:=hr.mB _ _ hμ;have hone:∀{v:Value}{x:List UInt8},VI K.w K.S v (bI x)->v.oneCell'=true:=λ{v x} h=>by obtain⟨p,c,rfl,_,_⟩:=VI.sub h;rfl
 have hH2:HoldsK enc 2 K.w b 0 d:=by
  intro j hj;rw[size_flatK,hds]at hj;have hj2:j/2<m+1:=by omega
  have hdj:d[j/2]! = ⟨j/2,hj2⟩:=by rw[getElem!_pos d (j/2) (by omega)];simp[d]
  refine⟨?_,by simp[World.frozen?,hheap]⟩;rw[get_flatK enc 2 d j (by omega),hdj,Nat.zero_add,cell_of_row K.w b j row ty _ hheap];have hjr:j<row.size:=by omega
  rcases(by omega:j%2=0\/j%2=1)with h|h
  ·have e1:j/2*2=j:=by omega
   simp[enc,h,e1,Array.getD,hjr]
  ·have e1:j/2*2+1=j:=by omega
   simp[enc,h,e1,Array.getD,hjr]
 have hcmp:CmpLays Tryz.prog 38 #[] enc 2 cf b 0 d.size K.w:=λn os dk hdk x y=>by
  have hm:∀k,K.S k->∀j,(sortWorldK enc 2 K.w b 0 n dk os).cell? ⟨k,j,none⟩=K.w.cell? ⟨k,j,none⟩:=λk hk j=>by
   have hkb:b≠k:=by rintro rfl;exact hS hk
   refine World.cell?_of_block (w:=K.w) ?_;show((K.w.heap.modify b _)++os)[k]?=_;rw[Array.getElem?_append_left (by simpa using hr.sB k hk),Array.getElem?_modify,if_neg hkb]
  refine adL (S:=K.S) (λk hk=>?_) ((k0 x).mono (λ_ h=>h) hm) ((k1 x).mono (λ_ h=>h) hm) ((k0 y).mono (λ_ h=>h) hm) ((k1 y).mono (λ_ h=>h) hm);show k<((K.w.heap.modify b _)++os).size;have:=hr.sB k hk;simp;omega
 have eg:∀args w,(callFunc 38 args).run Tryz.prog w=.ok (.enter 38 args) w:=enters_of Tryz.func38 (by kernel_rfl) rfl;have hT2:∀x y,(ltOf cf) x y=false->(ltOf cf) y x=false->x=y:=λx y h1 h2=>by
  simp only[ltOf,decide_eq_false_iff_not,cf]at h1 h2;have h3:(l[x.val]'(by omega)).k=(l[y.val]'(by omega)).k:=by refine(kL _ _).1 ?_;rw[nI]at h2;omega
  have h4:=(List.getElem_inj (i:=x.val) (j:=y.val) (h₀:=by simp;omega) (h₁:=by simp;omega) hn).1 (by simpa using h3);exact Fin.ext h4
 have hcon:=AnyQ.slices_SortFunc_total Tryz.sortPr 2 Tryz.isAgg41 Tryz.sizeOf41 enc (λ_=>rfl) (λx v hv=>by
  simp only[enc,List.mem_cons,List.not_mem_nil,or_false]at hv;rcases hv with rfl|rfl
  ·exact hone (k0 x)
  ·exact hone (k1 x)) cf (swoK λx:Fin (m+1)=>(l[x.val]'(by omega)).k) 38 #[] b 0 cap d K.w eg hcmp hH2 hb (by omega) hT2
 have hdN:d.size=N:=by omega
 simp only[hdN]at hcon;refine hcon.mono ?_;rintro e w' ⟨rfl,n,os,hw⟩;clear hcon;generalize hL:(d.toList.mergeSort λx y=>!(ltOf cf) y x)=L at hw;have hLm:L.map (λi=>(l[i.val]'(by omega):aN))=sortP l:=by rw[<- hL];unfold sortP;rw[List.map_mergeSort (r:=λx y=>!(ltOf cf) y x) (s:=leK) (f:=λi:Fin (m+1)=>(l[i.val]'(by omega):aN)) (l:=d.toList) (λa _ b _=>rfl)];congr 1;refine List.ext_getElem (by simp[d,hm]) λj h1 h2=>?_;simp[d]
 have hLl:L.length=m+1:=by rw[<- hL,List.length_mergeSort];simp[d]
 have hr1:HR K0 T (K.world (Sort.ahead K.w n)) (hF [(0,.arr 2 (l.map bu))]):=hr.world rfl rfl rfl rfl;have he1:Ext K (K.world (Sort.ahead K.w n)):=Ext.world rfl;have hg1:(K.world (Sort.ahead K.w n)).w.heap[b]?=some (.cells row ty (0,0)):=hheap;let row':Array Value:=putCells id 0 (flatK enc 2 L.toArray) row;have hs1:row'.size=row.size:=by simp[row',putCells]
 have he2:=pE (K:=K.world (Sort.ahead K.w n)) hg1 hs1 hS;have hcell':∀(j:Nat) (hj:j<(m+1)*2),row'.getD j undef=(enc (L[j/2]'(by omega)))[j%2]!:=λj hj=>by
  have hjr:j<row.size:=by omega
  have h1:=get_flatK enc 2 L.toArray j (by simp[hLl];omega);have h2:(L.toArray)[j/2]! = L[j/2]'(by omega):=by rw[getElem!_pos L.toArray (j/2) (by simp;omega)];simp
  rw[h2]at h1;rw[<- h1];have hj3:j<(flatK enc 2 L.toArray).size:=by simp[hLl];omega
  simp only[row',putCells,Array.getD,Array.size_mapIdx,hjr,dif_pos];simp[hj3];intro h;omega
 have hx:ObR K0 T ((K.world (Sort.ahead K.w n)).row b row') 0 (.arr 2 ((sortP l).map bu)):=by
  refine⟨by omega,λe he=>by obtain⟨p,_,rfl⟩:=List.mem_map.1 he;rfl,.inr ⟨b,row',ty,hμ,setRow_heap _ _ _ _ _ _ hg1,by rw[hs1,<- hLm];simp[hLl];omega,λj x hj=>?_,hS,hT⟩⟩;obtain⟨e,h1,h2⟩:=flatten_get' (sz:=2) (by omega) (λe he=>by obtain⟨p,_,rfl⟩:=List.mem_map.1 he;rfl) hj;rw[<- hLm]at h1;have hj2:j/2<L.length:=by have:=(List.getElem?_eq_some_iff.1 h1).1;simpa using this
  have hj3:j<(m+1)*2:=by omega
  simp[hj2]at h1;subst h1;rw[hcell' j hj3];refine VI.ext (he1.trans he2) ?_;rcases(by omega:j%2=0\/j%2=1)with h|h
  ·rw[h]at h2⊢;simp[bu]at h2;subst h2;exact k0 _
  ·rw[h]at h2⊢;simp[bu]at h2;subst h2;exact k1 _
 have hr2:=hr1.row (o:=0) trivial hμ hg1 hs1 hx;have hsz3:((K.world (Sort.ahead K.w n)).row b row').w.heap.size<=(Sort.grow ((K.world (Sort.ahead K.w n)).row b row').w os).heap.size:=by show _<=(_++os).size;simp
 obtain⟨he3,hr3⟩:=hr2.grow (w':=Sort.grow ((K.world (Sort.ahead K.w n)).row b row').w os) (S':=K.S) rfl rfl rfl hsz3 (λj hj=>by show(_++os)[j]?=_;rw[Array.getElem?_append_left hj]) (λ_ h=>h) (λ_ h=>.inl h) (λb hb=>Nat.lt_of_lt_of_le (hr2.sB b hb) hsz3);refine⟨_,_,rfl,?_,he1.trans (he2.trans he3),?_,.tup _ _ rfl (λj d hd=>by simp at hd)⟩
 ·rw[hw];show Sort.grow _ os=Sort.grow _ os;congr 1;exact(wB (w:=Sort.ahead K.w n) (b:=b) hheap (putCells id 0 (flatK enc 2 L.toArray))).symm
 ·rw[hH];exact hr3
theorem XG (n:Nat):∀b∈Lib.decDigits n,48<=b.toNat/\b.toNat<=57:=by
 induction n using Nat.strongRecOn with
 |ind n ih =>
  intro b hb;rw[Lib.decDigits]at hb;split at hb
  ·simp only[List.mem_cons,List.not_mem_nil,or_false]at hb;subst hb;rw[UInt8.toNat_ofNat'];omega
  ·simp only[List.mem_append,List.mem_cons,List.not_mem_nil,or_false]at hb;rcases hb with hb|rfl
   ·exact ih (n/10) (by omega) b hb
   ·rw[UInt8.toNat_ofNat'];omega
def dv (l:List UInt8):Nat:=l.foldl (λn b=>n*10+(b.toNat-48)) 0
theorem aax (n:Nat):dv (Lib.decDigits n)=n:=by
 induction n using Nat.strongRecOn with
 |ind n ih =>
  rw[Lib.decDigits];split
  ·simp only[dv,List.foldl_cons,List.foldl_nil];rw[UInt8.toNat_ofNat'];omega
  ·have:=ih (n/10) (by omega);unfold dv at this⊢;rw[List.foldl_append,this];simp only[List.foldl_cons,List.foldl_nil];rw[UInt8.toNat_ofNat'];omega
theorem OQ {a:Int}(h:0<=a):Lib.itoa a=Lib.decDigits a.toNat:=by unfold Lib.itoa;rw[if_neg (by omega)]
theorem wF {a b:Int}(ha:0<=a)(hb:0<=b)(h:Lib.itoa a=Lib.itoa b):a=b:=by rw[OQ ha,OQ hb]at h;have:=congrArg dv h;rw[aax,aax]at this;omega
theorem ito_no {a:Int}(ha:0<=a):(47:UInt8) ∉ Lib.itoa a:=λh=>by rw[OQ ha]at h;have:=XG _ _ h;simp at this
theorem cut_at {x:UInt8}:∀{a b c d:List UInt8},x ∉ a->x ∉ c->a++x::b=c++x::d->a=c/\b=d
 |[],b,[],d,_,_,h=>⟨rfl,by simpa using h⟩
 |[],b,y::c,d,_,h2,h=>by simp at h;exact absurd h.1 (λe=>h2 (by simp[e]))
 |y::a,b,[],d,h1,_,h=>by simp at h;exact absurd h.1 (λe=>h1 (by simp[e]))
 |y::a,b,z::c,d,h1,h2,h=>by simp only[List.cons_append,List.cons.injEq]at h;obtain⟨q1,q2⟩:=cut_at (λe=>h1 (by simp[e])) (λe=>h2 (by simp[e])) h.2;exact⟨by rw[h.1,q1],q2⟩
theorem Um {i j:Int}(hi:0<=i)(hj:0<=j)(h:keyC i=keyC j):i=j:=wF hi hj (List.append_cancel_left h)
theorem Ul {i j:Int}(hi:0<=i)(hj:0<=j)(h:keyH i=keyH j):i=j:=wF hi hj (List.append_cancel_left h)
theorem Uk {i j:Int}(hi:0<=i)(hj:0<=j)(h:keyN i=keyN j):i=j:=wF hi hj (List.append_cancel_left h)
theorem keyM_inj {w:List UInt8}{a b c d:Int}(ha:0<=a)(hb:0<=b)(hc:0<=c)(hd:0<=d)(h:keyM w a b=keyM w c d):a=c/\b=d:=by unfold keyM at h;simp only[List.append_assoc,List.cons_append,List.nil_append]at h;have h:=List.append_cancel_left h;simp only[List.cons.injEq,true_and]at h;obtain⟨q1,q2⟩:=cut_at (ito_no ha) (ito_no hc) h;exact⟨wF ha hc q1,wF hb hd q2⟩
def cnB:Nat->List ConnD->List aN
 |_,[]=>[]
 |i,c::t=>⟨keyC i,kQ c⟩::cnB (i+1) t
def chB:Nat->List ChanD->List aN
 |_,[]=>[]
 |i,c::t=>⟨keyH i,kR c⟩::⟨keyN i,Dw c.rcv⟩::chB (i+1) t
def mkB (w:List UInt8)(l:List MarkD):List aN:=l.map λm=>⟨keyM w m.ch m.seq,m.dg⟩
def FO:List UInt8:=[115,101,110,116]
def wGt:List UInt8:=[103,111,116]
def wAk:List UInt8:=[97,99,107]
def rawS (s:StateD):List aN:=cnB 0 s.cns++chB 0 s.chs++mkB FO s.sent++mkB wGt s.got++mkB wAk s.acks
def fM (s:StateD):List aN×Int:=if bq s=0 then(sortP (rawS s),0)else([],bq s)
theorem Qn:∀(i:Nat)(l m:List ConnD),cnB i (l++m)=cnB i l++cnB (i+l.length) m
 |i,[],m=>by simp[cnB]
 |i,c::t,m=>by simp only[List.cons_append,cnB,Qn (i+1) t m,List.length_cons];rw[Nat.add_right_comm,Nat.add_assoc]
theorem Qx:∀(i:Nat)(l m:List ChanD),chB i (l++m)=chB i l++chB (i+l.length) m
 |i,[],m=>by simp[chB]
 |i,c::t,m=>by simp only[List.cons_append,chB,Qx (i+1) t m,List.length_cons];rw[Nat.add_right_comm,Nat.add_assoc]
theorem UW {l:List ConnD}{i:Nat}(h:i<l.length):cnB 0 (l.take (i+1))=cnB 0 (l.take i)++[⟨keyC i,kQ l[i]⟩]:=by rw[List.take_succ_eq_append_getElem h,Qn];simp[cnB,Nat.min_eq_left (Nat.le_of_lt h)]
theorem Vg {l:List ChanD}{i:Nat}(h:i<l.length):chB 0 (l.take (i+1))=chB 0 (l.take i)++[⟨keyH i,kR l[i]⟩]++[⟨keyN i,Dw l[i].rcv⟩]:=by rw[List.take_succ_eq_append_getElem h,Qx];simp[chB,Nat.min_eq_left (Nat.le_of_lt h)]
theorem zU {w:List UInt8}{l:List MarkD}{i:Nat}(h:i<l.length):mkB w (l.take (i+1))=mkB w (l.take i)++[⟨keyM w l[i].ch l[i].seq,l[i].dg⟩]:=by unfold mkB;rw[List.take_succ_eq_append_getElem h,List.map_append];rfl
theorem Fv:∀(i:Nat)(l:List ConnD),(cnB i l).length=l.length
 |_,[]=>rfl
 |i,c::t=>by simp[cnB,Fv (i+1) t]
theorem Fx:∀(i:Nat)(l:List ChanD),(chB i l).length=2*l.length
 |_,[]=>rfl
 |i,c::t=>by simp[chB,Fx (i+1) t];omega
theorem rV (w:List UInt8)(l:List MarkD):(mkB w l).length=l.length:=by simp[mkB]
theorem uO (s:StateD):(rawS s).length=s.cns.length+2*s.chs.length+s.sent.length+s.got.length+s.acks.length:=by simp[rawS,Fv,Fx,rV];omega
theorem cnB_mem:∀{i:Nat}{l:List ConnD}{p:aN},p∈cnB i l->∃(j:Nat)(c:ConnD),i<=j/\j<i+l.length/\c∈l/\p=⟨keyC j,kQ c⟩
 |i,c::t,p,h=>by
  simp only[cnB,List.mem_cons]at h;rcases h with rfl|h
  ·exact⟨i,c,Nat.le_refl _,by simp,by simp,rfl⟩
  ·obtain⟨j,c',h1,h2,h3,h4⟩:=cnB_mem h;exact⟨j,c',by omega,by simp;omega,by simp[h3],h4⟩
theorem chB_mem:∀{i:Nat}{l:List ChanD}{p:aN},p∈chB i l->∃(j:Nat)(c:ChanD),i<=j/\j<i+l.length/\c∈l/\(p=⟨keyH j,kR c⟩\/p=⟨keyN j,Dw c.rcv⟩)
 |i,c::t,p,h=>by
  simp only[chB,List.mem_cons]at h;rcases h with rfl|rfl|h
  ·exact⟨i,c,Nat.le_refl _,by simp,by simp,.inl rfl⟩
  ·exact⟨i,c,Nat.le_refl _,by simp,by simp,.inr rfl⟩
  ·obtain⟨j,c',h1,h2,h3,h4⟩:=chB_mem h;exact⟨j,c',by omega,by simp;omega,by simp[h3],h4⟩
theorem mkB_mem {w:List UInt8}{l:List MarkD}{p:aN}(h:p∈mkB w l):∃m∈l,p=⟨keyM w m.ch m.seq,m.dg⟩:=by obtain⟨m,hm,rfl⟩:=List.mem_map.1 h;exact⟨m,hm,rfl⟩
def KND (l:List aN):Prop:=(l.map (·.k)).Nodup
theorem z_ {p:aN}{l:List aN}(h:∀q∈l,p.k≠q.k)(hl:KND l):KND (p::l):=by unfold KND at*;rw[List.map_cons,List.nodup_cons];exact⟨λhm=>by obtain⟨q,hq,e⟩:=List.mem_map.1 hm;exact h q hq e.symm,hl⟩
theorem Aa {l m:List aN}(h1:KND l)(h2:KND m)(h:∀p∈l,∀q∈m,p.k≠q.k):KND (l++m):=by unfold KND at*;rw[List.map_append,List.nodup_append];refine⟨h1,h2,λa ha b hb=>?_⟩;obtain⟨p,hp,rfl⟩:=List.mem_map.1 ha;obtain⟨q,hq,rfl⟩:=List.mem_map.1 hb;exact h p hp q hq
theorem Qm:∀(i:Nat)(l:List ConnD),KND (cnB i l)
 |_,[]=>List.nodup_nil
 |i,c::t=>z_ (λq hq e=>by obtain⟨j,c',h1,_,_,rfl⟩:=cnB_mem hq;have:=Um (by omega) (by omega) e;omega) (Qm (i+1) t)
theorem Qw:∀(i:Nat)(l:List ChanD),KND (chB i l)
 |_,[]=>List.nodup_nil
 |i,c::t=>z_ (λq hq e=>by
   simp only[List.mem_cons]at hq;rcases hq with rfl|hq
   ·simp[keyH,keyN]at e
   ·obtain⟨j,c',h1,_,_,rfl|rfl⟩:=chB_mem hq
    ·have:=Ul (by omega) (by omega) e;omega
    ·simp[keyH,keyN]at e) (z_ (λq hq e=>by
   obtain⟨j,c',h1,_,_,rfl|rfl⟩:=chB_mem hq
   ·simp[keyH,keyN]at e
   ·have:=Uk (by omega) (by omega) e;omega) (Qw (i+1) t))
theorem EG (w:List UInt8){l:List MarkD}(h:lN l):KND (mkB w l):=by unfold KND mkB;rw[List.map_map,List.Nodup,List.pairwise_map];have hs:l.Pairwise λx y=>xy (mk x) (mk y)<0:=h.srt;refine List.Pairwise.imp_of_mem ?_ hs;intro a b ha hb hlt e;have h1:=(h.all a ha).ch;have h2:=(h.all a ha).seq;have h3:=(h.all b hb).ch;have h4:=(h.all b hb).seq;unfold N12 at h1 h2 h3 h4;obtain⟨q1,q2⟩:=keyM_inj (w:=w) (by omega) (by omega) (by omega) (by omega) e;have:xy (mk a) (mk b)=0:=(cmpM_ok.zero _ _).2 (by simp[mk,q1,q2]);omega
theorem Gw {s:StateD}(ok:StOk s):KND (rawS s):=by
 unfold rawS;have hm:∀{w w':List UInt8}{l l':List MarkD},(∀a b c d,keyM w a b≠keyM w' c d)->∀p∈mkB w l,∀q∈mkB w' l',p.k≠q.k:=by intro w w' l l' h p hp q hq;obtain⟨m,_,rfl⟩:=mkB_mem hp;obtain⟨m',_,rfl⟩:=mkB_mem hq;exact h _ _ _ _
 have hc:∀{w:List UInt8}{l:List MarkD},(∀a c d,keyC a≠keyM w c d)->∀p∈cnB 0 s.cns,∀q∈mkB w l,p.k≠q.k:=by intro w l h p hp q hq;obtain⟨j,c,_,_,_,rfl⟩:=cnB_mem hp;obtain⟨m',_,rfl⟩:=mkB_mem hq;exact h _ _ _
 have hh:∀{w:List UInt8}{l:List MarkD},(∀a c d,keyH a≠keyM w c d/\keyN a≠keyM w c d)->∀p∈chB 0 s.chs,∀q∈mkB w l,p.k≠q.k:=by
  intro w l h p hp q hq;obtain⟨m',_,rfl⟩:=mkB_mem hq;obtain⟨j,c,_,_,_,rfl|rfl⟩:=chB_mem hp
  ·exact(h _ _ _).1
  ·exact(h _ _ _).2
 refine Aa (Aa (Aa (Aa (Qm 0 _) (Qw 0 _) ?_) (EG _ ok.sent) ?_) (EG _ ok.got) ?_) (EG _ ok.acks) ?_
 ·intro p hp q hq;obtain⟨j,c,_,_,_,rfl⟩:=cnB_mem hp;obtain⟨i,d,_,_,_,rfl|rfl⟩:=chB_mem hq<;>simp[keyC,keyH,keyN]
 ·intro p hp q hq;rcases List.mem_append.1 hp with hp|hp
  ·exact hc (by simp[keyC,keyM,FO]) p hp q hq
  ·exact hh (by simp[keyH,keyN,keyM,FO]) p hp q hq
 ·intro p hp q hq;rcases List.mem_append.1 hp with hp|hp
  ·rcases List.mem_append.1 hp with hp|hp
   ·exact hc (by simp[keyC,keyM,wGt]) p hp q hq
   ·exact hh (by simp[keyH,keyN,keyM,wGt]) p hp q hq
  ·exact hm (by simp[keyM,FO,wGt]) p hp q hq
 ·intro p hp q hq;rcases List.mem_append.1 hp with hp|hp
  ·rcases List.mem_append.1 hp with hp|hp
   ·rcases List.mem_append.1 hp with hp|hp
    ·exact hc (by simp[keyC,keyM,wAk]) p hp q hq
    ·exact hh (by simp[keyH,keyN,keyM,wAk]) p hp q hq
   ·exact hm (by simp[keyM,FO,wAk]) p hp q hq
  ·exact hm (by simp[keyM,wGt,wAk]) p hp q hq
theorem sQ:∀(ns:List Nat)(acc:List UInt8)(i:Nat),acc.length+11*ns.length<=20000->cO acc i (ns.map jh)=(acc++ns.flatMap (λn=>0::jG n),0,0)
 |[],acc,i,_=>by simp[cO]
 |n::t,acc,i,h=>by have h1:=dG n;have hw:fJ (jh n)=some (0::jG n):=rfl;simp only[List.map_cons,cO,hw];rw[if_neg (by simp at h⊢;omega),sQ t _ _ (by simp at h⊢;omega)];simp
theorem rQ (ns:List Nat)(h:ns.length<=10):(bD (ns.map jh)).1.length<=10+11*ns.length:=by
 have h0:=dG ns.length;rw[bD,if_neg (by simp;omega),sQ _ _ _ (by simp;omega)];simp only[List.length_append,List.length_map];have:∀(l:List Nat),(l.flatMap λn=>0::jG n).length<=11*l.length:=by
  intro l;induction l with
  |nil=>simp
  |cons a t ih=>have:=dG a;simp only[List.flatMap_cons,List.length_append,List.length_cons];omega
 have:=this ns;omega
theorem Tv {s:StateD}(ok:StOk s):∀p∈rawS s,p.k.length<=60/\p.v.length<=200:=by
 have hi:∀j:Nat,j<9->(Lib.itoa (j:Int)).length<=21:=λj hj=>jU (n:=(j:Int)) (by unfold gT;omega);have hm:∀{w:List UInt8}{l:List MarkD},w.length<=10->lN l->∀p∈mkB w l,p.k.length<=60/\p.v.length<=200:=by intro w l hw hl p hp;obtain⟨m,hmm,rfl⟩:=mkB_mem hp;have o:=hl.all m hmm;have o1:=o.ch;have o2:=o.seq;have o3:=o.dg;unfold N12 at o1 o2;have h1:=jU (n:=m.ch) (by unfold gT;omega);have h2:=jU (n:=m.seq) (by unfold gT;omega);exact⟨by simp[keyM];omega,by simp only;omega⟩
 have l1:=ok.lcn;have l2:=ok.lch;intro p hp;unfold rawS at hp;simp only[List.mem_append]at hp;rcases hp with(((hp|hp)|hp)|hp)|hp
 ·obtain⟨j,c,_,h2,_,rfl⟩:=cnB_mem hp;have:=hi j (by omega);have h3:=rQ [u64 c.st,u64 c.cl,u64 c.oc,u64 (c.on+1)] (by simp);simp only[List.length_cons,List.length_nil,List.map_cons,List.map_nil]at h3;exact⟨by simp[keyC];omega,by show(kQ c).length<=200;unfold kQ;omega⟩
 ·obtain⟨j,c,_,h2,_,rfl|rfl⟩:=chB_mem hp
  ·have:=hi j (by omega);have h3:=rQ [u64 c.st,u64 (if c.ord=true then 1 else 0),u64 c.cn,u64 (c.oc+1)] (by simp);simp only[List.length_cons,List.length_nil,List.map_cons,List.map_nil]at h3;exact⟨by simp[keyH];omega,by show(kR c).length<=200;unfold kR;omega⟩
  ·have:=hi j (by omega);have h3:=rQ [u64 c.rcv] (by simp);simp only[List.length_cons,List.length_nil,List.map_cons,List.map_nil]at h3;exact⟨by simp[keyN];omega,by show(Dw c.rcv).length<=200;unfold Dw;omega⟩
 ·exact hm (by decide) ok.sent p hp
 ·exact hm (by decide) ok.got p hp
 ·exact hm (by decide) ok.acks p hp
theorem book_right {s:StateD}(ok:StOk s):xC (sortP (rawS s)):=by
 have l1:=ok.lcn;have l2:=ok.lch;have l3:=ok.lsent;have l4:=ok.lgot;have l5:=ok.lacks;refine⟨?_,λp hp=>Tv ok p ((nV _).mem_iff.1 hp),λi j hi hj hij=>?_⟩
 ·rw[qm,uO];omega
 ·exact List.pairwise_iff_getElem.1 (MG (Gw ok)) i j hi hj hij
attribute [simp,go_sem] bu
theorem yB (es:List (List I))(n:Nat)(hn:es.length=n)(hl:n<=1000)(k v:List UInt8):
  aL Tryz.prog 28 [.i (bI k),.i (bI v),.pt 0 0 0 0] (hF [(0,.box [.os 1 2 0 n]),(1,.arr 2 es)]) (.tup []) (hOf (hF [(0,.box [.os 1 2 0 n]),(1,.arr 2 es)]) [(0,.box [.os 2 2 0 (n+1)]),(1,.dead),(2,.arr 2 (es++[[bI k,bI v]]))]):=by
 subst hn;refine ik λR R' hR hR'=>?_;have d1:iY [] [(2,1005)]:=⟨trivial⟩
 obtain⟨rfl⟩:=hR;obtain⟨rfl⟩:=hR';refine aP 11 Tryz.func28 rfl rfl rfl (λo ho=>by simp[hF,lk,show o≠0 by omega,show o≠1 by omega,show o≠2 by omega,show o≠3 by omega,show o≠4 by omega,show o≠5 by omega]) ?_;exact wkl trivial
theorem agz {i:Nat}(h:i<=1000000):gT (i:Int):=by unfold gT;omega
theorem JD (s:StateD)(hs:StSm s):PureD Tryz.prog 7 [stateD s] (.tup [.i (.sl ((fM s).1.map bu)),intD (fM s).2]):=by
 refine ai λR hR=>?_;have c1:=iL s hs;unfold fM at hR;by_cases h:bq s=0
 rotate_left
 ·rw[if_neg h]at hR;generalize bq s=W at*;clear hs;refine aa 96 Tryz.func7 ?_;exact wkl trivial
 have ok:=aC.1 h;rw[h]at c1;rw[if_pos h]at hR;have l1:=ok.lcn;have l2:=ok.lch;have l3:=ok.lsent;have l4:=ok.lgot;have l5:=ok.lacks;clear h hs;refine aa 96 Tryz.func7 ?_;refine wkl ?_;clear hR c1;intro hR;refine aS (ι:=Nat×List aN) (λq=>q.1<=s.cns.length/\q.2=cnB 0 (s.cns.take q.1)) (λq=>dP [(1,.pt 100 0 0 0),(5,.pt 101 0 0 0),(6,.fn 28 [.pt 101 0 0 0]),(22,.i (.sl (s.cns.map d_))),(23,intD s.cns.length),(24,intD q.1)]
  [(100,.box ((encSt s).map .i)),(101,.box [.os 102 2 0 q.2.length]),(102,.arr 2 (q.2.map bu))]) (λq=>s.cns.length-q.1) (0,[]) ⟨Nat.zero_le _,rfl⟩ ?_ ?_
 ·exact dB [] [(100,1000),(101,2024)]
 ·rintro⟨i,L⟩ ⟨hi,hL0⟩ RL hL;simp only at hi hL0;rw[ag];have hlen:L.length<=8:=by rw[hL0,Fv];simp;omega
  by_cases h:i<s.cns.length
  ·have s0:=aI (f:=d_) h;have q:=(ok.cns _ (List.getElem_mem h)).on;unfold N12 at q;have c1:=Df i (agz (by omega));have c2:=P_ s.cns[i] q;have p1:=yB (L.map bu) L.length (by simp) (by omega) (keyC i) (kQ s.cns[i]);have b1:=λσ'=>bk [] [(100,100),(101,101),(102,901)] (hL (i+1,L++[⟨keyC i,kQ s.cns[i]⟩]) σ' ⟨h,by rw[hL0];exact(UW h).symm⟩);simp only at b1;simp only[bI]at p1;clear hL ok hL0 q;generalize keyC i=K at*;generalize kQ s.cns[i]=V at*;generalize s.cns[i]=x at*;exact wkp trivial
  ·have e:L=cnB 0 s.cns:=by rw[hL0,List.take_of_length_le (by omega)]
   clear hL hL0;refine wkl ?_;clear hR;intro hR;intros;refine aS (ι:=Nat×List aN) (λq=>q.1<=s.chs.length/\q.2=L++chB 0 (s.chs.take q.1)) (λq=>dP [(1,.pt 100 0 0 0),(5,.pt 101 0 0 0),(6,.fn 28 [.pt 101 0 0 0]),(37,.i (.sl (s.chs.map bK))),(38,intD s.chs.length),(39,intD q.1)]
    [(100,.box ((encSt s).map .i)),(101,.box [.os 102 2 0 q.2.length]),(102,.arr 2 (q.2.map bu))]) (λq=>s.chs.length-q.1) (0,L) ⟨Nat.zero_le _,(List.append_nil _).symm⟩ ?_ ?_
   ·exact dB [] [(100,100),(101,101),(102,102)]
   ·rintro⟨i,M⟩ ⟨hi,hM⟩ RL hL;simp only at hi hM;rw[ag];have hlen2:M.length<=24:=by rw[hM,List.length_append,Fx];simp;omega
    by_cases h:i<s.chs.length
    ·have s0:=aI (f:=bK) h;have q:=(ok.chs _ (List.getElem_mem h)).oc;unfold N12 at q;have c1:=CB i (agz (by omega));have c2:=Qu s.chs[i] q;have c3:=Og i (agz (by omega));have c4:=Oh s.chs[i].rcv;have p1:=yB (M.map bu) M.length (by simp) (by omega) (keyH i) (kR s.chs[i]);have p2:=yB (M.map bu++[[bI (keyH i),bI (kR s.chs[i])]]) (M.length+1) (by simp) (by omega) (keyN i) (Dw s.chs[i].rcv);have b1:=λσ'=>bk [] [(100,100),(101,101),(102,902)] (hL (i+1,M++[⟨keyH i,kR s.chs[i]⟩]++[⟨keyN i,Dw s.chs[i].rcv⟩]) σ' ⟨h,by rw[hM];simp only[List.append_assoc];congr 1;have:=(Vg h).symm;simpa using this⟩);simp only at b1;simp only[bI]at p1 p2;clear hL ok hM q e;generalize keyH i=K at*;generalize keyN i=K2 at*;generalize kR s.chs[i]=V at*;generalize Dw s.chs[i].rcv=V2 at*;generalize s.chs[i]=x at*;exact wkp trivial
    ·have e2:M=cnB 0 s.cns++chB 0 s.chs:=by rw[hM,e,List.take_of_length_le (by omega)]
     clear hL hM e;refine wkl ?_;clear hR;intro hR;intros;refine aS (ι:=Nat×List aN) (λq=>q.1<=3/\q.2=M++(([mkB FO s.sent,mkB wGt s.got,mkB wAk s.acks]:List (List aN)).take q.1).flatten) (λq=>dP [(5,.pt 101 0 0 0),(6,.fn 28 [.pt 101 0 0 0]),(64,.os 103 1 0 3),(65,intD 3),(66,intD q.1)]
      [(101,.box [.os 102 2 0 q.2.length]),(102,.arr 2 (q.2.map bu)),(103,.arr 1 [[.sl (s.sent.map bJ)],[.sl (s.got.map bJ)],[.sl (s.acks.map bJ)]])]) (λq=>3-q.1) (0,M) ⟨Nat.zero_le _,(List.append_nil _).symm⟩ ?_ ?_
     ·exact dB [] [(101,101),(102,102),(103,5358)]
     ·rintro⟨k,B⟩ ⟨hk,hB⟩ RL hL;simp only at hk hB;rw[ag]
      match k,hk with
      |0,_ =>
       have hB:B=M:=by rw[hB];simp
       subst hB;have b0:=λσ'=>bk [] [(101,101),(102,102),(103,103)] (hL (1,B++mkB FO s.sent) σ' ⟨by omega,by simp⟩);clear hL;refine wkl ?_;clear hR;intro hR;intros;refine aS (ι:=Nat×List aN) (λq=>q.1<=s.sent.length/\q.2=B++mkB FO (s.sent.take q.1)) (λq=>dP [(5,.pt 101 0 0 0),(6,.fn 28 [.pt 101 0 0 0]),(11,intD 0),(64,.os 103 1 0 3),(65,intD 3),(66,intD 0),(71,.i (.sl (s.sent.map bJ))),(72,intD s.sent.length),(73,intD q.1)]
        [(101,.box [.os 102 2 0 q.2.length]),(102,.arr 2 (q.2.map bu)),(103,.arr 1 [[.sl (s.sent.map bJ)],[.sl (s.got.map bJ)],[.sl (s.acks.map bJ)]])]) (λq=>s.sent.length-q.1) (0,B) ⟨Nat.zero_le _,(List.append_nil _).symm⟩ ?_ ?_
       ·exact dB [] [(101,101),(102,102),(103,103)]
       ·rintro⟨i,C⟩ ⟨hi,hC⟩ RL2 hL2;simp only at hi hC;rw[ag];have hlen3:C.length<=74:=by rw[hC,List.length_append,rV];simp;omega
        by_cases h:i<s.sent.length
        ·have s0:=aI (f:=bJ) h;have q:=ok.sent.all _ (List.getElem_mem h);have q1:=q.ch;have q2:=q.seq;have q3:=q.dg;unfold N12 at q1 q2;have c1:=qG FO s.sent[i].ch s.sent[i].seq (by decide) (by unfold gT;omega) (by unfold gT;omega);have c2:=eT s.sent[i].dg (by omega);have p1:=yB (C.map bu) C.length (by simp) (by omega) (keyM FO s.sent[i].ch s.sent[i].seq) s.sent[i].dg;have b1:=λσ'=>bk [] [(101,101),(102,901),(103,103)] (hL2 (i+1,C++[⟨keyM FO s.sent[i].ch s.sent[i].seq,s.sent[i].dg⟩]) σ' ⟨h,by rw[hC];simp only[List.append_assoc];congr 1;exact(zU h).symm⟩);simp only at b1;simp only[bI]at p1;clear hL2 b0 ok hC q q1 q2 q3 e2;generalize keyM FO s.sent[i].ch s.sent[i].seq=K at*;generalize s.sent[i]=x at*;simp only[FO]at c1;exact wkp trivial
        ·have e3:C=B++mkB FO s.sent:=by rw[hC,List.take_of_length_le (by omega)]
         rw[<- e3]at b0;have b1:=b0;simp only at b1;clear hL2 b0 hC e3;exact wkl trivial
      |1,_ =>
       have hlen2:B.length<=74:=by rw[hB];simp[rV];omega
       have b0:=λσ'=>bk [] [(101,101),(102,102),(103,103)] (hL (2,B++mkB wGt s.got) σ' ⟨by omega,by rw[hB];simp⟩);clear hL;refine wkl ?_;clear hR;intro hR;intros;refine aS (ι:=Nat×List aN) (λq=>q.1<=s.got.length/\q.2=B++mkB wGt (s.got.take q.1)) (λq=>dP [(5,.pt 101 0 0 0),(6,.fn 28 [.pt 101 0 0 0]),(11,intD 1),(64,.os 103 1 0 3),(65,intD 3),(66,intD 1),(71,.i (.sl (s.got.map bJ))),(72,intD s.got.length),(73,intD q.1)]
        [(101,.box [.os 102 2 0 q.2.length]),(102,.arr 2 (q.2.map bu)),(103,.arr 1 [[.sl (s.sent.map bJ)],[.sl (s.got.map bJ)],[.sl (s.acks.map bJ)]])]) (λq=>s.got.length-q.1) (0,B) ⟨Nat.zero_le _,(List.append_nil _).symm⟩ ?_ ?_
       ·exact dB [] [(101,101),(102,102),(103,103)]
       ·rintro⟨i,C⟩ ⟨hi,hC⟩ RL2 hL2;simp only at hi hC;rw[ag];have hlen3:C.length<=124:=by rw[hC,List.length_append,rV];simp;omega
        by_cases h:i<s.got.length
        ·have s0:=aI (f:=bJ) h;have q:=ok.got.all _ (List.getElem_mem h);have q1:=q.ch;have q2:=q.seq;have q3:=q.dg;unfold N12 at q1 q2;have c1:=qG wGt s.got[i].ch s.got[i].seq (by decide) (by unfold gT;omega) (by unfold gT;omega);have c2:=eT s.got[i].dg (by omega);have p1:=yB (C.map bu) C.length (by simp) (by omega) (keyM wGt s.got[i].ch s.got[i].seq) s.got[i].dg;have b1:=λσ'=>bk [] [(101,101),(102,901),(103,103)] (hL2 (i+1,C++[⟨keyM wGt s.got[i].ch s.got[i].seq,s.got[i].dg⟩]) σ' ⟨h,by rw[hC];simp only[List.append_assoc];congr 1;exact(zU h).symm⟩);simp only at b1;simp only[bI]at p1;clear hL2 b0 ok hC q q1 q2 q3 e2 hB;generalize keyM wGt s.got[i].ch s.got[i].seq=K at*;generalize s.got[i]=x at*;simp only[wGt]at c1;exact wkp trivial
        ·have e3:C=B++mkB wGt s.got:=by rw[hC,List.take_of_length_le (by omega)]
         rw[<- e3]at b0;have b1:=b0;simp only at b1;clear hL2 b0 hC e3 hB;exact wkl trivial
      |2,_ =>
       have hlen2:B.length<=124:=by rw[hB];simp[rV];omega
       have b0:=λσ'=>bk [] [(101,101),(102,102),(103,103)] (hL (3,B++mkB wAk s.acks) σ' ⟨by omega,by rw[hB];simp⟩);clear hL;refine wkl ?_;clear hR;intro hR;intros;refine aS (ι:=Nat×List aN) (λq=>q.1<=s.acks.length/\q.2=B++mkB wAk (s.acks.take q.1)) (λq=>dP [(5,.pt 101 0 0 0),(6,.fn 28 [.pt 101 0 0 0]),(11,intD 2),(64,.os 103 1 0 3),(65,intD 3),(66,intD 2),(71,.i (.sl (s.acks.map bJ))),(72,intD s.acks.length),(73,intD q.1)]
        [(101,.box [.os 102 2 0 q.2.length]),(102,.arr 2 (q.2.map bu)),(103,.arr 1 [[.sl (s.sent.map bJ)],[.sl (s.got.map bJ)],[.sl (s.acks.map bJ)]])]) (λq=>s.acks.length-q.1) (0,B) ⟨Nat.zero_le _,(List.append_nil _).symm⟩ ?_ ?_
       ·exact dB [] [(101,101),(102,102),(103,103)]
       ·rintro⟨i,C⟩ ⟨hi,hC⟩ RL2 hL2;simp only at hi hC;rw[ag];have hlen3:C.length<=174:=by rw[hC,List.length_append,rV];simp;omega
        by_cases h:i<s.acks.length
        ·have s0:=aI (f:=bJ) h;have q:=ok.acks.all _ (List.getElem_mem h);have q1:=q.ch;have q2:=q.seq;have q3:=q.dg;unfold N12 at q1 q2;have c1:=qG wAk s.acks[i].ch s.acks[i].seq (by decide) (by unfold gT;omega) (by unfold gT;omega);have c2:=eT s.acks[i].dg (by omega);have p1:=yB (C.map bu) C.length (by simp) (by omega) (keyM wAk s.acks[i].ch s.acks[i].seq) s.acks[i].dg;have b1:=λσ'=>bk [] [(101,101),(102,901),(103,103)] (hL2 (i+1,C++[⟨keyM wAk s.acks[i].ch s.acks[i].seq,s.acks[i].dg⟩]) σ' ⟨h,by rw[hC];simp only[List.append_assoc];congr 1;exact(zU h).symm⟩);simp only at b1;simp only[bI]at p1;clear hL2 b0 ok hC q q1 q2 q3 e2 hB;generalize keyM wAk s.acks[i].ch s.acks[i].seq=K at*;generalize s.acks[i]=x at*;simp only[wAk]at c1;exact wkp trivial
        ·have e3:C=B++mkB wAk s.acks:=by rw[hC,List.take_of_length_le (by omega)]
         rw[<- e3]at b0;have b1:=b0;simp only at b1;clear hL2 b0 hC e3 hB;exact wkl trivial
      |3,_ =>
       have hraw:B=rawS s:=by rw[hB,e2];simp[rawS]
       have hlen2:B.length<=1048576:=by rw[hraw,uO];omega
       have p1:=acf B hlen2 (hraw▸Gw ok);have hS:=qm B;rw[<- hraw]at hR;clear hL hB hraw e2 ok;generalize sortP B=S at*;rw[<- hS]at p1⊢;clear hS hlen2;exact wkp trivial
end Go.Proofs.YtdmeldhlbpdeeaaGreatDoor
