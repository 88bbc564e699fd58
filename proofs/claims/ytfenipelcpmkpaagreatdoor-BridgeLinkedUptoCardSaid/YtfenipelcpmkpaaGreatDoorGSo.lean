/- Merged texts: Put, PutW, SrtP, SrtA, BkP, StB. -/
import Derived.Shelf.SlSortCmp.NoneTotal
import Derived.Shelf.Small.Bits
import Derived.Test.YtfenipelcpmkpaaGreatDoorStK
import Derived.Test.YtfenipelcpmkpaaGreatDoorGMk
set_option linter.all false
set_option maxHeartbeats 16000000
set_option maxRecDepth 20000
namespace Go.Abs
open Go Go.RowKit
section
variable {P:Program} {n:Nat} {σ:St} {ks:List Fr} {Q:Ex->St->Prop} {rid k:Nat} {ops:Array Oper} {rest:List It} {acc:Acc} {H:Nat->Ob} {g g2:FuncId} {sz len len' c o f:Nat} {es es':List (List I)} {x y:I} {dst:Option Nat}
theorem GY (hL:aN P g [.i x,.i y,.pt 0 0 0 0] (hF [(0,.box [.os 1 sz 0 len]),(1,.arr sz es)]) (.tup []) (hOf (hF [(0,.box [.os 1 sz 0 len]),(1,.arr sz es)]) [(0,.box [.os 2 sz 0 len']),(1,.dead),(2,.arr sz es')]))
  (hb:H c=.box [.os o sz 0 len]) (ho:H o=.arr sz es) (hf:H f=.fresh) :
  aN P g [.i x,.i y,.pt c 0 0 0] H (.tup []) (upd (upd (upd H o .dead) f (.arr sz es')) c (.box [.os f sz 0 len'])):=by
 have n1:c≠o:=fun e=>by subst e; rw [hb] at ho; cases ho
 have n2:c≠f:=fun e=>by subst e; rw [hb] at hf; cases hf
 have n3:o≠f:=fun e=>by subst e; rw [ho] at hf; cases hf
 have h:=dC (H:=H) (gs:=[.i x,.i y,.pt c 0 0 0]) (L2:=fun a=>if a=f then .arr sz es' else if a=c then .box [.os f sz 0 len'] else .dead) (r':=.tup []) [] (fun l=>if l=0 then some c else if l=1 then some o else none) (fun a=>if a=c then some 0 else if a=o then some 1 else if a=f then some 2 else none) hL
  ⟨by simp [cv1,cv0],by simp [cv1,cv0],by simp [cv1,cv0],trivial⟩
  (fun a=>by
   by_cases h0:a=0
   ·subst h0; right; right; right; exact ⟨c,by simp,by simp [hF,lk,cvO,cvL,cv0,frz,hb,D.one]⟩
   ·by_cases h1:a=1
    ·subst h1; right; right; right; exact ⟨o,by simp,by simp [hF,lk,cvO,frz,ho]⟩
    ·left; simp [hF,lk,h0,h1])
  (fun a b d h1 h2 h3 h4=>by
   by_cases a0:a=0 <;> by_cases b0:b=0
   ·rw [a0,b0]
   ·simp [a0,b0] at h3 h4; exact absurd (h3.trans h4.2.symm) n1
   ·simp [a0,b0] at h3 h4; exact absurd (h4.trans h3.2.symm) n1
   ·simp [a0,b0] at h3 h4; rw [h3.1,h4.1])
  (fun a=>by
   by_cases h1:a=f
   ·subst h1; right; right; right; exact ⟨2,by simp [n2.symm,n3.symm],by simp [hOf,lk,cvO,frz]⟩
   ·by_cases h2:a=c
    ·subst h2; right; right; right; exact ⟨0,by simp,by simp [hOf,lk,cvO,cvL,cv0,frz,n2,n2.symm,n3.symm,D.one]⟩
    ·right; left; simp [h1,h2])
  (fun a b d h1 h2 h3 h4=>by
   have key:∀ {z:Nat},Ob.own (if z=f then .arr sz es' else if z=c then .box [.os f sz 0 len'] else .dead)->z=f\/z=c:=fun {z} hz=>by
    by_cases e1:z=f
    ·exact .inl e1
    ·by_cases e2:z=c
     ·exact .inr e2
     ·simp [e1,e2,Ob.own] at hz
   rcases key h1 with rfl | rfl <;> rcases key h2 with rfl | rfl
   ·rfl
   ·simp [n2.symm,n3.symm] at h3 h4; omega
   ·simp [n2.symm,n3.symm] at h3 h4; omega
   ·rfl)
  (by simp [cv,cvT])
  (fun l a h=>by
   by_cases h0:l=0
   ·subst h0; simp at h; subst h; simp
   ·by_cases h1:l=1
    ·subst h1; simp at h; subst h; simp [n1.symm]
    ·simp [h0,h1] at h)
  (fun a l h=>by
   by_cases h0:a=c
   ·subst h0; simp at h; subst h; left; simp
   ·by_cases h1:a=o
    ·subst h1; simp [h0] at h; subst h; left; simp
    ·simp [h0,h1] at h; right; rw [h.1]; exact ⟨hf,by simp⟩)
 have e:(fun a=>if ((if a=c then some 0 else if a=o then some 1 else if a=f then some 2 else none:Option Nat)).isSome then (if a=f then Ob.arr sz es' else if a=c then .box [.os f sz 0 len'] else .dead) else frz [] H a)=upd (upd (upd H o .dead) f (.arr sz es')) c (.box [.os f sz 0 len']):=by
  funext a
  by_cases h1:a=c
  ·subst h1; simp [upd,n2]
  ·by_cases h2:a=f
   ·subst h2; simp [upd,h1,n3.symm]
   ·by_cases h3:a=o
    ·subst h3; simp [upd,h1,h2]
    ·simp [upd,h1,h2,h3,frz]
 rw [e] at h
 exact h
def Pd:Ob->Nat
 | .box [.os o _ _ _]=>o
 | _=>0
@[simp,go_sem] theorem acf {o a b d:Nat}:Pd (.box [.os o a b d])=o:=rfl
theorem Sy (hL:aN P g [.i x,.i y,.pt 0 0 0 0] (hF [(0,.box [.os 1 sz 0 len]),(1,.arr sz es)]) (.tup []) (hOf (hF [(0,.box [.os 1 sz 0 len]),(1,.arr sz es)]) [(0,.box [.os 2 sz 0 len']),(1,.dead),(2,.arr sz es')]))
  (hb:σ.H c=.box [.os (Pd (σ.H c)) sz 0 len]) (ho:σ.H (Pd (σ.H c))=.arr sz es) (hf:qz (σ.H (frs σ.H))=true)
  (h:Ro P n rid rest (St.put ⟨σ.sl,upd (upd (upd σ.H (Pd (σ.H c)) .dead) (frs σ.H) (.arr sz es')) c (.box [.os (frs σ.H) sz 0 len'])⟩ dst (.tup [])) ks Q):Call P n rid g [.i x,.i y,.pt c 0 0 0] dst rest σ ks Q :=
 ⟨_,_,.inl (GY hL hb ho (jm hf)),h⟩
theorem OX (hL:aN P g [.i x,.i y,.pt 0 0 0 0] (hF [(0,.box [.os 1 sz 0 len]),(1,.arr sz es)]) (.tup []) (hOf (hF [(0,.box [.os 1 sz 0 len]),(1,.arr sz es)]) [(0,.box [.os 2 sz 0 len']),(1,.dead),(2,.arr sz es')]))
  (hb:σ.H c=.box [.os (Pd (σ.H c)) sz 0 len]) (ho:σ.H (Pd (σ.H c))=.arr sz es) (hf:qz (σ.H (frs σ.H))=true)
  (h:Rd P n rid ops rest ((k,[c,Pd (σ.H c),frs σ.H],[c,Pd (σ.H c),frs σ.H]) :: acc) (St.put ⟨σ.sl,upd (upd (upd σ.H (Pd (σ.H c)) .dead) (frs σ.H) (.arr sz es')) c (.box [.os (frs σ.H) sz 0 len'])⟩ dst (.tup [])) ks Q):kM P n rid ops g [.i x,.i y,.pt c 0 0 0] k dst rest acc σ ks Q:=by
 revert hb ho h
 generalize Pd (σ.H c)=o
 intro hb ho h
 refine ⟨⟨.tup [],[c,o,frs σ.H],[c,o,frs σ.H],fun G=>upd (upd (upd G o .dead) (frs σ.H) (.arr sz es')) c (.box [.os (frs σ.H) sz 0 len'])⟩,⟨⟨fun _ h=>h,fun G k hk=>?_,fun G G' _ k hk=>?_⟩,fun G hG=>.inl (GY hL ((hG c (by simp)).trans hb) ((hG o (by simp)).trans ho) ((hG (frs σ.H) (by simp)).trans (jm hf)))⟩,h⟩
 ·simp at hk; simp [upd,hk.1,hk.2.1,hk.2.2]
 ·simp at hk
  by_cases e1:k=c
  ·simp [upd,e1]
  ·by_cases e2:k=frs σ.H
   ·simp [upd,e1,e2]
   ·have e3:k=o:=by rcases hk with h | h | h <;> first | exact absurd h e1 | exact h | exact absurd h e2
    simp [upd,e1,e2,e3]
theorem Nv (hL:aN P g [.os 0 sz 0 len,.fn g2 []] (hF [(0,.arr sz es)]) (.tup []) (hOf (hF [(0,.arr sz es)]) [(0,.arr sz es')])) (ho:H o=.arr sz es) :
  aN P g [.os o sz 0 len,.fn g2 []] H (.tup []) (upd H o (.arr sz es')):=by
 have h:=dC (H:=H) (gs:=[.os o sz 0 len,.fn g2 []]) (L2:=fun a=>if a=o then .arr sz es' else .dead) (r':=.tup []) [] (fun l=>if l=0 then some o else none) (fun a=>if a=o then some 0 else none) hL
  ⟨by simp [cv1,cv0],by simp [cv1,cvL],trivial⟩
  (fun a=>by
   by_cases h0:a=0
   ·subst h0; right; right; right; exact ⟨o,by simp,by simp [hF,lk,cvO,frz,ho]⟩
   ·left; simp [hF,lk,h0])
  (fun a b d h1 h2 h3 h4=>by simp at h3 h4; omega)
  (fun a=>by
   by_cases h1:a=o
   ·subst h1; right; right; right; exact ⟨0,by simp,by simp [hOf,lk,cvO,frz]⟩
   ·right; left; simp [h1])
  (fun a b d h1 h2 h3 h4=>by
   by_cases ha:a=o <;> by_cases hb:b=o
   ·rw [ha,hb]
   ·simp [hb,Ob.own] at h2
   ·simp [ha,Ob.own] at h1
   ·simp [ha,Ob.own] at h1)
  (by simp [cv,cvT])
  (fun l a h=>by
   by_cases h0:l=0
   ·subst h0; simp at h; subst h; simp
   ·simp [h0] at h)
  (fun a l h=>by
   by_cases h0:a=o
   ·subst h0; simp at h; subst h; left; simp
   ·simp [h0] at h)
 have e:(fun a=>if ((if a=o then some 0 else none:Option Nat)).isSome then (if a=o then Ob.arr sz es' else .dead) else frz [] H a)=upd H o (.arr sz es'):=by
  funext a
  by_cases h1:a=o
  ·subst h1; simp [upd]
  ·simp [upd,h1,frz]
 rw [e] at h
 exact h
theorem OT (hL:aN P g [.os 0 sz 0 len,.fn g2 []] (hF [(0,.arr sz es)]) (.tup []) (hOf (hF [(0,.arr sz es)]) [(0,.arr sz es')])) (ho:σ.H o=.arr sz es)
  (h:Ro P n rid rest (St.put ⟨σ.sl,upd σ.H o (.arr sz es')⟩ dst (.tup [])) ks Q):Call P n rid g [.os o sz 0 len,.fn g2 []] dst rest σ ks Q :=
 ⟨_,_,.inl (Nv hL ho),h⟩
end
theorem wkE {C G Q:Prop} (c:C) (g:G) (h:PLift G->C->Q:=by
 intro hgo cc
 first
  | ((with_reducible refine Sy cc ?_ ?_ ?_ ?_); (· (simp; done)); (· (simp; done)); (· (simp; done)))
  | ((with_reducible refine OX cc ?_ ?_ ?_ ?_); (· (simp; done)); (· (simp; done)); (· (simp; done)))
  | ((with_reducible refine OT cc ?_ ?_); (· (simp; done)))
 exact hgo.down):Q:=h ⟨g⟩ c
theorem wkp {G Q:Prop} (g:G) (h:PLift G->Q:=by
 intro hgo
 repeat' (first
  | (simp (maxSteps:=2000000) -implicitDefEqProofs only [go_sem,Nat.reduceLT,Nat.reduceAdd,Nat.reduceMul,reduceIte,Nat.reduceEqDiff,reduceCtorEq,Nat.reducePow,Nat.reduceLeDiff,Int.reduceLE,Int.reduceLT,Int.reduceToNat,Int.reduceEq,Nat.reduceBEq,lgc,not_true_eq_false,Wz, *])
  | (with_reducible refine ⟨?_,?_⟩; (· first | (obtain ⟨rfl⟩:=‹Hq _ _›; with_reducible refine chk_ok ?_; kernel_rfl) | kernel_rfl))
  | (with_reducible intro ops hops)
  | (simp -implicitDefEqProofs (disch:=omega) only [aaI,TT,aH,ltc,ltf,lec,lef,abk,abl])
  | ((with_reducible first | refine EC ?_ | refine zR ?_); (first | refine wkE p1 ?_ | refine wkE p2 ?_ | refine wkE p3 ?_ | refine wkA c1 ?_ | refine wkA c2 ?_ | refine wkA c3 ?_ | refine wkA c4 ?_ | refine wkA c5 ?_ | refine wkA c6 ?_ | refine wkA c7 ?_ | refine wkA c8 ?_ | refine wkA c9 ?_ | refine wkA c10 ?_ | refine wkB e1 ?_ | refine wkB e2 ?_ | refine wkB e3 ?_ | refine wkB e4 ?_ | refine wkB e5 ?_ | refine wkC c1 ?_ | refine wkC c2 ?_ | refine wkC c3 ?_ | refine wkC c4 ?_ | refine wkC c5 ?_ | refine wkC c6 ?_ | refine wkC c7 ?_ | refine wkC c8 ?_ | refine wkC c9 ?_ | refine wkC c10 ?_))
  | ((first | refine bi (fun hg=>?_) (fun hg=>?_) | refine vR (fun hg=>?_) (fun hg=>?_) | refine vS (fun hg=>?_) (fun hg=>?_)) <;> (try simp only [nrm,eq_self,not_true_eq_false] at hg) <;> (try simp only [hg,lgc,reduceIte,reduceCtorEq] at hR) <;> (try (exfalso; omega)))
  | exact wkD b1 | exact wkD b2 | exact wkD b3 | exact wkD b4 | exact wkD b5
  | ((try simp only [*,lgc,reduceIte,reduceCtorEq] at hR); (try obtain ⟨rfl⟩:=hR); refine fin_q rfl ?_; (try simp only [go_sem,Nat.reduceLT,Nat.reduceAdd,Nat.reduceMul,reduceIte,Nat.reduceEqDiff,reduceCtorEq,Nat.reducePow,Nat.reduceLeDiff,Int.reduceLE,Int.reduceLT,Int.reduceToNat,Int.reduceEq,Nat.reduceBEq]); (first | (simp; done) | (simp; omega) | (simp [*]; done) | (simp [*]; omega)))
  | ((try simp only [*,lgc,reduceIte,reduceCtorEq] at hR); (try obtain ⟨rfl⟩:=hR); refine fin_d d1 rfl ?_ ?_ rfl ?_ rfl <;> (try simp only [go_sem,Nat.reduceLT,Nat.reduceAdd,Nat.reduceMul,reduceIte,Nat.reduceEqDiff,reduceCtorEq,Nat.reducePow,Nat.reduceLeDiff,Int.reduceLE,Int.reduceLT,Int.reduceToNat,Int.reduceEq,Nat.reduceBEq]) <;> (simp; done)))
 all_goals (repeat (revert hg))
 all_goals (try (have hR:=hR; revert hR))
 all_goals exact hgo.down):Q:=h ⟨g⟩
end Go.Abs
namespace Go.Proofs.YtfenipelcpmkpaaGreatDoor
open Go Go.Abs
def leK (x y:aV):Bool:=!(decide (Lib.compareBytes y.k x.k < 0))
def jN (l:List aV):List aV:=l.mergeSort leK
theorem mG (l:List aV):(jN l).Perm l:=List.mergeSort_perm l leK
theorem uh (l:List aV):(jN l).length=l.length:=(mG l).length_eq
theorem LC (x y z:aV) (h1:leK x y=true) (h2:leK y z=true):leK x z=true:=by
 simp only [leK,Bool.not_eq_true',decide_eq_false_iff_not] at *
 intro h3
 by_cases h:Lib.compareBytes y.k x.k=0
 ·rw [(kI _ _).1 h] at h2; exact h2 h3
 ·have h4:Lib.compareBytes x.k y.k < 0:=by rw [nT]; omega
  exact h2 (jr _ _ _ h3 h4)
theorem LD (x y:aV):(leK x y || leK y x)=true:=by
 simp only [leK,Bool.or_eq_true,Bool.not_eq_true',decide_eq_false_iff_not]
 rw [nT x.k y.k]; omega
theorem JQ {l:List aV} (hn:(l.map (·.k)).Nodup):(jN l).Pairwise fun x y=>Lib.compareBytes x.k y.k < 0:=by
 have h1:(jN l).Pairwise fun x y=>leK x y=true:=List.pairwise_mergeSort (le:=leK) LC LD l
 have h2:((jN l).map (·.k)).Nodup:=(((mG l).map _).nodup_iff).2 hn
 rw [List.Nodup,List.pairwise_map] at h2
 refine (h1.and h2).imp fun {a b} h=>?_
 obtain ⟨h,hne⟩:=h
 simp only [leK,Bool.not_eq_true',decide_eq_false_iff_not] at h
 rw [nT] at h
 have:¬ Lib.compareBytes a.k b.k=0:=fun e=>hne ((kI _ _).1 e)
 omega
end Go.Proofs.YtfenipelcpmkpaaGreatDoor
namespace Go.Proofs
section
open Go.Shelf
def Tryz.sortPr_ren:Go.Shelf.Ren:=⟨fun | 6=>45 | 15=>89 | 14=>88 | 28=>144 | 29=>145 | 20=>136 | 21=>137 | 22=>138 | 23=>139 | 24=>140 | 25=>141 | 26=>142 | 27=>143 | 46=>183 | 47=>184 | 48=>185 | 49=>186 | 50=>187 | 57=>231 | n=>n,fun | 22=>31 | 24=>41 | 25=>126 | 3=>3 | 39=>187 | 0=>0 | 53=>251 | 55=>54 | 4=>4 | 46=>245 | 45=>244 | 50=>139 | 5=>5 | 9=>9 | 66=>287 | 70=>291 | 76=>329 | 77=>330 | n=>n,fun | n=>n⟩
theorem Tryz.sortPr:Go.Proofs.SlLaysF0.n6 Tryz.prog Tryz.sortPr_ren:={
 mixed:=by kernel_rfl
 f6:=⟨Tryz.f45.name,by decide,Tryz.func45.trans (congrArg some (by kernel_rfl))⟩
 f14:=⟨Tryz.f88.name,by decide,Tryz.func88.trans (congrArg some (by kernel_rfl))⟩
 f15:=Tryz.func89.trans (congrArg some (by kernel_rfl))
 f20:=⟨Tryz.f136.name,by decide,Tryz.func136.trans (congrArg some (by kernel_rfl))⟩
 f21:=⟨Tryz.f137.name,by decide,Tryz.func137.trans (congrArg some (by kernel_rfl))⟩
 f22:=⟨Tryz.f138.name,by decide,Tryz.func138.trans (congrArg some (by kernel_rfl))⟩
 f23:=⟨Tryz.f139.name,by decide,Tryz.func139.trans (congrArg some (by kernel_rfl))⟩
 f24:=⟨Tryz.f140.name,by decide,Tryz.func140.trans (congrArg some (by kernel_rfl))⟩
 f25:=⟨Tryz.f141.name,by decide,Tryz.func141.trans (congrArg some (by kernel_rfl))⟩
 f26:=⟨Tryz.f142.name,by decide,Tryz.func142.trans (congrArg some (by kernel_rfl))⟩
 f27:=⟨Tryz.f143.name,by decide,Tryz.func143.trans (congrArg some (by kernel_rfl))⟩
 f28:=Tryz.func144.trans (congrArg some (by kernel_rfl))
 f29:=Tryz.func145.trans (congrArg some (by kernel_rfl))
 f46:=⟨Tryz.f183.name,by decide,Tryz.func183.trans (congrArg some (by kernel_rfl))⟩
 f47:=Tryz.func184.trans (congrArg some (by kernel_rfl))
 f48:=Tryz.func185.trans (congrArg some (by kernel_rfl))
 f49:=⟨Tryz.f186.name,by decide,Tryz.func186.trans (congrArg some (by kernel_rfl))⟩
 f50:=⟨Tryz.f187.name,by decide,Tryz.func187.trans (congrArg some (by kernel_rfl))⟩
 f57:=⟨Tryz.f231.name,by decide,Tryz.func231.trans (congrArg some (by kernel_rfl))⟩
 t0:=Tryz.underlying0
 a0:=Tryz.isAgg0
 z0:=Tryz.sizeOf0
 v0:=Tryz.zeroValue0
 t3:=Tryz.underlying3
 a3:=Tryz.isAgg3
 z3:=Tryz.sizeOf3
 v3:=Tryz.zeroValue3
 t4:=Tryz.underlying4
 a4:=Tryz.isAgg4
 z4:=Tryz.sizeOf4
 v4:=Tryz.zeroValue4
 t5:=Tryz.underlying5
 a5:=Tryz.isAgg5
 z5:=Tryz.sizeOf5
 v5:=Tryz.zeroValue5
 t9:=Tryz.underlying9
 a9:=Tryz.isAgg9
 z9:=Tryz.sizeOf9
 v9:=Tryz.zeroValue9
 t22:=Tryz.underlying31
 a22:=Tryz.isAgg31
 z22:=Tryz.sizeOf31
 v22:=Tryz.zeroValue31
 t25:=Tryz.underlying126
 a25:=Tryz.isAgg126
 z25:=Tryz.sizeOf126
 v25:=Tryz.zeroValue126
 t39:=Tryz.underlying187
 a39:=Tryz.isAgg187
 z39:=Tryz.sizeOf187
 v39:=Tryz.zeroValue187
 t45:=Tryz.underlying244
 a45:=Tryz.isAgg244
 z45:=Tryz.sizeOf244
 v45:=Tryz.zeroValue244
 t46:=Tryz.underlying245
 a46:=Tryz.isAgg245
 z46:=Tryz.sizeOf245
 v46:=Tryz.zeroValue245
 t50:=Tryz.underlying139
 a50:=Tryz.isAgg139
 z50:=Tryz.sizeOf139
 v50:=Tryz.zeroValue139
 t53:=Tryz.underlying251
 a53:=Tryz.isAgg251
 z53:=Tryz.sizeOf251
 v53:=Tryz.zeroValue251
 t55:=Tryz.underlying54
 a55:=Tryz.isAgg54
 z55:=Tryz.sizeOf54
 v55:=Tryz.zeroValue54
 t66:=Tryz.underlying287
 a66:=Tryz.isAgg287
 z66:=Tryz.sizeOf287
 v66:=Tryz.zeroValue287
 t70:=Tryz.underlying291
 a70:=Tryz.isAgg291
 z70:=Tryz.sizeOf291
 v70:=Tryz.zeroValue291
 t76:=Tryz.underlying329
 a76:=Tryz.isAgg329
 z76:=Tryz.sizeOf329
 v76:=Tryz.zeroValue329
 t77:=Tryz.underlying330
 a77:=Tryz.isAgg330
 z77:=Tryz.sizeOf330
 v77:=Tryz.zeroValue330 }
end
end Go.Proofs
namespace Go.Proofs.YtfenipelcpmkpaaGreatDoor
open Go Go.Abs Go.RowKit Go.Sort Go.Proofs.YtfenipelcpmkpaaGreatDoor.Ty
theorem swoK {α:Type} (key:α->List UInt8):SWO (ltOf fun x y=>Lib.compareBytes (key x) (key y)) where
 irrefl x:=by
  have h:=(kI (key x) (key x)).2 rfl
  simp only [ltOf,h]; rfl
 trans x y z h1 h2:=by
  simp only [ltOf,decide_eq_true_eq] at *
  exact jr _ _ _ h1 h2
 ntrans x y z h1 h2:=by
  simp only [ltOf,decide_eq_false_iff_not] at *
  intro h3
  by_cases h:Lib.compareBytes (key x) (key y)=0
  ·rw [(kI _ _).1 h] at h3; exact h2 h3
  ·have h4:Lib.compareBytes (key y) (key x) < 0:=by rw [nT]; omega
   exact h2 (jr _ _ _ h4 h3)
theorem uO {w:World} {b:Nat} {row:Array Value} {e:TypeId} {fr:Nat × Nat} (h:w.heap[b]?=some (.cells row e fr)) (f:Array Value->Array Value):mapBlock w b f=w.setRow b (f row):=by
 unfold mapBlock World.setRow
 congr 1
 apply Array.ext_getElem?
 intro k
 simp only [Array.getElem?_modify]
 by_cases hk:b=k
 ·subst hk; simp only [if_true,h,Option.map_some,onCells]
 ·simp [hk]
theorem aae {K:Ctx} {u v:Value} {a b:List UInt8} (hu:VD K u (.i (bI a))) (hv:VD K v (.i (bI b))) :
  Calls Tryz.prog 47 #[u,v] K.w fun e w'=>e=.returned (.int .i64 (Lib.compareBytes a b))/\w'=K.w:=by
 have h1:=pF (P:=Tryz.prog) hu
 have h2:=pF (P:=Tryz.prog) hv
 have hx:(callFunc 90 #[u,v]).run Tryz.prog K.w=.ok (.value (.int .i64 (Lib.compareBytes a b))) K.w:=by
  rw [run_callFunc_extern Tryz.func90 (by kernel_rfl) (by kernel_rfl) (by kernel_rfl) (e:=Extern.BytealgCompare.compare) (by kernel_rfl)]
  show ((Sem.run Tryz.prog (do pure (goInt (Extern.BytealgCompare.cmp (<- Extern.Bytes.bytesOf u) (<- Extern.Bytes.bytesOf v))):Sem Value) K.w).andThen fun v w'=>Result.ok (Next.value v) w')=_
  simp only [Sem.run_bind,Sem.run_pure,h1,h2,Result.andThen_ok,Lib.cmp_eq]
  rfl
 generalize Lib.compareBytes a b=r at *
 clear h1 h2 hu hv
 go_enter Tryz.func47,Tryz.ntmps47
 go_wp2
 go_ret
 exact ⟨rfl,rfl⟩
theorem Za {W:World} {S:Nat->Prop} (hB:∀ b,S b->b < W.heap.size) {u u' v v':Value} {a a' b b':List UInt8} (hu:VI W S u (bI a)) (hu':VI W S u' (bI a')) (hv:VI W S v (bI b)) (hv':VI W S v' (bI b')) :
  Calls Tryz.prog 46 (#[.agg [u,u'].toArray,.agg [v,v'].toArray]++#[]) W fun e w'=>e=.returned (.int .i64 (Lib.compareBytes a b))/\∃ q os',w'=grow (W.drewN q) os':=by
 have hcon:∀ o1 o2:Obj,Calls Tryz.prog 47 #[u,v] ((W.alloc o1).alloc o2) fun e w'=>e=.returned (.int .i64 (Lib.compareBytes a b))/\w'=(W.alloc o1).alloc o2:=fun o1 o2=>by
  have hm:∀ k,S k->∀ j,((W.alloc o1).alloc o2).cell? ⟨k,j,none⟩=W.cell? ⟨k,j,none⟩:=fun k hk j =>
   World.cell?_of_block (w:=W) ((Below.heap_alloc (W.alloc o1) o2 k (by show k < (W.heap.push o1).size; have:=hB k hk; simp; omega)).trans (Below.heap_alloc W o1 k (hB k hk)))
  exact aae (K:=⟨(W.alloc o1).alloc o2,S,fun _=>none⟩) (.i (hu.mono (fun _ h=>h) hm)) (.i (hv.mono (fun _ h=>h) hm))
 obtain ⟨p1,c1,rfl,_,_⟩:=VI.sub hu
 obtain ⟨p2,c2,rfl,_,_⟩:=VI.sub hu'
 obtain ⟨p3,c3,rfl,_,_⟩:=VI.sub hv
 obtain ⟨p4,c4,rfl,_,_⟩:=VI.sub hv'
 clear hu hu' hv hv' hB
 generalize (a.map af).length=n1 at *
 generalize (a'.map af).length=n2 at *
 generalize (b.map af).length=n3 at *
 generalize (b'.map af).length=n4 at *
 generalize Lib.compareBytes a b=r at *
 go_enter Tryz.func46,Tryz.ntmps46
 go_wp2_with (go_at_call 47; refine (hcon _ _).mono ?_; rintro e w' ⟨rfl,rfl⟩)
 go_ret
 exact ⟨rfl,0,_,by rw [alloc_eq_grow,alloc_eq_grow,grow_grow]; rfl⟩
theorem XU (l:List aV) (hl:l.length<=1048576) (hn:(l.map (·.k)).Nodup) :
  aN Tryz.prog 45 [.os 0 2 0 l.length,.fn 46 []] (hF [(0,.arr 2 (l.map aO))]) (.tup []) (hOf (hF [(0,.arr 2 (l.map aO))]) [(0,.arr 2 ((jN l).map aO))]):=by
 refine ⟨fU Tryz.func45 (by kernel_rfl) (by kernel_rfl),fun K0 T K vs hr hrd=>?_⟩
 obtain ⟨hs,hg⟩:=hrd
 have e:vs=#[vs.getD 0 undef,vs.getD 1 undef]:=by
  apply Array.ext
  ·simpa using hs
  ·intro i h1 h2
   simp at hs
   have:i=0\/i=1:=by omega
   rcases this with rfl | rfl <;> simp [Array.getD,hs]
 have hv0:=hg 0 _ rfl
 have hv1:=hg 1 _ rfl
 rw [e]
 generalize vs.getD 0 undef=v0 at *
 generalize vs.getD 1 undef=v1 at *
 clear hg hs e
 have h1:v1=.func (.func 46) #[] #[]:=by
  cases hv1 with
  | fn f cs _ hl hc=>rw [Array.eq_empty_of_size_eq_zero hl]
 subst h1
 clear hv1
 have hob:=hr.get (o:=0) (x:=.arr 2 (l.map aO)) rfl
 obtain ⟨_,hlen,hob⟩:=hob
 have hH:hOf (hF [(0,.arr 2 (l.map aO))]) [(0,.arr 2 ((jN l).map aO))]=upd (hF [(0,.arr 2 (l.map aO))]) 0 (.arr 2 ((jN l).map aO)):=by
  funext o
  by_cases ho:o=0 <;> simp [hOf,hF,lk,upd,ho]
 generalize hN:l.length=N at hv0
 by_cases h0:l=[]
 ·subst h0
  obtain ⟨a,cap,rfl⟩:∃ a cap,v0=.slice a 0 cap:=by
   simp at hN; subst hN
   cases hv0 <;> exact ⟨_,_,rfl⟩
  refine (AnyF.slices_SortFunc_none Tryz.sortPr a cap _ K.w).mono ?_
  rintro e w' ⟨rfl,rfl⟩
  refine ⟨_,K,rfl,rfl,Ext.refl K,?_,.tup _ _ rfl (fun j d hd=>by simp at hd)⟩
  have:hOf (hF [(0,.arr 2 (([]:List aV).map aO))]) [(0,.arr 2 ((jN []).map aO))]=hF [(0,.arr 2 (([]:List aV).map aO))]:=by
   funext o
   by_cases ho:o=0 <;> simp [hOf,hF,lk,ho,jN]
  rw [this]; exact hr
 obtain ⟨m,hm⟩:∃ m,l.length=m+1:=⟨l.length - 1,by cases l with | nil=>exact absurd rfl h0 | cons a t=>simp⟩
 cases hv0 with
 | os0=>omega
 | os _ _ _ _ b off cap hμ hz hc ho hrow =>
 have hoff:off=0:=by rcases ho with h | h <;> omega
 subst hoff
 rcases hob with ⟨hnn,_⟩ | ⟨b',row,ty,hμ',hheap,hsz,hcells,hS,hT⟩
 ·rw [hμ] at hnn; cases hnn
 rw [hμ] at hμ'; cases hμ'
 rw [List.length_map] at hsz
 have hget:∀ (i:Fin (m+1)),(l.map aO)[i.val]?=some (aO (l[i.val]'(by omega))):=fun i=>by
  have:i.val < l.length:=by omega
  simp [this]
 have k0:∀ i:Fin (m+1),VI K.w K.S (row.getD (i.val * 2) undef) (bI (l[i.val]'(by omega)).k):=fun i=>hcells _ _ (bJ (c:=0) hlen (hget i) rfl)
 have k1:∀ i:Fin (m+1),VI K.w K.S (row.getD (i.val * 2+1) undef) (bI (l[i.val]'(by omega)).v):=fun i=>hcells _ _ (bJ (c:=1) hlen (hget i) rfl)
 let enc:Fin (m+1)->List Value:=fun i=>[row.getD (i.val * 2) undef,row.getD (i.val * 2+1) undef]
 let cf:Fin (m+1)->Fin (m+1)->Int:=fun x y=>Lib.compareBytes (l[x.val]'(by omega)).k (l[y.val]'(by omega)).k
 let d:Array (Fin (m+1)):=(List.finRange (m+1)).toArray
 have hds:d.size=m+1:=by simp [d]
 have hb:b < K.w.heap.size:=hr.mB _ _ hμ
 have hone:∀ {v:Value} {x:List UInt8},VI K.w K.S v (bI x)->v.oneCell'=true:=fun {v x} h=>by
  obtain ⟨p,c,rfl,_,_⟩:=VI.sub h; rfl
 have hH2:HoldsK enc 2 K.w b 0 d:=by
  intro j hj
  rw [size_flatK,hds] at hj
  have hj2:j / 2 < m+1:=by omega
  have hdj:d[j / 2]! = ⟨j / 2,hj2⟩:=by
   rw [getElem!_pos d (j / 2) (by omega)]; simp [d]
  refine ⟨?_,by simp [World.frozen?,hheap]⟩
  rw [get_flatK enc 2 d j (by omega),hdj,Nat.zero_add,cell_of_row K.w b j row ty _ hheap]
  have hjr:j < row.size:=by omega
  rcases (by omega:j % 2=0\/j % 2=1) with h | h
  ·have e1:j / 2 * 2=j:=by omega
   simp [enc,h,e1,Array.getD,hjr]
  ·have e1:j / 2 * 2+1=j:=by omega
   simp [enc,h,e1,Array.getD,hjr]
 have hcmp:CmpLays Tryz.prog 46 #[] enc 2 cf b 0 d.size K.w:=fun n os dk hdk x y=>by
  have hm:∀ k,K.S k->∀ j,(sortWorldK enc 2 K.w b 0 n dk os).cell? ⟨k,j,none⟩=K.w.cell? ⟨k,j,none⟩:=fun k hk j=>by
   have hkb:b≠k:=by rintro rfl; exact hS hk
   refine World.cell?_of_block (w:=K.w) ?_
   show ((K.w.heap.modify b _)++os)[k]?=_
   rw [Array.getElem?_append_left (by simpa using hr.sB k hk),Array.getElem?_modify,if_neg hkb]
  refine Za (S:=K.S) (fun k hk=>?_) ((k0 x).mono (fun _ h=>h) hm) ((k1 x).mono (fun _ h=>h) hm) ((k0 y).mono (fun _ h=>h) hm) ((k1 y).mono (fun _ h=>h) hm)
  show k < ((K.w.heap.modify b _)++os).size
  have:=hr.sB k hk
  simp; omega
 have eg:∀ args w,(callFunc 46 args).run Tryz.prog w=.ok (.enter 46 args) w:=enters_of Tryz.func46 (by kernel_rfl) rfl
 have hT2:∀ x y,(ltOf cf) x y=false->(ltOf cf) y x=false->x=y:=fun x y h1 h2=>by
  simp only [ltOf,decide_eq_false_iff_not,cf] at h1 h2
  have h3:(l[x.val]'(by omega)).k=(l[y.val]'(by omega)).k:=by
   refine (kI _ _).1 ?_
   rw [nT] at h2; omega
  have h4:=(List.getElem_inj (i:=x.val) (j:=y.val) (h₀:=by simp; omega) (h₁:=by simp; omega) hn).1 (by simpa using h3)
  exact Fin.ext h4
 have hcon:=AnyQ.slices_SortFunc_total Tryz.sortPr 2 Tryz.isAgg41 Tryz.sizeOf41 enc (fun _=>rfl) (fun x v hv=>by
  simp only [enc,List.mem_cons,List.not_mem_nil,or_false] at hv
  rcases hv with rfl | rfl
  ·exact hone (k0 x)
  ·exact hone (k1 x)) cf (swoK fun x:Fin (m+1)=>(l[x.val]'(by omega)).k) 46 #[] b 0 cap d K.w eg hcmp hH2 hb (by omega) hT2
 have hdN:d.size=N:=by omega
 simp only [hdN] at hcon
 refine hcon.mono ?_
 rintro e w' ⟨rfl,n,os,hw⟩
 clear hcon
 generalize hL:(d.toList.mergeSort fun x y=>!(ltOf cf) y x)=L at hw
 have hLm:L.map (fun i=>(l[i.val]'(by omega):aV))=jN l:=by
  rw [<- hL]
  unfold jN
  rw [List.map_mergeSort (r:=fun x y=>!(ltOf cf) y x) (s:=leK) (f:=fun i:Fin (m+1)=>(l[i.val]'(by omega):aV)) (l:=d.toList) (fun a _ b _=>rfl)]
  congr 1
  refine List.ext_getElem (by simp [d,hm]) fun j h1 h2=>?_
  simp [d]
 have hLl:L.length=m+1:=by rw [<- hL,List.length_mergeSort]; simp [d]
 have hr1:HR K0 T (K.world (Sort.ahead K.w n)) (hF [(0,.arr 2 (l.map aO))]):=hr.world rfl rfl rfl rfl
 have he1:Ext K (K.world (Sort.ahead K.w n)):=Ext.world rfl
 have hg1:(K.world (Sort.ahead K.w n)).w.heap[b]?=some (.cells row ty (0,0)):=hheap
 let row':Array Value:=putCells id 0 (flatK enc 2 L.toArray) row
 have hs1:row'.size=row.size:=by simp [row',putCells]
 have he2:=nP (K:=K.world (Sort.ahead K.w n)) hg1 hs1 hS
 have hcell':∀ (j:Nat) (hj:j < (m+1) * 2),row'.getD j undef=(enc (L[j / 2]'(by omega)))[j % 2]!:=fun j hj=>by
  have hjr:j < row.size:=by omega
  have h1:=get_flatK enc 2 L.toArray j (by simp [hLl]; omega)
  have h2:(L.toArray)[j / 2]! = L[j / 2]'(by omega):=by
   rw [getElem!_pos L.toArray (j / 2) (by simp; omega)]; simp
  rw [h2] at h1
  rw [<- h1]
  have hj3:j < (flatK enc 2 L.toArray).size:=by simp [hLl]; omega
  simp only [row',putCells,Array.getD,Array.size_mapIdx,hjr,dif_pos]
  simp [hj3]
  intro h; omega
 have hx:ObR K0 T ((K.world (Sort.ahead K.w n)).row b row') 0 (.arr 2 ((jN l).map aO)):=by
  refine ⟨by omega,fun e he=>by obtain ⟨p,_,rfl⟩:=List.mem_map.1 he; rfl,.inr ⟨b,row',ty,hμ,setRow_heap _ _ _ _ _ _ hg1,by rw [hs1,<- hLm]; simp [hLl]; omega,fun j x hj=>?_,hS,hT⟩⟩
  obtain ⟨e,h1,h2⟩:=flatten_get' (sz:=2) (by omega) (fun e he=>by obtain ⟨p,_,rfl⟩:=List.mem_map.1 he; rfl) hj
  rw [<- hLm] at h1
  have hj2:j / 2 < L.length:=by
   have:=(List.getElem?_eq_some_iff.1 h1).1; simpa using this
  have hj3:j < (m+1) * 2:=by omega
  simp [hj2] at h1
  subst h1
  rw [hcell' j hj3]
  refine VI.ext (he1.trans he2) ?_
  rcases (by omega:j % 2=0\/j % 2=1) with h | h
  ·rw [h] at h2 ⊢
   simp [aO] at h2; subst h2
   exact k0 _
  ·rw [h] at h2 ⊢
   simp [aO] at h2; subst h2
   exact k1 _
 have hr2:=hr1.row (o:=0) trivial hμ hg1 hs1 hx
 have hsz3:((K.world (Sort.ahead K.w n)).row b row').w.heap.size<=(Sort.grow ((K.world (Sort.ahead K.w n)).row b row').w os).heap.size:=by show _<=(_++os).size; simp
 obtain ⟨he3,hr3⟩:=hr2.grow (w':=Sort.grow ((K.world (Sort.ahead K.w n)).row b row').w os) (S':=K.S) rfl rfl rfl hsz3 (fun j hj=>by show (_++os)[j]?=_; rw [Array.getElem?_append_left hj]) (fun _ h=>h) (fun _ h=>.inl h) (fun b hb=>Nat.lt_of_lt_of_le (hr2.sB b hb) hsz3)
 refine ⟨_,_,rfl,?_,he1.trans (he2.trans he3),?_,.tup _ _ rfl (fun j d hd=>by simp at hd)⟩
 ·rw [hw]
  show Sort.grow _ os=Sort.grow _ os
  congr 1
  exact (uO (w:=Sort.ahead K.w n) (b:=b) hheap (putCells id 0 (flatK enc 2 L.toArray))).symm
 ·rw [hH]; exact hr3
theorem ZM (n:Nat):∀ b∈Lib.decDigits n,48<=b.toNat/\b.toNat<=57:=by
 induction n using Nat.strongRecOn with
 | ind n ih =>
  intro b hb
  rw [Lib.decDigits] at hb
  split at hb
  ·simp only [List.mem_cons,List.not_mem_nil,or_false] at hb; subst hb
   rw [UInt8.toNat_ofNat']; omega
  ·simp only [List.mem_append,List.mem_cons,List.not_mem_nil,or_false] at hb
   rcases hb with hb | rfl
   ·exact ih (n / 10) (by omega) b hb
   ·rw [UInt8.toNat_ofNat']; omega
def dv (l:List UInt8):Nat:=l.foldl (fun n b=>n * 10+(b.toNat - 48)) 0
theorem ZJ (n:Nat):dv (Lib.decDigits n)=n:=by
 induction n using Nat.strongRecOn with
 | ind n ih =>
  rw [Lib.decDigits]
  split
  ·simp only [dv,List.foldl_cons,List.foldl_nil]; rw [UInt8.toNat_ofNat']; omega
  ·have:=ih (n / 10) (by omega)
   unfold dv at this ⊢
   rw [List.foldl_append,this]
   simp only [List.foldl_cons,List.foldl_nil]; rw [UInt8.toNat_ofNat']; omega
theorem LM {a:Int} (h:0<=a):Lib.itoa a=Lib.decDigits a.toNat:=by unfold Lib.itoa; rw [if_neg (by omega)]
theorem uS {a b:Int} (ha:0<=a) (hb:0<=b) (h:Lib.itoa a=Lib.itoa b):a=b:=by
 rw [LM ha,LM hb] at h
 have:=congrArg dv h
 rw [ZJ,ZJ] at this
 omega
theorem ito_no {a:Int} (ha:0<=a):(47:UInt8) ∉ Lib.itoa a:=fun h=>by
 rw [LM ha] at h
 have:=ZM _ _ h
 simp at this
theorem cut_at {x:UInt8}:∀ {a b c d:List UInt8},x ∉ a->x ∉ c->a++x :: b=c++x :: d->a=c/\b=d
 | [],b,[],d,_,_,h=>⟨rfl,by simpa using h⟩
 | [],b,y :: c,d,_,h2,h=>by simp at h; exact absurd h.1 (fun e=>h2 (by simp [e]))
 | y :: a,b,[],d,h1,_,h=>by simp at h; exact absurd h.1 (fun e=>h1 (by simp [e]))
 | y :: a,b,z :: c,d,h1,h2,h=>by
  simp only [List.cons_append,List.cons.injEq] at h
  obtain ⟨q1,q2⟩:=cut_at (fun e=>h1 (by simp [e])) (fun e=>h2 (by simp [e])) h.2
  exact ⟨by rw [h.1,q1],q2⟩
theorem QQ {i j:Int} (hi:0<=i) (hj:0<=j) (h:keyC i=keyC j):i=j:=uS hi hj (List.append_cancel_left h)
theorem QP {i j:Int} (hi:0<=i) (hj:0<=j) (h:keyH i=keyH j):i=j:=uS hi hj (List.append_cancel_left h)
theorem QO {i j:Int} (hi:0<=i) (hj:0<=j) (h:keyN i=keyN j):i=j:=uS hi hj (List.append_cancel_left h)
theorem keyM_inj {w:List UInt8} {a b c d:Int} (ha:0<=a) (hb:0<=b) (hc:0<=c) (hd:0<=d) (h:keyM w a b=keyM w c d):a=c/\b=d:=by
 unfold keyM at h
 simp only [List.append_assoc,List.cons_append,List.nil_append] at h
 have h:=List.append_cancel_left h
 simp only [List.cons.injEq,true_and] at h
 obtain ⟨q1,q2⟩:=cut_at (ito_no ha) (ito_no hc) h
 exact ⟨uS ha hc q1,uS hb hd q2⟩
def cnB:Nat->List ConnD->List aV
 | _,[]=>[]
 | i,c :: t=>⟨keyC i,jK c⟩ :: cnB (i+1) t
def chB:Nat->List ChanD->List aV
 | _,[]=>[]
 | i,c :: t=>⟨keyH i,jL c⟩ :: ⟨keyN i,BP c.rcv⟩ :: chB (i+1) t
def mkB (w:List UInt8) (l:List bD):List aV:=l.map fun m=>⟨keyM w m.ch m.seq,m.dg⟩
def Fa:List UInt8:=[115,101,110,116]
def wGt:List UInt8:=[103,111,116]
def wAk:List UInt8:=[97,99,107]
def uu (s:StateD):List aV:=cnB 0 s.cns++chB 0 s.chs++mkB Fa s.sent++mkB wGt s.got++mkB wAk s.acks
def fG (s:StateD):List aV × Int:=if bu s=0 then (jN (uu s),0) else ([],bu s)
theorem Nb:∀ (i:Nat) (l m:List ConnD),cnB i (l++m)=cnB i l++cnB (i+l.length) m
 | i,[],m=>by simp [cnB]
 | i,c :: t,m=>by simp only [List.cons_append,cnB,Nb (i+1) t m,List.length_cons]; rw [Nat.add_right_comm,Nat.add_assoc]
theorem Np:∀ (i:Nat) (l m:List ChanD),chB i (l++m)=chB i l++chB (i+l.length) m
 | i,[],m=>by simp [chB]
 | i,c :: t,m=>by simp only [List.cons_append,chB,Np (i+1) t m,List.length_cons]; rw [Nat.add_right_comm,Nat.add_assoc]
theorem Rx {l:List ConnD} {i:Nat} (h:i < l.length):cnB 0 (l.take (i+1))=cnB 0 (l.take i)++[⟨keyC i,jK l[i]⟩]:=by
 rw [List.take_succ_eq_append_getElem h,Nb]; simp [cnB,Nat.min_eq_left (Nat.le_of_lt h)]
theorem RJ {l:List ChanD} {i:Nat} (h:i < l.length):chB 0 (l.take (i+1))=chB 0 (l.take i)++[⟨keyH i,jL l[i]⟩]++[⟨keyN i,BP l[i].rcv⟩]:=by
 rw [List.take_succ_eq_append_getElem h,Np]; simp [chB,Nat.min_eq_left (Nat.le_of_lt h)]
theorem yN {w:List UInt8} {l:List bD} {i:Nat} (h:i < l.length):mkB w (l.take (i+1))=mkB w (l.take i)++[⟨keyM w l[i].ch l[i].seq,l[i].dg⟩]:=by
 unfold mkB
 rw [List.take_succ_eq_append_getElem h,List.map_append]; rfl
theorem Ey:∀ (i:Nat) (l:List ConnD),(cnB i l).length=l.length
 | _,[]=>rfl
 | i,c :: t=>by simp [cnB,Ey (i+1) t]
theorem EB:∀ (i:Nat) (l:List ChanD),(chB i l).length=2 * l.length
 | _,[]=>rfl
 | i,c :: t=>by simp [chB,EB (i+1) t]; omega
theorem qp (w:List UInt8) (l:List bD):(mkB w l).length=l.length:=by simp [mkB]
theorem xV (s:StateD):(uu s).length=s.cns.length+2 * s.chs.length+s.sent.length+s.got.length+s.acks.length:=by
 simp [uu,Ey,EB,qp]; omega
theorem cnB_mem:∀ {i:Nat} {l:List ConnD} {p:aV},p∈cnB i l->∃ (j:Nat) (c:ConnD),i<=j/\j < i+l.length/\c∈l/\p=⟨keyC j,jK c⟩
 | i,c :: t,p,h=>by
  simp only [cnB,List.mem_cons] at h
  rcases h with rfl | h
  ·exact ⟨i,c,Nat.le_refl _,by simp,by simp,rfl⟩
  ·obtain ⟨j,c',h1,h2,h3,h4⟩:=cnB_mem h
   exact ⟨j,c',by omega,by simp; omega,by simp [h3],h4⟩
theorem chB_mem:∀ {i:Nat} {l:List ChanD} {p:aV},p∈chB i l->∃ (j:Nat) (c:ChanD),i<=j/\j < i+l.length/\c∈l/\(p=⟨keyH j,jL c⟩\/p=⟨keyN j,BP c.rcv⟩)
 | i,c :: t,p,h=>by
  simp only [chB,List.mem_cons] at h
  rcases h with rfl | rfl | h
  ·exact ⟨i,c,Nat.le_refl _,by simp,by simp,.inl rfl⟩
  ·exact ⟨i,c,Nat.le_refl _,by simp,by simp,.inr rfl⟩
  ·obtain ⟨j,c',h1,h2,h3,h4⟩:=chB_mem h
   exact ⟨j,c',by omega,by simp; omega,by simp [h3],h4⟩
theorem mkB_mem {w:List UInt8} {l:List bD} {p:aV} (h:p∈mkB w l):∃ m∈l,p=⟨keyM w m.ch m.seq,m.dg⟩:=by
 obtain ⟨m,hm,rfl⟩:=List.mem_map.1 h; exact ⟨m,hm,rfl⟩
def KND (l:List aV):Prop:=(l.map (·.k)).Nodup
theorem yS {p:aV} {l:List aV} (h:∀ q∈l,p.k≠q.k) (hl:KND l):KND (p :: l):=by
 unfold KND at *
 rw [List.map_cons,List.nodup_cons]
 exact ⟨fun hm=>by obtain ⟨q,hq,e⟩:=List.mem_map.1 hm; exact h q hq e.symm,hl⟩
theorem yT {l m:List aV} (h1:KND l) (h2:KND m) (h:∀ p∈l,∀ q∈m,p.k≠q.k):KND (l++m):=by
 unfold KND at *
 rw [List.map_append,List.nodup_append]
 refine ⟨h1,h2,fun a ha b hb=>?_⟩
 obtain ⟨p,hp,rfl⟩:=List.mem_map.1 ha
 obtain ⟨q,hq,rfl⟩:=List.mem_map.1 hb
 exact h p hp q hq
theorem Na:∀ (i:Nat) (l:List ConnD),KND (cnB i l)
 | _,[]=>List.nodup_nil
 | i,c :: t=>yS (fun q hq e=>by
   obtain ⟨j,c',h1,_,_,rfl⟩:=cnB_mem hq
   have:=QQ (by omega) (by omega) e
   omega) (Na (i+1) t)
theorem Nn:∀ (i:Nat) (l:List ChanD),KND (chB i l)
 | _,[]=>List.nodup_nil
 | i,c :: t=>yS (fun q hq e=>by
   simp only [List.mem_cons] at hq
   rcases hq with rfl | hq
   ·simp [keyH,keyN] at e
   ·obtain ⟨j,c',h1,_,_,rfl | rfl⟩:=chB_mem hq
    ·have:=QP (by omega) (by omega) e
     omega
    ·simp [keyH,keyN] at e) (yS (fun q hq e=>by
   obtain ⟨j,c',h1,_,_,rfl | rfl⟩:=chB_mem hq
   ·simp [keyH,keyN] at e
   ·have:=QO (by omega) (by omega) e
    omega) (Nn (i+1) t))
theorem Dk (w:List UInt8) {l:List bD} (h:kL l):KND (mkB w l):=by
 unfold KND mkB
 rw [List.map_map,List.Nodup,List.pairwise_map]
 have hs:l.Pairwise fun x y=>v_ (mk x) (mk y) < 0:=h.srt
 refine List.Pairwise.imp_of_mem ?_ hs
 intro a b ha hb hlt e
 have h1:=(h.all a ha).ch
 have h2:=(h.all a ha).seq
 have h3:=(h.all b hb).ch
 have h4:=(h.all b hb).seq
 unfold N12 at h1 h2 h3 h4
 obtain ⟨q1,q2⟩:=keyM_inj (w:=w) (by omega) (by omega) (by omega) (by omega) e
 have:v_ (mk a) (mk b)=0:=(cmpM_ok.zero _ _).2 (by simp [mk,q1,q2])
 omega
theorem FD {s:StateD} (ok:StOk s):KND (uu s):=by
 unfold uu
 have hm:∀ {w w':List UInt8} {l l':List bD},(∀ a b c d,keyM w a b≠keyM w' c d)->∀ p∈mkB w l,∀ q∈mkB w' l',p.k≠q.k:=by
  intro w w' l l' h p hp q hq
  obtain ⟨m,_,rfl⟩:=mkB_mem hp
  obtain ⟨m',_,rfl⟩:=mkB_mem hq
  exact h _ _ _ _
 have hc:∀ {w:List UInt8} {l:List bD},(∀ a c d,keyC a≠keyM w c d)->∀ p∈cnB 0 s.cns,∀ q∈mkB w l,p.k≠q.k:=by
  intro w l h p hp q hq
  obtain ⟨j,c,_,_,_,rfl⟩:=cnB_mem hp
  obtain ⟨m',_,rfl⟩:=mkB_mem hq
  exact h _ _ _
 have hh:∀ {w:List UInt8} {l:List bD},(∀ a c d,keyH a≠keyM w c d/\keyN a≠keyM w c d)->∀ p∈chB 0 s.chs,∀ q∈mkB w l,p.k≠q.k:=by
  intro w l h p hp q hq
  obtain ⟨m',_,rfl⟩:=mkB_mem hq
  obtain ⟨j,c,_,_,_,rfl | rfl⟩:=chB_mem hp
  ·exact (h _ _ _).1
  ·exact (h _ _ _).2
 refine yT (yT (yT (yT (Na 0 _) (Nn 0 _) ?_) (Dk _ ok.sent) ?_) (Dk _ ok.got) ?_) (Dk _ ok.acks) ?_
 ·intro p hp q hq
  obtain ⟨j,c,_,_,_,rfl⟩:=cnB_mem hp
  obtain ⟨i,d,_,_,_,rfl | rfl⟩:=chB_mem hq <;> simp [keyC,keyH,keyN]
 ·intro p hp q hq
  rcases List.mem_append.1 hp with hp | hp
  ·exact hc (by simp [keyC,keyM,Fa]) p hp q hq
  ·exact hh (by simp [keyH,keyN,keyM,Fa]) p hp q hq
 ·intro p hp q hq
  rcases List.mem_append.1 hp with hp | hp
  ·rcases List.mem_append.1 hp with hp | hp
   ·exact hc (by simp [keyC,keyM,wGt]) p hp q hq
   ·exact hh (by simp [keyH,keyN,keyM,wGt]) p hp q hq
  ·exact hm (by simp [keyM,Fa,wGt]) p hp q hq
 ·intro p hp q hq
  rcases List.mem_append.1 hp with hp | hp
  ·rcases List.mem_append.1 hp with hp | hp
   ·rcases List.mem_append.1 hp with hp | hp
    ·exact hc (by simp [keyC,keyM,wAk]) p hp q hq
    ·exact hh (by simp [keyH,keyN,keyM,wAk]) p hp q hq
   ·exact hm (by simp [keyM,Fa,wAk]) p hp q hq
  ·exact hm (by simp [keyM,wGt,wAk]) p hp q hq
theorem ry:∀ (ns:List Nat) (acc:List UInt8) (i:Nat),acc.length+11 * ns.length<=20000->eF acc i (ns.map jh)=(acc++ns.flatMap (fun n=>0 :: lu n),0,0)
 | [],acc,i,_=>by simp [eF]
 | n :: t,acc,i,h=>by
  have h1:=fw n
  have hw:jA (jh n)=some (0 :: lu n):=rfl
  simp only [List.map_cons,eF,hw]
  rw [if_neg (by simp at h ⊢; omega),ry t _ _ (by simp at h ⊢; omega)]
  simp
theorem qh (ns:List Nat) (h:ns.length<=10):(cu (ns.map jh)).1.length<=10+11 * ns.length:=by
 have h0:=fw ns.length
 rw [cu,if_neg (by simp; omega),ry _ _ _ (by simp; omega)]
 simp only [List.length_append,List.length_map]
 have:∀ (l:List Nat),(l.flatMap fun n=>0 :: lu n).length<=11 * l.length:=by
  intro l
  induction l with
  | nil=>simp
  | cons a t ih=>have:=fw a; simp only [List.flatMap_cons,List.length_append,List.length_cons]; omega
 have:=this ns
 omega
theorem Qc {s:StateD} (ok:StOk s):∀ p∈uu s,p.k.length<=60/\p.v.length<=200:=by
 have hi:∀ j:Nat,j < 9->(Lib.itoa (j:Int)).length<=21:=fun j hj=>jl (n:=(j:Int)) (by unfold iG; omega)
 have hm:∀ {w:List UInt8} {l:List bD},w.length<=10->kL l->∀ p∈mkB w l,p.k.length<=60/\p.v.length<=200:=by
  intro w l hw hl p hp
  obtain ⟨m,hmm,rfl⟩:=mkB_mem hp
  have o:=hl.all m hmm
  have o1:=o.ch
  have o2:=o.seq
  have o3:=o.dg
  unfold N12 at o1 o2
  have h1:=jl (n:=m.ch) (by unfold iG; omega)
  have h2:=jl (n:=m.seq) (by unfold iG; omega)
  exact ⟨by simp [keyM]; omega,by simp only; omega⟩
 have l1:=ok.lcn
 have l2:=ok.lch
 intro p hp
 unfold uu at hp
 simp only [List.mem_append] at hp
 rcases hp with (((hp | hp) | hp) | hp) | hp
 ·obtain ⟨j,c,_,h2,_,rfl⟩:=cnB_mem hp
  have:=hi j (by omega)
  have h3:=qh [u64 c.st,u64 c.cl,u64 c.oc,u64 (c.on+1)] (by simp)
  simp only [List.length_cons,List.length_nil,List.map_cons,List.map_nil] at h3
  exact ⟨by simp [keyC]; omega,by show (jK c).length<=200; unfold jK; omega⟩
 ·obtain ⟨j,c,_,h2,_,rfl | rfl⟩:=chB_mem hp
  ·have:=hi j (by omega)
   have h3:=qh [u64 c.st,u64 (if c.ord=true then 1 else 0),u64 c.cn,u64 (c.oc+1)] (by simp)
   simp only [List.length_cons,List.length_nil,List.map_cons,List.map_nil] at h3
   exact ⟨by simp [keyH]; omega,by show (jL c).length<=200; unfold jL; omega⟩
  ·have:=hi j (by omega)
   have h3:=qh [u64 c.rcv] (by simp)
   simp only [List.length_cons,List.length_nil,List.map_cons,List.map_nil] at h3
   exact ⟨by simp [keyN]; omega,by show (BP c.rcv).length<=200; unfold BP; omega⟩
 ·exact hm (by decide) ok.sent p hp
 ·exact hm (by decide) ok.got p hp
 ·exact hm (by decide) ok.acks p hp
theorem book_right {s:StateD} (ok:StOk s):BL (jN (uu s)):=by
 have l1:=ok.lcn
 have l2:=ok.lch
 have l3:=ok.lsent
 have l4:=ok.lgot
 have l5:=ok.lacks
 refine ⟨?_,fun p hp=>Qc ok p ((mG _).mem_iff.1 hp),fun i j hi hj hij=>?_⟩
 ·rw [uh,xV]; omega
 ·exact List.pairwise_iff_getElem.1 (JQ (FD ok)) i j hi hj hij
attribute [simp,go_sem] aO
theorem wS (es:List (List I)) (n:Nat) (hn:es.length=n) (hl:n<=1000) (k v:List UInt8) :
  aN Tryz.prog 36 [.i (bI k),.i (bI v),.pt 0 0 0 0] (hF [(0,.box [.os 1 2 0 n]),(1,.arr 2 es)]) (.tup []) (hOf (hF [(0,.box [.os 1 2 0 n]),(1,.arr 2 es)]) [(0,.box [.os 2 2 0 (n+1)]),(1,.dead),(2,.arr 2 (es++[[bI k,bI v]]))]):=by
 subst hn
 refine gX fun R R' hR hR'=>?_
 have d1:iN [] [(2,1005)]:=⟨trivial⟩
 obtain ⟨rfl⟩:=hR
 obtain ⟨rfl⟩:=hR'
 refine aa 11 Tryz.func36 rfl rfl rfl (fun o ho=>by simp [hF,lk,show o≠0 by omega,show o≠1 by omega,show o≠2 by omega,show o≠3 by omega,show o≠4 by omega,show o≠5 by omega]) ?_
 exact wkl trivial
theorem abe {i:Nat} (h:i<=1000000):iG (i:Int):=by unfold iG; omega
theorem TM (s:StateD) (hs:StSm s):PureD Tryz.prog 15 [stateD s] (.tup [.i (.sl ((fG s).1.map aO)),intD (fG s).2]):=by
 refine ak fun R hR=>?_
 have c1:=ik s hs
 unfold fG at hR
 by_cases h:bu s=0
 rotate_left
 ·rw [if_neg h] at hR
  generalize bu s=W at *
  clear hs
  refine aa 96 Tryz.func15 rfl rfl rfl (fun _ _=>rfl) ?_
  exact wkl trivial
 have ok:=aB.1 h
 rw [h] at c1
 rw [if_pos h] at hR
 have l1:=ok.lcn
 have l2:=ok.lch
 have l3:=ok.lsent
 have l4:=ok.lgot
 have l5:=ok.lacks
 clear h hs
 refine aa 96 Tryz.func15 rfl rfl rfl (fun _ _=>rfl) ?_
 refine wkl ?_
 clear hR c1; intro hR
 refine aZ (ι:=Nat × List aV) (fun q=>q.1<=s.cns.length/\q.2=cnB 0 (s.cns.take q.1)) (fun q=>ek [(1,.pt 100 0 0 0),(5,.pt 101 0 0 0),(6,.fn 36 [.pt 101 0 0 0]),(22,.i (.sl (s.cns.map dW))),(23,intD s.cns.length),(24,intD q.1)]
  [(100,.box ((encSt s).map .i)),(101,.box [.os 102 2 0 q.2.length]),(102,.arr 2 (q.2.map aO))]) (fun q=>s.cns.length - q.1) (0,[]) ⟨Nat.zero_le _,rfl⟩ ?_ ?_
 ·exact dP [] [(100,1000),(101,2024)]
 ·rintro ⟨i,L⟩ ⟨hi,hL0⟩ RL hL
  simp only at hi hL0
  rw [au]
  have hlen:L.length<=8:=by rw [hL0,Ey]; simp; omega
  by_cases h:i < s.cns.length
  ·have s0:=aH (f:=dW) h
   have q:=(ok.cns _ (List.getElem_mem h)).on
   unfold N12 at q
   have c1:=BA i (abe (by omega))
   have c2:=MW s.cns[i] q
   have p1:=wS (L.map aO) L.length (by simp) (by omega) (keyC i) (jK s.cns[i])
   have b1:=fun σ'=>bk [] [(100,100),(101,101),(102,901)] (hL (i+1,L++[⟨keyC i,jK s.cns[i]⟩]) σ' ⟨h,by rw [hL0]; exact (Rx h).symm⟩)
   simp only at b1
   simp only [bI] at p1
   clear hL ok hL0 q
   generalize keyC i=K at *
   generalize jK s.cns[i]=V at *
   generalize s.cns[i]=x at *
   exact wkp trivial
  ·have e:L=cnB 0 s.cns:=by rw [hL0,List.take_of_length_le (by omega)]
   clear hL hL0
   refine wkl ?_
   clear hR; intro hR
   intros
   refine aZ (ι:=Nat × List aV) (fun q=>q.1<=s.chs.length/\q.2=L++chB 0 (s.chs.take q.1)) (fun q=>ek [(1,.pt 100 0 0 0),(5,.pt 101 0 0 0),(6,.fn 36 [.pt 101 0 0 0]),(37,.i (.sl (s.chs.map bM))),(38,intD s.chs.length),(39,intD q.1)]
    [(100,.box ((encSt s).map .i)),(101,.box [.os 102 2 0 q.2.length]),(102,.arr 2 (q.2.map aO))]) (fun q=>s.chs.length - q.1) (0,L) ⟨Nat.zero_le _,(List.append_nil _).symm⟩ ?_ ?_
   ·exact dP [] [(100,100),(101,101),(102,102)]
   ·rintro ⟨i,M⟩ ⟨hi,hM⟩ RL hL
    simp only at hi hM
    rw [au]
    have hlen2:M.length<=24:=by rw [hM,List.length_append,EB]; simp; omega
    by_cases h:i < s.chs.length
    ·have s0:=aH (f:=bM) h
     have q:=(ok.chs _ (List.getElem_mem h)).oc
     unfold N12 at q
     have c1:=Bn i (abe (by omega))
     have c2:=Nl s.chs[i] q
     have c3:=Lg i (abe (by omega))
     have c4:=Ll s.chs[i].rcv
     have p1:=wS (M.map aO) M.length (by simp) (by omega) (keyH i) (jL s.chs[i])
     have p2:=wS (M.map aO++[[bI (keyH i),bI (jL s.chs[i])]]) (M.length+1) (by simp) (by omega) (keyN i) (BP s.chs[i].rcv)
     have b1:=fun σ'=>bk [] [(100,100),(101,101),(102,902)] (hL (i+1,M++[⟨keyH i,jL s.chs[i]⟩]++[⟨keyN i,BP s.chs[i].rcv⟩]) σ' ⟨h,by rw [hM]; simp only [List.append_assoc]; congr 1; have:=(RJ h).symm; simpa using this⟩)
     simp only at b1
     simp only [bI] at p1 p2
     clear hL ok hM q e
     generalize keyH i=K at *
     generalize keyN i=K2 at *
     generalize jL s.chs[i]=V at *
     generalize BP s.chs[i].rcv=V2 at *
     generalize s.chs[i]=x at *
     exact wkp trivial
    ·have e2:M=cnB 0 s.cns++chB 0 s.chs:=by rw [hM,e,List.take_of_length_le (by omega)]
     clear hL hM e
     refine wkl ?_
     clear hR; intro hR
     intros
     refine aZ (ι:=Nat × List aV) (fun q=>q.1<=3/\q.2=M++(([mkB Fa s.sent,mkB wGt s.got,mkB wAk s.acks]:List (List aV)).take q.1).flatten) (fun q=>ek [(5,.pt 101 0 0 0),(6,.fn 36 [.pt 101 0 0 0]),(64,.os 103 1 0 3),(65,intD 3),(66,intD q.1)]
      [(101,.box [.os 102 2 0 q.2.length]),(102,.arr 2 (q.2.map aO)),(103,.arr 1 [[.sl (s.sent.map bN)],[.sl (s.got.map bN)],[.sl (s.acks.map bN)]])]) (fun q=>3 - q.1) (0,M) ⟨Nat.zero_le _,(List.append_nil _).symm⟩ ?_ ?_
     ·exact dP [] [(101,101),(102,102),(103,5358)]
     ·rintro ⟨k,B⟩ ⟨hk,hB⟩ RL hL
      simp only at hk hB
      rw [au]
      match k,hk with
      | 0,_ =>
       have hB:B=M:=by rw [hB]; simp
       subst hB
       have b0:=fun σ'=>bk [] [(101,101),(102,102),(103,103)] (hL (1,B++mkB Fa s.sent) σ' ⟨by omega,by simp⟩)
       clear hL
       refine wkl ?_
       clear hR; intro hR
       intros
       refine aZ (ι:=Nat × List aV) (fun q=>q.1<=s.sent.length/\q.2=B++mkB Fa (s.sent.take q.1)) (fun q=>ek [(5,.pt 101 0 0 0),(6,.fn 36 [.pt 101 0 0 0]),(11,intD 0),(64,.os 103 1 0 3),(65,intD 3),(66,intD 0),(71,.i (.sl (s.sent.map bN))),(72,intD s.sent.length),(73,intD q.1)]
        [(101,.box [.os 102 2 0 q.2.length]),(102,.arr 2 (q.2.map aO)),(103,.arr 1 [[.sl (s.sent.map bN)],[.sl (s.got.map bN)],[.sl (s.acks.map bN)]])]) (fun q=>s.sent.length - q.1) (0,B) ⟨Nat.zero_le _,(List.append_nil _).symm⟩ ?_ ?_
       ·exact dP [] [(101,101),(102,102),(103,103)]
       ·rintro ⟨i,C⟩ ⟨hi,hC⟩ RL2 hL2
        simp only at hi hC
        rw [au]
        have hlen3:C.length<=74:=by rw [hC,List.length_append,qp]; simp; omega
        by_cases h:i < s.sent.length
        ·have s0:=aH (f:=bN) h
         have q:=ok.sent.all _ (List.getElem_mem h)
         have q1:=q.ch
         have q2:=q.seq
         have q3:=q.dg
         unfold N12 at q1 q2
         have c1:=oU Fa s.sent[i].ch s.sent[i].seq (by decide) (by unfold iG; omega) (by unfold iG; omega)
         have c2:=dZ s.sent[i].dg (by omega)
         have p1:=wS (C.map aO) C.length (by simp) (by omega) (keyM Fa s.sent[i].ch s.sent[i].seq) s.sent[i].dg
         have b1:=fun σ'=>bk [] [(101,101),(102,901),(103,103)] (hL2 (i+1,C++[⟨keyM Fa s.sent[i].ch s.sent[i].seq,s.sent[i].dg⟩]) σ' ⟨h,by rw [hC]; simp only [List.append_assoc]; congr 1; exact (yN h).symm⟩)
         simp only at b1
         simp only [bI] at p1
         clear hL2 b0 ok hC q q1 q2 q3 e2
         generalize keyM Fa s.sent[i].ch s.sent[i].seq=K at *
         generalize s.sent[i]=x at *
         simp only [Fa] at c1
         exact wkp trivial
        ·have e3:C=B++mkB Fa s.sent:=by rw [hC,List.take_of_length_le (by omega)]
         rw [<- e3] at b0
         have b1:=b0
         simp only at b1
         clear hL2 b0 hC e3
         exact wkl trivial
      | 1,_ =>
       have hlen2:B.length<=74:=by rw [hB]; simp [qp]; omega
       have b0:=fun σ'=>bk [] [(101,101),(102,102),(103,103)] (hL (2,B++mkB wGt s.got) σ' ⟨by omega,by rw [hB]; simp⟩)
       clear hL
       refine wkl ?_
       clear hR; intro hR
       intros
       refine aZ (ι:=Nat × List aV) (fun q=>q.1<=s.got.length/\q.2=B++mkB wGt (s.got.take q.1)) (fun q=>ek [(5,.pt 101 0 0 0),(6,.fn 36 [.pt 101 0 0 0]),(11,intD 1),(64,.os 103 1 0 3),(65,intD 3),(66,intD 1),(71,.i (.sl (s.got.map bN))),(72,intD s.got.length),(73,intD q.1)]
        [(101,.box [.os 102 2 0 q.2.length]),(102,.arr 2 (q.2.map aO)),(103,.arr 1 [[.sl (s.sent.map bN)],[.sl (s.got.map bN)],[.sl (s.acks.map bN)]])]) (fun q=>s.got.length - q.1) (0,B) ⟨Nat.zero_le _,(List.append_nil _).symm⟩ ?_ ?_
       ·exact dP [] [(101,101),(102,102),(103,103)]
       ·rintro ⟨i,C⟩ ⟨hi,hC⟩ RL2 hL2
        simp only at hi hC
        rw [au]
        have hlen3:C.length<=124:=by rw [hC,List.length_append,qp]; simp; omega
        by_cases h:i < s.got.length
        ·have s0:=aH (f:=bN) h
         have q:=ok.got.all _ (List.getElem_mem h)
         have q1:=q.ch
         have q2:=q.seq
         have q3:=q.dg
         unfold N12 at q1 q2
         have c1:=oU wGt s.got[i].ch s.got[i].seq (by decide) (by unfold iG; omega) (by unfold iG; omega)
         have c2:=dZ s.got[i].dg (by omega)
         have p1:=wS (C.map aO) C.length (by simp) (by omega) (keyM wGt s.got[i].ch s.got[i].seq) s.got[i].dg
         have b1:=fun σ'=>bk [] [(101,101),(102,901),(103,103)] (hL2 (i+1,C++[⟨keyM wGt s.got[i].ch s.got[i].seq,s.got[i].dg⟩]) σ' ⟨h,by rw [hC]; simp only [List.append_assoc]; congr 1; exact (yN h).symm⟩)
         simp only at b1
         simp only [bI] at p1
         clear hL2 b0 ok hC q q1 q2 q3 e2 hB
         generalize keyM wGt s.got[i].ch s.got[i].seq=K at *
         generalize s.got[i]=x at *
         simp only [wGt] at c1
         exact wkp trivial
        ·have e3:C=B++mkB wGt s.got:=by rw [hC,List.take_of_length_le (by omega)]
         rw [<- e3] at b0
         have b1:=b0
         simp only at b1
         clear hL2 b0 hC e3 hB
         exact wkl trivial
      | 2,_ =>
       have hlen2:B.length<=124:=by rw [hB]; simp [qp]; omega
       have b0:=fun σ'=>bk [] [(101,101),(102,102),(103,103)] (hL (3,B++mkB wAk s.acks) σ' ⟨by omega,by rw [hB]; simp⟩)
       clear hL
       refine wkl ?_
       clear hR; intro hR
       intros
       refine aZ (ι:=Nat × List aV) (fun q=>q.1<=s.acks.length/\q.2=B++mkB wAk (s.acks.take q.1)) (fun q=>ek [(5,.pt 101 0 0 0),(6,.fn 36 [.pt 101 0 0 0]),(11,intD 2),(64,.os 103 1 0 3),(65,intD 3),(66,intD 2),(71,.i (.sl (s.acks.map bN))),(72,intD s.acks.length),(73,intD q.1)]
        [(101,.box [.os 102 2 0 q.2.length]),(102,.arr 2 (q.2.map aO)),(103,.arr 1 [[.sl (s.sent.map bN)],[.sl (s.got.map bN)],[.sl (s.acks.map bN)]])]) (fun q=>s.acks.length - q.1) (0,B) ⟨Nat.zero_le _,(List.append_nil _).symm⟩ ?_ ?_
       ·exact dP [] [(101,101),(102,102),(103,103)]
       ·rintro ⟨i,C⟩ ⟨hi,hC⟩ RL2 hL2
        simp only at hi hC
        rw [au]
        have hlen3:C.length<=174:=by rw [hC,List.length_append,qp]; simp; omega
        by_cases h:i < s.acks.length
        ·have s0:=aH (f:=bN) h
         have q:=ok.acks.all _ (List.getElem_mem h)
         have q1:=q.ch
         have q2:=q.seq
         have q3:=q.dg
         unfold N12 at q1 q2
         have c1:=oU wAk s.acks[i].ch s.acks[i].seq (by decide) (by unfold iG; omega) (by unfold iG; omega)
         have c2:=dZ s.acks[i].dg (by omega)
         have p1:=wS (C.map aO) C.length (by simp) (by omega) (keyM wAk s.acks[i].ch s.acks[i].seq) s.acks[i].dg
         have b1:=fun σ'=>bk [] [(101,101),(102,901),(103,103)] (hL2 (i+1,C++[⟨keyM wAk s.acks[i].ch s.acks[i].seq,s.acks[i].dg⟩]) σ' ⟨h,by rw [hC]; simp only [List.append_assoc]; congr 1; exact (yN h).symm⟩)
         simp only at b1
         simp only [bI] at p1
         clear hL2 b0 ok hC q q1 q2 q3 e2 hB
         generalize keyM wAk s.acks[i].ch s.acks[i].seq=K at *
         generalize s.acks[i]=x at *
         simp only [wAk] at c1
         exact wkp trivial
        ·have e3:C=B++mkB wAk s.acks:=by rw [hC,List.take_of_length_le (by omega)]
         rw [<- e3] at b0
         have b1:=b0
         simp only at b1
         clear hL2 b0 hC e3 hB
         exact wkl trivial
      | 3,_ =>
       have hraw:B=uu s:=by rw [hB,e2]; simp [uu]
       have hlen2:B.length<=1048576:=by rw [hraw,xV]; omega
       have p1:=XU B hlen2 (hraw ▸ FD ok)
       have hS:=uh B
       rw [<- hraw] at hR
       clear hL hB hraw e2 ok
       generalize jN B=S at *
       rw [<- hS] at p1 ⊢
       clear hS hlen2
       exact wkp trivial
end Go.Proofs.YtfenipelcpmkpaaGreatDoor
