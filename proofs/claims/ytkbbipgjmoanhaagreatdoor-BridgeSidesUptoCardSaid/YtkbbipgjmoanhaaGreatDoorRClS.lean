/- landref7.Same: a client is the same as itself. -/
import Derived.Test.YtkbbipgjmoanhaaGreatDoorGCl
set_option linter.all false
set_option maxHeartbeats 4000000
set_option maxRecDepth 20000
namespace Go.Proofs.YtkbbipgjmoanhaaGreatDoor
open Go Go.Abs Go.RowKit Go.Proofs.YtkbbipgjmoanhaaGreatDoor.Ty
theorem NV (a:aD) (ha:Vk a):PureD Tryz.prog 23 [dS a,dS a] (boolD true):=by
 refine aj fun R hR=>?_
 obtain ⟨c,tr,fr,l⟩:=a
 have hl:=ha.l
 have hk:=ha.k
 simp only at hl hk
 clear ha
 have q1:(fr != fr)=false:=by cases fr <;> rfl
 have q2:(!decide (fr=fr))=false:=by simp
 have q3:(!(fr == fr))=false:=by cases fr <;> rfl
 refine aa 81 Tryz.func23 rfl rfl rfl (fun _ _=>rfl) ?_
 refine wkl ?_
 clear hR; intro hR
 refine aT (ι:=Nat) (fun i=>i<=l.length)
  (fun i=>dW [(2,.pt 100 0 0 0),(3,.pt 101 0 0 0),(38,intD l.length),(39,intD i)] [(100,.box [.i (.s (.string c)),.i (.s (.int .i64 tr)),.i (.s (.bool fr)),.i (jF l)]),(101,.box [.i (.s (.string c)),.i (.s (.int .i64 tr)),.i (.s (.bool fr)),.i (jF l)])])
  (fun i=>l.length - i) 0 (Nat.zero_le _) ?_ ?_
 ·exact dF [] [(100,1000),(101,1001)]
 ·rintro i hi RL hL
  rw [au]
  by_cases h:i < l.length
  ·have e1:=get_lt (f:=iQ) h
   have hs:=hk _ (List.getElem_mem h)
   have a1:=hs.r
   have a2:=hs.n
   have b1:=fun σ'=>bk [] [(100,100),(101,101)] (hL (i+1) σ' h)
   clear hL hs hk
   generalize l[i]=k at *
   have c1:=Ir k.root k.root (by omega)
   have c2:=Ir k.next k.next (by omega)
   rw [decide_eq_true rfl] at c1 c2
   exact wkl trivial
  ·exact wkl trivial
end Go.Proofs.YtkbbipgjmoanhaaGreatDoor
