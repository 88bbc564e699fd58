/- landref7.Same: a client is the same as itself. -/
import Derived.Test.YtadoaljnfeoecaaGreatDoorGCl
import Derived.Test.YtadoaljnfeoecaaGreatDoorGProof
set_option linter.all false
namespace Go.Proofs.YtadoaljnfeoecaaGreatDoor
open Go Go.Abs Go.RowKit Go.Proofs.YtadoaljnfeoecaaGreatDoor.Ty
set_option maxHeartbeats 4000000
set_option maxRecDepth 20000
theorem rsameC_A (a:ClientD) (ha:ClSm a):PureD Tryz.prog 30 [clientD a,clientD a] (boolD true):=by
 refine hide_r fun R hR=>?_
 obtain ⟨c,tr,fr,l⟩:=a
 have hl:=ha.l
 have hk:=ha.k
 simp only at hl hk
 clear ha
 have q1:(fr != fr)=false:=by cases fr <;> rfl
 have q2:(!decide (fr=fr))=false:=by simp
 have q3:(!(fr == fr))=false:=by cases fr <;> rfl
 refine callD_W 81 Tryz.func30 rfl rfl rfl (fun _ _=>rfl) ?_
 refine wkl ?_
 clear hR; intro hR
 refine W_loopR (ι:=Nat) (fun i=>i≤l.length)
  (fun i=>stOf [(2,.pt 100 0 0 0),(3,.pt 101 0 0 0),(38,intD l.length),(39,intD i)] [(100,.box [.i (.s (.string c)),.i (.s (.int .i64 tr)),.i (.s (.bool fr)),.i (knownI l)]),(101,.box [.i (.s (.string c)),.i (.s (.int .i64 tr)),.i (.s (.bool fr)),.i (knownI l)])])
  (fun i=>l.length - i) 0 (Nat.zero_le _) ?_ ?_
 ·exact le_ok [] [(100,1000),(101,1001)]
 ·rintro i hi RL hL
  rw [stOf_eq]
  by_cases h:i < l.length
  ·have e1:=get_lt (f:=encK) h
   have hs:=hk _ (List.getElem_mem h)
   have a1:=hs.r
   have a2:=hs.n
   have b1:=fun σ'=>bk [] [(100,100),(101,101)] (hL (i+1) σ' h)
   clear hL hs hk
   generalize l[i]=k at *
   have c1:=same_A k.root k.root (by omega)
   have c2:=same_A k.next k.next (by omega)
   rw [decide_eq_true rfl] at c1 c2
   exact wkl trivial
  ·exact wkl trivial
end Go.Proofs.YtadoaljnfeoecaaGreatDoor
