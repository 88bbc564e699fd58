/- landlaw14.honest: by value. -/
import Derived.Test.YtfenipelcpmkpaaGreatDoorLaw14U
import Derived.Test.YtfenipelcpmkpaaGreatDoorBrF
set_option linter.all false
set_option maxHeartbeats 16000000
set_option maxRecDepth 20000
namespace Go.Proofs.YtfenipelcpmkpaaGreatDoor
open Go Go.Abs Go.RowKit Go.Proofs.YtfenipelcpmkpaaGreatDoor.Ty
theorem Yj (l:List EvD) (hl:l.length<=1000) (R0:Bool) (hv:R0=true↔∀ e∈l,trueEv e):PureD Tryz.prog 29 [.i (.sl (l.map encEv))] (boolD R0):=by
 refine au fun R hR=>?_
 refine aa 33 Tryz.func29 rfl rfl rfl (fun _ _=>rfl) ?_
 refine wkl ?_
 clear hR; intro hR
 repeat' (intro _)
 refine aW (ι:=Nat) (fun i=>i<=l.length/\∀ e∈l.take i,trueEv e) (fun i=>dQ [(5,.i (.sl (l.map encEv))),(6,intD l.length),(7,intD i)] []) (fun i=>l.length - i) 0 ⟨Nat.zero_le _,by simp⟩ ?_ ?_
 ·exact dA [] []
 ·rintro i ⟨hi,ht⟩ RL hL
  rw [ak]
  by_cases h2:i < l.length
  ·have s0:=aF (f:=encEv) h2
   by_cases hq:trueEv l[i]
   ·have b1:=fun σ'=>bk [] [] (hL (i+1) σ' ⟨h2,by
     rw [List.take_succ_eq_append_getElem h2]
     intro e he
     rcases List.mem_append.1 he with he | he
     ·exact ht e he
     ·rw [List.mem_singleton.1 he]; exact hq⟩)
    clear hL hv ht
    generalize l[i]=e at *
    unfold trueEv at hq
    by_cases k4:e.kind=4
    ·rw [if_pos k4] at hq
     unfold trueEv.m4 at hq
     rcases hq with q | q | q | q | q
     all_goals exact wkl trivial
    ·rw [if_neg k4] at hq
     by_cases k5:e.kind=5
     ·have k6:¬ e.m.kind<=3:=fun q=>hq ⟨k5,q⟩
      clear hq
      exact wkl trivial
     ·clear hq
      exact wkl trivial
   ·have hr:R0=false:=by
     cases R0 with
     | false=>rfl
     | true=>exact absurd (hv.1 rfl _ (List.getElem_mem h2)) hq
    subst hr
    clear hL hv ht
    generalize l[i]=e at *
    unfold trueEv at hq
    by_cases k4:e.kind=4
    ·rw [if_pos k4] at hq
     unfold trueEv.m4 at hq
     have q1:¬ e.m.kind=4:=fun q=>hq (.inl q)
     have q2:¬ e.m.kind=8:=fun q=>hq (.inr (.inl q))
     have q3:¬ e.m.kind=12:=fun q=>hq (.inr (.inr (.inl q)))
     have q4:¬ e.m.kind=14:=fun q=>hq (.inr (.inr (.inr (.inl q))))
     have q5:¬ e.m.kind=18:=fun q=>hq (.inr (.inr (.inr (.inr q))))
     clear hq
     exact wkl trivial
    ·rw [if_neg k4] at hq
     have q1:e.kind=5:=Classical.byContradiction fun q=>hq fun x=>q x.1
     have q2:e.m.kind<=3:=Classical.byContradiction fun q=>hq fun x=>q x.2
     clear hq
     exact wkl trivial
  ·have hr:R0=true:=hv.2 (by rw [List.take_of_length_le (by omega)] at ht; exact ht)
   subst hr
   have hi2:i=l.length:=by omega
   subst hi2
   clear hL hv ht
   exact wkl trivial
end Go.Proofs.YtfenipelcpmkpaaGreatDoor
