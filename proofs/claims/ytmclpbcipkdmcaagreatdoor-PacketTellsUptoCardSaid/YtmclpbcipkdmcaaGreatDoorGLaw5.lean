/- Merged texts: Alive5, Law5A, Law5G. -/
import Derived.Test.YtmclpbcipkdmcaaGreatDoorGProof
import Derived.Test.YtmclpbcipkdmcaaGreatDoorAbs4
set_option linter.all false
namespace Go.Proofs.YtmclpbcipkdmcaaGreatDoor
open Go Go.Abs Go.RowKit Go.Proofs.YtmclpbcipkdmcaaGreatDoor.Ty
set_option maxHeartbeats 4000000
end Go.Proofs.YtmclpbcipkdmcaaGreatDoor
set_option linter.all false
namespace Go.Proofs.YtmclpbcipkdmcaaGreatDoor
open Go Go.Abs Go.RowKit Go.Proofs.YtmclpbcipkdmcaaGreatDoor.Ty
set_option maxHeartbeats 2000000
end Go.Proofs.YtmclpbcipkdmcaaGreatDoor
set_option linter.all false
namespace Go.Proofs.YtmclpbcipkdmcaaGreatDoor
open Go Go.Abs Go.RowKit Go.Proofs.YtmclpbcipkdmcaaGreatDoor.Ty
theorem path_dig:∀ (n:Nat) (l:List PairD) (i:Nat),l.length=n→∀ d∈pathF l i,d.length=32:=by
 intro n
 induction n using Nat.strongRecOn with
 | _ n ih =>
  intro l i hn d hd
  by_cases h1:l.length≤1
  ·rw [pathF_one i h1] at hd; simp at hd
  ·have hs:=splitF_lt (n:=l.length) (by omega)
   have n1:l.take (splitF l.length)≠[]:=by intro hc; have:=congrArg List.length hc; simp only [List.length_take,List.length_drop,List.length_nil] at this; omega
   have n2:l.drop (splitF l.length)≠[]:=by intro hc; have:=congrArg List.length hc; simp only [List.length_take,List.length_drop,List.length_nil] at this; omega
   by_cases hi:i < splitF l.length
   ·rw [pathF_lo (by omega) hi] at hd
    rcases List.mem_append.1 hd with hd | hd
    ·exact ih (l.take (splitF l.length)).length (by simp; omega) _ i rfl d hd
    ·simp at hd; subst hd; exact treeF_len _ n2
   ·rw [pathF_hi (by omega) hi] at hd
    rcases List.mem_append.1 hd with hd | hd
    ·exact ih (l.drop (splitF l.length)).length (by simp; omega) _ (i - splitF l.length) rfl d hd
    ·simp at hd; subst hd; exact treeF_len _ n1
set_option maxHeartbeats 4000000
end Go.Proofs.YtmclpbcipkdmcaaGreatDoor
