/- Merged texts: Alive5, Law5A, Law5G. -/
import Derived.Test.YtfenipelcpmkpaaGreatDoorGProof
set_option linter.all false
set_option maxHeartbeats 4000000
namespace Go.Proofs.YtfenipelcpmkpaaGreatDoor
open Go Go.Abs Go.RowKit Go.Proofs.YtfenipelcpmkpaaGreatDoor.Ty
theorem CE:∀ (k:Nat) (l:List aV) (i:Nat),l.length<=2 ^ k->(jV l i).length<=k:=by
 intro k
 induction k with
 | zero=>intro l i h; rw [jU i (by simpa using h)]; simp
 | succ k ih =>
  intro l i h
  by_cases h1:l.length<=1
  ·rw [jU i h1]; simp
  ·have hs:=gI (n:=l.length) (by omega)
   have hs2:=JO (n:=l.length)
   have hk:aK l.length<=2 ^ k:=by
    have:2 ^ Nat.log2 (l.length - 1) < 2 ^ (k+1):=Nat.lt_of_lt_of_le hs.2 h
    have:=(Nat.pow_lt_pow_iff_right (by decide)).1 this
    exact Nat.pow_le_pow_right (by decide) (by omega)
   by_cases hi:i < aK l.length
   ·rw [oN (by omega) hi]
    have:=ih (l.take (aK l.length)) i (by simp; omega)
    simp; omega
   ·rw [oO (by omega) hi]
    have:=ih (l.drop (aK l.length)) (i - aK l.length) (by simp; omega)
    simp; omega
theorem Qg:∀ (n:Nat) (l:List aV) (i:Nat),l.length=n->∀ d∈jV l i,d.length=32:=by
 intro n
 induction n using Nat.strongRecOn with
 | _ n ih =>
  intro l i hn d hd
  by_cases h1:l.length<=1
  ·rw [jU i h1] at hd; simp at hd
  ·have hs:=gI (n:=l.length) (by omega)
   have n1:l.take (aK l.length)≠[]:=by intro hc; have:=congrArg List.length hc; simp only [List.length_take,List.length_drop,List.length_nil] at this; omega
   have n2:l.drop (aK l.length)≠[]:=by intro hc; have:=congrArg List.length hc; simp only [List.length_take,List.length_drop,List.length_nil] at this; omega
   by_cases hi:i < aK l.length
   ·rw [oN (by omega) hi] at hd
    rcases List.mem_append.1 hd with hd | hd
    ·exact ih (l.take (aK l.length)).length (by simp; omega) _ i rfl d hd
    ·simp at hd; subst hd; exact lw _ n2
   ·rw [oO (by omega) hi] at hd
    rcases List.mem_append.1 hd with hd | hd
    ·exact ih (l.drop (aK l.length)).length (by simp; omega) _ (i - aK l.length) rfl d hd
    ·simp at hd; subst hd; exact lw _ n1
theorem Mw:∀ (n:Nat) (l:List aV) (i:Nat) (hn:l.length=n) (hi:i < l.length),ic (vX l[i].k l[i].v) i l.length (jV l i).reverse=(gH l,true):=by
 intro n
 induction n using Nat.strongRecOn with
 | _ n ih =>
  intro l i hn hi
  by_cases h1:l.length<=1
  ·have h:l.length=1:=by omega
   obtain ⟨p,rfl⟩:=List.length_eq_one_iff.1 h
   have:i=0:=by simpa using hi
   subst this
   rw [jU 0 h1,tZ]; rfl
  ·have hs:=gI (n:=l.length) (by omega)
   have hne:¬ l.length=1:=by omega
   rw [tY (by omega)]
   by_cases hc:i < aK l.length
   ·rw [oN (by omega) hc]
    simp only [List.reverse_append,List.reverse_cons,List.reverse_nil,List.nil_append,List.singleton_append,ic,if_neg hne,if_pos hc]
    have h:=ih (l.take (aK l.length)).length (by simp; omega) (l.take (aK l.length)) i rfl (by simp; omega)
    have hk:(l.take (aK l.length)).length=aK l.length:=by simp; omega
    have he:(l.take (aK l.length))[i]'(by simp; omega)=l[i]:=by simp
    rw [he,hk] at h
    rw [h]
   ·rw [oO (by omega) hc]
    simp only [List.reverse_append,List.reverse_cons,List.reverse_nil,List.nil_append,List.singleton_append,ic,if_neg hne,if_neg hc]
    have h:=ih (l.drop (aK l.length)).length (by simp; omega) (l.drop (aK l.length)) (i - aK l.length) rfl (by simp; omega)
    have hk:(l.drop (aK l.length)).length=l.length - aK l.length:=by simp
    have he:(l.drop (aK l.length))[i - aK l.length]'(by simp; omega)=l[i]:=by
     rw [List.getElem_drop]; congr 1; omega
    rw [he,hk] at h
    rw [h]
theorem PU {l:List aV} (hr:BL l) (i:Nat) (hi:i < l.length):gJ (oJ l) (atF l i hi)=true:=by
 have hb:=hr.big _ (List.getElem_mem hi)
 have hlen:=hr.len
 have hp:=CE 8 l i (by omega)
 have hd:=Qg _ l i rfl
 have hf:qB (atF l i hi)=true:=by
  simp only [qB,Mt,atF,Bool.and_eq_true,Bool.not_eq_true',Bool.or_eq_false_iff,decide_eq_false_iff_not,List.all_eq_true,decide_eq_true_eq]
  refine ⟨⟨⟨⟨⟨⟨⟨?_,?_⟩,?_⟩,?_⟩,?_⟩,?_⟩,?_⟩,hd⟩ <;> (apply decide_eq_false; omega)
 have ht:Ap (atF l i hi)=(gH l,true):=by
  simp only [Ap,atF,Int.toNat_natCast]
  exact Mw _ l i rfl hi
 unfold gJ
 rw [hf,ht]
 simp [atF,oJ]
end Go.Proofs.YtfenipelcpmkpaaGreatDoor
