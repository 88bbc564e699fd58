/- Merged texts: Alive5, Law5A, Law5G. -/
import Derived.Test.YtmclpbcipkdmcaaGreatDoorGProof
import Derived.Test.YtmclpbcipkdmcaaGreatDoorAbs4
set_option linter.all false
namespace Go.Proofs.YtmclpbcipkdmcaaGreatDoor
open Go Go.Abs Go.RowKit Go.Proofs.YtmclpbcipkdmcaaGreatDoor.Ty
def pa:PairD:=⟨[97],[49]⟩
def pb:PairD:=⟨[98],[50]⟩
theorem al_big (a b:List UInt8) (ha:a.length≤60) (hb:b.length≤200):bigP ⟨a,b⟩=false:=by simp [bigP]; omega
theorem al_right:Right [pa,pb]:=by
 apply right_of
 rw [wrongF,if_neg (by decide),wrongGo,dif_pos (by decide)]
 have h0:bigP [pa,pb][0]=false:=al_big _ _ (by decide) (by decide)
 have h1:bigP [pa,pb][1]=false:=al_big _ _ (by decide) (by decide)
 rw [h0]
 simp only [Bool.false_eq_true,if_false,Nat.lt_irrefl,false_and]
 rw [wrongGo,dif_pos (by decide),h1]
 simp only [Bool.false_eq_true,if_false]
 rw [if_neg (by decide),wrongGo,dif_neg (by decide)]
def alP (v:List UInt8):ProofD:=⟨1,2,[98],v,[leafF [97] [49]]⟩
theorem al_split:splitF 2=1:=by decide
theorem al_tree:treeF [pa,pb]=nodeF (leafF [97] [49]) (leafF [98] [50]):=by
 rw [treeF_two (by decide),show [pa,pb].length=2 from rfl,al_split]
 show nodeF (treeF [pa]) (treeF [pb])=_
 rw [treeF_one,treeF_one]; rfl
theorem al_root:rootR [pa,pb]=topF 2 (nodeF (leafF [97] [49]) (leafF [98] [50])):=by
 rw [rootR,wrong_right al_right,if_pos rfl,rootF,al_tree]; rfl
theorem al_place:placeF [pa,pb] [98]=1:=by decide
theorem al_show:showF [pa,pb] [98]=(alP [50],0):=by
 unfold showF
 rw [wrong_right al_right,if_pos rfl]
 have h:placeF [pa,pb] [98] < [pa,pb].length:=by rw [al_place]; decide
 rw [dif_pos h]
 have h2:[pa,pb][placeF [pa,pb] [98]].k=[98]:=by simp only [al_place]; rfl
 rw [if_pos h2]
 congr 1
 simp only [al_place,atF]
 rw [pathF_hi (by decide) (by rw [show [pa,pb].length=2 from rfl,al_split]; decide),show [pa,pb].length=2 from rfl,al_split]
 rw [pathF_one _ (by decide)]
 show ProofD.mk 1 2 [98] [50] ([]++[treeF [pa]])=_
 rw [treeF_one]; rfl
theorem al_shown (v:List UInt8) (hv:v.length≤200) (r:List UInt8):shownF r (alP v)=decide (topF 2 (nodeF (leafF [97] [49]) (leafF [98] v))=r):=by
 have hl:(leafF [97] [49]).length=32:=sha_length _
 have hf:formF (alP v)=true:=by simp [formF,formG,alP,hl,Nat.not_lt.2 hv]
 have ht:treeOf (alP v)=(nodeF (leafF [97] [49]) (leafF [98] v),true):=by
  simp [treeOf,alP,foldR,al_split]
 unfold shownF
 rw [hf,ht]; rfl
theorem al_unlike:¬ topF 2 (nodeF (leafF [97] [49]) (leafF [98] [51]))=topF 2 (nodeF (leafF [97] [49]) (leafF [98] [50])):=by decide +kernel
set_option maxHeartbeats 4000000
end Go.Proofs.YtmclpbcipkdmcaaGreatDoor
set_option linter.all false
namespace Go.Proofs.YtmclpbcipkdmcaaGreatDoor
open Go Go.Abs Go.RowKit Go.Proofs.YtmclpbcipkdmcaaGreatDoor.Ty
theorem dec_Pair {e:List I} (h:HasCs [.sl [.int .u8],.sl [.int .u8]] e):∃ p:PairD,e=encPr p∧True:=by
 obtain ⟨x,_,rfl,hx,h⟩:=hasCs_cons h
 obtain ⟨y,_,rfl,hy,h⟩:=hasCs_cons h
 obtain rfl:=hasCs_nil h
 obtain ⟨a,rfl⟩:=dec_B hx
 obtain ⟨b,rfl⟩:=dec_B hy
 exact ⟨⟨a,b⟩,rfl,trivial⟩
theorem dec_Pairs {x:I} (h:HasC (.sl [.sl [.int .u8],.sl [.int .u8]]) x):∃ l:List PairD,x=psI l:=by
 obtain ⟨l,h1,_⟩:=dec_list (fun _ he=>dec_Pair he) h
 exact ⟨l,h1⟩
theorem pairs_small {l:List PairD} {n:Nat} (h:bkI (psI l)≤n):l.length≤n∧∀ p∈l,p.k.length≤n∧p.v.length≤n:=by
 refine ⟨Nat.le_trans (bk_len _ _) h,fun p hp=>?_⟩
 have:=bk_mem encPr hp
 simp only [encPr,bkL,bk_B,psI] at this h
 omega
theorem pathF_short:∀ (k:Nat) (l:List PairD) (i:Nat),l.length≤2 ^ k→(pathF l i).length≤k:=by
 intro k
 induction k with
 | zero=>intro l i h; rw [pathF_one i (by simpa using h)]; simp
 | succ k ih =>
  intro l i h
  by_cases h1:l.length≤1
  ·rw [pathF_one i h1]; simp
  ·have hs:=splitF_lt (n:=l.length) (by omega)
   have hs2:=splitF_le (n:=l.length)
   have hk:splitF l.length≤2 ^ k:=by
    have:2 ^ Nat.log2 (l.length - 1) < 2 ^ (k+1):=Nat.lt_of_lt_of_le hs.2 h
    have:=(Nat.pow_lt_pow_iff_right (by decide)).1 this
    exact Nat.pow_le_pow_right (by decide) (by omega)
   by_cases hi:i < splitF l.length
   ·rw [pathF_lo (by omega) hi]
    have:=ih (l.take (splitF l.length)) i (by simp; omega)
    simp; omega
   ·rw [pathF_hi (by omega) hi]
    have:=ih (l.drop (splitF l.length)) (i - splitF l.length) (by simp; omega)
    simp; omega
theorem showF_cases (l:List PairD) (key:List UInt8):((showF l key).2≠0∧(showF l key).1=zeroP)∨((wrongF l).1=0∧∃ h:placeF l key < l.length,l[placeF l key].k=key∧showF l key=(atF l (placeF l key) h,0)):=by
 unfold showF
 by_cases h0:(wrongF l).1=0
 ·rw [if_pos h0]
  by_cases h1:placeF l key < l.length
  ·rw [dif_pos h1]
   by_cases h2:l[placeF l key].k=key
   ·rw [if_pos h2]; exact .inr ⟨h0,h1,h2,rfl⟩
   ·rw [if_neg h2]; exact .inl ⟨by decide,rfl⟩
  ·rw [dif_neg h1]; exact .inl ⟨by decide,rfl⟩
 ·rw [if_neg h0]; exact .inl ⟨h0,rfl⟩
set_option maxHeartbeats 2000000
end Go.Proofs.YtmclpbcipkdmcaaGreatDoor
set_option linter.all false
namespace Go.Proofs.YtmclpbcipkdmcaaGreatDoor
open Go Go.Abs Go.RowKit Go.Proofs.YtmclpbcipkdmcaaGreatDoor.Ty
theorem path_dig:∀ (n:Nat) (l:List PairD) (i:Nat),l.length=n→∀ d∈pathF l i,d.length=32:=by
 intro n
 induction n using Nat.strongRecOn with
 | _ n ih =>
  intro l i hn d hd
  by_cases h1:l.length≤1
  ·rw [pathF_one i h1] at hd; simp at hd
  ·have hs:=splitF_lt (n:=l.length) (by omega)
   have n1:l.take (splitF l.length)≠[]:=by intro hc; have:=congrArg List.length hc; simp only [List.length_take,List.length_drop,List.length_nil] at this; omega
   have n2:l.drop (splitF l.length)≠[]:=by intro hc; have:=congrArg List.length hc; simp only [List.length_take,List.length_drop,List.length_nil] at this; omega
   by_cases hi:i < splitF l.length
   ·rw [pathF_lo (by omega) hi] at hd
    rcases List.mem_append.1 hd with hd | hd
    ·exact ih (l.take (splitF l.length)).length (by simp; omega) _ i rfl d hd
    ·simp at hd; subst hd; exact treeF_len _ n2
   ·rw [pathF_hi (by omega) hi] at hd
    rcases List.mem_append.1 hd with hd | hd
    ·exact ih (l.drop (splitF l.length)).length (by simp; omega) _ (i - splitF l.length) rfl d hd
    ·simp at hd; subst hd; exact treeF_len _ n1
theorem fold_path:∀ (n:Nat) (l:List PairD) (i:Nat) (hn:l.length=n) (hi:i < l.length),foldR (leafF l[i].k l[i].v) i l.length (pathF l i).reverse=(treeF l,true):=by
 intro n
 induction n using Nat.strongRecOn with
 | _ n ih =>
  intro l i hn hi
  by_cases h1:l.length≤1
  ·have h:l.length=1:=by omega
   obtain ⟨p,rfl⟩:=List.length_eq_one_iff.1 h
   have:i=0:=by simpa using hi
   subst this
   rw [pathF_one 0 h1,treeF_one]; rfl
  ·have hs:=splitF_lt (n:=l.length) (by omega)
   have hne:¬ l.length=1:=by omega
   rw [treeF_two (by omega)]
   by_cases hc:i < splitF l.length
   ·rw [pathF_lo (by omega) hc]
    simp only [List.reverse_append,List.reverse_cons,List.reverse_nil,List.nil_append,List.singleton_append,foldR,if_neg hne,if_pos hc]
    have h:=ih (l.take (splitF l.length)).length (by simp; omega) (l.take (splitF l.length)) i rfl (by simp; omega)
    have hk:(l.take (splitF l.length)).length=splitF l.length:=by simp; omega
    have he:(l.take (splitF l.length))[i]'(by simp; omega)=l[i]:=by simp
    rw [he,hk] at h
    rw [h]
   ·rw [pathF_hi (by omega) hc]
    simp only [List.reverse_append,List.reverse_cons,List.reverse_nil,List.nil_append,List.singleton_append,foldR,if_neg hne,if_neg hc]
    have h:=ih (l.drop (splitF l.length)).length (by simp; omega) (l.drop (splitF l.length)) (i - splitF l.length) rfl (by simp; omega)
    have hk:(l.drop (splitF l.length)).length=l.length - splitF l.length:=by simp
    have he:(l.drop (splitF l.length))[i - splitF l.length]'(by simp; omega)=l[i]:=by
     rw [List.getElem_drop]; congr 1; omega
    rw [he,hk] at h
    rw [h]
theorem shown_at {l:List PairD} (hr:Right l) (i:Nat) (hi:i < l.length):shownF (rootF l) (atF l i hi)=true:=by
 have hb:=hr.big _ (List.getElem_mem hi)
 have hlen:=hr.len
 have hp:=pathF_short 8 l i (by omega)
 have hd:=path_dig _ l i rfl
 have hf:formF (atF l i hi)=true:=by
  simp only [formF,formG,atF,Bool.and_eq_true,Bool.not_eq_true',Bool.or_eq_false_iff,decide_eq_false_iff_not,List.all_eq_true,decide_eq_true_eq]
  refine ⟨⟨⟨⟨⟨⟨⟨?_,?_⟩,?_⟩,?_⟩,?_⟩,?_⟩,?_⟩,hd⟩ <;> (apply decide_eq_false; omega)
 have ht:treeOf (atF l i hi)=(treeF l,true):=by
  simp only [treeOf,atF,Int.toNat_natCast]
  exact fold_path _ l i rfl hi
 unfold shownF
 rw [hf,ht]
 simp [atF,rootF]
theorem there_iff {l:List PairD} {key:List UInt8}:thereF l key=true↔∃ h:placeF l key < l.length,l[placeF l key].k=key:=by
 unfold thereF
 by_cases h:placeF l key < l.length
 ·rw [dif_pos h]; simp [h]
 ·rw [dif_neg h]; simp [h]
theorem absent_at {l:List PairD} (hr:Right l) (key:List UInt8) (ht:thereF l key=false):absentF (rootF l) key (gapF l key).1=true:=by
 have hz:=wrong_right hr
 have hpl:=placeF_le l key
 have h1:∀ (_:0 < placeF l key) (h':placeF l key - 1 < l.length),Lib.compareBytes (l[placeF l key - 1]'h').k key < 0:=fun h h'=>(placeF_iff hr key _ _).2 (by omega)
 have h2:∀ h:placeF l key < l.length,Lib.compareBytes key l[placeF l key].k < 0:=fun h=>by
  have h3:¬ Lib.compareBytes l[placeF l key].k key < 0:=fun hc=>by have:=(placeF_iff hr key _ h).1 hc; omega
  have h4:Lib.compareBytes l[placeF l key].k key≠0:=fun hc=>by
   have:=there_iff.2 ⟨h,(cmp_zero _ _).1 hc⟩
   rw [ht] at this; cases this
  rw [cmp_neg]; omega
 unfold gapF
 rw [hz,if_pos rfl,ht]
 simp only [Bool.false_eq_true,if_false]
 have z1:∀ b i (h:i < l.length),b=true→atZ l b i=atF l i h:=fun b i h hb=>dif_pos ⟨hb,h⟩
 generalize placeF l key=j at *
 by_cases a:0 < j
 ·by_cases b:j < l.length
  ·rw [decide_eq_true a,decide_eq_true b,z1 true (j - 1) (by omega) rfl,z1 true j b rfl]
   simp only [absentF,shown_at hr,Bool.true_and,Bool.and_true,Bool.and_eq_true,decide_eq_true_eq]
   refine ⟨⟨h1 a (by omega),h2 b⟩,?_,?_⟩
   ·simp [atF]
   ·simp only [atF]; omega
  ·rw [decide_eq_true a,decide_eq_false b,z1 true (j - 1) (by omega) rfl]
   simp only [absentF,shown_at hr,Bool.true_and,Bool.and_true,Bool.and_eq_true,decide_eq_true_eq]
   refine ⟨h1 a (by omega),?_⟩
   simp only [atF]; omega
 ·by_cases b:j < l.length
  ·rw [decide_eq_false a,decide_eq_true b,z1 true j b rfl]
   simp only [absentF,shown_at hr,Bool.true_and,Bool.and_true,Bool.and_eq_true,decide_eq_true_eq]
   refine ⟨h2 b,?_⟩
   simp only [atF]; omega
  ·rw [decide_eq_false a,decide_eq_false b]
   have:l=[]:=List.length_eq_zero_iff.1 (by omega)
   subst this
   simp [absentF,rootF,treeF]
set_option maxHeartbeats 4000000
end Go.Proofs.YtmclpbcipkdmcaaGreatDoor
