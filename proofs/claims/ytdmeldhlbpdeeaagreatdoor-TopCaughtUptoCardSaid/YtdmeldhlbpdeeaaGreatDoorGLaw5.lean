/- Merged texts: Alive5, Law5A, Law5G. -/
import Derived.Test.YtdmeldhlbpdeeaaGreatDoorGProof
set_option linter.all false
set_option maxHeartbeats 4000000
namespace Go.Proofs.YtdmeldhlbpdeeaaGreatDoor
open Go Go.Abs Go.RowKit Go.Proofs.YtdmeldhlbpdeeaaGreatDoor.Ty
theorem Er:∀(k:Nat)(l:List aN)(i:Nat),l.length<=2^k->(lu l i).length<=k:=by
 intro k;induction k with
 |zero=>intro l i h;rw[lq i (by simpa using h)];simp
 |succ k ih =>
  intro l i h;by_cases h1:l.length<=1
  ·rw[lq i h1];simp
  ·have hs:=fT (n:=l.length) (by omega);have hs2:=ME (n:=l.length);have hk:ae l.length<=2^k:=by
    have:2^Nat.log2 (l.length-1)<2^(k+1):=Nat.lt_of_lt_of_le hs.2 h;have:=(Nat.pow_lt_pow_iff_right (by decide)).1 this;exact Nat.pow_le_pow_right (by decide) (by omega)
   by_cases hi:i<ae l.length
   ·rw[qB (by omega) hi];have:=ih (l.take (ae l.length)) i (by simp;omega);simp;omega
   ·rw[qC (by omega) hi];have:=ih (l.drop (ae l.length)) (i-ae l.length) (by simp;omega);simp;omega
theorem TC:∀(n:Nat)(l:List aN)(i:Nat),l.length=n->∀d∈lu l i,d.length=32:=by
 intro n;induction n using Nat.strongRecOn with
 |_ n ih =>
  intro l i hn d hd;by_cases h1:l.length<=1
  ·rw[lq i h1]at hd;simp at hd
  ·have hs:=fT (n:=l.length) (by omega);have n1:l.take (ae l.length)≠[]:=by intro hc;have:=congrArg List.length hc;simp only[List.length_take,List.length_drop,List.length_nil]at this;omega
   have n2:l.drop (ae l.length)≠[]:=by intro hc;have:=congrArg List.length hc;simp only[List.length_take,List.length_drop,List.length_nil]at this;omega
   by_cases hi:i<ae l.length
   ·rw[qB (by omega) hi]at hd;rcases List.mem_append.1 hd with hd|hd
    ·exact ih (l.take (ae l.length)).length (by simp;omega) _ i rfl d hd
    ·simp at hd;subst hd;exact fP _ n2
   ·rw[qC (by omega) hi]at hd;rcases List.mem_append.1 hd with hd|hd
    ·exact ih (l.drop (ae l.length)).length (by simp;omega) _ (i-ae l.length) rfl d hd
    ·simp at hd;subst hd;exact fP _ n1
theorem Px:∀(n:Nat)(l:List aN)(i:Nat)(hn:l.length=n)(hi:i<l.length),bV (dU l[i].k l[i].v) i l.length (lu l i).reverse=(aZ l,true):=by
 intro n;induction n using Nat.strongRecOn with
 |_ n ih =>
  intro l i hn hi;by_cases h1:l.length<=1
  ·have h:l.length=1:=by omega
   obtain⟨p,rfl⟩:=List.length_eq_one_iff.1 h;have:i=0:=by simpa using hi
   subst this;rw[lq 0 h1,qc];rfl
  ·have hs:=fT (n:=l.length) (by omega);have hne:¬l.length=1:=by omega
   rw[qb (by omega)];by_cases hc:i<ae l.length
   ·rw[qB (by omega) hc];simp only[List.reverse_append,List.reverse_cons,List.reverse_nil,List.nil_append,List.singleton_append,bV,if_neg hne,if_pos hc];have h:=ih (l.take (ae l.length)).length (by simp;omega) (l.take (ae l.length)) i rfl (by simp;omega);have hk:(l.take (ae l.length)).length=ae l.length:=by simp;omega
    have he:(l.take (ae l.length))[i]'(by simp;omega)=l[i]:=by simp
    rw[he,hk]at h;rw[h]
   ·rw[qC (by omega) hc];simp only[List.reverse_append,List.reverse_cons,List.reverse_nil,List.nil_append,List.singleton_append,bV,if_neg hne,if_neg hc];have h:=ih (l.drop (ae l.length)).length (by simp;omega) (l.drop (ae l.length)) (i-ae l.length) rfl (by simp;omega);have hk:(l.drop (ae l.length)).length=l.length-ae l.length:=by simp
    have he:(l.drop (ae l.length))[i-ae l.length]'(by simp;omega)=l[i]:=by rw[List.getElem_drop];congr 1;omega
    rw[he,hk]at h;rw[h]
theorem uJ {l:List aN}(hr:xC l)(i:Nat)(hi:i<l.length):dV (h_ l) (atF l i hi)=true:=by
 have hb:=hr.big _ (List.getElem_mem hi);have hlen:=hr.len;have hp:=Er 8 l i (by omega);have hd:=TC _ l i rfl;have hf:pz (atF l i hi)=true:=by simp only[pz,Pv,atF,Bool.and_eq_true,Bool.not_eq_true',Bool.or_eq_false_iff,decide_eq_false_iff_not,List.all_eq_true,decide_eq_true_eq];refine⟨⟨⟨⟨⟨⟨⟨?_,?_⟩,?_⟩,?_⟩,?_⟩,?_⟩,?_⟩,hd⟩<;>(apply decide_eq_false;omega)
 have ht:eZ (atF l i hi)=(aZ l,true):=by simp only[eZ,atF,Int.toNat_natCast];exact Px _ l i rfl hi
 unfold dV;rw[hf,ht];simp[atF,h_]
theorem Mr {l:List aN}{key:List UInt8}:oL l key=true↔∃h:placeF l key<l.length,l[placeF l key].k=key:=by
 unfold oL;by_cases h:placeF l key<l.length
 ·rw[dif_pos h];simp[h]
 ·rw[dif_neg h];simp[h]
theorem Rf {l:List aN}(hr:xC l)(key:List UInt8)(ht:oL l key=false):mq (h_ l) key (LD l key).1=true:=by
 have hz:=gN hr;have hpl:=vV l key;have h1:∀(_:0<placeF l key) (g':placeF l key-1<l.length),Lib.compareBytes (l[placeF l key-1]'(g')).k key<0:=λh g'=>(ll hr key _ _).2 (by omega);have h2:∀h:placeF l key<l.length,Lib.compareBytes key l[placeF l key].k<0:=λh=>by
  have h3:¬Lib.compareBytes l[placeF l key].k key<0:=λhc=>by have:=(ll hr key _ h).1 hc;omega
  have h4:Lib.compareBytes l[placeF l key].k key≠0:=λhc=>by have:=Mr.2 ⟨h,(kL _ _).1 hc⟩;rw[ht]at this;cases this
  rw[nI];omega
 unfold LD;rw[hz,if_pos rfl,ht];simp only[Bool.false_eq_true,if_false];have z1:∀b i (h:i<l.length),b=true->atZ l b i=atF l i h:=λb i h hb=>dif_pos ⟨hb,h⟩;generalize placeF l key=j at*;by_cases a:0<j
 ·by_cases b:j<l.length
  ·rw[decide_eq_true a,decide_eq_true b,z1 true (j-1) (by omega) rfl,z1 true j b rfl];simp only[mq,uJ hr,Bool.true_and,Bool.and_true,Bool.and_eq_true,decide_eq_true_eq];refine⟨⟨h1 a (by omega),h2 b⟩,?_,?_⟩
   ·simp[atF]
   ·simp only[atF];omega
  ·rw[decide_eq_true a,decide_eq_false b,z1 true (j-1) (by omega) rfl];simp only[mq,uJ hr,Bool.true_and,Bool.and_true,Bool.and_eq_true,decide_eq_true_eq];refine⟨h1 a (by omega),?_⟩;simp only[atF];omega
 ·by_cases b:j<l.length
  ·rw[decide_eq_false a,decide_eq_true b,z1 true j b rfl];simp only[mq,uJ hr,Bool.true_and,Bool.and_true,Bool.and_eq_true,decide_eq_true_eq];refine⟨h2 b,?_⟩;simp only[atF];omega
  ·rw[decide_eq_false a,decide_eq_false b];have:l=[]:=List.length_eq_zero_iff.1 (by omega);subst this;simp[mq,h_,aZ]
end Go.Proofs.YtdmeldhlbpdeeaaGreatDoor
