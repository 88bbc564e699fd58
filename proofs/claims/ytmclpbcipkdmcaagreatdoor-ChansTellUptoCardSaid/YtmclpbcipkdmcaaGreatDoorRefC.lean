/- landref5.Way, place, At, Show, ShowGap: by value. -/
import Derived.Test.YtmclpbcipkdmcaaGreatDoorRefB
import Derived.Test.YtmclpbcipkdmcaaGreatDoorGLaw5
set_option linter.all false
namespace Go.Proofs.YtmclpbcipkdmcaaGreatDoor
open Go Go.Abs Go.RowKit Go.Proofs.YtmclpbcipkdmcaaGreatDoor.Ty
theorem tyRefC0:(type_of% @Ty.T1)∧(type_of% @Ty.T3)∧(type_of% @Ty.T4)∧(type_of% @Ty.T168)∧(type_of% @Ty.T172):=⟨@Ty.T1,@Ty.T3,@Ty.T4,@Ty.T168,@Ty.T172⟩
structure TurnD where
 r:Bool
 fr:Nat
 n:Nat
def encT (t:TurnD):List I:=[.s (.bool t.r),.s (.int .i64 (t.fr:Int)),.s (.int .i64 (t.n:Int))]
def wayF (fr i n:Nat):List TurnD :=
 if _h:n≤1 then [] else if i < splitF n then ⟨false,fr+splitF n,n - splitF n⟩ :: wayF fr i (splitF n) else ⟨true,fr,splitF n⟩ :: wayF (fr+splitF n) (i - splitF n) (n - splitF n)
termination_by n
decreasing_by
 all_goals
  have:=splitF_lt (n:=n) (by omega)
  omega
theorem wayF_one {fr i n:Nat} (h:n≤1):wayF fr i n=[]:=by rw [wayF,dif_pos h]
theorem wayF_lo {fr i n:Nat} (h:2≤n) (hi:i < splitF n):wayF fr i n=⟨false,fr+splitF n,n - splitF n⟩ :: wayF fr i (splitF n):=by rw [wayF,dif_neg (by omega),if_pos hi]
theorem wayF_hi {fr i n:Nat} (h:2≤n) (hi:¬ i < splitF n):wayF fr i n=⟨true,fr,splitF n⟩ :: wayF (fr+splitF n) (i - splitF n) (n - splitF n):=by rw [wayF,dif_neg (by omega),if_neg hi]
theorem way_path (L:List PairD):∀ (n fr i:Nat),fr+n≤L.length→i < n→(wayF fr i n).reverse.map (fun t=>treeF ((L.drop t.fr).take t.n))=pathF ((L.drop fr).take n) i:=by
 intro n
 induction n using Nat.strongRecOn with
 | _ n ih =>
  intro fr i hn hi
  have hlen:((L.drop fr).take n).length=n:=by simp; omega
  by_cases h1:n≤1
  ·rw [wayF_one h1,pathF_one i (by omega)]; rfl
  ·have hs:=splitF_lt (n:=n) (by omega)
   have e1:((L.drop fr).take n).take (splitF n)=(L.drop fr).take (splitF n):=by rw [List.take_take,Nat.min_eq_left (by omega)]
   have e2:((L.drop fr).take n).drop (splitF n)=(L.drop (fr+splitF n)).take (n - splitF n):=by rw [List.drop_take,List.drop_drop]
   by_cases hc:i < splitF n
   ·rw [wayF_lo (by omega) hc,pathF_lo (by omega) (by rw [hlen]; exact hc),hlen,e1,e2,← ih (splitF n) hs.2 fr i (by omega) hc]
    simp
   ·rw [wayF_hi (by omega) hc,pathF_hi (by omega) (by rw [hlen]; exact hc),hlen,e1,e2,← ih (n - splitF n) (by omega) (fr+splitF n) (i - splitF n) (by omega) (by omega)]
    simp
theorem wayF_short:∀ (k n fr i:Nat),n≤2 ^ k→(wayF fr i n).length≤k:=by
 intro k
 induction k with
 | zero=>intro n fr i h; rw [wayF_one (by simpa using h)]; simp
 | succ k ih =>
  intro n fr i h
  by_cases h1:n≤1
  ·rw [wayF_one h1]; simp
  ·have hs:=splitF_lt (n:=n) (by omega)
   have hs2:=splitF_le (n:=n)
   have hk:splitF n≤2 ^ k:=by
    have:2 ^ Nat.log2 (n - 1) < 2 ^ (k+1):=Nat.lt_of_lt_of_le hs.2 h
    have:=(Nat.pow_lt_pow_iff_right (by decide)).1 this
    exact Nat.pow_le_pow_right (by decide) (by omega)
   by_cases hi:i < splitF n
   ·rw [wayF_lo (by omega) hi]
    have:=ih (splitF n) fr i hk
    simp; omega
   ·rw [wayF_hi (by omega) hi]
    have:=ih (n - splitF n) (fr+splitF n) (i - splitF n) (by omega)
    simp; omega
theorem wayF_ok:∀ (n fr i:Nat),∀ t∈wayF fr i n,fr≤t.fr∧t.fr+t.n≤fr+n∧1≤t.n:=by
 intro n
 induction n using Nat.strongRecOn with
 | _ n ih =>
  intro fr i t ht
  by_cases h1:n≤1
  ·rw [wayF_one h1] at ht; simp at ht
  ·have hs:=splitF_lt (n:=n) (by omega)
   by_cases hi:i < splitF n
   ·rw [wayF_lo (by omega) hi] at ht
    rcases List.mem_cons.1 ht with rfl | ht
    ·simp; omega
    ·have:=ih (splitF n) hs.2 fr i t ht; omega
   ·rw [wayF_hi (by omega) hi] at ht
    rcases List.mem_cons.1 ht with rfl | ht
    ·simp; omega
    ·have:=ih (n - splitF n) (by omega) (fr+splitF n) (i - splitF n) t ht; omega
set_option maxHeartbeats 4000000
theorem way_A (i n:Nat) (h1:1≤n) (h2:n≤1048576) (hi:i≤1048576):PureD Tryz.prog 119 [intD i,intD n] (.i (.sl ((wayF 0 i n).map encT))):=by
 generalize hW:wayF 0 i n=W
 refine callD_W 42 Tryz.func119 rfl rfl rfl (fun _ _=>rfl) ?_
 (repeat (first | (simp -implicitDefEqProofs only [ev,mixed,Nat.reduceLT,Nat.reduceAdd,Nat.reduceMul,reduceIte,Nat.reduceEqDiff,reduceCtorEq,Nat.reducePow,Nat.reduceLeDiff,Int.reduceLE,Int.reduceLT,Int.reduceToNat,Int.reduceEq,Nat.reduceBEq,itsOf,gdA,byteI,opid,lenQ,ixQ,ldH,readAt,readCells,asCell,faQ,exQ,fldQ,partA,buildQ,slQ,stH,bslH,appH,dcells,convI,elemsOf,D.one,nilS,fillD,convN,cvH,tyRefC0,intD]) | (with_reducible refine ⟨?_,?_⟩; (· first | (obtain ⟨rfl⟩:=‹Hq _ _›; with_reducible refine chk_ok ?_; kernel_rfl) | kernel_rfl)) | (with_reducible intro ops hops)))
 refine W_loopI (ι:=Nat × Nat × Nat × List TurnD) (fun s=>W=s.2.2.2++wayF s.2.2.1 s.1 s.2.1∧1≤s.2.1∧s.2.1≤1048576∧s.1≤1048576∧s.2.2.1+s.2.1≤1048576∧s.2.2.2.length+s.2.1≤1048576)
  (fun s=>stOf [(0,intD s.1),(1,intD s.2.1),(5,.os 100 3 0 s.2.2.2.length),(6,intD s.2.2.1)] [(100,.arr 3 (s.2.2.2.map encT))]) (fun s=>s.2.1) (i,n,0,[]) ⟨by simp [hW],h1,h2,hi,by simp; omega,by simp; omega⟩ ?_ ?_
 ·refine le_stOf _ _ [] [] ?_ ?_ rfl rfl
  ·simp [cv,cvL,cv1,cv0,upd,lk,srcOf,intD]
  ·simp [objOk,srcOf,lk]
 ·rintro ⟨i,n,fr,o⟩ ⟨hw,hn1,hn2,hi2,hfr,hol⟩
  simp only at hw hn1 hn2 hi2 hfr hol
  rw [stOf_eq]
  clear hW h1 h2 hi
  by_cases hgt:1 < n
  ·have g1:decide ((1:Int) < (n:Int))=true:=decide_eq_true (by omega)
   have hs:=splitF_lt (n:=n) (by omega)
   have hsp:=half_A n hn1 hn2
   have hlo:=fun h=>wayF_lo (fr:=fr) (i:=i) (n:=n) (by omega) h
   have hhi:=fun h=>wayF_hi (fr:=fr) (i:=i) (n:=n) (by omega) h
   generalize splitF n=k at *
   have u1:uni 3 (o.map encT)=true:=by simp [uni,encT]
   have e3:o.length+1≤140737488355328:=by omega
   have e4:(o.length+1) * 24≤140737488355328:=by omega
   by_cases hc:i < k
   ·have g3:decide ((i:Int) < (k:Int))=true:=decide_eq_true (by omega)
    have w1:IntKind.i64.wrap ((fr:Int)+(k:Int))=((fr+k:Nat):Int):=by rw [wrap64 (by omega) (by omega)]; omega
    have w2:IntKind.i64.wrap ((n:Int) - (k:Int))=((n - k:Nat):Int):=by rw [wrap64 (by omega) (by omega)]; omega
    rw [hlo hc] at hw
    clear hlo hhi
    (repeat (first | (simp -implicitDefEqProofs only [ev,mixed,Nat.reduceLT,Nat.reduceAdd,Nat.reduceMul,reduceIte,Nat.reduceEqDiff,reduceCtorEq,Nat.reducePow,Nat.reduceLeDiff,Int.reduceLE,Int.reduceLT,Int.reduceToNat,Int.reduceEq,Nat.reduceBEq,itsOf,gdA,byteI,opid,lenQ,ixQ,ldH,readAt,readCells,asCell,faQ,exQ,fldQ,partA,buildQ,slQ,stH,bslH,appH,dcells,convI,elemsOf,D.one,nilS,fillD,convN,cvH,tyRefC0,intD,g1]) | (with_reducible refine ⟨?_,?_⟩; (· first | (obtain ⟨rfl⟩:=‹Hq _ _›; with_reducible refine chk_ok ?_; kernel_rfl) | kernel_rfl)) | (with_reducible intro ops hops)))
    (first | refine Call_flat [] [] (hsp) (by simp [cvAs,cvA,cvRL,cvR,cvBox,cv1,cvL,cv0,bI,byteI,intD,elemsOf,upd]) rfl ?_ | refine CallF_flat [] [] [] (hsp) (fun G _=>by simp [cvAs,cvA,cvRL,cvR,cvBox,cv1,cvL,cv0,bI,byteI,intD,elemsOf,upd]) rfl ?_)
    (repeat (first | (simp -implicitDefEqProofs only [ev,mixed,Nat.reduceLT,Nat.reduceAdd,Nat.reduceMul,reduceIte,Nat.reduceEqDiff,reduceCtorEq,Nat.reducePow,Nat.reduceLeDiff,Int.reduceLE,Int.reduceLT,Int.reduceToNat,Int.reduceEq,Nat.reduceBEq,itsOf,gdA,byteI,opid,lenQ,ixQ,ldH,readAt,readCells,asCell,faQ,exQ,fldQ,partA,buildQ,slQ,stH,bslH,appH,dcells,convI,elemsOf,D.one,nilS,fillD,convN,cvH,tyRefC0,intD,g3,w1,w2,u1,e3,e4,List.length_map]) | (with_reducible refine ⟨?_,?_⟩; (· first | (obtain ⟨rfl⟩:=‹Hq _ _›; with_reducible refine chk_ok ?_; kernel_rfl) | kernel_rfl)) | (with_reducible intro ops hops)))
    refine ⟨(i,k,fr,o++[⟨false,fr+k,n - k⟩]),⟨by simp [hw],by simp; omega,by simp; omega,by simp; omega,by simp; omega,by simp; omega⟩,le_stOf _ _ [] [(100,2545)] ?_ ?_ rfl rfl,by simp; omega⟩
    ·simp [cv,cvL,cv1,cv0,upd,lk,srcOf,intD]
    ·simp [objOk,srcOf,lk,cvO,frz,upd,hO,encT]
   ·have g3:decide ((i:Int) < (k:Int))=false:=decide_eq_false (by omega)
    have w1:IntKind.i64.wrap ((fr:Int)+(k:Int))=((fr+k:Nat):Int):=by rw [wrap64 (by omega) (by omega)]; omega
    have w2:IntKind.i64.wrap ((n:Int) - (k:Int))=((n - k:Nat):Int):=by rw [wrap64 (by omega) (by omega)]; omega
    have w3:IntKind.i64.wrap ((i:Int) - (k:Int))=((i - k:Nat):Int):=by rw [wrap64 (by omega) (by omega)]; omega
    rw [hhi hc] at hw
    clear hlo hhi
    (repeat (first | (simp -implicitDefEqProofs only [ev,mixed,Nat.reduceLT,Nat.reduceAdd,Nat.reduceMul,reduceIte,Nat.reduceEqDiff,reduceCtorEq,Nat.reducePow,Nat.reduceLeDiff,Int.reduceLE,Int.reduceLT,Int.reduceToNat,Int.reduceEq,Nat.reduceBEq,itsOf,gdA,byteI,opid,lenQ,ixQ,ldH,readAt,readCells,asCell,faQ,exQ,fldQ,partA,buildQ,slQ,stH,bslH,appH,dcells,convI,elemsOf,D.one,nilS,fillD,convN,cvH,tyRefC0,intD,g1]) | (with_reducible refine ⟨?_,?_⟩; (· first | (obtain ⟨rfl⟩:=‹Hq _ _›; with_reducible refine chk_ok ?_; kernel_rfl) | kernel_rfl)) | (with_reducible intro ops hops)))
    (first | refine Call_flat [] [] (hsp) (by simp [cvAs,cvA,cvRL,cvR,cvBox,cv1,cvL,cv0,bI,byteI,intD,elemsOf,upd]) rfl ?_ | refine CallF_flat [] [] [] (hsp) (fun G _=>by simp [cvAs,cvA,cvRL,cvR,cvBox,cv1,cvL,cv0,bI,byteI,intD,elemsOf,upd]) rfl ?_)
    (repeat (first | (simp -implicitDefEqProofs only [ev,mixed,Nat.reduceLT,Nat.reduceAdd,Nat.reduceMul,reduceIte,Nat.reduceEqDiff,reduceCtorEq,Nat.reducePow,Nat.reduceLeDiff,Int.reduceLE,Int.reduceLT,Int.reduceToNat,Int.reduceEq,Nat.reduceBEq,itsOf,gdA,byteI,opid,lenQ,ixQ,ldH,readAt,readCells,asCell,faQ,exQ,fldQ,partA,buildQ,slQ,stH,bslH,appH,dcells,convI,elemsOf,D.one,nilS,fillD,convN,cvH,tyRefC0,intD,g3,w1,w2,w3,u1,e3,e4,List.length_map]) | (with_reducible refine ⟨?_,?_⟩; (· first | (obtain ⟨rfl⟩:=‹Hq _ _›; with_reducible refine chk_ok ?_; kernel_rfl) | kernel_rfl)) | (with_reducible intro ops hops)))
    refine ⟨(i - k,n - k,fr+k,o++[⟨true,fr,k⟩]),⟨by simp [hw],by simp; omega,by simp; omega,by simp; omega,by simp; omega,by simp; omega⟩,le_stOf _ _ [] [(100,3053)] ?_ ?_ rfl rfl,by simp; omega⟩
    ·simp [cv,cvL,cv1,cv0,upd,lk,srcOf,intD]
    ·simp [objOk,srcOf,lk,cvO,frz,upd,hO,encT]
  ·have g1:decide ((1:Int) < (n:Int))=false:=decide_eq_false (by omega)
   rw [wayF_one (by omega),List.append_nil] at hw
   subst hw
   (repeat (first | (simp -implicitDefEqProofs only [ev,mixed,Nat.reduceLT,Nat.reduceAdd,Nat.reduceMul,reduceIte,Nat.reduceEqDiff,reduceCtorEq,Nat.reducePow,Nat.reduceLeDiff,Int.reduceLE,Int.reduceLT,Int.reduceToNat,Int.reduceEq,Nat.reduceBEq,itsOf,gdA,byteI,opid,lenQ,ixQ,ldH,readAt,readCells,asCell,faQ,exQ,fldQ,partA,buildQ,slQ,stH,bslH,appH,dcells,convI,elemsOf,D.one,nilS,fillD,convN,cvH,tyRefC0,intD,g1]) | (with_reducible refine ⟨?_,?_⟩; (· first | (obtain ⟨rfl⟩:=‹Hq _ _›; with_reducible refine chk_ok ?_; kernel_rfl) | kernel_rfl)) | (with_reducible intro ops hops)))
   refine fin_ret [100] rfl ?_
   have hz:List.take W.length (W.map encT)=W.map encT:=List.take_of_length_le (by simp)
   simp [cv,cv1,cv0,upd,hO,lk,elemsOf,hz]
end Go.Proofs.YtmclpbcipkdmcaaGreatDoor
