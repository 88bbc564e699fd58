/- landref4.Four, Join, Leaf, Node, Top, Tree: by value. -/
import Derived.Test.YtmclpbcipkdmcaaGreatDoorRefA
import Derived.Test.YtmclpbcipkdmcaaGreatDoorR1Sum
set_option linter.all false
namespace Go.Proofs.YtmclpbcipkdmcaaGreatDoor
open Go Go.Abs Go.RowKit Go.Proofs.YtmclpbcipkdmcaaGreatDoor.Ty
theorem tyRefB0:(type_of% @Ty.T3)∧(type_of% @Ty.T4)∧(type_of% @Ty.T5)∧(type_of% @Ty.T29):=⟨@Ty.T3,@Ty.T4,@Ty.T5,@Ty.T29⟩
theorem tyRefB1:(type_of% @Ty.T3)∧(type_of% @Ty.T5)∧(type_of% @Ty.T29)∧(type_of% @Ty.T30):=⟨@Ty.T3,@Ty.T5,@Ty.T29,@Ty.T30⟩
theorem tyRefB2:(type_of% @Ty.T1)∧(type_of% @Ty.T3)∧(type_of% @Ty.T4)∧(type_of% @Ty.T5)∧(type_of% @Ty.T29)∧(type_of% @Ty.T30):=⟨@Ty.T1,@Ty.T3,@Ty.T4,@Ty.T5,@Ty.T29,@Ty.T30⟩
theorem tyRefB3:(type_of% @Ty.T1)∧(type_of% @Ty.T3)∧(type_of% @Ty.T5)∧(type_of% @Ty.T29)∧(type_of% @Ty.T30):=⟨@Ty.T1,@Ty.T3,@Ty.T5,@Ty.T29,@Ty.T30⟩
theorem tyRefB4:(type_of% @Ty.T1)∧(type_of% @Ty.T3)∧(type_of% @Ty.T5)∧(type_of% @Ty.T29)∧(type_of% @Ty.T30):=⟨@Ty.T1,@Ty.T3,@Ty.T5,@Ty.T29,@Ty.T30⟩
theorem tyRefB5:(type_of% @Ty.T3)∧(type_of% @Ty.T5)∧(type_of% @Ty.T29)∧(type_of% @Ty.T62)∧(type_of% @Ty.T135):=⟨@Ty.T3,@Ty.T5,@Ty.T29,@Ty.T62,@Ty.T135⟩
theorem rem_byte (x:Nat):IntKind.u8.wrap ((x:Int).tmod 256)=(((UInt8.ofNat x).toNat:Nat):Int):=by
 rw [IntKind.wrap_u8,UInt8.toNat_ofNat']
 have:(x:Int).tmod 256=((x % 256:Nat):Int):=by rw [Int.tmod_eq_emod_of_nonneg (by omega)]; omega
 rw [this]; omega
theorem quo_byte (n d:Nat) (hn:n≤1099511627776):IntKind.u8.wrap ((IntKind.i64.wrap ((n:Int).tdiv (d:Int))).tmod 256)=((byteOf n d).toNat:Int):=by
 have h1:(n:Int).tdiv (d:Int)=((n / d:Nat):Int):=by rw [Int.tdiv_eq_ediv_of_nonneg (by omega)]; omega
 have h2:n / d≤n:=Nat.div_le_self _ _
 rw [h1,byteOf]
 generalize n / d=q at *
 rw [wrap64 (by omega) (by omega),rem_byte,UInt8.toNat_ofNat',UInt8.toNat_ofNat']; omega
def jk (ls:List (List UInt8)) (j:Nat):List UInt8:=(ls.take j).flatten
theorem jk_zero (ls:List (List UInt8)):jk ls 0=[]:=rfl
theorem jk_succ {ls:List (List UInt8)} {j:Nat} (h:j < ls.length):jk ls (j+1)=jk ls j++ls[j]:=by
 unfold jk
 rw [List.take_succ_eq_append_getElem h,List.flatten_append]
 simp only [List.flatten_cons,List.flatten_nil,List.append_nil]
theorem jk_all (ls:List (List UInt8)):jk ls ls.length=ls.flatten:=by unfold jk; rw [List.take_length]
theorem jk_le (ls:List (List UInt8)) (j:Nat):(jk ls j).length≤ls.flatten.length:=by
 have h:ls.flatten=jk ls j++(ls.drop j).flatten:=by
  unfold jk; rw [← List.flatten_append,List.take_append_drop]
 rw [h,List.length_append]; omega
set_option maxHeartbeats 4000000
theorem rfour_A (n:Nat) (hn:n≤1099511627776):PureD Tryz.prog 163 [intD n] (.i (bI (four n))):=by
 simp only [four]
 have b1:=quo_byte n 16777216 hn
 have b2:=quo_byte n 65536 hn
 have b3:=quo_byte n 256 hn
 have b4:IntKind.u8.wrap ((n:Int).tmod 256)=((byteOf n 1).toNat:Int):=by rw [rem_byte,byteOf,Nat.div_one,UInt8.toNat_ofNat',UInt8.toNat_ofNat']; omega
 simp only [Int.ofNat_eq_natCast,Int.cast_ofNat_Int] at b1 b2 b3
 generalize byteOf n 16777216=c1 at *
 generalize byteOf n 65536=c2 at *
 generalize byteOf n 256=c3 at *
 generalize byteOf n 1=c4 at *
 refine callD_W 19 Tryz.func163 rfl rfl rfl (fun _ _=>rfl) ?_
 (repeat (first | (simp -implicitDefEqProofs only [ev,mixed,Nat.reduceLT,Nat.reduceAdd,Nat.reduceMul,reduceIte,Nat.reduceEqDiff,reduceCtorEq,Nat.reducePow,Nat.reduceLeDiff,Int.reduceLE,Int.reduceLT,Int.reduceToNat,Int.reduceEq,Nat.reduceBEq,itsOf,gdA,byteI,opid,lenQ,ixQ,ldH,readAt,readCells,asCell,faQ,exQ,fldQ,partA,buildQ,slQ,stH,bslH,appH,dcells,convI,elemsOf,D.one,nilS,fillD,convN,cvH,tyRefB0,intD,b1,b2,b3,b4]) | (with_reducible refine ⟨?_,?_⟩; (· first | (obtain ⟨rfl⟩:=‹Hq _ _›; with_reducible refine chk_ok ?_; kernel_rfl) | kernel_rfl)) | (with_reducible intro ops hops)))
 refine fin_ret [1271] rfl ?_
 simp [cv,cv1,cv0,upd,elemsOf,bI,byteI]
theorem join_A (ls:List (List UInt8)) (h1:ls.flatten.length≤1099511627776) (h2:ls.length≤1048576):PureD Tryz.prog 162 [.i (bbI ls)] (.i (bI ls.flatten)):=by
 have hl:(ls.map fun b=>[bI b]).length=ls.length:=by simp
 have e0:∀ j (h:j < ls.length),(ls.map fun b=>[bI b])[j]?=some [bI ls[j]]:=fun j h=>by rw [List.getElem?_map,List.getElem?_eq_getElem h]; rfl
 have hbb:bbI ls=.sl (ls.map fun b=>[bI b]):=rfl
 rw [hbb]
 generalize (ls.map fun b=>[bI b])=L at *
 have hall:=jk_all ls
 have hle:=jk_le ls
 generalize ls.flatten=Z at *
 refine callD_W 17 Tryz.func162 rfl rfl rfl (fun _ _=>rfl) ?_
 (repeat (first | (simp -implicitDefEqProofs only [ev,mixed,Nat.reduceLT,Nat.reduceAdd,Nat.reduceMul,reduceIte,Nat.reduceEqDiff,reduceCtorEq,Nat.reducePow,Nat.reduceLeDiff,Int.reduceLE,Int.reduceLT,Int.reduceToNat,Int.reduceEq,Nat.reduceBEq,itsOf,gdA,byteI,opid,lenQ,ixQ,ldH,readAt,readCells,asCell,faQ,exQ,fldQ,partA,buildQ,slQ,stH,bslH,appH,dcells,convI,elemsOf,D.one,nilS,fillD,convN,cvH,tyRefB1,hl]) | (with_reducible refine ⟨?_,?_⟩; (· first | (obtain ⟨rfl⟩:=‹Hq _ _›; with_reducible refine chk_ok ?_; kernel_rfl) | kernel_rfl)) | (with_reducible intro ops hops)))
 refine W_loopI (ι:=Nat) (fun j=>j≤ls.length)
  (fun j=>stOf [(3,.os 100 1 0 (jk ls j).length),(6,.i (.sl L)),(7,intD ls.length),(8,intD j)] [(100,.arr 1 ((jk ls j).map byteI))]) (fun j=>ls.length - j) 0 (Nat.zero_le _) ?_ ?_
 ·refine le_stOf _ _ [] [] ?_ ?_ rfl rfl
  ·simp [cv,cvL,cv1,cv0,upd,lk,srcOf,intD,jk_zero]
  ·simp [objOk,srcOf,lk,jk_zero]
 ·rintro j hj
  rw [stOf_eq]
  by_cases hlt:j < ls.length
  ·have g1:decide ((j:Int) < (ls.length:Int))=true:=decide_eq_true (by omega)
   have e1:=e0 j hlt
   have w1:IntKind.i64.wrap ((j:Int)+1)=((j+1:Nat):Int):=by rw [wrap64 (by omega) (by omega)]; omega
   have ht:=jk_succ hlt
   have hle:=hle (j+1)
   rw [ht,List.length_append] at hle
   generalize ls[j]=b at *
   generalize jk ls j=A at *
   have e3:A.length+b.length≤140737488355328:=by omega
   simp only [bI] at e1
   (repeat (first | (simp -implicitDefEqProofs only [ev,mixed,Nat.reduceLT,Nat.reduceAdd,Nat.reduceMul,reduceIte,Nat.reduceEqDiff,reduceCtorEq,Nat.reducePow,Nat.reduceLeDiff,Int.reduceLE,Int.reduceLT,Int.reduceToNat,Int.reduceEq,Nat.reduceBEq,itsOf,gdA,byteI,opid,lenQ,ixQ,ldH,readAt,readCells,asCell,faQ,exQ,fldQ,partA,buildQ,slQ,stH,bslH,appH,dcells,convI,elemsOf,D.one,nilS,fillD,convN,cvH,tyRefB1,intD,g1,e1,e3,uni_byteI,List.length_map,w1]) | (with_reducible refine ⟨?_,?_⟩; (· first | (obtain ⟨rfl⟩:=‹Hq _ _›; with_reducible refine chk_ok ?_; kernel_rfl) | kernel_rfl)) | (with_reducible intro ops hops)))
   refine ⟨j+1,hlt,le_stOf _ _ [] [(100,2282)] ?_ ?_ rfl rfl,by simp; omega⟩
   ·simp [cv,cvL,cv1,cv0,upd,lk,srcOf,intD,ht]
   ·simp [objOk,srcOf,lk,cvO,frz,upd,hO,ht]
  ·have g1:decide ((j:Int) < (ls.length:Int))=false:=decide_eq_false (by omega)
   have hj':j=ls.length:=by omega
   subst hj'
   rw [hall]
   (repeat (first | (simp -implicitDefEqProofs only [ev,mixed,Nat.reduceLT,Nat.reduceAdd,Nat.reduceMul,reduceIte,Nat.reduceEqDiff,reduceCtorEq,Nat.reducePow,Nat.reduceLeDiff,Int.reduceLE,Int.reduceLT,Int.reduceToNat,Int.reduceEq,Nat.reduceBEq,itsOf,gdA,byteI,opid,lenQ,ixQ,ldH,readAt,readCells,asCell,faQ,exQ,fldQ,partA,buildQ,slQ,stH,bslH,appH,dcells,convI,elemsOf,D.one,nilS,fillD,convN,cvH,tyRefB1,intD,g1]) | (with_reducible refine ⟨?_,?_⟩; (· first | (obtain ⟨rfl⟩:=‹Hq _ _›; with_reducible refine chk_ok ?_; kernel_rfl) | kernel_rfl)) | (with_reducible intro ops hops)))
   refine fin_ret [100] rfl ?_
   have hz:List.take Z.length (Z.map byteI)=Z.map byteI:=List.take_of_length_le (by simp)
   simp [cv,cv1,cv0,upd,hO,lk,elemsOf,bI,hz]
theorem rleaf_A (k v:List UInt8) (hk:k.length≤1048576) (hv:v.length≤1048576):PureD Tryz.prog 120 [.i (bI k),.i (bI v)] (.i (bI (leafF k v))):=by
 have hf:[[0],four k.length,k,v].flatten=0 :: (four k.length++(k++v)):=by simp
 have hfl:(four k.length).length=4:=rfl
 have hp:=join_A [[0],four k.length,k,v] (by rw [hf]; simp; omega) (by simp)
 have hs:=sumref_A (0 :: (four k.length++(k++v))) (by simp; omega)
 rw [hf] at hp
 rw [show sha (0 :: (four k.length++(k++v)))=leafF k v from rfl] at hs
 generalize 0 :: (four k.length++(k++v))=J at *
 generalize leafF k v=R at *
 refine callD_W 14 Tryz.func120 rfl rfl rfl (fun _ _=>rfl) ?_
 (repeat (first | (simp -implicitDefEqProofs only [ev,mixed,Nat.reduceLT,Nat.reduceAdd,Nat.reduceMul,reduceIte,Nat.reduceEqDiff,reduceCtorEq,Nat.reducePow,Nat.reduceLeDiff,Int.reduceLE,Int.reduceLT,Int.reduceToNat,Int.reduceEq,Nat.reduceBEq,itsOf,gdA,byteI,opid,lenQ,ixQ,ldH,readAt,readCells,asCell,faQ,exQ,fldQ,partA,buildQ,slQ,stH,bslH,appH,dcells,convI,elemsOf,D.one,nilS,fillD,convN,cvH,tyRefB2,bI]) | (with_reducible refine ⟨?_,?_⟩; (· first | (obtain ⟨rfl⟩:=‹Hq _ _›; with_reducible refine chk_ok ?_; kernel_rfl) | kernel_rfl)) | (with_reducible intro ops hops)))
 (first | refine Call_frz [] (rfour_A k.length (by omega)) (by simp [cvAs,cvA,cvRL,cvR,cvBox,cv1,cvL,cv0,bI,byteI,bbI,encPr,psI,intD,elemsOf,upd]) ?_ | refine CallF_frz [] [] (rfour_A k.length (by omega)) (fun G _=>by simp [cvAs,cvA,cvRL,cvR,cvBox,cv1,cvL,cv0,bI,byteI,bbI,encPr,psI,intD,elemsOf,upd]) (by simp) ?_)
 (repeat (first | (simp -implicitDefEqProofs only [ev,mixed,Nat.reduceLT,Nat.reduceAdd,Nat.reduceMul,reduceIte,Nat.reduceEqDiff,reduceCtorEq,Nat.reducePow,Nat.reduceLeDiff,Int.reduceLE,Int.reduceLT,Int.reduceToNat,Int.reduceEq,Nat.reduceBEq,itsOf,gdA,byteI,opid,lenQ,ixQ,ldH,readAt,readCells,asCell,faQ,exQ,fldQ,partA,buildQ,slQ,stH,bslH,appH,dcells,convI,elemsOf,D.one,nilS,fillD,convN,cvH,tyRefB2,bI]) | (with_reducible refine ⟨?_,?_⟩; (· first | (obtain ⟨rfl⟩:=‹Hq _ _›; with_reducible refine chk_ok ?_; kernel_rfl) | kernel_rfl)) | (with_reducible intro ops hops)))
 (first | refine Call_frz [1262] (hp) (by simp [cvAs,cvA,cvRL,cvR,cvBox,cv1,cvL,cv0,bI,byteI,bbI,encPr,psI,intD,elemsOf,upd,frz,bbI]) ?_ | refine CallF_frz [1262] [1262] (hp) (fun G hG=>by (have hG1262:=hG 1262 (by simp); simp [cvAs,cvA,cvRL,cvR,cvBox,cv1,cvL,cv0,bI,byteI,bbI,encPr,psI,intD,elemsOf,upd,frz,bbI,hG1262])) (by simp) ?_)
 (repeat (first | (simp -implicitDefEqProofs only [ev,mixed,Nat.reduceLT,Nat.reduceAdd,Nat.reduceMul,reduceIte,Nat.reduceEqDiff,reduceCtorEq,Nat.reducePow,Nat.reduceLeDiff,Int.reduceLE,Int.reduceLT,Int.reduceToNat,Int.reduceEq,Nat.reduceBEq,itsOf,gdA,byteI,opid,lenQ,ixQ,ldH,readAt,readCells,asCell,faQ,exQ,fldQ,partA,buildQ,slQ,stH,bslH,appH,dcells,convI,elemsOf,D.one,nilS,fillD,convN,cvH,tyRefB2,bI]) | (with_reducible refine ⟨?_,?_⟩; (· first | (obtain ⟨rfl⟩:=‹Hq _ _›; with_reducible refine chk_ok ?_; kernel_rfl) | kernel_rfl)) | (with_reducible intro ops hops)))
 (first | refine Call_frz [] (hs) (by simp [cvAs,cvA,cvRL,cvR,cvBox,cv1,cvL,cv0,bI,byteI,bbI,encPr,psI,intD,elemsOf,upd]) ?_ | refine CallF_frz [] [] (hs) (fun G _=>by simp [cvAs,cvA,cvRL,cvR,cvBox,cv1,cvL,cv0,bI,byteI,bbI,encPr,psI,intD,elemsOf,upd]) (by simp) ?_)
 (repeat (first | (simp -implicitDefEqProofs only [ev,mixed,Nat.reduceLT,Nat.reduceAdd,Nat.reduceMul,reduceIte,Nat.reduceEqDiff,reduceCtorEq,Nat.reducePow,Nat.reduceLeDiff,Int.reduceLE,Int.reduceLT,Int.reduceToNat,Int.reduceEq,Nat.reduceBEq,itsOf,gdA,byteI,opid,lenQ,ixQ,ldH,readAt,readCells,asCell,faQ,exQ,fldQ,partA,buildQ,slQ,stH,bslH,appH,dcells,convI,elemsOf,D.one,nilS,fillD,convN,cvH,tyRefB2,bI]) | (with_reducible refine ⟨?_,?_⟩; (· first | (obtain ⟨rfl⟩:=‹Hq _ _›; with_reducible refine chk_ok ?_; kernel_rfl) | kernel_rfl)) | (with_reducible intro ops hops)))
 refine fin_ret [] rfl ?_
 simp [cv,cv1,cv0,upd]
theorem rnode_A (a b:List UInt8) (ha:a.length≤1048576) (hb:b.length≤1048576):PureD Tryz.prog 121 [.i (bI a),.i (bI b)] (.i (bI (nodeF a b))):=by
 have hf:[[1],a,b].flatten=1 :: (a++b):=by simp
 have hp:=join_A [[1],a,b] (by rw [hf]; simp; omega) (by simp)
 have hs:=sumref_A (1 :: (a++b)) (by simp; omega)
 rw [hf] at hp
 rw [show sha (1 :: (a++b))=nodeF a b from rfl] at hs
 generalize 1 :: (a++b)=J at *
 generalize nodeF a b=R at *
 refine callD_W 11 Tryz.func121 rfl rfl rfl (fun _ _=>rfl) ?_
 (repeat (first | (simp -implicitDefEqProofs only [ev,mixed,Nat.reduceLT,Nat.reduceAdd,Nat.reduceMul,reduceIte,Nat.reduceEqDiff,reduceCtorEq,Nat.reducePow,Nat.reduceLeDiff,Int.reduceLE,Int.reduceLT,Int.reduceToNat,Int.reduceEq,Nat.reduceBEq,itsOf,gdA,byteI,opid,lenQ,ixQ,ldH,readAt,readCells,asCell,faQ,exQ,fldQ,partA,buildQ,slQ,stH,bslH,appH,dcells,convI,elemsOf,D.one,nilS,fillD,convN,cvH,tyRefB3,bI]) | (with_reducible refine ⟨?_,?_⟩; (· first | (obtain ⟨rfl⟩:=‹Hq _ _›; with_reducible refine chk_ok ?_; kernel_rfl) | kernel_rfl)) | (with_reducible intro ops hops)))
 (first | refine Call_frz [1259] (hp) (by simp [cvAs,cvA,cvRL,cvR,cvBox,cv1,cvL,cv0,bI,byteI,bbI,encPr,psI,intD,elemsOf,upd,frz,bbI]) ?_ | refine CallF_frz [1259] [1259] (hp) (fun G hG=>by (have hG1259:=hG 1259 (by simp); simp [cvAs,cvA,cvRL,cvR,cvBox,cv1,cvL,cv0,bI,byteI,bbI,encPr,psI,intD,elemsOf,upd,frz,bbI,hG1259])) (by simp) ?_)
 (repeat (first | (simp -implicitDefEqProofs only [ev,mixed,Nat.reduceLT,Nat.reduceAdd,Nat.reduceMul,reduceIte,Nat.reduceEqDiff,reduceCtorEq,Nat.reducePow,Nat.reduceLeDiff,Int.reduceLE,Int.reduceLT,Int.reduceToNat,Int.reduceEq,Nat.reduceBEq,itsOf,gdA,byteI,opid,lenQ,ixQ,ldH,readAt,readCells,asCell,faQ,exQ,fldQ,partA,buildQ,slQ,stH,bslH,appH,dcells,convI,elemsOf,D.one,nilS,fillD,convN,cvH,tyRefB3,bI]) | (with_reducible refine ⟨?_,?_⟩; (· first | (obtain ⟨rfl⟩:=‹Hq _ _›; with_reducible refine chk_ok ?_; kernel_rfl) | kernel_rfl)) | (with_reducible intro ops hops)))
 (first | refine Call_frz [] (hs) (by simp [cvAs,cvA,cvRL,cvR,cvBox,cv1,cvL,cv0,bI,byteI,bbI,encPr,psI,intD,elemsOf,upd]) ?_ | refine CallF_frz [] [] (hs) (fun G _=>by simp [cvAs,cvA,cvRL,cvR,cvBox,cv1,cvL,cv0,bI,byteI,bbI,encPr,psI,intD,elemsOf,upd]) (by simp) ?_)
 (repeat (first | (simp -implicitDefEqProofs only [ev,mixed,Nat.reduceLT,Nat.reduceAdd,Nat.reduceMul,reduceIte,Nat.reduceEqDiff,reduceCtorEq,Nat.reducePow,Nat.reduceLeDiff,Int.reduceLE,Int.reduceLT,Int.reduceToNat,Int.reduceEq,Nat.reduceBEq,itsOf,gdA,byteI,opid,lenQ,ixQ,ldH,readAt,readCells,asCell,faQ,exQ,fldQ,partA,buildQ,slQ,stH,bslH,appH,dcells,convI,elemsOf,D.one,nilS,fillD,convN,cvH,tyRefB3,bI]) | (with_reducible refine ⟨?_,?_⟩; (· first | (obtain ⟨rfl⟩:=‹Hq _ _›; with_reducible refine chk_ok ?_; kernel_rfl) | kernel_rfl)) | (with_reducible intro ops hops)))
 refine fin_ret [] rfl ?_
 simp [cv,cv1,cv0,upd]
theorem rtop_A (n:Nat) (t:List UInt8) (hn:n≤1048576) (ht:t.length≤1048576):PureD Tryz.prog 122 [intD n,.i (bI t)] (.i (bI (topF n t))):=by
 have hf:[[2],four n,t].flatten=2 :: (four n++t):=by simp
 have hfl:(four n).length=4:=rfl
 have hp:=join_A [[2],four n,t] (by rw [hf]; simp; omega) (by simp)
 have hs:=sumref_A (2 :: (four n++t)) (by simp; omega)
 rw [hf] at hp
 rw [show sha (2 :: (four n++t))=topF n t from rfl] at hs
 generalize 2 :: (four n++t)=J at *
 generalize topF n t=R at *
 refine callD_W 12 Tryz.func122 rfl rfl rfl (fun _ _=>rfl) ?_
 (repeat (first | (simp -implicitDefEqProofs only [ev,mixed,Nat.reduceLT,Nat.reduceAdd,Nat.reduceMul,reduceIte,Nat.reduceEqDiff,reduceCtorEq,Nat.reducePow,Nat.reduceLeDiff,Int.reduceLE,Int.reduceLT,Int.reduceToNat,Int.reduceEq,Nat.reduceBEq,itsOf,gdA,byteI,opid,lenQ,ixQ,ldH,readAt,readCells,asCell,faQ,exQ,fldQ,partA,buildQ,slQ,stH,bslH,appH,dcells,convI,elemsOf,D.one,nilS,fillD,convN,cvH,tyRefB4,bI,intD]) | (with_reducible refine ⟨?_,?_⟩; (· first | (obtain ⟨rfl⟩:=‹Hq _ _›; with_reducible refine chk_ok ?_; kernel_rfl) | kernel_rfl)) | (with_reducible intro ops hops)))
 (first | refine Call_frz [] (rfour_A n (by omega)) (by simp [cvAs,cvA,cvRL,cvR,cvBox,cv1,cvL,cv0,bI,byteI,bbI,encPr,psI,intD,elemsOf,upd]) ?_ | refine CallF_frz [] [] (rfour_A n (by omega)) (fun G _=>by simp [cvAs,cvA,cvRL,cvR,cvBox,cv1,cvL,cv0,bI,byteI,bbI,encPr,psI,intD,elemsOf,upd]) (by simp) ?_)
 (repeat (first | (simp -implicitDefEqProofs only [ev,mixed,Nat.reduceLT,Nat.reduceAdd,Nat.reduceMul,reduceIte,Nat.reduceEqDiff,reduceCtorEq,Nat.reducePow,Nat.reduceLeDiff,Int.reduceLE,Int.reduceLT,Int.reduceToNat,Int.reduceEq,Nat.reduceBEq,itsOf,gdA,byteI,opid,lenQ,ixQ,ldH,readAt,readCells,asCell,faQ,exQ,fldQ,partA,buildQ,slQ,stH,bslH,appH,dcells,convI,elemsOf,D.one,nilS,fillD,convN,cvH,tyRefB4,bI]) | (with_reducible refine ⟨?_,?_⟩; (· first | (obtain ⟨rfl⟩:=‹Hq _ _›; with_reducible refine chk_ok ?_; kernel_rfl) | kernel_rfl)) | (with_reducible intro ops hops)))
 (first | refine Call_frz [1260] (hp) (by simp [cvAs,cvA,cvRL,cvR,cvBox,cv1,cvL,cv0,bI,byteI,bbI,encPr,psI,intD,elemsOf,upd,frz,bbI]) ?_ | refine CallF_frz [1260] [1260] (hp) (fun G hG=>by (have hG1260:=hG 1260 (by simp); simp [cvAs,cvA,cvRL,cvR,cvBox,cv1,cvL,cv0,bI,byteI,bbI,encPr,psI,intD,elemsOf,upd,frz,bbI,hG1260])) (by simp) ?_)
 (repeat (first | (simp -implicitDefEqProofs only [ev,mixed,Nat.reduceLT,Nat.reduceAdd,Nat.reduceMul,reduceIte,Nat.reduceEqDiff,reduceCtorEq,Nat.reducePow,Nat.reduceLeDiff,Int.reduceLE,Int.reduceLT,Int.reduceToNat,Int.reduceEq,Nat.reduceBEq,itsOf,gdA,byteI,opid,lenQ,ixQ,ldH,readAt,readCells,asCell,faQ,exQ,fldQ,partA,buildQ,slQ,stH,bslH,appH,dcells,convI,elemsOf,D.one,nilS,fillD,convN,cvH,tyRefB4,bI]) | (with_reducible refine ⟨?_,?_⟩; (· first | (obtain ⟨rfl⟩:=‹Hq _ _›; with_reducible refine chk_ok ?_; kernel_rfl) | kernel_rfl)) | (with_reducible intro ops hops)))
 (first | refine Call_frz [] (hs) (by simp [cvAs,cvA,cvRL,cvR,cvBox,cv1,cvL,cv0,bI,byteI,bbI,encPr,psI,intD,elemsOf,upd]) ?_ | refine CallF_frz [] [] (hs) (fun G _=>by simp [cvAs,cvA,cvRL,cvR,cvBox,cv1,cvL,cv0,bI,byteI,bbI,encPr,psI,intD,elemsOf,upd]) (by simp) ?_)
 (repeat (first | (simp -implicitDefEqProofs only [ev,mixed,Nat.reduceLT,Nat.reduceAdd,Nat.reduceMul,reduceIte,Nat.reduceEqDiff,reduceCtorEq,Nat.reducePow,Nat.reduceLeDiff,Int.reduceLE,Int.reduceLT,Int.reduceToNat,Int.reduceEq,Nat.reduceBEq,itsOf,gdA,byteI,opid,lenQ,ixQ,ldH,readAt,readCells,asCell,faQ,exQ,fldQ,partA,buildQ,slQ,stH,bslH,appH,dcells,convI,elemsOf,D.one,nilS,fillD,convN,cvH,tyRefB4,bI]) | (with_reducible refine ⟨?_,?_⟩; (· first | (obtain ⟨rfl⟩:=‹Hq _ _›; with_reducible refine chk_ok ?_; kernel_rfl) | kernel_rfl)) | (with_reducible intro ops hops)))
 refine fin_ret [] rfl ?_
 simp [cv,cv1,cv0,upd]
theorem rtree_A:∀ (n:Nat) (l:List PairD),l.length=n→l.length≤1048576→(∀ p∈l,p.k.length≤1048576∧p.v.length≤1048576)→PureD Tryz.prog 139 [.i (psI l)] (.i (bI (treeF l))):=by
 intro n
 induction n using Nat.strongRecOn with
 | _ n ih =>
  intro l hn hl hb
  by_cases h0:l.length=0
  ·obtain rfl:=List.length_eq_zero_iff.1 h0
   rw [show treeF []=[] by rw [treeF]]
   refine callD_W 31 Tryz.func139 rfl rfl rfl (fun _ _=>rfl) ?_
   (repeat (first | (simp -implicitDefEqProofs only [ev,mixed,Nat.reduceLT,Nat.reduceAdd,Nat.reduceMul,reduceIte,Nat.reduceEqDiff,reduceCtorEq,Nat.reducePow,Nat.reduceLeDiff,Int.reduceLE,Int.reduceLT,Int.reduceToNat,Int.reduceEq,Nat.reduceBEq,itsOf,gdA,byteI,opid,lenQ,ixQ,ldH,readAt,readCells,asCell,faQ,exQ,fldQ,partA,buildQ,slQ,stH,bslH,appH,dcells,convI,elemsOf,D.one,nilS,fillD,convN,cvH,tyRefB5,psI,List.map_nil,bI]) | (with_reducible refine ⟨?_,?_⟩; (· first | (obtain ⟨rfl⟩:=‹Hq _ _›; with_reducible refine chk_ok ?_; kernel_rfl) | kernel_rfl)) | (with_reducible intro ops hops)))
   refine fin_ret [] rfl ?_
   simp [cv,cv1,cv0,upd]
  by_cases h1:l.length=1
  ·obtain ⟨p,rfl⟩:=List.length_eq_one_iff.1 h1
   have hp:=hb p (by simp)
   have hlf:=rleaf_A p.k p.v hp.1 hp.2
   rw [treeF_one]
   generalize leafF p.k p.v=R at *
   refine callD_W 31 Tryz.func139 rfl rfl rfl (fun _ _=>rfl) ?_
   (repeat (first | (simp -implicitDefEqProofs only [ev,mixed,Nat.reduceLT,Nat.reduceAdd,Nat.reduceMul,reduceIte,Nat.reduceEqDiff,reduceCtorEq,Nat.reducePow,Nat.reduceLeDiff,Int.reduceLE,Int.reduceLT,Int.reduceToNat,Int.reduceEq,Nat.reduceBEq,itsOf,gdA,byteI,opid,lenQ,ixQ,ldH,readAt,readCells,asCell,faQ,exQ,fldQ,partA,buildQ,slQ,stH,bslH,appH,dcells,convI,elemsOf,D.one,nilS,fillD,convN,cvH,tyRefB5,psI,List.map_cons,List.map_nil,encPr,bI]) | (with_reducible refine ⟨?_,?_⟩; (· first | (obtain ⟨rfl⟩:=‹Hq _ _›; with_reducible refine chk_ok ?_; kernel_rfl) | kernel_rfl)) | (with_reducible intro ops hops)))
   (first | refine Call_frz [] (hlf) (by simp [cvAs,cvA,cvRL,cvR,cvBox,cv1,cvL,cv0,bI,byteI,bbI,encPr,psI,intD,elemsOf,upd]) ?_ | refine CallF_frz [] [] (hlf) (fun G _=>by simp [cvAs,cvA,cvRL,cvR,cvBox,cv1,cvL,cv0,bI,byteI,bbI,encPr,psI,intD,elemsOf,upd]) (by simp) ?_)
   (repeat (first | (simp -implicitDefEqProofs only [ev,mixed,Nat.reduceLT,Nat.reduceAdd,Nat.reduceMul,reduceIte,Nat.reduceEqDiff,reduceCtorEq,Nat.reducePow,Nat.reduceLeDiff,Int.reduceLE,Int.reduceLT,Int.reduceToNat,Int.reduceEq,Nat.reduceBEq,itsOf,gdA,byteI,opid,lenQ,ixQ,ldH,readAt,readCells,asCell,faQ,exQ,fldQ,partA,buildQ,slQ,stH,bslH,appH,dcells,convI,elemsOf,D.one,nilS,fillD,convN,cvH,tyRefB5,bI]) | (with_reducible refine ⟨?_,?_⟩; (· first | (obtain ⟨rfl⟩:=‹Hq _ _›; with_reducible refine chk_ok ?_; kernel_rfl) | kernel_rfl)) | (with_reducible intro ops hops)))
   refine fin_ret [] rfl ?_
   simp [cv,cv1,cv0,upd]
  ·have h2:2≤l.length:=by omega
   have hs:=splitF_lt h2
   rw [treeF_two h2]
   have hsp:=half_A l.length (by omega) hl
   generalize splitF l.length=k at *
   have t1:=ih (l.take k).length (by simp; omega) (l.take k) rfl (by simp; omega) (fun p hp=>hb p (List.mem_of_mem_take hp))
   have t2:=ih (l.drop k).length (by simp; omega) (l.drop k) rfl (by simp; omega) (fun p hp=>hb p (List.mem_of_mem_drop hp))
   have l1:(treeF (l.take k)).length=32:=treeF_len _ (by intro hc; have:=congrArg List.length hc; simp only [List.length_take,List.length_drop,List.length_nil] at this; omega)
   have l2:(treeF (l.drop k)).length=32:=treeF_len _ (by intro hc; have:=congrArg List.length hc; simp only [List.length_take,List.length_drop,List.length_nil] at this; omega)
   have hnd:=rnode_A (treeF (l.take k)) (treeF (l.drop k)) (by omega) (by omega)
   generalize treeF (l.take k)=T1 at *
   generalize treeF (l.drop k)=T2 at *
   generalize nodeF T1 T2=R at *
   have g0:decide ((l.length:Int)=0)=false:=decide_eq_false (by omega)
   have g1:decide ((l.length:Int)=1)=false:=by simp; omega
   have g2:((k:Int)≤(l.length:Int))=True:=eq_true (by omega)
   have u1:uni 2 (l.map encPr)=true:=by simp [uni,encPr]
   refine callD_W 31 Tryz.func139 rfl rfl rfl (fun _ _=>rfl) ?_
   (repeat (first | (simp -implicitDefEqProofs only [ev,mixed,Nat.reduceLT,Nat.reduceAdd,Nat.reduceMul,reduceIte,Nat.reduceEqDiff,reduceCtorEq,Nat.reducePow,Nat.reduceLeDiff,Int.reduceLE,Int.reduceLT,Int.reduceToNat,Int.reduceEq,Nat.reduceBEq,itsOf,gdA,byteI,opid,lenQ,ixQ,ldH,readAt,readCells,asCell,faQ,exQ,fldQ,partA,buildQ,slQ,stH,bslH,appH,dcells,convI,elemsOf,D.one,nilS,fillD,convN,cvH,tyRefB5,psI,g0,g1]) | (with_reducible refine ⟨?_,?_⟩; (· first | (obtain ⟨rfl⟩:=‹Hq _ _›; with_reducible refine chk_ok ?_; kernel_rfl) | kernel_rfl)) | (with_reducible intro ops hops)))
   (first | refine Call_flat [] [] (hsp) (by simp [cvAs,cvA,cvRL,cvR,cvBox,cv1,cvL,cv0,bI,byteI,bbI,encPr,psI,intD,elemsOf,upd]) rfl ?_ | refine CallF_flat [] [] [] (hsp) (fun G _=>by simp [cvAs,cvA,cvRL,cvR,cvBox,cv1,cvL,cv0,bI,byteI,bbI,encPr,psI,intD,elemsOf,upd]) rfl ?_)
   (repeat (first | (simp -implicitDefEqProofs only [ev,mixed,Nat.reduceLT,Nat.reduceAdd,Nat.reduceMul,reduceIte,Nat.reduceEqDiff,reduceCtorEq,Nat.reducePow,Nat.reduceLeDiff,Int.reduceLE,Int.reduceLT,Int.reduceToNat,Int.reduceEq,Nat.reduceBEq,itsOf,gdA,byteI,opid,lenQ,ixQ,ldH,readAt,readCells,asCell,faQ,exQ,fldQ,partA,buildQ,slQ,stH,bslH,appH,dcells,convI,elemsOf,D.one,nilS,fillD,convN,cvH,tyRefB5,intD,psI,g2,u1,← List.map_take,← List.map_drop]) | (with_reducible refine ⟨?_,?_⟩; (· first | (obtain ⟨rfl⟩:=‹Hq _ _›; with_reducible refine chk_ok ?_; kernel_rfl) | kernel_rfl)) | (with_reducible intro ops hops)))
   (first | refine Call_frz [] (t1) (by simp [cvAs,cvA,cvRL,cvR,cvBox,cv1,cvL,cv0,bI,byteI,bbI,encPr,psI,intD,elemsOf,upd]) ?_ | refine CallF_frz [] [] (t1) (fun G _=>by simp [cvAs,cvA,cvRL,cvR,cvBox,cv1,cvL,cv0,bI,byteI,bbI,encPr,psI,intD,elemsOf,upd]) (by simp) ?_)
   (repeat (first | (simp -implicitDefEqProofs only [ev,mixed,Nat.reduceLT,Nat.reduceAdd,Nat.reduceMul,reduceIte,Nat.reduceEqDiff,reduceCtorEq,Nat.reducePow,Nat.reduceLeDiff,Int.reduceLE,Int.reduceLT,Int.reduceToNat,Int.reduceEq,Nat.reduceBEq,itsOf,gdA,byteI,opid,lenQ,ixQ,ldH,readAt,readCells,asCell,faQ,exQ,fldQ,partA,buildQ,slQ,stH,bslH,appH,dcells,convI,elemsOf,D.one,nilS,fillD,convN,cvH,tyRefB5,bI,psI,g2,u1,← List.map_take,← List.map_drop]) | (with_reducible refine ⟨?_,?_⟩; (· first | (obtain ⟨rfl⟩:=‹Hq _ _›; with_reducible refine chk_ok ?_; kernel_rfl) | kernel_rfl)) | (with_reducible intro ops hops)))
   (first | refine Call_frz [] (t2) (by simp [cvAs,cvA,cvRL,cvR,cvBox,cv1,cvL,cv0,bI,byteI,bbI,encPr,psI,intD,elemsOf,upd]) ?_ | refine CallF_frz [] [] (t2) (fun G _=>by simp [cvAs,cvA,cvRL,cvR,cvBox,cv1,cvL,cv0,bI,byteI,bbI,encPr,psI,intD,elemsOf,upd]) (by simp) ?_)
   (repeat (first | (simp -implicitDefEqProofs only [ev,mixed,Nat.reduceLT,Nat.reduceAdd,Nat.reduceMul,reduceIte,Nat.reduceEqDiff,reduceCtorEq,Nat.reducePow,Nat.reduceLeDiff,Int.reduceLE,Int.reduceLT,Int.reduceToNat,Int.reduceEq,Nat.reduceBEq,itsOf,gdA,byteI,opid,lenQ,ixQ,ldH,readAt,readCells,asCell,faQ,exQ,fldQ,partA,buildQ,slQ,stH,bslH,appH,dcells,convI,elemsOf,D.one,nilS,fillD,convN,cvH,tyRefB5,bI]) | (with_reducible refine ⟨?_,?_⟩; (· first | (obtain ⟨rfl⟩:=‹Hq _ _›; with_reducible refine chk_ok ?_; kernel_rfl) | kernel_rfl)) | (with_reducible intro ops hops)))
   (first | refine Call_frz [] (hnd) (by simp [cvAs,cvA,cvRL,cvR,cvBox,cv1,cvL,cv0,bI,byteI,bbI,encPr,psI,intD,elemsOf,upd]) ?_ | refine CallF_frz [] [] (hnd) (fun G _=>by simp [cvAs,cvA,cvRL,cvR,cvBox,cv1,cvL,cv0,bI,byteI,bbI,encPr,psI,intD,elemsOf,upd]) (by simp) ?_)
   (repeat (first | (simp -implicitDefEqProofs only [ev,mixed,Nat.reduceLT,Nat.reduceAdd,Nat.reduceMul,reduceIte,Nat.reduceEqDiff,reduceCtorEq,Nat.reducePow,Nat.reduceLeDiff,Int.reduceLE,Int.reduceLT,Int.reduceToNat,Int.reduceEq,Nat.reduceBEq,itsOf,gdA,byteI,opid,lenQ,ixQ,ldH,readAt,readCells,asCell,faQ,exQ,fldQ,partA,buildQ,slQ,stH,bslH,appH,dcells,convI,elemsOf,D.one,nilS,fillD,convN,cvH,tyRefB5,bI]) | (with_reducible refine ⟨?_,?_⟩; (· first | (obtain ⟨rfl⟩:=‹Hq _ _›; with_reducible refine chk_ok ?_; kernel_rfl) | kernel_rfl)) | (with_reducible intro ops hops)))
   refine fin_ret [] rfl ?_
   simp [cv,cv1,cv0,upd]
end Go.Proofs.YtmclpbcipkdmcaaGreatDoor
