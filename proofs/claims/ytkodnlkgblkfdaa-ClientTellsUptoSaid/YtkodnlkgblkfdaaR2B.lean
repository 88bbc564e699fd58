/- landref2.Eight, join, Number, Secret, Key, Ask: by value. -/
import Derived.Test.YtkodnlkgblkfdaaR2A
import Derived.Test.YtkodnlkgblkfdaaR1Sum
import Derived.Test.YtkodnlkgblkfdaaAbs4
set_option linter.all false
namespace Go.Proofs.Ytkodnlkgblkfdaa
open Go Go.Abs Go.RowKit Go.Proofs.Ytkodnlkgblkfdaa.Ty
theorem tyR2B0:(type_of% @Ty.T3)∧(type_of% @Ty.T5)∧(type_of% @Ty.T25)∧(type_of% @Ty.T80):=⟨@Ty.T3,@Ty.T5,@Ty.T25,@Ty.T80⟩
theorem tyR2B1:(type_of% @Ty.T3)∧(type_of% @Ty.T5)∧(type_of% @Ty.T25)∧(type_of% @Ty.T104):=⟨@Ty.T3,@Ty.T5,@Ty.T25,@Ty.T104⟩
theorem tyR2B2:(type_of% @Ty.T3)∧(type_of% @Ty.T5)∧(type_of% @Ty.T25)∧(type_of% @Ty.T80):=⟨@Ty.T3,@Ty.T5,@Ty.T25,@Ty.T80⟩
theorem byteOf_mod (n:Nat):IntKind.u8.wrap ((n % 256:Nat):Int)=((UInt8.ofNat (n % 256)).toNat:Int):=by
 rw [IntKind.wrap_u8]; rw [UInt8.toNat_ofNat']; omega
theorem be64_div (n t:Nat) (ht:t < 8):(be64 n)[7 - t]?=some (UInt8.ofNat (n / 256 ^ t % 256)):=by
 have hb:∀ d,byteOf n d=UInt8.ofNat (n / d % 256):=fun d=>rfl
 have:t=0∨t=1∨t=2∨t=3∨t=4∨t=5∨t=6∨t=7:=by omega
 rcases this with rfl | rfl | rfl | rfl | rfl | rfl | rfl | rfl <;> rfl
theorem set_back (B:List UInt8) (t:Nat) (hB:B.length=8) (ht:t < 8) (c:UInt8) (hc:B[7 - t]?=some c) :
  (List.replicate (8 - t) (byteI 0)++(B.drop (8 - t)).map byteI).set (7 - t) (byteI c)=List.replicate (8 - (t+1)) (byteI 0)++(B.drop (8 - (t+1))).map byteI:=by
 have h1:8 - t=(7 - t)+1:=by omega
 have h2:8 - (t+1)=7 - t:=by omega
 have h3:7 - t < B.length:=by omega
 have h4:B[7 - t]=c:=by rw [List.getElem?_eq_getElem h3] at hc; exact Option.some.inj hc
 rw [h2,List.drop_eq_getElem_cons h3,h4,List.map_cons,h1,List.replicate_succ',List.append_assoc,List.set_append_right _ _ (by simp)]
 simp
def eN (n t:Nat):Nat:=n / 256 ^ t
def eA (n t:Nat):List (List I):=List.replicate (8 - t) (byteI 0)++((be64 n).drop (8 - t)).map byteI
theorem eA_len (n t:Nat) (ht:t≤8):(eA n t).length=8:=by simp [eA,be64_len] <;> omega
theorem eA_get (n t:Nat) (ht:t < 8):(eA n t)[7 - t]?=some [.s (.int .u8 0)]:=by
 rw [eA,List.getElem?_append_left (by simp; omega),List.getElem?_replicate,if_pos (by omega)]; rfl
theorem eA_set (n t:Nat) (ht:t < 8):(eA n t).set (7 - t) (byteI (UInt8.ofNat (eN n t % 256)))=eA n (t+1) :=
 set_back (be64 n) t rfl ht _ (be64_div n t ht)
theorem eA_end (n:Nat):eA n 8=(be64 n).map byteI:=rfl
theorem eN_succ (n t:Nat):eN n (t+1)=eN n t / 256:=by rw [eN,eN,Nat.pow_succ,Nat.div_div_eq_div_mul]
set_option maxHeartbeats 2000000
theorem reight_A (n:Nat) (hn:n < 18446744073709551616):PureD Try.prog 86 [u64D n] (.i (bI (be64 n))):=by
 refine callD_W 19 Try.func86 rfl rfl rfl (fun _ _=>rfl) ?_
 (repeat (first | (simp -implicitDefEqProofs only [ev,mixed,Nat.reduceLT,Nat.reduceAdd,Nat.reduceMul,reduceIte,Nat.reduceEqDiff,reduceCtorEq,Nat.reducePow,Nat.reduceLeDiff,Int.reduceLE,Int.reduceLT,Int.reduceToNat,Int.reduceEq,Nat.reduceBEq,itsOf,gdA,byteI,opid,lenQ,ixQ,ldH,readAt,readCells,asCell,faQ,exQ,fldQ,partA,buildQ,slQ,stH,bslH,appH,dcells,convI,elemsOf,D.one,nilS,fillD,convN,cvH,tyR2B0,u64D,oH_mk,mk_fresh,mkS,Int.reduceMul]) | (with_reducible refine ⟨?_,?_⟩; (· first | (obtain ⟨rfl⟩:=‹Hq _ _›; with_reducible refine chk_ok ?_; kernel_rfl) | kernel_rfl)) | (with_reducible intro ops hops)))
 refine W_loopI (ι:=Nat) (fun t=>t≤8)
  (fun t=>stOf [(0,.i (.s (.int .u64 (eN n t:Nat)))),(3,.os 100 1 0 8),(4,.i (.s (.int .i64 (7 - (t:Int)))))] [(100,.arr 1 (eA n t))]) (fun t=>8 - t) 0 (Nat.zero_le _) ?_ ?_
 ·refine le_stOf _ _ [] [(100,1256)] ?_ ?_ rfl rfl
  ·simp [cv,cv1,cv0,upd,lk,srcOf,eN]
  ·simp [objOk,srcOf,lk,cvO,frz,upd,byteI,be64_len,eA,List.replicate]
 ·intro t ht
  rw [stOf_eq]
  by_cases h1:t < 8
  ·have g1:decide ((0:Int)≤((7 - t:Nat):Int))=true:=decide_eq_true (Int.natCast_nonneg _)
   have e7:(7:Int) - (t:Int)=((7 - t:Nat):Int):=by omega
   have hq:eN n t < 18446744073709551616:=Nat.lt_of_le_of_lt (Nat.div_le_self _ _) hn
   have hs:=eN_succ n t
   have hset:=eA_set n t h1
   have e3:=eA_len n t ht
   have e4:=eA_get n t h1
   generalize eN n t=x at hq hset hs
   have t2:(x:Int).tmod 256=((x % 256:Nat):Int):=tmodN x 256
   have w4:=byteOf_mod x
   have w2:IntKind.u64.wrap ((x:Int).tdiv 256)=((eN n (t+1):Nat):Int):=by rw [hs,Int.tdiv_eq_ediv_of_nonneg (by omega),IntKind.wrap_u64]; omega
   have w5:IntKind.i64.wrap (((7 - t:Nat):Int) - 1)=7 - ((t+1:Nat):Int):=by rw [wrap64 (by omega) (by omega)]; omega
   have l1:(((7 - t:Nat):Int) < 8)=True:=eq_true (by omega)
   generalize UInt8.ofNat (x % 256)=c at hset w4
   (repeat (first | (simp -implicitDefEqProofs only [ev,mixed,Nat.reduceLT,Nat.reduceAdd,Nat.reduceMul,reduceIte,Nat.reduceEqDiff,reduceCtorEq,Nat.reducePow,Nat.reduceLeDiff,Int.reduceLE,Int.reduceLT,Int.reduceToNat,Int.reduceEq,Nat.reduceBEq,itsOf,gdA,byteI,opid,lenQ,ixQ,ldH,readAt,readCells,asCell,faQ,exQ,fldQ,partA,buildQ,slQ,stH,bslH,appH,dcells,convI,elemsOf,D.one,nilS,fillD,convN,cvH,tyR2B0,e7,g1,t2,w4,w2,w5,e3,e4,l1]) | (with_reducible refine ⟨?_,?_⟩; (· first | (obtain ⟨rfl⟩:=‹Hq _ _›; with_reducible refine chk_ok ?_; kernel_rfl) | kernel_rfl)) | (with_reducible intro ops hops)))
   refine ⟨t+1,h1,le_stOf _ _ [] [(100,100)] ?_ ?_ rfl rfl,by simp; omega⟩
   ·simp [cv,cv1,cv0,upd,lk,srcOf]
   ·simp [objOk,srcOf,lk,cvO,frz,upd,← hset,byteI]
  ·have h1:t=8:=by omega
   subst h1
   have g1:decide ((0:Int)≤7 - 8)=false:=by decide
   rw [eA_end]
   have hof:List.take 8 ((be64 n).map byteI)=(be64 n).map byteI:=rfl
   have hl8:=be64_len n
   generalize be64 n=B8 at hl8 hof
   (repeat (first | (simp -implicitDefEqProofs only [ev,mixed,Nat.reduceLT,Nat.reduceAdd,Nat.reduceMul,reduceIte,Nat.reduceEqDiff,reduceCtorEq,Nat.reducePow,Nat.reduceLeDiff,Int.reduceLE,Int.reduceLT,Int.reduceToNat,Int.reduceEq,Nat.reduceBEq,itsOf,gdA,byteI,opid,lenQ,ixQ,ldH,readAt,readCells,asCell,faQ,exQ,fldQ,partA,buildQ,slQ,stH,bslH,appH,dcells,convI,elemsOf,D.one,nilS,fillD,convN,cvH,tyR2B0,g1]) | (with_reducible refine ⟨?_,?_⟩; (· first | (obtain ⟨rfl⟩:=‹Hq _ _›; with_reducible refine chk_ok ?_; kernel_rfl) | kernel_rfl)) | (with_reducible intro ops hops)))
   refine fin_ret [100] rfl ?_
   simp [cv,cv1,cv0,upd,hO,lk,elemsOf,hl8,hof,bI]
theorem flat_take_le (l:List (List UInt8)) (k:Nat):(l.take k).flatten.length≤l.flatten.length:=by
 conv=>rhs; rw [← List.take_append_drop k l,List.flatten_append,List.length_append]
 omega
theorem flat_snoc (l:List (List UInt8)) {k:Nat} (h:k < l.length):(l.take (k+1)).flatten=(l.take k).flatten++l[k]:=by
 rw [take_snoc' (List.getElem?_eq_getElem h),List.flatten_append]; simp
theorem join_A (l:List (List UInt8)) (hl:l.length≤1000) (hf:l.flatten.length≤140737488355328):PureD Try.prog 85 [.i (bbI l)] (.i (bI l.flatten)):=by
 refine callD_W 17 Try.func85 rfl rfl rfl (fun _ _=>rfl) ?_
 (repeat (first | (simp -implicitDefEqProofs only [ev,mixed,Nat.reduceLT,Nat.reduceAdd,Nat.reduceMul,reduceIte,Nat.reduceEqDiff,reduceCtorEq,Nat.reducePow,Nat.reduceLeDiff,Int.reduceLE,Int.reduceLT,Int.reduceToNat,Int.reduceEq,Nat.reduceBEq,itsOf,gdA,byteI,opid,lenQ,ixQ,ldH,readAt,readCells,asCell,faQ,exQ,fldQ,partA,buildQ,slQ,stH,bslH,appH,dcells,convI,elemsOf,D.one,nilS,fillD,convN,cvH,tyR2B1,bbI]) | (with_reducible refine ⟨?_,?_⟩; (· first | (obtain ⟨rfl⟩:=‹Hq _ _›; with_reducible refine chk_ok ?_; kernel_rfl) | kernel_rfl)) | (with_reducible intro ops hops)))
 refine W_loopI (ι:=Nat) (fun k=>k≤l.length)
  (fun k=>stOf [(3,.os 100 1 0 (l.take k).flatten.length),(6,.i (.sl (l.map fun b=>[bI b]))),(7,.i (.s (.int .i64 (l.length:Nat)))),(8,.i (.s (.int .i64 (k:Nat))))] [(100,.arr 1 ((l.take k).flatten.map byteI))]) (fun k=>l.length - k) 0 (Nat.zero_le _) ?_ ?_
 ·refine le_stOf _ _ [] [] ?_ ?_ rfl rfl
  ·simp [cv,cv1,cv0,upd,lk,srcOf,bI]
  ·simp [objOk,srcOf,lk]
 ·intro k hk
  rw [stOf_eq]
  (repeat (first | (simp -implicitDefEqProofs only [ev,mixed,Nat.reduceLT,Nat.reduceAdd,Nat.reduceMul,reduceIte,Nat.reduceEqDiff,reduceCtorEq,Nat.reducePow,Nat.reduceLeDiff,Int.reduceLE,Int.reduceLT,Int.reduceToNat,Int.reduceEq,Nat.reduceBEq,itsOf,gdA,byteI,opid,lenQ,ixQ,ldH,readAt,readCells,asCell,faQ,exQ,fldQ,partA,buildQ,slQ,stH,bslH,appH,dcells,convI,elemsOf,D.one,nilS,fillD,convN,cvH,tyR2B1]) | (with_reducible refine ⟨?_,?_⟩; (· first | (obtain ⟨rfl⟩:=‹Hq _ _›; with_reducible refine chk_ok ?_; kernel_rfl) | kernel_rfl)) | (with_reducible intro ops hops)))
  refine Wc_split (fun h=>?_) (fun h=>?_)
  ·have h1:k < l.length:=by simp at h; omega
   clear h
   have e1:(l.map fun b=>[I.sl (b.map byteI)])[k]?=some [.sl (l[k].map byteI)]:=by rw [List.getElem?_map,List.getElem?_eq_getElem h1]; rfl
   have hs:=flat_snoc l h1
   have hle:=flat_take_le l (k+1)
   rw [hs,List.length_append] at hle
   generalize l[k]=b at e1 hs hle
   generalize (l.take k).flatten=F at hs hle
   have e2:F.length+b.length≤140737488355328:=by omega
   have w4:IntKind.i64.wrap ((k:Int)+1)=((k+1:Nat):Int):=by rw [wrap64 (by omega) (by omega)]; omega
   (repeat (first | (simp -implicitDefEqProofs only [ev,mixed,Nat.reduceLT,Nat.reduceAdd,Nat.reduceMul,reduceIte,Nat.reduceEqDiff,reduceCtorEq,Nat.reducePow,Nat.reduceLeDiff,Int.reduceLE,Int.reduceLT,Int.reduceToNat,Int.reduceEq,Nat.reduceBEq,itsOf,gdA,byteI,opid,lenQ,ixQ,ldH,readAt,readCells,asCell,faQ,exQ,fldQ,partA,buildQ,slQ,stH,bslH,appH,dcells,convI,elemsOf,D.one,nilS,fillD,convN,cvH,tyR2B1,e1,bI,e2,w4]) | (with_reducible refine ⟨?_,?_⟩; (· first | (obtain ⟨rfl⟩:=‹Hq _ _›; with_reducible refine chk_ok ?_; kernel_rfl) | kernel_rfl)) | (with_reducible intro ops hops)))
   refine ⟨k+1,h1,le_stOf _ _ [] [(100,2282)] ?_ ?_ rfl rfl,by simp; omega⟩
   ·simp [cv,cv1,cv0,upd,lk,srcOf,hs]
   ·simp [objOk,srcOf,lk,cvO,frz,upd,hs]
  ·have h1:k=l.length:=by simp at h; omega
   subst h1
   rw [List.take_length]
   generalize l.flatten=F
   (repeat (first | (simp -implicitDefEqProofs only [ev,mixed,Nat.reduceLT,Nat.reduceAdd,Nat.reduceMul,reduceIte,Nat.reduceEqDiff,reduceCtorEq,Nat.reducePow,Nat.reduceLeDiff,Int.reduceLE,Int.reduceLT,Int.reduceToNat,Int.reduceEq,Nat.reduceBEq,itsOf,gdA,byteI,opid,lenQ,ixQ,ldH,readAt,readCells,asCell,faQ,exQ,fldQ,partA,buildQ,slQ,stH,bslH,appH,dcells,convI,elemsOf,D.one,nilS,fillD,convN,cvH,tyR2B1]) | (with_reducible refine ⟨?_,?_⟩; (· first | (obtain ⟨rfl⟩:=‹Hq _ _›; with_reducible refine chk_ok ?_; kernel_rfl) | kernel_rfl)) | (with_reducible intro ops hops)))
   refine fin_ret [100] rfl ?_
   simp [cv,cv1,cv0,upd,hO,lk,elemsOf,bI,take_len_map]
theorem rnumber_A (b:List UInt8) (hb:b.length≤1099511627776):PureD Try.prog 84 [.i (bI b)] (u64D (numF (sha b))):=by
 have hsl:=sha_length b
 refine callD_W 21 Try.func84 rfl rfl rfl (fun _ _=>rfl) ?_
 (repeat (first | (simp -implicitDefEqProofs only [ev,mixed,Nat.reduceLT,Nat.reduceAdd,Nat.reduceMul,reduceIte,Nat.reduceEqDiff,reduceCtorEq,Nat.reducePow,Nat.reduceLeDiff,Int.reduceLE,Int.reduceLT,Int.reduceToNat,Int.reduceEq,Nat.reduceBEq,itsOf,gdA,byteI,opid,lenQ,ixQ,ldH,readAt,readCells,asCell,faQ,exQ,fldQ,partA,buildQ,slQ,stH,bslH,appH,dcells,convI,elemsOf,D.one,nilS,fillD,convN,cvH,tyR2B2,bI]) | (with_reducible refine ⟨?_,?_⟩; (· first | (obtain ⟨rfl⟩:=‹Hq _ _›; with_reducible refine chk_ok ?_; kernel_rfl) | kernel_rfl)) | (with_reducible intro ops hops)))
 (first | refine Call_frz [] (sumref_A b hb) (by simp [cvAs,cvA,cvRL,cvR,cvBox,cv1,cvL,cv0,bI,byteI,u64D,bbI,elemsOf,upd]) ?_ | refine CallF_frz [] [] (sumref_A b hb) (fun G _=>by simp [cvAs,cvA,cvRL,cvR,cvBox,cv1,cvL,cv0,bI,byteI,u64D,bbI,elemsOf,upd]) (by simp) ?_)
 generalize sha b=d at hsl
 have l8:((8:Int)≤((d.length:Nat):Int))=True:=eq_true (by omega)
 have t8:min 8 d.length=8:=by omega
 (repeat (first | (simp -implicitDefEqProofs only [ev,mixed,Nat.reduceLT,Nat.reduceAdd,Nat.reduceMul,reduceIte,Nat.reduceEqDiff,reduceCtorEq,Nat.reducePow,Nat.reduceLeDiff,Int.reduceLE,Int.reduceLT,Int.reduceToNat,Int.reduceEq,Nat.reduceBEq,itsOf,gdA,byteI,opid,lenQ,ixQ,ldH,readAt,readCells,asCell,faQ,exQ,fldQ,partA,buildQ,slQ,stH,bslH,appH,dcells,convI,elemsOf,D.one,nilS,fillD,convN,cvH,tyR2B2,bI,l8,uni_byteI,List.length_take,t8]) | (with_reducible refine ⟨?_,?_⟩; (· first | (obtain ⟨rfl⟩:=‹Hq _ _›; with_reducible refine chk_ok ?_; kernel_rfl) | kernel_rfl)) | (with_reducible intro ops hops)))
 refine W_loopI (ι:=Nat) (fun k=>k≤8)
  (fun k=>stOf [(3,.i (.s (.int .u64 (hor d 0 k:Nat)))),(8,.i (.sl ((d.map byteI).take 8))),(9,.i (.s (.int .i64 8))),(10,.i (.s (.int .i64 (k:Nat))))] []) (fun k=>8 - k) 0 (Nat.zero_le _) ?_ ?_
 ·refine le_stOf _ _ [] [] ?_ ?_ rfl rfl
  ·simp [cv,cv1,cv0,upd,lk,srcOf,hor]
  ·simp
 ·intro k hk
  rw [stOf_eq]
  (repeat (first | (simp -implicitDefEqProofs only [ev,mixed,Nat.reduceLT,Nat.reduceAdd,Nat.reduceMul,reduceIte,Nat.reduceEqDiff,reduceCtorEq,Nat.reducePow,Nat.reduceLeDiff,Int.reduceLE,Int.reduceLT,Int.reduceToNat,Int.reduceEq,Nat.reduceBEq,itsOf,gdA,byteI,opid,lenQ,ixQ,ldH,readAt,readCells,asCell,faQ,exQ,fldQ,partA,buildQ,slQ,stH,bslH,appH,dcells,convI,elemsOf,D.one,nilS,fillD,convN,cvH,tyR2B2]) | (with_reducible refine ⟨?_,?_⟩; (· first | (obtain ⟨rfl⟩:=‹Hq _ _›; with_reducible refine chk_ok ?_; kernel_rfl) | kernel_rfl)) | (with_reducible intro ops hops)))
  refine Wc_split (fun h=>?_) (fun h=>?_)
  ·have h1:k < 8:=by simp at h; omega
   clear h
   have hkd:k < d.length:=by omega
   have e1:((d.map byteI).take 8)[k]?=some [.s (.int .u8 ((d[k]).toNat:Int))]:=by
    rw [List.getElem?_take_of_lt h1,List.getElem?_map,List.getElem?_eq_getElem hkd]; rfl
   have hs:hor d 0 (k+1)=hor d 0 k * 256+(d[k]).toNat:=by rw [hor,Nat.zero_add,bnth_eq hkd]
   have hx:=hor_lt d 0 k
   have hx7:hor d 0 k < 256 ^ 7:=Nat.lt_of_lt_of_le hx (Nat.pow_le_pow_right (by decide) (by omega))
   have hcl:=(d[k]).toNat_lt
   generalize (d[k]).toNat=c at e1 hs hcl
   generalize hor d 0 k=x at hx7 hs
   have c7:(256:Nat) ^ 7=72057594037927936:=by decide
   rw [c7] at hx7
   have w1:IntKind.u64.wrap (256 * (x:Int))=((256 * x:Nat):Int):=by rw [IntKind.wrap_u64]; omega
   have w2:IntKind.u64.wrap (c:Int)=(c:Int):=by rw [IntKind.wrap_u64]; omega
   have w3:IntKind.u64.wrap (((256 * x:Nat):Int)+(c:Int))=((hor d 0 (k+1):Nat):Int):=by rw [hs,IntKind.wrap_u64]; omega
   have w4:IntKind.i64.wrap ((k:Int)+1)=((k+1:Nat):Int):=by rw [wrap64 (by omega) (by omega)]; omega
   clear hs
   generalize 256 * x=x8 at w1 w3
   (repeat (first | (simp -implicitDefEqProofs only [ev,mixed,Nat.reduceLT,Nat.reduceAdd,Nat.reduceMul,reduceIte,Nat.reduceEqDiff,reduceCtorEq,Nat.reducePow,Nat.reduceLeDiff,Int.reduceLE,Int.reduceLT,Int.reduceToNat,Int.reduceEq,Nat.reduceBEq,itsOf,gdA,byteI,opid,lenQ,ixQ,ldH,readAt,readCells,asCell,faQ,exQ,fldQ,partA,buildQ,slQ,stH,bslH,appH,dcells,convI,elemsOf,D.one,nilS,fillD,convN,cvH,tyR2B2,e1,w1,w2,w3,w4]) | (with_reducible refine ⟨?_,?_⟩; (· first | (obtain ⟨rfl⟩:=‹Hq _ _›; with_reducible refine chk_ok ?_; kernel_rfl) | kernel_rfl)) | (with_reducible intro ops hops)))
   refine ⟨k+1,h1,le_stOf _ _ [] [] ?_ ?_ rfl rfl,by simp; omega⟩
   ·simp [cv,cv1,cv0,upd,lk,srcOf]
   ·simp
  ·have h1:k=8:=by simp at h; omega
   subst h1
   (repeat (first | (simp -implicitDefEqProofs only [ev,mixed,Nat.reduceLT,Nat.reduceAdd,Nat.reduceMul,reduceIte,Nat.reduceEqDiff,reduceCtorEq,Nat.reducePow,Nat.reduceLeDiff,Int.reduceLE,Int.reduceLT,Int.reduceToNat,Int.reduceEq,Nat.reduceBEq,itsOf,gdA,byteI,opid,lenQ,ixQ,ldH,readAt,readCells,asCell,faQ,exQ,fldQ,partA,buildQ,slQ,stH,bslH,appH,dcells,convI,elemsOf,D.one,nilS,fillD,convN,cvH,tyR2B2]) | (with_reducible refine ⟨?_,?_⟩; (· first | (obtain ⟨rfl⟩:=‹Hq _ _›; with_reducible refine chk_ok ?_; kernel_rfl) | kernel_rfl)) | (with_reducible intro ops hops)))
   refine fin_ret [] rfl ?_
   simp [cv,cv1,cv0,upd,numF,u64D]
end Go.Proofs.Ytkodnlkgblkfdaa
