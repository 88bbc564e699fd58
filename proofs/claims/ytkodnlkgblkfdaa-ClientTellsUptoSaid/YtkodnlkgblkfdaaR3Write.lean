/- Walks of landref3.Num and Write. -/
import Derived.Test.YtkodnlkgblkfdaaGWire
set_option linter.all false
namespace Go.Proofs.Ytkodnlkgblkfdaa
open Go Go.Abs Go.RowKit Go.Proofs.Ytkodnlkgblkfdaa.Ty
theorem tyR3Write0:(type_of% @Ty.T1)∧(type_of% @Ty.T5)∧(type_of% @Ty.T25)∧(type_of% @Ty.T80):=⟨@Ty.T1,@Ty.T5,@Ty.T25,@Ty.T80⟩
theorem tyR3Write1:(type_of% @Ty.T1)∧(type_of% @Ty.T3)∧(type_of% @Ty.T5)∧(type_of% @Ty.T25)∧(type_of% @Ty.T36)∧(type_of% @Ty.T80)∧(type_of% @Ty.T82)∧(type_of% @Ty.T93)∧(type_of% @Ty.T100):=⟨@Ty.T1,@Ty.T3,@Ty.T5,@Ty.T25,@Ty.T36,@Ty.T80,@Ty.T82,@Ty.T93,@Ty.T100⟩
set_option maxHeartbeats 2000000
theorem num_A (n:Nat) (hn:n < 18446744073709551616) :
  CallD Try.prog 88 [.i (.s (.int .u64 n))] noH (.os 1 1 0 (vnum n).length) (hOf noH [(1,.arr 1 ((vnum n).map byteI))]):=by
 generalize hr:vnum n=res
 refine callD_W 20 Try.func88 rfl rfl rfl (fun o ho=>rfl) ?_
 have hn2:n < 2 * 128 ^ 9:=by have:(2:Nat) * 128 ^ 9=18446744073709551616:=by decide
                              omega
 (repeat (first | (simp -implicitDefEqProofs only [ev,mixed,Nat.reduceLT,Nat.reduceAdd,Nat.reduceMul,reduceIte,Nat.reduceEqDiff,reduceCtorEq,Nat.reducePow,Nat.reduceLeDiff,Int.reduceLE,Int.reduceLT,Int.reduceToNat,Int.reduceEq,Nat.reduceBEq,itsOf,gdA,byteI,opid,lenQ,ixQ,ldH,readAt,readCells,asCell,faQ,exQ,fldQ,partA,buildQ,slQ,stH,bslH,appH,dcells,convI,elemsOf,D.one,nilS,fillD,convN,cvH,tyR3Write0]) | (with_reducible refine ⟨?_,?_⟩; (· first | (obtain ⟨rfl⟩:=‹Hq _ _›; with_reducible refine chk_ok ?_; kernel_rfl) | kernel_rfl)) | (with_reducible intro ops hops)))
 refine W_loop (ι:={ p:List UInt8 × Nat × Nat // p.2.1 < 2 * 128 ^ p.2.2∧p.1++vnumF p.2.2 p.2.1=res∧p.1.length+p.2.2≤9∧p.2.2≤9 })
  (fun p=>stOf [(3,.os 100 1 0 p.1.1.length),(0,.i (.s (.int .u64 (p.1.2.1:Nat))))] [(100,.arr 1 (p.1.1.map byteI))]) (fun p=>p.1.2.2) ⟨([],n,9),hn2,hr,by simp,by simp⟩ ?_ ?_
 ·refine le_stOf _ _ [] [] ?_ ?_ rfl rfl
  ·simp [cv,cv1,cv0,upd,lk,srcOf]
  ·simp [objOk,srcOf,lk,cvO,frz,hF]
 ·rintro ⟨⟨acc',n',f⟩,h1,h2,h3,h4⟩
  simp only at h1 h2 h3 h4
  rw [stOf_eq]
  (repeat (first | (simp -implicitDefEqProofs only [ev,mixed,Nat.reduceLT,Nat.reduceAdd,Nat.reduceMul,reduceIte,Nat.reduceEqDiff,reduceCtorEq,Nat.reducePow,Nat.reduceLeDiff,Int.reduceLE,Int.reduceLT,Int.reduceToNat,Int.reduceEq,Nat.reduceBEq,itsOf,gdA,byteI,opid,lenQ,ixQ,ldH,readAt,readCells,asCell,faQ,exQ,fldQ,partA,buildQ,slQ,stH,bslH,appH,dcells,convI,elemsOf,D.one,nilS,fillD,convN,cvH,tyR3Write0]) | (with_reducible refine ⟨?_,?_⟩; (· first | (obtain ⟨rfl⟩:=‹Hq _ _›; with_reducible refine chk_ok ?_; kernel_rfl) | kernel_rfl)) | (with_reducible intro ops hops)))
  have e3:acc'.length+1≤140737488355328:=by omega
  refine Wc_split (fun h=>?_) (fun h=>?_)
  ·have h5:128≤n':=by simp at h; omega
   clear h
   have e1:IntKind.u64.wrap (128+(n':Int).tmod 128)=((n' % 128+128:Nat):Int):=by
    rw [IntKind.wrap_u64,Int.tmod_eq_emod_of_nonneg (by omega)]; omega
   have e2:IntKind.u8.wrap ((n' % 128+128:Nat):Int)=((UInt8.ofNat (n' % 128+128)).toNat:Int):=by
    rw [IntKind.wrap_u8,UInt8.toNat_ofNat']; omega
   have e4:IntKind.u64.wrap ((n':Int).tdiv 128)=((n' / 128:Nat):Int):=by
    have:=Nat.pow_le_pow_right (show 1≤128 by decide) h4
    have:(128:Nat) ^ 9=9223372036854775808:=by decide
    rw [IntKind.wrap_u64,Int.tdiv_eq_ediv_of_nonneg (by omega)]; omega
   (repeat (first | (simp -implicitDefEqProofs only [ev,mixed,Nat.reduceLT,Nat.reduceAdd,Nat.reduceMul,reduceIte,Nat.reduceEqDiff,reduceCtorEq,Nat.reducePow,Nat.reduceLeDiff,Int.reduceLE,Int.reduceLT,Int.reduceToNat,Int.reduceEq,Nat.reduceBEq,itsOf,gdA,byteI,opid,lenQ,ixQ,ldH,readAt,readCells,asCell,faQ,exQ,fldQ,partA,buildQ,slQ,stH,bslH,appH,dcells,convI,elemsOf,D.one,nilS,fillD,convN,cvH,tyR3Write0,e1,e2,e3,e4]) | (with_reducible refine ⟨?_,?_⟩; (· first | (obtain ⟨rfl⟩:=‹Hq _ _›; with_reducible refine chk_ok ?_; kernel_rfl) | kernel_rfl)) | (with_reducible intro ops hops)))
   cases f with
   | zero=>simp at h1; omega
   | succ f =>
   refine ⟨⟨(acc'++[UInt8.ofNat (n' % 128+128)],n' / 128,f),?_,?_,?_,?_⟩,le_stOf _ _ [] [(100,1774)] ?_ ?_ rfl rfl,?_⟩
   ·simp only [Nat.pow_succ] at h1 ⊢; omega
   ·rw [← h2,vnumF,if_neg (by omega)]; simp
   ·simp at h3 ⊢; omega
   ·simp at h4 ⊢; omega
   ·simp [cv,cv1,cv0,upd,lk,srcOf]
   ·simp [objOk,srcOf,lk,cvO,frz,upd,byteI]
   ·simp
  ·have h5:n' < 128:=by simp at h; omega
   clear h
   have e1:IntKind.u8.wrap (n':Int)=((UInt8.ofNat n').toNat:Int):=by rw [IntKind.wrap_u8]; exact byte_of n' h5
   (repeat (first | (simp -implicitDefEqProofs only [ev,mixed,Nat.reduceLT,Nat.reduceAdd,Nat.reduceMul,reduceIte,Nat.reduceEqDiff,reduceCtorEq,Nat.reducePow,Nat.reduceLeDiff,Int.reduceLE,Int.reduceLT,Int.reduceToNat,Int.reduceEq,Nat.reduceBEq,itsOf,gdA,byteI,opid,lenQ,ixQ,ldH,readAt,readCells,asCell,faQ,exQ,fldQ,partA,buildQ,slQ,stH,bslH,appH,dcells,convI,elemsOf,D.one,nilS,fillD,convN,cvH,tyR3Write0,e1,e3]) | (with_reducible refine ⟨?_,?_⟩; (· first | (obtain ⟨rfl⟩:=‹Hq _ _›; with_reducible refine chk_ok ?_; kernel_rfl) | kernel_rfl)) | (with_reducible intro ops hops)))
   have hres:res=acc'++[UInt8.ofNat n']:=by
    rw [← h2]; cases f with
    | zero=>rfl
    | succ f=>rw [vnumF,if_pos h5]
   subst hres
   refine fin_retD _ [] [(1,2284)] rfl ?_ ?_ rfl ?_ rfl
   ·simp [cv,cv1,cv0,upd,srcR,lk,noH]
   ·simp [objOk,srcR,lk,cvO,frz,upd,byteI,noH]
   ·simp [noH]
theorem write3_A (l:List PieceD) (hl:l.length≤1048576) (hb:∀ p∈l,p.b.length≤1048576) (hn:n64s l) :
  PureD Try.prog 76 [.i (.sl (l.map encP))] (.tup [.i (bI (writeF l).1),faultD (writeF l).2.1 (writeF l).2.2]):=by
 refine callD_W 57 Try.func76 rfl rfl rfl (fun _ _=>rfl) ?_
 (repeat (first | (simp -implicitDefEqProofs only [ev,mixed,Nat.reduceLT,Nat.reduceAdd,Nat.reduceMul,reduceIte,Nat.reduceEqDiff,reduceCtorEq,Nat.reducePow,Nat.reduceLeDiff,Int.reduceLE,Int.reduceLT,Int.reduceToNat,Int.reduceEq,Nat.reduceBEq,itsOf,gdA,byteI,opid,lenQ,ixQ,ldH,readAt,readCells,asCell,faQ,exQ,fldQ,partA,buildQ,slQ,stH,bslH,appH,dcells,convI,elemsOf,D.one,nilS,fillD,convN,cvH,tyR3Write1]) | (with_reducible refine ⟨?_,?_⟩; (· first | (obtain ⟨rfl⟩:=‹Hq _ _›; with_reducible refine chk_ok ?_; kernel_rfl) | kernel_rfl)) | (with_reducible intro ops hops)))
 refine Wc_split (fun h=>?_) (fun h=>?_)
 ·have h1:200 < l.length:=by simp at h; omega
  clear h
  (repeat (first | (simp -implicitDefEqProofs only [ev,mixed,Nat.reduceLT,Nat.reduceAdd,Nat.reduceMul,reduceIte,Nat.reduceEqDiff,reduceCtorEq,Nat.reducePow,Nat.reduceLeDiff,Int.reduceLE,Int.reduceLT,Int.reduceToNat,Int.reduceEq,Nat.reduceBEq,itsOf,gdA,byteI,opid,lenQ,ixQ,ldH,readAt,readCells,asCell,faQ,exQ,fldQ,partA,buildQ,slQ,stH,bslH,appH,dcells,convI,elemsOf,D.one,nilS,fillD,convN,cvH,tyR3Write1]) | (with_reducible refine ⟨?_,?_⟩; (· first | (obtain ⟨rfl⟩:=‹Hq _ _›; with_reducible refine chk_ok ?_; kernel_rfl) | kernel_rfl)) | (with_reducible intro ops hops)))
  refine fin_2 [] rfl ag100 sz100 (by simp [upd,readAt,readCells]; rfl) ?_
  simp [cv,cvT,cv1,cvL,cv0,upd,writeF,h1,faultD,bI]
 ·have h1:l.length≤200:=by simp at h; omega
  clear h
  have e1:IntKind.u64.wrap (l.length:Int)=(l.length:Int):=by rw [IntKind.wrap_u64]; omega
  (repeat (first | (simp -implicitDefEqProofs only [ev,mixed,Nat.reduceLT,Nat.reduceAdd,Nat.reduceMul,reduceIte,Nat.reduceEqDiff,reduceCtorEq,Nat.reducePow,Nat.reduceLeDiff,Int.reduceLE,Int.reduceLT,Int.reduceToNat,Int.reduceEq,Nat.reduceBEq,itsOf,gdA,byteI,opid,lenQ,ixQ,ldH,readAt,readCells,asCell,faQ,exQ,fldQ,partA,buildQ,slQ,stH,bslH,appH,dcells,convI,elemsOf,D.one,nilS,fillD,convN,cvH,tyR3Write1,e1]) | (with_reducible refine ⟨?_,?_⟩; (· first | (obtain ⟨rfl⟩:=‹Hq _ _›; with_reducible refine chk_ok ?_; kernel_rfl) | kernel_rfl)) | (with_reducible intro ops hops)))
  refine Call_new 1771 (num_A l.length (by omega)) (by simp [upd,noH]) rfl ?_
  (repeat (first | (simp -implicitDefEqProofs only [ev,mixed,Nat.reduceLT,Nat.reduceAdd,Nat.reduceMul,reduceIte,Nat.reduceEqDiff,reduceCtorEq,Nat.reducePow,Nat.reduceLeDiff,Int.reduceLE,Int.reduceLT,Int.reduceToNat,Int.reduceEq,Nat.reduceBEq,itsOf,gdA,byteI,opid,lenQ,ixQ,ldH,readAt,readCells,asCell,faQ,exQ,fldQ,partA,buildQ,slQ,stH,bslH,appH,dcells,convI,elemsOf,D.one,nilS,fillD,convN,cvH,tyR3Write1]) | (with_reducible refine ⟨?_,?_⟩; (· first | (obtain ⟨rfl⟩:=‹Hq _ _›; with_reducible refine chk_ok ?_; kernel_rfl) | kernel_rfl)) | (with_reducible intro ops hops)))
  refine W_loop (ι:={ p:List UInt8 × Nat // p.2≤l.length∧writeF l=writeGo p.1 p.2 (l.drop p.2)∧p.1.length≤20000 })
   (fun p=>stOf [(3,.pt 101 0 0 0),(4,.os 100 1 0 p.1.1.length),(15,.i (.sl (l.map encP))),(16,.i (.s (.int .i64 l.length))),(17,.i (.s (.int .i64 (p.1.2:Nat))))]
    [(100,.arr 1 (p.1.1.map byteI)),(101,.box [.i (.s (.int .i64 0)),.i (.s (.int .i64 0))])]) (fun p=>l.length - p.1.2) ⟨(vnum l.length,0),by simp,by simp [writeF,show ¬ 200 < l.length by omega],by have:=vnum_len_le l.length; simp; omega⟩ ?_ ?_
  ·refine le_stOf _ _ [] [(100,1771),(101,1001)] ?_ ?_ rfl rfl
   ·simp [cv,cv1,cv0,upd,lk,srcOf]
   ·simp [objOk,srcOf,lk,cvO,cvL,cv0,frz,upd,D.one]
  ·rintro ⟨⟨acc,k⟩,hk,hw,ha⟩
   simp only at hk hw ha
   rw [stOf_eq]
   (repeat (first | (simp -implicitDefEqProofs only [ev,mixed,Nat.reduceLT,Nat.reduceAdd,Nat.reduceMul,reduceIte,Nat.reduceEqDiff,reduceCtorEq,Nat.reducePow,Nat.reduceLeDiff,Int.reduceLE,Int.reduceLT,Int.reduceToNat,Int.reduceEq,Nat.reduceBEq,itsOf,gdA,byteI,opid,lenQ,ixQ,ldH,readAt,readCells,asCell,faQ,exQ,fldQ,partA,buildQ,slQ,stH,bslH,appH,dcells,convI,elemsOf,D.one,nilS,fillD,convN,cvH,tyR3Write1]) | (with_reducible refine ⟨?_,?_⟩; (· first | (obtain ⟨rfl⟩:=‹Hq _ _›; with_reducible refine chk_ok ?_; kernel_rfl) | kernel_rfl)) | (with_reducible intro ops hops)))
   refine Wc_split (fun h=>?_) (fun h=>?_)
   ·have h2:k < l.length:=by simp at h; omega
    clear h
    have hd:l.drop k=l[k] :: l.drop (k+1):=(List.drop_eq_getElem_cons h2)
    rw [hd] at hw
    have hmem:l[k]∈l:=List.getElem_mem h2
    have hpb:=hb _ hmem
    have hpn:=hn _ hmem
    generalize hp:l[k]=p at hw hpb hpn
    have e2:(l.map encP)[k]?=some [.s (.int .i64 p.kind),.s (.int .u64 (p.n:Int)),bI p.b]:=by simp [h2,encP,hp]
    (repeat (first | (simp -implicitDefEqProofs only [ev,mixed,Nat.reduceLT,Nat.reduceAdd,Nat.reduceMul,reduceIte,Nat.reduceEqDiff,reduceCtorEq,Nat.reducePow,Nat.reduceLeDiff,Int.reduceLE,Int.reduceLT,Int.reduceToNat,Int.reduceEq,Nat.reduceBEq,itsOf,gdA,byteI,opid,lenQ,ixQ,ldH,readAt,readCells,asCell,faQ,exQ,fldQ,partA,buildQ,slQ,stH,bslH,appH,dcells,convI,elemsOf,D.one,nilS,fillD,convN,cvH,tyR3Write1,e2]) | (with_reducible refine ⟨?_,?_⟩; (· first | (obtain ⟨rfl⟩:=‹Hq _ _›; with_reducible refine chk_ok ?_; kernel_rfl) | kernel_rfl)) | (with_reducible intro ops hops)))
    have e3:acc.length+1≤140737488355328:=by omega
    have hw1:IntKind.i64.wrap ((k:Int)+1)=((k+1:Nat):Int):=by rw [wrap64 (by omega) (by omega)]; omega
    refine Wc_split (fun h=>?_) (fun h=>?_)
    ·have hk1:p.kind=1:=by simpa using h
     clear h
     (repeat (first | (simp -implicitDefEqProofs only [ev,mixed,Nat.reduceLT,Nat.reduceAdd,Nat.reduceMul,reduceIte,Nat.reduceEqDiff,reduceCtorEq,Nat.reducePow,Nat.reduceLeDiff,Int.reduceLE,Int.reduceLT,Int.reduceToNat,Int.reduceEq,Nat.reduceBEq,itsOf,gdA,byteI,opid,lenQ,ixQ,ldH,readAt,readCells,asCell,faQ,exQ,fldQ,partA,buildQ,slQ,stH,bslH,appH,dcells,convI,elemsOf,D.one,nilS,fillD,convN,cvH,tyR3Write1,e3]) | (with_reducible refine ⟨?_,?_⟩; (· first | (obtain ⟨rfl⟩:=‹Hq _ _›; with_reducible refine chk_ok ?_; kernel_rfl) | kernel_rfl)) | (with_reducible intro ops hops)))
     have e7:acc.length+1+(vnum p.n).length≤140737488355328:=by have:=vnum_len_le p.n; omega
     refine CallF_new 3565 (num_A p.n hpn) (by simp [upd,hO,lk]) rfl ?_
     (repeat (first | (simp -implicitDefEqProofs only [ev,mixed,Nat.reduceLT,Nat.reduceAdd,Nat.reduceMul,reduceIte,Nat.reduceEqDiff,reduceCtorEq,Nat.reducePow,Nat.reduceLeDiff,Int.reduceLE,Int.reduceLT,Int.reduceToNat,Int.reduceEq,Nat.reduceBEq,itsOf,gdA,byteI,opid,lenQ,ixQ,ldH,readAt,readCells,asCell,faQ,exQ,fldQ,partA,buildQ,slQ,stH,bslH,appH,dcells,convI,elemsOf,D.one,nilS,fillD,convN,cvH,tyR3Write1,e7]) | (with_reducible refine ⟨?_,?_⟩; (· first | (obtain ⟨rfl⟩:=‹Hq _ _›; with_reducible refine chk_ok ?_; kernel_rfl) | kernel_rfl)) | (with_reducible intro ops hops)))
     have hwp:wpiece p=some (0 :: vnum p.n):=by simp [wpiece,hk1]
     rw [writeGo,hwp] at hw
     have hvl:=vnum_len_le p.n
     refine Wc_split (fun h=>?_) (fun h=>?_)
     ·(repeat (first | (simp -implicitDefEqProofs only [ev,mixed,Nat.reduceLT,Nat.reduceAdd,Nat.reduceMul,reduceIte,Nat.reduceEqDiff,reduceCtorEq,Nat.reducePow,Nat.reduceLeDiff,Int.reduceLE,Int.reduceLT,Int.reduceToNat,Int.reduceEq,Nat.reduceBEq,itsOf,gdA,byteI,opid,lenQ,ixQ,ldH,readAt,readCells,asCell,faQ,exQ,fldQ,partA,buildQ,slQ,stH,bslH,appH,dcells,convI,elemsOf,D.one,nilS,fillD,convN,cvH,tyR3Write1]) | (with_reducible refine ⟨?_,?_⟩; (· first | (obtain ⟨rfl⟩:=‹Hq _ _›; with_reducible refine chk_ok ?_; kernel_rfl) | kernel_rfl)) | (with_reducible intro ops hops)))
      have h3:20000 < (acc++0 :: vnum p.n).length:=by simp at h ⊢; omega
      simp only [h3,if_true] at hw
      refine fin_2 [] rfl ag100 sz100 (by simp [upd,readAt,readCells]; rfl) ?_
      simp [cv,cvT,cv1,cvL,cv0,upd,hw,faultD,bI]
     ·(repeat (first | (simp -implicitDefEqProofs only [ev,mixed,Nat.reduceLT,Nat.reduceAdd,Nat.reduceMul,reduceIte,Nat.reduceEqDiff,reduceCtorEq,Nat.reducePow,Nat.reduceLeDiff,Int.reduceLE,Int.reduceLT,Int.reduceToNat,Int.reduceEq,Nat.reduceBEq,itsOf,gdA,byteI,opid,lenQ,ixQ,ldH,readAt,readCells,asCell,faQ,exQ,fldQ,partA,buildQ,slQ,stH,bslH,appH,dcells,convI,elemsOf,D.one,nilS,fillD,convN,cvH,tyR3Write1,hw1]) | (with_reducible refine ⟨?_,?_⟩; (· first | (obtain ⟨rfl⟩:=‹Hq _ _›; with_reducible refine chk_ok ?_; kernel_rfl) | kernel_rfl)) | (with_reducible intro ops hops)))
      have h3:¬ 20000 < (acc++0 :: vnum p.n).length:=by simp at h ⊢; omega
      simp only [h3,if_false] at hw
      refine ⟨⟨(acc++0 :: vnum p.n,k+1),h2,hw,Nat.not_lt.1 h3⟩,le_stOf _ _ [] [(100,3566),(101,101)] ?_ ?_ rfl rfl,?_⟩
      ·simp [cv,cv1,cv0,upd,lk,srcOf]; omega
      ·simp [objOk,srcOf,lk,cvO,cvL,cv0,frz,upd,D.one,hO,byteI]
      ·simp; omega
    ·(repeat (first | (simp -implicitDefEqProofs only [ev,mixed,Nat.reduceLT,Nat.reduceAdd,Nat.reduceMul,reduceIte,Nat.reduceEqDiff,reduceCtorEq,Nat.reducePow,Nat.reduceLeDiff,Int.reduceLE,Int.reduceLT,Int.reduceToNat,Int.reduceEq,Nat.reduceBEq,itsOf,gdA,byteI,opid,lenQ,ixQ,ldH,readAt,readCells,asCell,faQ,exQ,fldQ,partA,buildQ,slQ,stH,bslH,appH,dcells,convI,elemsOf,D.one,nilS,fillD,convN,cvH,tyR3Write1]) | (with_reducible refine ⟨?_,?_⟩; (· first | (obtain ⟨rfl⟩:=‹Hq _ _›; with_reducible refine chk_ok ?_; kernel_rfl) | kernel_rfl)) | (with_reducible intro ops hops)))
     refine Wc_split (fun h=>?_) (fun h=>?_)
     ·have hk2:p.kind=2:=by simpa using h
      clear h
      have e4:IntKind.u64.wrap (p.b.length:Int)=(p.b.length:Int):=by rw [IntKind.wrap_u64]; omega
      have e5:acc.length+1+(vnum p.b.length).length+p.b.length≤140737488355328:=by have:=vnum_len_le p.b.length; omega
      (repeat (first | (simp -implicitDefEqProofs only [ev,mixed,Nat.reduceLT,Nat.reduceAdd,Nat.reduceMul,reduceIte,Nat.reduceEqDiff,reduceCtorEq,Nat.reducePow,Nat.reduceLeDiff,Int.reduceLE,Int.reduceLT,Int.reduceToNat,Int.reduceEq,Nat.reduceBEq,itsOf,gdA,byteI,opid,lenQ,ixQ,ldH,readAt,readCells,asCell,faQ,exQ,fldQ,partA,buildQ,slQ,stH,bslH,appH,dcells,convI,elemsOf,D.one,nilS,fillD,convN,cvH,tyR3Write1,e3,bI,e4]) | (with_reducible refine ⟨?_,?_⟩; (· first | (obtain ⟨rfl⟩:=‹Hq _ _›; with_reducible refine chk_ok ?_; kernel_rfl) | kernel_rfl)) | (with_reducible intro ops hops)))
      refine CallF_new 4079 (num_A p.b.length (by omega)) (by simp [upd,hO,lk]) rfl ?_
      have e7:acc.length+1+(vnum p.b.length).length≤140737488355328:=by omega
      have e6:acc.length+((vnum p.b.length).length+1)=acc.length+1+(vnum p.b.length).length:=by omega
      (repeat (first | (simp -implicitDefEqProofs only [ev,mixed,Nat.reduceLT,Nat.reduceAdd,Nat.reduceMul,reduceIte,Nat.reduceEqDiff,reduceCtorEq,Nat.reducePow,Nat.reduceLeDiff,Int.reduceLE,Int.reduceLT,Int.reduceToNat,Int.reduceEq,Nat.reduceBEq,itsOf,gdA,byteI,opid,lenQ,ixQ,ldH,readAt,readCells,asCell,faQ,exQ,fldQ,partA,buildQ,slQ,stH,bslH,appH,dcells,convI,elemsOf,D.one,nilS,fillD,convN,cvH,tyR3Write1,e5,e6,e7]) | (with_reducible refine ⟨?_,?_⟩; (· first | (obtain ⟨rfl⟩:=‹Hq _ _›; with_reducible refine chk_ok ?_; kernel_rfl) | kernel_rfl)) | (with_reducible intro ops hops)))
      have hwp:wpiece p=some (1 :: (vnum p.b.length++p.b)):=by simp [wpiece,hk2]
      rw [writeGo,hwp] at hw
      refine Wc_split (fun h=>?_) (fun h=>?_)
      ·(repeat (first | (simp -implicitDefEqProofs only [ev,mixed,Nat.reduceLT,Nat.reduceAdd,Nat.reduceMul,reduceIte,Nat.reduceEqDiff,reduceCtorEq,Nat.reducePow,Nat.reduceLeDiff,Int.reduceLE,Int.reduceLT,Int.reduceToNat,Int.reduceEq,Nat.reduceBEq,itsOf,gdA,byteI,opid,lenQ,ixQ,ldH,readAt,readCells,asCell,faQ,exQ,fldQ,partA,buildQ,slQ,stH,bslH,appH,dcells,convI,elemsOf,D.one,nilS,fillD,convN,cvH,tyR3Write1]) | (with_reducible refine ⟨?_,?_⟩; (· first | (obtain ⟨rfl⟩:=‹Hq _ _›; with_reducible refine chk_ok ?_; kernel_rfl) | kernel_rfl)) | (with_reducible intro ops hops)))
       have h3:20000 < (acc++(1 :: (vnum p.b.length++p.b))).length:=by simp at h ⊢; omega
       simp only [h3,if_true] at hw
       refine fin_2 [] rfl ag100 sz100 (by simp [upd,readAt,readCells]; rfl) ?_
       simp [cv,cvT,cv1,cvL,cv0,upd,hw,faultD,bI]
      ·(repeat (first | (simp -implicitDefEqProofs only [ev,mixed,Nat.reduceLT,Nat.reduceAdd,Nat.reduceMul,reduceIte,Nat.reduceEqDiff,reduceCtorEq,Nat.reducePow,Nat.reduceLeDiff,Int.reduceLE,Int.reduceLT,Int.reduceToNat,Int.reduceEq,Nat.reduceBEq,itsOf,gdA,byteI,opid,lenQ,ixQ,ldH,readAt,readCells,asCell,faQ,exQ,fldQ,partA,buildQ,slQ,stH,bslH,appH,dcells,convI,elemsOf,D.one,nilS,fillD,convN,cvH,tyR3Write1,hw1]) | (with_reducible refine ⟨?_,?_⟩; (· first | (obtain ⟨rfl⟩:=‹Hq _ _›; with_reducible refine chk_ok ?_; kernel_rfl) | kernel_rfl)) | (with_reducible intro ops hops)))
       have h3:¬ 20000 < (acc++(1 :: (vnum p.b.length++p.b))).length:=by simp at h ⊢; omega
       simp only [h3,if_false] at hw
       refine ⟨⟨(acc++(1 :: (vnum p.b.length++p.b)),k+1),h2,hw,Nat.not_lt.1 h3⟩,le_stOf _ _ [] [(100,4083),(101,101)] ?_ ?_ rfl rfl,?_⟩
       ·simp [cv,cv1,cv0,upd,lk,srcOf]; omega
       ·simp [objOk,srcOf,lk,cvO,cvL,cv0,frz,upd,D.one,hO,byteI]
       ·simp; omega
     ·(repeat (first | (simp -implicitDefEqProofs only [ev,mixed,Nat.reduceLT,Nat.reduceAdd,Nat.reduceMul,reduceIte,Nat.reduceEqDiff,reduceCtorEq,Nat.reducePow,Nat.reduceLeDiff,Int.reduceLE,Int.reduceLT,Int.reduceToNat,Int.reduceEq,Nat.reduceBEq,itsOf,gdA,byteI,opid,lenQ,ixQ,ldH,readAt,readCells,asCell,faQ,exQ,fldQ,partA,buildQ,slQ,stH,bslH,appH,dcells,convI,elemsOf,D.one,nilS,fillD,convN,cvH,tyR3Write1]) | (with_reducible refine ⟨?_,?_⟩; (· first | (obtain ⟨rfl⟩:=‹Hq _ _›; with_reducible refine chk_ok ?_; kernel_rfl) | kernel_rfl)) | (with_reducible intro ops hops)))
      have hwp:wpiece p=none:=by simp at h; simp [wpiece,h]; simp_all
      rw [writeGo,hwp] at hw
      refine fin_2 [] rfl ag100 sz100 (by simp [upd,readAt,readCells]; rfl) ?_
      simp [cv,cvT,cv1,cvL,cv0,upd,hw,faultD,bI]
   ·have h2:k=l.length:=by simp at h; omega
    subst h2
    (repeat (first | (simp -implicitDefEqProofs only [ev,mixed,Nat.reduceLT,Nat.reduceAdd,Nat.reduceMul,reduceIte,Nat.reduceEqDiff,reduceCtorEq,Nat.reducePow,Nat.reduceLeDiff,Int.reduceLE,Int.reduceLT,Int.reduceToNat,Int.reduceEq,Nat.reduceBEq,itsOf,gdA,byteI,opid,lenQ,ixQ,ldH,readAt,readCells,asCell,faQ,exQ,fldQ,partA,buildQ,slQ,stH,bslH,appH,dcells,convI,elemsOf,D.one,nilS,fillD,convN,cvH,tyR3Write1]) | (with_reducible refine ⟨?_,?_⟩; (· first | (obtain ⟨rfl⟩:=‹Hq _ _›; with_reducible refine chk_ok ?_; kernel_rfl) | kernel_rfl)) | (with_reducible intro ops hops)))
    rw [List.drop_length,writeGo] at hw
    refine fin_2 [100] rfl ag100 sz100 (by simp [upd,readAt,readCells]; rfl) ?_
    simp [cv,cvT,cv1,cvL,cv0,upd,hw,faultD,bI,hO,lk,elemsOf,List.take_of_length_le]
end Go.Proofs.Ytkodnlkgblkfdaa
