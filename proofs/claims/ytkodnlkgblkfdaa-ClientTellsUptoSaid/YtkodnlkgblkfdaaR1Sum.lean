/- landref1.Sum, by value. -/
import Derived.Test.YtkodnlkgblkfdaaR1S
set_option linter.all false
namespace Go.Proofs.Ytkodnlkgblkfdaa
open Go Go.Abs Go.RowKit Go.Proofs.Ytkodnlkgblkfdaa.Ty
theorem tyR1Sum0:(type_of% @Ty.T0)∧(type_of% @Ty.T1)∧(type_of% @Ty.T2)∧(type_of% @Ty.T3)∧(type_of% @Ty.T4)∧(type_of% @Ty.T5)∧(type_of% @Ty.T6)∧(type_of% @Ty.T8)∧(type_of% @Ty.T25)∧(type_of% @Ty.T80)∧(type_of% @Ty.T109)∧(type_of% @Ty.T111)∧(type_of% @Ty.T112):=⟨@Ty.T0,@Ty.T1,@Ty.T2,@Ty.T3,@Ty.T4,@Ty.T5,@Ty.T6,@Ty.T8,@Ty.T25,@Ty.T80,@Ty.T109,@Ty.T111,@Ty.T112⟩
def u32I (n:Nat):List I:=[.s (.int .u32 (n:Int))]
def rootsK (i:Nat):List Nat:=(PR.take i).map fun p=>prF p false
def rootsH (i:Nat):List Nat:=((PR.take i).take 8).map fun p=>prF p true
theorem rootsK_succ {i:Nat} (h:i < PR.length):rootsK (i+1)=rootsK i++[prF PR[i] false]:=by
 unfold rootsK; rw [List.take_succ_eq_append_getElem h,List.map_append]; rfl
theorem rootsH_lo {i:Nat} (h:i < PR.length) (h8:i < 8):rootsH (i+1)=rootsH i++[prF PR[i] true]:=by
 unfold rootsH
 rw [List.take_take,List.take_take,Nat.min_eq_right (by omega),Nat.min_eq_right (by omega),List.take_succ_eq_append_getElem h,List.map_append]; rfl
theorem rootsH_hi {i:Nat} (h8:8≤i):rootsH (i+1)=rootsH i:=by
 unfold rootsH; rw [List.take_take,List.take_take,Nat.min_eq_left (by omega),Nat.min_eq_left (by omega)]
theorem uni_u32 (l:List Nat):uni 1 (l.map u32I)=true:=uni_map (s:=1) (f:=u32I) (fun _=>rfl) l
theorem uni_u64 (l:List Nat):uni 1 (l.map u64I)=true:=uni_map (s:=1) (f:=u64I) (fun _=>rfl) l
def zpad (n:Nat):Nat:=(119 - n % 64) % 64
theorem wq0:IntKind.i64.wrap (0+1)=1:=by decide
theorem wq1:IntKind.i64.wrap (1+1)=2:=by decide
theorem wq2:IntKind.i64.wrap (2+1)=3:=by decide
theorem wq3:IntKind.i64.wrap (3+1)=4:=by decide
theorem wq4:IntKind.i64.wrap (4+1)=5:=by decide
theorem wq5:IntKind.i64.wrap (5+1)=6:=by decide
theorem wq6:IntKind.i64.wrap (6+1)=7:=by decide
theorem wq7:IntKind.i64.wrap (7+1)=8:=by decide
def hmix (v u:V8) (k:Nat):List Nat:=[if 0 < k then wadd v.a u.a else v.a,if 1 < k then wadd v.b u.b else v.b,if 2 < k then wadd v.c u.c else v.c,if 3 < k then wadd v.d u.d else v.d,if 4 < k then wadd v.e u.e else v.e,if 5 < k then wadd v.f u.f else v.f,if 6 < k then wadd v.g u.g else v.g,if 7 < k then wadd v.h u.h else v.h]
def obytes (v:V8) (k:Nat):List UInt8:=((v.list.take k).map be32).flatten
theorem obytes_len (v:V8) (k:Nat) (h:k≤8):(obytes v k).length=4 * k:=by
 have:k=0∨k=1∨k=2∨k=3∨k=4∨k=5∨k=6∨k=7∨k=8:=by omega
 rcases this with rfl | rfl | rfl | rfl | rfl | rfl | rfl | rfl | rfl <;> rfl
theorem obytes_succ (v:V8) (k:Nat) (h:k < 8):obytes v (k+1)=obytes v k++be32 (v.list.getD k 0):=by
 have hl:v.list.length=8:=rfl
 unfold obytes
 rw [List.take_succ_eq_append_getElem (by omega),List.map_append,List.flatten_append]
 simp [List.getD_eq_getElem?_getD,show k < v.list.length by omega]
theorem obytes_all (v:V8):obytes v 8=outW v:=by
 simp [obytes,outW,V8.list]
theorem round_eq (u:V8) (K W:Nat):roundW u K W =
  ⟨wadd (wadd (wadd (wadd (wadd u.h (wxor (wxor (wrot u.e 6) (wrot u.e 11)) (wrot u.e 25))) (wor (wand u.f u.e) (wandn u.g u.e))) K) W) (wadd (wxor (wxor (wrot u.a 2) (wrot u.a 13)) (wrot u.a 22)) (wor (wor (wand u.a u.b) (wand u.a u.c)) (wand u.b u.c))),u.a,u.b,u.c,
   wadd u.d (wadd (wadd (wadd (wadd u.h (wxor (wxor (wrot u.e 6) (wrot u.e 11)) (wrot u.e 25))) (wor (wand u.f u.e) (wandn u.g u.e))) K) W),u.e,u.f,u.g⟩:=by
 unfold roundW
 rw [choose_eq,most_eq]
theorem wad (a b:Nat):IntKind.u32.wrap ((a:Int)+(b:Int))=((wadd a b:Nat):Int):=by rw [IntKind.wrap_u32]; unfold wadd; omega
set_option maxHeartbeats 8000000
theorem sumref_A (b:List UInt8) (hb:b.length≤1099511627776):PureD Try.prog 62 [.i (bI b)] (.i (bI (sha b))):=by
 refine callD_W 302 Try.func62 rfl rfl rfl (fun _ _=>rfl) ?_
 (repeat (first | (simp -implicitDefEqProofs only [ev,mixed,Nat.reduceLT,Nat.reduceAdd,Nat.reduceMul,reduceIte,Nat.reduceEqDiff,reduceCtorEq,Nat.reducePow,Nat.reduceLeDiff,Int.reduceLE,Int.reduceLT,Int.reduceToNat,Int.reduceEq,Nat.reduceBEq,itsOf,gdA,byteI,opid,lenQ,ixQ,ldH,readAt,readCells,asCell,faQ,exQ,fldQ,partA,buildQ,slQ,stH,bslH,appH,dcells,convI,elemsOf,D.one,nilS,fillD,convN,cvH,tyR1Sum0,bI]) | (with_reducible refine ⟨?_,?_⟩; (· first | (obtain ⟨rfl⟩:=‹Hq _ _›; with_reducible refine chk_ok ?_; kernel_rfl) | kernel_rfl)) | (with_reducible intro ops hops)))
 have hpr:=primes_A
 rw [PR_eq] at hpr
 refine Call_new 1256 hpr (by simp [upd,noH]) rfl ?_
 (repeat (first | (simp -implicitDefEqProofs only [ev,mixed,Nat.reduceLT,Nat.reduceAdd,Nat.reduceMul,reduceIte,Nat.reduceEqDiff,reduceCtorEq,Nat.reducePow,Nat.reduceLeDiff,Int.reduceLE,Int.reduceLT,Int.reduceToNat,Int.reduceEq,Nat.reduceBEq,itsOf,gdA,byteI,opid,lenQ,ixQ,ldH,readAt,readCells,asCell,faQ,exQ,fldQ,partA,buildQ,slQ,stH,bslH,appH,dcells,convI,elemsOf,D.one,nilS,fillD,convN,cvH,tyR1Sum0]) | (with_reducible refine ⟨?_,?_⟩; (· first | (obtain ⟨rfl⟩:=‹Hq _ _›; with_reducible refine chk_ok ?_; kernel_rfl) | kernel_rfl)) | (with_reducible intro ops hops)))
 refine W_loopI (ι:=Nat) (fun i=>i≤64)
  (fun i=>stOf [(0,.i (.sl (b.map byteI))),(39,.os 100 1 0 64),(40,.i (.s (.int .i64 64))),(41,.i (.s (.int .i64 (i:Nat)))),(4,.os 101 1 0 (rootsK i).length),(5,.os 102 1 0 (rootsH i).length)]
   [(100,.arr 1 (PR.map u64I)),(101,.arr 1 ((rootsK i).map u32I)),(102,.arr 1 ((rootsH i).map u32I))]) (fun i=>64 - i) 0 (by decide) ?_ ?_
 ·refine le_stOf _ _ [] [(100,1256)] ?_ ?_ rfl rfl
  ·simp [cv,cv1,cv0,upd,lk,srcOf,rootsK,rootsH]
  ·simp [objOk,srcOf,lk,cvO,frz,upd,rootsK,rootsH]
 ·intro i hi
  rw [stOf_eq]
  (repeat (first | (simp -implicitDefEqProofs only [ev,mixed,Nat.reduceLT,Nat.reduceAdd,Nat.reduceMul,reduceIte,Nat.reduceEqDiff,reduceCtorEq,Nat.reducePow,Nat.reduceLeDiff,Int.reduceLE,Int.reduceLT,Int.reduceToNat,Int.reduceEq,Nat.reduceBEq,itsOf,gdA,byteI,opid,lenQ,ixQ,ldH,readAt,readCells,asCell,faQ,exQ,fldQ,partA,buildQ,slQ,stH,bslH,appH,dcells,convI,elemsOf,D.one,nilS,fillD,convN,cvH,tyR1Sum0]) | (with_reducible refine ⟨?_,?_⟩; (· first | (obtain ⟨rfl⟩:=‹Hq _ _›; with_reducible refine chk_ok ?_; kernel_rfl) | kernel_rfl)) | (with_reducible intro ops hops)))
  refine Wc_split (fun h=>?_) (fun h=>?_)
  ·have h1:i < 64:=by simp at h; omega
   clear h
   have hip:i < PR.length:=by rw [PR_len]; exact h1
   have hpl:=PR_lt _ (List.getElem_mem hip)
   have e1:(PR.map u64I)[i]?=some [.s (.int .u64 ((PR[i]:Nat):Int))]:=by rw [List.getElem?_map,List.getElem?_eq_getElem hip]; rfl
   have hk:=rootsK_succ hip
   have hh:=fun h8=>rootsH_lo hip h8
   have hh':=fun h8=>rootsH_hi (i:=i) h8
   have lk1:(rootsK i).length=i:=by simp [rootsK,PR_len]; omega
   have lh1:(rootsH i).length≤8:=by simp [rootsH]; omega
   have l1:((i:Int) < 64)=True:=eq_true (by omega)
   have e3:(rootsK i).length+1≤140737488355328:=by omega
   have e4:((rootsK i).length+1) * 4≤140737488355328:=by omega
   have e5:(rootsH i).length+1≤140737488355328:=by omega
   have e6:((rootsH i).length+1) * 4≤140737488355328:=by omega
   have w1:IntKind.i64.wrap ((i:Int)+1)=((i+1:Nat):Int):=by rw [wrap64 (by omega) (by omega)]; omega
   generalize PR[i]=p at hpl e1 hk hh
   generalize hR:PR.map u64I=R at e1
   generalize rootsK i=K at hk e3 e4
   generalize rootsH i=Hl at hh hh' e5 e6
   (repeat (first | (simp -implicitDefEqProofs only [ev,mixed,Nat.reduceLT,Nat.reduceAdd,Nat.reduceMul,reduceIte,Nat.reduceEqDiff,reduceCtorEq,Nat.reducePow,Nat.reduceLeDiff,Int.reduceLE,Int.reduceLT,Int.reduceToNat,Int.reduceEq,Nat.reduceBEq,itsOf,gdA,byteI,opid,lenQ,ixQ,ldH,readAt,readCells,asCell,faQ,exQ,fldQ,partA,buildQ,slQ,stH,bslH,appH,dcells,convI,elemsOf,D.one,nilS,fillD,convN,cvH,tyR1Sum0,e1,l1]) | (with_reducible refine ⟨?_,?_⟩; (· first | (obtain ⟨rfl⟩:=‹Hq _ _›; with_reducible refine chk_ok ?_; kernel_rfl) | kernel_rfl)) | (with_reducible intro ops hops)))
   (first | refine Call_flat [] [] (root_A p false hpl) (by simp [cvAs,cvA,cvRL,cvR,cvBox,cv1,cvL,cv0,bI,byteI,elemsOf,upd]) rfl ?_ | refine CallF_flat [] [] [] (root_A p false hpl) (fun G _=>by simp [cvAs,cvA,cvRL,cvR,cvBox,cv1,cvL,cv0,bI,byteI,elemsOf,upd]) rfl ?_)
   cases g8:decide ((i:Int) < 8)
   ·have h8:8≤i:=by simp at g8; omega
    have hh2:=hh' h8
    (repeat (first | (simp -implicitDefEqProofs only [ev,mixed,Nat.reduceLT,Nat.reduceAdd,Nat.reduceMul,reduceIte,Nat.reduceEqDiff,reduceCtorEq,Nat.reducePow,Nat.reduceLeDiff,Int.reduceLE,Int.reduceLT,Int.reduceToNat,Int.reduceEq,Nat.reduceBEq,itsOf,gdA,byteI,opid,lenQ,ixQ,ldH,readAt,readCells,asCell,faQ,exQ,fldQ,partA,buildQ,slQ,stH,bslH,appH,dcells,convI,elemsOf,D.one,nilS,fillD,convN,cvH,tyR1Sum0,g8,e3,e4,uni_u32,w1]) | (with_reducible refine ⟨?_,?_⟩; (· first | (obtain ⟨rfl⟩:=‹Hq _ _›; with_reducible refine chk_ok ?_; kernel_rfl) | kernel_rfl)) | (with_reducible intro ops hops)))
    refine ⟨i+1,h1,le_stOf _ _ [] [(100,100),(101,2796),(102,102)] ?_ ?_ rfl rfl,by simp; omega⟩
    ·simp [cv,cv1,cv0,upd,lk,srcOf,hk,hh2]
    ·simp [objOk,srcOf,lk,cvO,frz,upd,hO,hk,hh2,u32I,hR]
   ·have h8:i < 8:=by simp at g8; omega
    have hh2:=hh h8
    (repeat (first | (simp -implicitDefEqProofs only [ev,mixed,Nat.reduceLT,Nat.reduceAdd,Nat.reduceMul,reduceIte,Nat.reduceEqDiff,reduceCtorEq,Nat.reducePow,Nat.reduceLeDiff,Int.reduceLE,Int.reduceLT,Int.reduceToNat,Int.reduceEq,Nat.reduceBEq,itsOf,gdA,byteI,opid,lenQ,ixQ,ldH,readAt,readCells,asCell,faQ,exQ,fldQ,partA,buildQ,slQ,stH,bslH,appH,dcells,convI,elemsOf,D.one,nilS,fillD,convN,cvH,tyR1Sum0,g8,e3,e4,uni_u32]) | (with_reducible refine ⟨?_,?_⟩; (· first | (obtain ⟨rfl⟩:=‹Hq _ _›; with_reducible refine chk_ok ?_; kernel_rfl) | kernel_rfl)) | (with_reducible intro ops hops)))
    (first | refine Call_flat [] [] (root_A p true hpl) (by simp [cvAs,cvA,cvRL,cvR,cvBox,cv1,cvL,cv0,bI,byteI,elemsOf,upd]) rfl ?_ | refine CallF_flat [] [] [] (root_A p true hpl) (fun G _=>by simp [cvAs,cvA,cvRL,cvR,cvBox,cv1,cvL,cv0,bI,byteI,elemsOf,upd]) rfl ?_)
    (repeat (first | (simp -implicitDefEqProofs only [ev,mixed,Nat.reduceLT,Nat.reduceAdd,Nat.reduceMul,reduceIte,Nat.reduceEqDiff,reduceCtorEq,Nat.reducePow,Nat.reduceLeDiff,Int.reduceLE,Int.reduceLT,Int.reduceToNat,Int.reduceEq,Nat.reduceBEq,itsOf,gdA,byteI,opid,lenQ,ixQ,ldH,readAt,readCells,asCell,faQ,exQ,fldQ,partA,buildQ,slQ,stH,bslH,appH,dcells,convI,elemsOf,D.one,nilS,fillD,convN,cvH,tyR1Sum0,e5,e6,uni_u32,w1]) | (with_reducible refine ⟨?_,?_⟩; (· first | (obtain ⟨rfl⟩:=‹Hq _ _›; with_reducible refine chk_ok ?_; kernel_rfl) | kernel_rfl)) | (with_reducible intro ops hops)))
    refine ⟨i+1,h1,le_stOf _ _ [] [(100,100),(101,2796),(102,3308)] ?_ ?_ rfl rfl,by simp; omega⟩
    ·simp [cv,cv1,cv0,upd,lk,srcOf,hk,hh2]
    ·simp [objOk,srcOf,lk,cvO,frz,upd,hO,hk,hh2,u32I,hR]
  ·have h1:i=64:=by simp at h; omega
   subst h1
   have hK:rootsK 64=KS:=by rw [← KS_root,rootsK,List.take_of_length_le (by rw [PR_len]; exact Nat.le_refl _)]
   have hH:rootsH 64=V0.list:=by rw [← V0_root,rootsH,List.take_take]; rfl
   rw [hK,hH]
   generalize PR.map u64I=R
   have hKl:KS.length=64:=rfl
   have hHl:V0.list.length=8:=rfl
   rw [hKl,hHl]
   have e3:b.length+1≤140737488355328:=by omega
   have e4:b.length≤140737488355328:=by omega
   (repeat (first | (simp -implicitDefEqProofs only [ev,mixed,Nat.reduceLT,Nat.reduceAdd,Nat.reduceMul,reduceIte,Nat.reduceEqDiff,reduceCtorEq,Nat.reducePow,Nat.reduceLeDiff,Int.reduceLE,Int.reduceLT,Int.reduceToNat,Int.reduceEq,Nat.reduceBEq,itsOf,gdA,byteI,opid,lenQ,ixQ,ldH,readAt,readCells,asCell,faQ,exQ,fldQ,partA,buildQ,slQ,stH,bslH,appH,dcells,convI,elemsOf,D.one,nilS,fillD,convN,cvH,tyR1Sum0,e3,e4,uni_byteI]) | (with_reducible refine ⟨?_,?_⟩; (· first | (obtain ⟨rfl⟩:=‹Hq _ _›; with_reducible refine chk_ok ?_; kernel_rfl) | kernel_rfl)) | (with_reducible intro ops hops)))
   clear hpr hi h hK hH hKl hHl
   refine W_loopI (ι:=Nat) (fun j=>j≤zpad b.length)
    (fun j=>stOf [(0,.i (.sl (b.map byteI))),(4,.os 101 1 0 64),(5,.os 102 1 0 8),(8,.os 103 1 0 (b.length+1+j))]
     [(101,.arr 1 (KS.map u32I)),(102,.arr 1 (V0.list.map u32I)),(103,.arr 1 ((b++128 :: List.replicate j 0).map byteI))]) (fun j=>zpad b.length - j) 0 (Nat.zero_le _) ?_ ?_
   ·refine le_stOf _ _ [] [(101,101),(102,102),(103,3820)] ?_ ?_ rfl rfl
    ·simp [cv,cv1,cv0,upd,lk,srcOf]
    ·simp [objOk,srcOf,lk,cvO,frz,upd,hO,byteI]
   ·intro j hj
    rw [stOf_eq]
    have r1:((b.length+1+j:Nat):Int).tmod 64=(((b.length+1+j) % 64:Nat):Int):=by rw [Int.tmod_eq_emod_of_nonneg (by omega)]; exact (Int.natCast_emod _ _).symm
    (repeat (first | (simp -implicitDefEqProofs only [ev,mixed,Nat.reduceLT,Nat.reduceAdd,Nat.reduceMul,reduceIte,Nat.reduceEqDiff,reduceCtorEq,Nat.reducePow,Nat.reduceLeDiff,Int.reduceLE,Int.reduceLT,Int.reduceToNat,Int.reduceEq,Nat.reduceBEq,itsOf,gdA,byteI,opid,lenQ,ixQ,ldH,readAt,readCells,asCell,faQ,exQ,fldQ,partA,buildQ,slQ,stH,bslH,appH,dcells,convI,elemsOf,D.one,nilS,fillD,convN,cvH,tyR1Sum0,r1]) | (with_reducible refine ⟨?_,?_⟩; (· first | (obtain ⟨rfl⟩:=‹Hq _ _›; with_reducible refine chk_ok ?_; kernel_rfl) | kernel_rfl)) | (with_reducible intro ops hops)))
    refine Wc_split (fun h=>?_) (fun h=>?_)
    ·have h1:j < zpad b.length:=by unfold zpad at hj ⊢; simp at h; omega
     clear h
     have e3:b.length+1+j+1≤140737488355328:=by unfold zpad at h1; omega
     have e7:b.length+(j+1)=b.length+1+j:=by omega
     (repeat (first | (simp -implicitDefEqProofs only [ev,mixed,Nat.reduceLT,Nat.reduceAdd,Nat.reduceMul,reduceIte,Nat.reduceEqDiff,reduceCtorEq,Nat.reducePow,Nat.reduceLeDiff,Int.reduceLE,Int.reduceLT,Int.reduceToNat,Int.reduceEq,Nat.reduceBEq,itsOf,gdA,byteI,opid,lenQ,ixQ,ldH,readAt,readCells,asCell,faQ,exQ,fldQ,partA,buildQ,slQ,stH,bslH,appH,dcells,convI,elemsOf,D.one,nilS,fillD,convN,cvH,tyR1Sum0,e3,e7,uni_byteI]) | (with_reducible refine ⟨?_,?_⟩; (· first | (obtain ⟨rfl⟩:=‹Hq _ _›; with_reducible refine chk_ok ?_; kernel_rfl) | kernel_rfl)) | (with_reducible intro ops hops)))
     refine ⟨j+1,h1,le_stOf _ _ [] [(101,101),(102,102),(103,4330)] ?_ ?_ rfl rfl,by simp; omega⟩
     ·simp [cv,cv1,cv0,upd,lk,srcOf]; omega
     ·simp [objOk,srcOf,lk,cvO,frz,upd,hO,byteI,List.replicate_succ']
    ·have h1:j=zpad b.length:=by unfold zpad at hj ⊢; simp at h; omega
     subst h1
     clear h hj r1
     have hN:(b.length * 8) % 18446744073709551616=b.length * 8:=Nat.mod_eq_of_lt (by omega)
     have w1:IntKind.u64.wrap (b.length:Int)=(b.length:Int):=by rw [IntKind.wrap_u64]; omega
     have w2:IntKind.u64.wrap (8 * (b.length:Int))=((b.length * 8:Nat):Int):=by rw [IntKind.wrap_u64]; omega
     have hz:zpad b.length < 64:=Nat.mod_lt _ (by decide)
     have hpad:padOf b.length=128 :: (List.replicate (zpad b.length) 0++be64 (b.length * 8)):=by rw [padOf,hN]; rfl
     have hlen:b.length+1+zpad b.length+8=64 * ((b.length+(padOf b.length).length) / 64):=by rw [padOf_length]; unfold zpad; omega
     have hsha:sha b=outW (blocksW V0 ((b.length+(padOf b.length).length) / 64) (b++128 :: (List.replicate (zpad b.length) 0++be64 (b.length * 8)))):=by rw [← hpad]; rfl
     rw [hsha]
     clear hsha hpad hN
     generalize (b.length+(padOf b.length).length) / 64=J at hlen ⊢
     generalize zpad b.length=z at hz hlen ⊢
     generalize hNN:b.length * 8=N at w2 ⊢
     (repeat (first | (simp -implicitDefEqProofs only [ev,mixed,Nat.reduceLT,Nat.reduceAdd,Nat.reduceMul,reduceIte,Nat.reduceEqDiff,reduceCtorEq,Nat.reducePow,Nat.reduceLeDiff,Int.reduceLE,Int.reduceLT,Int.reduceToNat,Int.reduceEq,Nat.reduceBEq,itsOf,gdA,byteI,opid,lenQ,ixQ,ldH,readAt,readCells,asCell,faQ,exQ,fldQ,partA,buildQ,slQ,stH,bslH,appH,dcells,convI,elemsOf,D.one,nilS,fillD,convN,cvH,tyR1Sum0,w1,w2]) | (with_reducible refine ⟨?_,?_⟩; (· first | (obtain ⟨rfl⟩:=‹Hq _ _›; with_reducible refine chk_ok ?_; kernel_rfl) | kernel_rfl)) | (with_reducible intro ops hops)))
     refine W_loopI (ι:=Nat) (fun t=>t≤8)
      (fun t=>stOf [(4,.os 101 1 0 64),(5,.os 102 1 0 8),(8,.os 103 1 0 (b.length+1+z+t)),(9,.i (.s (.int .u64 (N:Nat)))),(10,.i (.s (.int .i64 (7 - (t:Int)))))]
       [(101,.arr 1 (KS.map u32I)),(102,.arr 1 (V0.list.map u32I)),(103,.arr 1 ((b++128 :: (List.replicate z 0++(be64 N).take t)).map byteI))]) (fun t=>8 - t) 0 (Nat.zero_le _) ?_ ?_
     ·refine le_stOf _ _ [] [(101,101),(102,102),(103,103)] ?_ ?_ rfl rfl
      ·simp [cv,cv1,cv0,upd,lk,srcOf]
      ·simp [objOk,srcOf,lk,cvO,frz,upd,hO,byteI]
     ·intro t ht
      rw [stOf_eq]
      (repeat (first | (simp -implicitDefEqProofs only [ev,mixed,Nat.reduceLT,Nat.reduceAdd,Nat.reduceMul,reduceIte,Nat.reduceEqDiff,reduceCtorEq,Nat.reducePow,Nat.reduceLeDiff,Int.reduceLE,Int.reduceLT,Int.reduceToNat,Int.reduceEq,Nat.reduceBEq,itsOf,gdA,byteI,opid,lenQ,ixQ,ldH,readAt,readCells,asCell,faQ,exQ,fldQ,partA,buildQ,slQ,stH,bslH,appH,dcells,convI,elemsOf,D.one,nilS,fillD,convN,cvH,tyR1Sum0]) | (with_reducible refine ⟨?_,?_⟩; (· first | (obtain ⟨rfl⟩:=‹Hq _ _›; with_reducible refine chk_ok ?_; kernel_rfl) | kernel_rfl)) | (with_reducible intro ops hops)))
      refine Wc_split (fun h=>?_) (fun h=>?_)
      ·have h1:t < 8:=by simp at h; omega
       clear h
       have hg:=be64_get N t h1
       have hts:=take_snoc' hg
       have e7:(7:Int) - (t:Int)=((7 - t:Nat):Int):=by omega
       have w3:IntKind.i64.wrap (8 * ((7 - t:Nat):Int))=((8 * (7 - t):Nat):Int):=by rw [wrap64 (by omega) (by omega)]; omega
       have w4:=byte_shift (k:=.u64) N (7 - t) (by simp [IntKind.bits]; omega)
       have w5:IntKind.i64.wrap (((7 - t:Nat):Int) - 1)=7 - ((t+1:Nat):Int):=by rw [wrap64 (by omega) (by omega)]; omega
       have hl8:(be64 N).length=8:=rfl
       have e3:b.length+1+z+t+1≤140737488355328:=by omega
       have e8:b.length+(z+(min t (be64 N).length)+1)=b.length+1+z+t:=by rw [hl8]; omega
       generalize byteOf N (256 ^ (7 - t))=c at hts w4
       generalize 7 - t=d at e7 w3 w4 w5
       generalize be64 N=B8 at hts e8 hl8
       (repeat (first | (simp -implicitDefEqProofs only [ev,mixed,Nat.reduceLT,Nat.reduceAdd,Nat.reduceMul,reduceIte,Nat.reduceEqDiff,reduceCtorEq,Nat.reducePow,Nat.reduceLeDiff,Int.reduceLE,Int.reduceLT,Int.reduceToNat,Int.reduceEq,Nat.reduceBEq,itsOf,gdA,byteI,opid,lenQ,ixQ,ldH,readAt,readCells,asCell,faQ,exQ,fldQ,partA,buildQ,slQ,stH,bslH,appH,dcells,convI,elemsOf,D.one,nilS,fillD,convN,cvH,tyR1Sum0,e7,w3,w4,w5,e3,e8,uni_byteI,List.length_take]) | (with_reducible refine ⟨?_,?_⟩; (· first | (obtain ⟨rfl⟩:=‹Hq _ _›; with_reducible refine chk_ok ?_; kernel_rfl) | kernel_rfl)) | (with_reducible intro ops hops)))
       refine ⟨t+1,h1,le_stOf _ _ [] [(101,101),(102,102),(103,5615)] ?_ ?_ rfl rfl,by simp; omega⟩
       ·simp [cv,cv1,cv0,upd,lk,srcOf]
        omega
       ·simp [objOk,srcOf,lk,cvO,frz,upd,hO,byteI,hts]
      ·have h1:t=8:=by simp at h; omega
       subst h1
       have hM:(b++128 :: (List.replicate z 0++be64 N)).length=64 * J:=by rw [← hlen]; simp [be64]; omega
       rw [show (be64 N).take 8=be64 N from rfl,hlen]
       generalize b++128 :: (List.replicate z 0++be64 N)=M at hM ⊢
       have hJ:J≤17179869190:=by omega
       clear hlen hz w1 w2 hNN ht h hb e3 e4
       (repeat (first | (simp -implicitDefEqProofs only [ev,mixed,Nat.reduceLT,Nat.reduceAdd,Nat.reduceMul,reduceIte,Nat.reduceEqDiff,reduceCtorEq,Nat.reducePow,Nat.reduceLeDiff,Int.reduceLE,Int.reduceLT,Int.reduceToNat,Int.reduceEq,Nat.reduceBEq,itsOf,gdA,byteI,opid,lenQ,ixQ,ldH,readAt,readCells,asCell,faQ,exQ,fldQ,partA,buildQ,slQ,stH,bslH,appH,dcells,convI,elemsOf,D.one,nilS,fillD,convN,cvH,tyR1Sum0]) | (with_reducible refine ⟨?_,?_⟩; (· first | (obtain ⟨rfl⟩:=‹Hq _ _›; with_reducible refine chk_ok ?_; kernel_rfl) | kernel_rfl)) | (with_reducible intro ops hops)))
       refine W_loopI (ι:=Nat) (fun k=>k≤J)
        (fun k=>stOf [(4,.os 101 1 0 64),(5,.os 102 1 0 8),(8,.os 103 1 0 (64 * J)),(11,.i (.s (.int .i64 ((64 * k:Nat):Int))))]
         [(101,.arr 1 (KS.map u32I)),(102,.arr 1 ((blocksW V0 k M).list.map u32I)),(103,.arr 1 (M.map byteI))]) (fun k=>J - k) 0 (Nat.zero_le _) ?_ ?_
       ·refine le_stOf _ _ [] [(101,101),(102,102),(103,103)] ?_ ?_ rfl rfl
        ·simp [cv,cv1,cv0,upd,lk,srcOf]
        ·simp [objOk,srcOf,lk,cvO,frz,upd,hO,blocksW]
       ·intro k hk
        rw [stOf_eq]
        (repeat (first | (simp -implicitDefEqProofs only [ev,mixed,Nat.reduceLT,Nat.reduceAdd,Nat.reduceMul,reduceIte,Nat.reduceEqDiff,reduceCtorEq,Nat.reducePow,Nat.reduceLeDiff,Int.reduceLE,Int.reduceLT,Int.reduceToNat,Int.reduceEq,Nat.reduceBEq,itsOf,gdA,byteI,opid,lenQ,ixQ,ldH,readAt,readCells,asCell,faQ,exQ,fldQ,partA,buildQ,slQ,stH,bslH,appH,dcells,convI,elemsOf,D.one,nilS,fillD,convN,cvH,tyR1Sum0]) | (with_reducible refine ⟨?_,?_⟩; (· first | (obtain ⟨rfl⟩:=‹Hq _ _›; with_reducible refine chk_ok ?_; kernel_rfl) | kernel_rfl)) | (with_reducible intro ops hops)))
        refine Wc_split (fun h=>?_) (fun h=>?_)
        ·have h1:k < J:=by simp at h; omega
         clear h
         have hbs:=blocksW_succ k V0 M
         have hblk:∀ i,i < 64→∃ c:UInt8,M[64 * k+i]?=some c∧c.toNat=bnth ((M.drop (64 * k)).take 64) i:=by
          intro i hi
          have hlt:64 * k+i < M.length:=by omega
          refine ⟨M[64 * k+i],by simp [hlt],?_⟩
          rw [bnth_eq (by simp; omega)]
          simp
         generalize (M.drop (64 * k)).take 64=blk at hbs hblk
         generalize blocksW V0 k M=v at hbs
         (repeat (first | (simp -implicitDefEqProofs only [ev,mixed,Nat.reduceLT,Nat.reduceAdd,Nat.reduceMul,reduceIte,Nat.reduceEqDiff,reduceCtorEq,Nat.reducePow,Nat.reduceLeDiff,Int.reduceLE,Int.reduceLT,Int.reduceToNat,Int.reduceEq,Nat.reduceBEq,itsOf,gdA,byteI,opid,lenQ,ixQ,ldH,readAt,readCells,asCell,faQ,exQ,fldQ,partA,buildQ,slQ,stH,bslH,appH,dcells,convI,elemsOf,D.one,nilS,fillD,convN,cvH,tyR1Sum0]) | (with_reducible refine ⟨?_,?_⟩; (· first | (obtain ⟨rfl⟩:=‹Hq _ _›; with_reducible refine chk_ok ?_; kernel_rfl) | kernel_rfl)) | (with_reducible intro ops hops)))
         refine W_loopI (ι:=Nat) (fun i=>i≤64)
          (fun i=>stOf [(4,.os 101 1 0 64),(5,.os 102 1 0 8),(8,.os 103 1 0 (64 * J)),(11,.i (.s (.int .i64 ((64 * k:Nat):Int)))),(12,.os 104 1 0 i),(13,.i (.s (.int .i64 (i:Nat))))]
           [(101,.arr 1 (KS.map u32I)),(102,.arr 1 (v.list.map u32I)),(103,.arr 1 (M.map byteI)),(104,.arr 1 ((sched blk i).map u32I))]) (fun i=>64 - i) 0 (Nat.zero_le _) ?_ ?_
         ·refine le_stOf _ _ [] [(101,101),(102,102),(103,103)] ?_ ?_ rfl rfl
          ·simp [cv,cv1,cv0,upd,lk,srcOf]
          ·simp [objOk,srcOf,lk,cvO,frz,upd,hO,sched]
         ·intro i hi
          rw [stOf_eq]
          (repeat (first | (simp -implicitDefEqProofs only [ev,mixed,Nat.reduceLT,Nat.reduceAdd,Nat.reduceMul,reduceIte,Nat.reduceEqDiff,reduceCtorEq,Nat.reducePow,Nat.reduceLeDiff,Int.reduceLE,Int.reduceLT,Int.reduceToNat,Int.reduceEq,Nat.reduceBEq,itsOf,gdA,byteI,opid,lenQ,ixQ,ldH,readAt,readCells,asCell,faQ,exQ,fldQ,partA,buildQ,slQ,stH,bslH,appH,dcells,convI,elemsOf,D.one,nilS,fillD,convN,cvH,tyR1Sum0]) | (with_reducible refine ⟨?_,?_⟩; (· first | (obtain ⟨rfl⟩:=‹Hq _ _›; with_reducible refine chk_ok ?_; kernel_rfl) | kernel_rfl)) | (with_reducible intro ops hops)))
          refine Wc_split (fun h=>?_) (fun h=>?_)
          ·have h2:i < 64:=by simp at h; omega
           clear h
           have hsl:=sched_length blk i
           have hss:sched blk (i+1)=sched blk i++[if i < 16 then wordAt blk (4 * i) else nextW (sched blk i) i]:=rfl
           have w9:IntKind.i64.wrap ((i:Int)+1)=((i+1:Nat):Int):=by rw [wrap64 (by omega) (by omega)]; omega
           have e3:i+1≤140737488355328:=by omega
           have e4:(i+1) * 4≤140737488355328:=by omega
           (repeat (first | (simp -implicitDefEqProofs only [ev,mixed,Nat.reduceLT,Nat.reduceAdd,Nat.reduceMul,reduceIte,Nat.reduceEqDiff,reduceCtorEq,Nat.reducePow,Nat.reduceLeDiff,Int.reduceLE,Int.reduceLT,Int.reduceToNat,Int.reduceEq,Nat.reduceBEq,itsOf,gdA,byteI,opid,lenQ,ixQ,ldH,readAt,readCells,asCell,faQ,exQ,fldQ,partA,buildQ,slQ,stH,bslH,appH,dcells,convI,elemsOf,D.one,nilS,fillD,convN,cvH,tyR1Sum0]) | (with_reducible refine ⟨?_,?_⟩; (· first | (obtain ⟨rfl⟩:=‹Hq _ _›; with_reducible refine chk_ok ?_; kernel_rfl) | kernel_rfl)) | (with_reducible intro ops hops)))
           refine Wc_split (fun h=>?_) (fun h=>?_)
           ·have h3:i < 16:=by simp at h; omega
            clear h
            rw [if_pos h3,wordAt_hor] at hss
            have hby:∀ t,t < 4→∃ c:UInt8,M[64 * k+4 * i+t]?=some c∧c.toNat=bnth blk (4 * i+t):=by
             intro t ht
             have:=hblk (4 * i+t) (by omega)
             rwa [← Nat.add_assoc] at this
            have w1:IntKind.i64.wrap (4 * (i:Int))=((4 * i:Nat):Int):=by rw [wrap64 (by omega) (by omega)]; omega
            have w2:IntKind.i64.wrap (((64 * k:Nat):Int)+((4 * i:Nat):Int))=((64 * k+4 * i:Nat):Int):=by rw [wrap64 (by omega) (by omega)]; omega
            have w3:IntKind.i64.wrap (((64 * k+4 * i:Nat):Int)+4)=((64 * k+4 * i+4:Nat):Int):=by rw [wrap64 (by omega) (by omega)]; omega
            have hol:64 * k+4 * i+4≤64 * J:=by omega
            generalize 64 * k+4 * i=o at w2 w3 hol hby
            have l1:((o:Int)≤((o+4:Nat):Int))=True:=eq_true (by omega)
            have l2:(((o+4:Nat):Int)≤((64 * J:Nat):Int))=True:=eq_true (by omega)
            have s1:o+4 - o=4:=by omega
            (repeat (first | (simp -implicitDefEqProofs only [ev,mixed,Nat.reduceLT,Nat.reduceAdd,Nat.reduceMul,reduceIte,Nat.reduceEqDiff,reduceCtorEq,Nat.reducePow,Nat.reduceLeDiff,Int.reduceLE,Int.reduceLT,Int.reduceToNat,Int.reduceEq,Nat.reduceBEq,itsOf,gdA,byteI,opid,lenQ,ixQ,ldH,readAt,readCells,asCell,faQ,exQ,fldQ,partA,buildQ,slQ,stH,bslH,appH,dcells,convI,elemsOf,D.one,nilS,fillD,convN,cvH,tyR1Sum0,w1,w2,w3,l1,l2,s1]) | (with_reducible refine ⟨?_,?_⟩; (· first | (obtain ⟨rfl⟩:=‹Hq _ _›; with_reducible refine chk_ok ?_; kernel_rfl) | kernel_rfl)) | (with_reducible intro ops hops)))
            refine W_loopI (ι:=Nat) (fun t=>t≤4)
             (fun t=>stOf [(4,.os 101 1 0 64),(5,.os 102 1 0 8),(8,.os 103 1 0 (64 * J)),(11,.i (.s (.int .i64 ((64 * k:Nat):Int)))),(12,.os 104 1 0 i),(13,.i (.s (.int .i64 (i:Nat)))),(14,.i (.s (.int .u32 (hor blk (4 * i) t:Nat)))),(109,.os 103 1 o 4),(110,.i (.s (.int .i64 4))),(111,.i (.s (.int .i64 (t:Nat))))]
              [(101,.arr 1 (KS.map u32I)),(102,.arr 1 (v.list.map u32I)),(103,.arr 1 (M.map byteI)),(104,.arr 1 ((sched blk i).map u32I))]) (fun t=>4 - t) 0 (Nat.zero_le _) ?_ ?_
            ·refine le_stOf _ _ [] [(101,101),(102,102),(103,103),(104,104)] ?_ ?_ rfl rfl
             ·simp [cv,cv1,cv0,upd,lk,srcOf,hor]
             ·simp [objOk,srcOf,lk,cvO,frz,upd,hO]
            ·intro t ht
             rw [stOf_eq]
             (repeat (first | (simp -implicitDefEqProofs only [ev,mixed,Nat.reduceLT,Nat.reduceAdd,Nat.reduceMul,reduceIte,Nat.reduceEqDiff,reduceCtorEq,Nat.reducePow,Nat.reduceLeDiff,Int.reduceLE,Int.reduceLT,Int.reduceToNat,Int.reduceEq,Nat.reduceBEq,itsOf,gdA,byteI,opid,lenQ,ixQ,ldH,readAt,readCells,asCell,faQ,exQ,fldQ,partA,buildQ,slQ,stH,bslH,appH,dcells,convI,elemsOf,D.one,nilS,fillD,convN,cvH,tyR1Sum0]) | (with_reducible refine ⟨?_,?_⟩; (· first | (obtain ⟨rfl⟩:=‹Hq _ _›; with_reducible refine chk_ok ?_; kernel_rfl) | kernel_rfl)) | (with_reducible intro ops hops)))
             refine Wc_split (fun h=>?_) (fun h=>?_)
             ·have h4:t < 4:=by simp at h; omega
              clear h
              obtain ⟨c,hc1,hc2⟩:=hby t h4
              have hx:=hor_lt blk (4 * i) t
              have hx3:hor blk (4 * i) t < 16777216:=Nat.lt_of_lt_of_le hx (show 256 ^ t≤256 ^ 3 from Nat.pow_le_pow_right (by decide) (by omega))
              have hs:hor blk (4 * i) (t+1)=hor blk (4 * i) t * 256+c.toNat:=by rw [hor,hc2]
              have hcl:=c.toNat_lt
              have ec:(M.map byteI)[o+t]?=some [.s (.int .u8 (c.toNat:Int))]:=by simp [hc1,byteI]
              have l3:((t:Int) < 4)=True:=eq_true (by omega)
              have w4:IntKind.i64.wrap ((t:Int)+1)=((t+1:Nat):Int):=by rw [wrap64 (by omega) (by omega)]; omega
              have w7:IntKind.u32.wrap (c.toNat:Int)=(c.toNat:Int):=by rw [IntKind.wrap_u32]; omega
              generalize hor blk (4 * i) t=x at hx3 hs
              have w5:IntKind.u32.wrap ((x:Int) * 256)=((x * 256:Nat):Int):=by rw [IntKind.wrap_u32]; omega
              have w6:IntKind.u32.wrap (((x * 256:Nat):Int)+(c.toNat:Int))=((x * 256+c.toNat:Nat):Int):=by rw [IntKind.wrap_u32]; omega
              (repeat (first | (simp -implicitDefEqProofs only [ev,mixed,Nat.reduceLT,Nat.reduceAdd,Nat.reduceMul,reduceIte,Nat.reduceEqDiff,reduceCtorEq,Nat.reducePow,Nat.reduceLeDiff,Int.reduceLE,Int.reduceLT,Int.reduceToNat,Int.reduceEq,Nat.reduceBEq,itsOf,gdA,byteI,opid,lenQ,ixQ,ldH,readAt,readCells,asCell,faQ,exQ,fldQ,partA,buildQ,slQ,stH,bslH,appH,dcells,convI,elemsOf,D.one,nilS,fillD,convN,cvH,tyR1Sum0,ec,l3,w4,w5,w6,w7]) | (with_reducible refine ⟨?_,?_⟩; (· first | (obtain ⟨rfl⟩:=‹Hq _ _›; with_reducible refine chk_ok ?_; kernel_rfl) | kernel_rfl)) | (with_reducible intro ops hops)))
              refine ⟨t+1,h4,le_stOf _ _ [] [(101,101),(102,102),(103,103),(104,104)] ?_ ?_ rfl rfl,by simp; omega⟩
              ·simp [cv,cv1,cv0,upd,lk,srcOf,hs]
              ·simp [objOk,srcOf,lk,cvO,frz,upd,hO]
             ·have h4:t=4:=by simp at h; omega
              subst h4
              clear h hby
              generalize hor blk (4 * i) 4=x at hss
              (repeat (first | (simp -implicitDefEqProofs only [ev,mixed,Nat.reduceLT,Nat.reduceAdd,Nat.reduceMul,reduceIte,Nat.reduceEqDiff,reduceCtorEq,Nat.reducePow,Nat.reduceLeDiff,Int.reduceLE,Int.reduceLT,Int.reduceToNat,Int.reduceEq,Nat.reduceBEq,itsOf,gdA,byteI,opid,lenQ,ixQ,ldH,readAt,readCells,asCell,faQ,exQ,fldQ,partA,buildQ,slQ,stH,bslH,appH,dcells,convI,elemsOf,D.one,nilS,fillD,convN,cvH,tyR1Sum0,e3,e4,uni_u32,hsl,w9]) | (with_reducible refine ⟨?_,?_⟩; (· first | (obtain ⟨rfl⟩:=‹Hq _ _›; with_reducible refine chk_ok ?_; kernel_rfl) | kernel_rfl)) | (with_reducible intro ops hops)))
              refine ⟨i+1,h2,le_stOf _ _ [] [(101,101),(102,102),(103,103),(104,9451)] ?_ ?_ rfl rfl,by simp; omega⟩
              ·simp [cv,cv1,cv0,upd,lk,srcOf]
              ·simp [objOk,srcOf,lk,cvO,frz,upd,hO,hss,u32I]
           ·have h3:16≤i:=by simp at h; omega
            clear h
            rw [if_neg (by omega)] at hss
            generalize sched blk i=l at hss hsl
            have hget:∀ d,1≤d→d≤16→(l.map u32I)[i - d]?=some [.s (.int .u32 ((l.getD (i - d) 0:Nat):Int))]:=by
             intro d h1 h2
             have hlt:i - d < l.length:=by omega
             simp [hlt,u32I]
            have g15:=hget 15 (by omega) (by omega)
            have g2:=hget 2 (by omega) (by omega)
            have g16:=hget 16 (by omega) (by omega)
            have g7:=hget 7 (by omega) (by omega)
            have w15:IntKind.i64.wrap ((i:Int) - 15)=((i - 15:Nat):Int):=by rw [wrap64 (by omega) (by omega)]; omega
            have w2:IntKind.i64.wrap ((i:Int) - 2)=((i - 2:Nat):Int):=by rw [wrap64 (by omega) (by omega)]; omega
            have w16:IntKind.i64.wrap ((i:Int) - 16)=((i - 16:Nat):Int):=by rw [wrap64 (by omega) (by omega)]; omega
            have w7:IntKind.i64.wrap ((i:Int) - 7)=((i - 7:Nat):Int):=by rw [wrap64 (by omega) (by omega)]; omega
            have l15:(((i - 15:Nat):Int) < (i:Int))=True:=eq_true (by omega)
            have l2:(((i - 2:Nat):Int) < (i:Int))=True:=eq_true (by omega)
            have l16:(((i - 16:Nat):Int) < (i:Int))=True:=eq_true (by omega)
            have l7:(((i - 7:Nat):Int) < (i:Int))=True:=eq_true (by omega)
            have hv:nextW l i=wadd (wadd (wadd (l.getD (i - 16) 0) (sgA (l.getD (i - 15) 0))) (l.getD (i - 7) 0)) (sgB (l.getD (i - 2) 0)):=by unfold nextW; exact next_eq _ _ _ _
            rw [hv] at hss
            clear hget hv
            generalize l.getD (i - 15) 0=x at hss g15
            generalize l.getD (i - 2) 0=y at hss g2
            generalize l.getD (i - 16) 0=p at hss g16
            generalize l.getD (i - 7) 0=q at hss g7
            unfold sgA sgB at hss
            generalize i - 15=i15 at *
            generalize i - 2=i2 at *
            generalize i - 16=i16 at *
            generalize i - 7=i7 at *
            have sx:(x:Int).fdiv (2 ^ min 3 (IntKind.bits .u32))=((wshr x 8:Nat):Int):=sh_fdiv x 3 .u32 (by decide)
            have sy:(y:Int).fdiv (2 ^ min 10 (IntKind.bits .u32))=((wshr y 1024:Nat):Int):=sh_fdiv y 10 .u32 (by decide)
            (repeat (first | (simp -implicitDefEqProofs only [ev,mixed,Nat.reduceLT,Nat.reduceAdd,Nat.reduceMul,reduceIte,Nat.reduceEqDiff,reduceCtorEq,Nat.reducePow,Nat.reduceLeDiff,Int.reduceLE,Int.reduceLT,Int.reduceToNat,Int.reduceEq,Nat.reduceBEq,itsOf,gdA,byteI,opid,lenQ,ixQ,ldH,readAt,readCells,asCell,faQ,exQ,fldQ,partA,buildQ,slQ,stH,bslH,appH,dcells,convI,elemsOf,D.one,nilS,fillD,convN,cvH,tyR1Sum0,g15,g2,g16,w15,w2,w16,l15,l2,l16]) | (with_reducible refine ⟨?_,?_⟩; (· first | (obtain ⟨rfl⟩:=‹Hq _ _›; with_reducible refine chk_ok ?_; kernel_rfl) | kernel_rfl)) | (with_reducible intro ops hops)))
            (first | refine Call_flat [] [] (turn_A x 7 (by decide) (by decide)) (by simp [cvAs,cvA,cvRL,cvR,cvBox,cv1,cvL,cv0,bI,byteI,elemsOf,upd]) rfl ?_ | refine CallF_flat [] [] [] (turn_A x 7 (by decide) (by decide)) (fun G _=>by simp [cvAs,cvA,cvRL,cvR,cvBox,cv1,cvL,cv0,bI,byteI,elemsOf,upd]) rfl ?_)
            (repeat (first | (simp -implicitDefEqProofs only [ev,mixed,Nat.reduceLT,Nat.reduceAdd,Nat.reduceMul,reduceIte,Nat.reduceEqDiff,reduceCtorEq,Nat.reducePow,Nat.reduceLeDiff,Int.reduceLE,Int.reduceLT,Int.reduceToNat,Int.reduceEq,Nat.reduceBEq,itsOf,gdA,byteI,opid,lenQ,ixQ,ldH,readAt,readCells,asCell,faQ,exQ,fldQ,partA,buildQ,slQ,stH,bslH,appH,dcells,convI,elemsOf,D.one,nilS,fillD,convN,cvH,tyR1Sum0]) | (with_reducible refine ⟨?_,?_⟩; (· first | (obtain ⟨rfl⟩:=‹Hq _ _›; with_reducible refine chk_ok ?_; kernel_rfl) | kernel_rfl)) | (with_reducible intro ops hops)))
            (first | refine Call_flat [] [] (turn_A x 18 (by decide) (by decide)) (by simp [cvAs,cvA,cvRL,cvR,cvBox,cv1,cvL,cv0,bI,byteI,elemsOf,upd]) rfl ?_ | refine CallF_flat [] [] [] (turn_A x 18 (by decide) (by decide)) (fun G _=>by simp [cvAs,cvA,cvRL,cvR,cvBox,cv1,cvL,cv0,bI,byteI,elemsOf,upd]) rfl ?_)
            (repeat (first | (simp -implicitDefEqProofs only [ev,mixed,Nat.reduceLT,Nat.reduceAdd,Nat.reduceMul,reduceIte,Nat.reduceEqDiff,reduceCtorEq,Nat.reducePow,Nat.reduceLeDiff,Int.reduceLE,Int.reduceLT,Int.reduceToNat,Int.reduceEq,Nat.reduceBEq,itsOf,gdA,byteI,opid,lenQ,ixQ,ldH,readAt,readCells,asCell,faQ,exQ,fldQ,partA,buildQ,slQ,stH,bslH,appH,dcells,convI,elemsOf,D.one,nilS,fillD,convN,cvH,tyR1Sum0,rx,sx,wad,g7,w7,l7]) | (with_reducible refine ⟨?_,?_⟩; (· first | (obtain ⟨rfl⟩:=‹Hq _ _›; with_reducible refine chk_ok ?_; kernel_rfl) | kernel_rfl)) | (with_reducible intro ops hops)))
            (first | refine Call_flat [] [] (turn_A y 17 (by decide) (by decide)) (by simp [cvAs,cvA,cvRL,cvR,cvBox,cv1,cvL,cv0,bI,byteI,elemsOf,upd]) rfl ?_ | refine CallF_flat [] [] [] (turn_A y 17 (by decide) (by decide)) (fun G _=>by simp [cvAs,cvA,cvRL,cvR,cvBox,cv1,cvL,cv0,bI,byteI,elemsOf,upd]) rfl ?_)
            (repeat (first | (simp -implicitDefEqProofs only [ev,mixed,Nat.reduceLT,Nat.reduceAdd,Nat.reduceMul,reduceIte,Nat.reduceEqDiff,reduceCtorEq,Nat.reducePow,Nat.reduceLeDiff,Int.reduceLE,Int.reduceLT,Int.reduceToNat,Int.reduceEq,Nat.reduceBEq,itsOf,gdA,byteI,opid,lenQ,ixQ,ldH,readAt,readCells,asCell,faQ,exQ,fldQ,partA,buildQ,slQ,stH,bslH,appH,dcells,convI,elemsOf,D.one,nilS,fillD,convN,cvH,tyR1Sum0]) | (with_reducible refine ⟨?_,?_⟩; (· first | (obtain ⟨rfl⟩:=‹Hq _ _›; with_reducible refine chk_ok ?_; kernel_rfl) | kernel_rfl)) | (with_reducible intro ops hops)))
            (first | refine Call_flat [] [] (turn_A y 19 (by decide) (by decide)) (by simp [cvAs,cvA,cvRL,cvR,cvBox,cv1,cvL,cv0,bI,byteI,elemsOf,upd]) rfl ?_ | refine CallF_flat [] [] [] (turn_A y 19 (by decide) (by decide)) (fun G _=>by simp [cvAs,cvA,cvRL,cvR,cvBox,cv1,cvL,cv0,bI,byteI,elemsOf,upd]) rfl ?_)
            (repeat (first | (simp -implicitDefEqProofs only [ev,mixed,Nat.reduceLT,Nat.reduceAdd,Nat.reduceMul,reduceIte,Nat.reduceEqDiff,reduceCtorEq,Nat.reducePow,Nat.reduceLeDiff,Int.reduceLE,Int.reduceLT,Int.reduceToNat,Int.reduceEq,Nat.reduceBEq,itsOf,gdA,byteI,opid,lenQ,ixQ,ldH,readAt,readCells,asCell,faQ,exQ,fldQ,partA,buildQ,slQ,stH,bslH,appH,dcells,convI,elemsOf,D.one,nilS,fillD,convN,cvH,tyR1Sum0,rx,sy,wad,e3,e4,uni_u32,hsl,w9]) | (with_reducible refine ⟨?_,?_⟩; (· first | (obtain ⟨rfl⟩:=‹Hq _ _›; with_reducible refine chk_ok ?_; kernel_rfl) | kernel_rfl)) | (with_reducible intro ops hops)))
            refine ⟨i+1,h2,le_stOf _ _ [] [(101,101),(102,102),(103,103),(104,9991)] ?_ ?_ rfl rfl,by simp; omega⟩
            ·simp [cv,cv1,cv0,upd,lk,srcOf]
            ·simp [objOk,srcOf,lk,cvO,frz,upd,hO,hss,u32I]
          ·have h2:i=64:=by simp at h; omega
           subst h2
           clear h
           have hWl:=sched_length blk 64
           have hblock:blockW v blk=⟨wadd v.a (roundsTo v (sched blk 64) 64).a,wadd v.b (roundsTo v (sched blk 64) 64).b,wadd v.c (roundsTo v (sched blk 64) 64).c,wadd v.d (roundsTo v (sched blk 64) 64).d,wadd v.e (roundsTo v (sched blk 64) 64).e,wadd v.f (roundsTo v (sched blk 64) 64).f,wadd v.g (roundsTo v (sched blk 64) 64).g,wadd v.h (roundsTo v (sched blk 64) 64).h⟩:=rfl
           rw [hblock] at hbs
           clear hblk hblock hi
           generalize sched blk 64=W at hWl hbs ⊢
           (repeat (first | (simp -implicitDefEqProofs only [ev,mixed,Nat.reduceLT,Nat.reduceAdd,Nat.reduceMul,reduceIte,Nat.reduceEqDiff,reduceCtorEq,Nat.reducePow,Nat.reduceLeDiff,Int.reduceLE,Int.reduceLT,Int.reduceToNat,Int.reduceEq,Nat.reduceBEq,itsOf,gdA,byteI,opid,lenQ,ixQ,ldH,readAt,readCells,asCell,faQ,exQ,fldQ,partA,buildQ,slQ,stH,bslH,appH,dcells,convI,elemsOf,D.one,nilS,fillD,convN,cvH,tyR1Sum0,V8.list,u32I]) | (with_reducible refine ⟨?_,?_⟩; (· first | (obtain ⟨rfl⟩:=‹Hq _ _›; with_reducible refine chk_ok ?_; kernel_rfl) | kernel_rfl)) | (with_reducible intro ops hops)))
           refine W_loopI (ι:=Nat) (fun t=>t≤64)
            (fun t=>stOf [(4,.os 101 1 0 64),(5,.os 102 1 0 8),(8,.os 103 1 0 (64 * J)),(11,.i (.s (.int .i64 ((64 * k:Nat):Int)))),(12,.os 104 1 0 64),
             (19,.i (.s (.int .u32 ((roundsTo v W t).a:Nat)))),(20,.i (.s (.int .u32 ((roundsTo v W t).b:Nat)))),(21,.i (.s (.int .u32 ((roundsTo v W t).c:Nat)))),(22,.i (.s (.int .u32 ((roundsTo v W t).d:Nat)))),
             (23,.i (.s (.int .u32 ((roundsTo v W t).e:Nat)))),(24,.i (.s (.int .u32 ((roundsTo v W t).f:Nat)))),(25,.i (.s (.int .u32 ((roundsTo v W t).g:Nat)))),(26,.i (.s (.int .u32 ((roundsTo v W t).h:Nat)))),(27,.i (.s (.int .i64 (t:Nat))))]
             [(101,.arr 1 (KS.map u32I)),(102,.arr 1 (v.list.map u32I)),(103,.arr 1 (M.map byteI)),(104,.arr 1 (W.map u32I))]) (fun t=>64 - t) 0 (Nat.zero_le _) ?_ ?_
           ·refine le_stOf _ _ [] [(101,101),(102,102),(103,103),(104,104)] ?_ ?_ rfl rfl
            ·simp [cv,cv1,cv0,upd,lk,srcOf,roundsTo]
            ·simp [objOk,srcOf,lk,cvO,frz,upd,hO,V8.list,u32I]
           ·intro t ht
            rw [stOf_eq]
            (repeat (first | (simp -implicitDefEqProofs only [ev,mixed,Nat.reduceLT,Nat.reduceAdd,Nat.reduceMul,reduceIte,Nat.reduceEqDiff,reduceCtorEq,Nat.reducePow,Nat.reduceLeDiff,Int.reduceLE,Int.reduceLT,Int.reduceToNat,Int.reduceEq,Nat.reduceBEq,itsOf,gdA,byteI,opid,lenQ,ixQ,ldH,readAt,readCells,asCell,faQ,exQ,fldQ,partA,buildQ,slQ,stH,bslH,appH,dcells,convI,elemsOf,D.one,nilS,fillD,convN,cvH,tyR1Sum0]) | (with_reducible refine ⟨?_,?_⟩; (· first | (obtain ⟨rfl⟩:=‹Hq _ _›; with_reducible refine chk_ok ?_; kernel_rfl) | kernel_rfl)) | (with_reducible intro ops hops)))
            refine Wc_split (fun h=>?_) (fun h=>?_)
            ·have h2:t < 64:=by simp at h; omega
             clear h
             have hs:roundsTo v W (t+1)=roundW (roundsTo v W t) (KS.getD t 0) (W.getD t 0):=rfl
             rw [round_eq] at hs
             have hKl:KS.length=64:=rfl
             have gK:(KS.map u32I)[t]?=some [.s (.int .u32 ((KS.getD t 0:Nat):Int))]:=by simp [show t < KS.length by omega,u32I]
             have gW:(W.map u32I)[t]?=some [.s (.int .u32 ((W.getD t 0:Nat):Int))]:=by simp [show t < W.length by omega,u32I]
             have l1:((t:Int) < 64)=True:=eq_true (by omega)
             have w1:IntKind.i64.wrap ((t:Int)+1)=((t+1:Nat):Int):=by rw [wrap64 (by omega) (by omega)]; omega
             generalize roundsTo v W t=u at hs
             generalize KS.getD t 0=Kt at hs gK
             generalize W.getD t 0=Wt at hs gW
             generalize hKK:KS.map u32I=KK at gK
             obtain ⟨a,b',c,d,e,f,g,h'⟩:=u
             simp only at hs
             (repeat (first | (simp -implicitDefEqProofs only [ev,mixed,Nat.reduceLT,Nat.reduceAdd,Nat.reduceMul,reduceIte,Nat.reduceEqDiff,reduceCtorEq,Nat.reducePow,Nat.reduceLeDiff,Int.reduceLE,Int.reduceLT,Int.reduceToNat,Int.reduceEq,Nat.reduceBEq,itsOf,gdA,byteI,opid,lenQ,ixQ,ldH,readAt,readCells,asCell,faQ,exQ,fldQ,partA,buildQ,slQ,stH,bslH,appH,dcells,convI,elemsOf,D.one,nilS,fillD,convN,cvH,tyR1Sum0,bq_andNot,ran,ra,ro]) | (with_reducible refine ⟨?_,?_⟩; (· first | (obtain ⟨rfl⟩:=‹Hq _ _›; with_reducible refine chk_ok ?_; kernel_rfl) | kernel_rfl)) | (with_reducible intro ops hops)))
             (first | refine Call_flat [] [] (turn_A e 6 (by decide) (by decide)) (by simp [cvAs,cvA,cvRL,cvR,cvBox,cv1,cvL,cv0,bI,byteI,elemsOf,upd]) rfl ?_ | refine CallF_flat [] [] [] (turn_A e 6 (by decide) (by decide)) (fun G _=>by simp [cvAs,cvA,cvRL,cvR,cvBox,cv1,cvL,cv0,bI,byteI,elemsOf,upd]) rfl ?_)
             (repeat (first | (simp -implicitDefEqProofs only [ev,mixed,Nat.reduceLT,Nat.reduceAdd,Nat.reduceMul,reduceIte,Nat.reduceEqDiff,reduceCtorEq,Nat.reducePow,Nat.reduceLeDiff,Int.reduceLE,Int.reduceLT,Int.reduceToNat,Int.reduceEq,Nat.reduceBEq,itsOf,gdA,byteI,opid,lenQ,ixQ,ldH,readAt,readCells,asCell,faQ,exQ,fldQ,partA,buildQ,slQ,stH,bslH,appH,dcells,convI,elemsOf,D.one,nilS,fillD,convN,cvH,tyR1Sum0]) | (with_reducible refine ⟨?_,?_⟩; (· first | (obtain ⟨rfl⟩:=‹Hq _ _›; with_reducible refine chk_ok ?_; kernel_rfl) | kernel_rfl)) | (with_reducible intro ops hops)))
             (first | refine Call_flat [] [] (turn_A e 11 (by decide) (by decide)) (by simp [cvAs,cvA,cvRL,cvR,cvBox,cv1,cvL,cv0,bI,byteI,elemsOf,upd]) rfl ?_ | refine CallF_flat [] [] [] (turn_A e 11 (by decide) (by decide)) (fun G _=>by simp [cvAs,cvA,cvRL,cvR,cvBox,cv1,cvL,cv0,bI,byteI,elemsOf,upd]) rfl ?_)
             (repeat (first | (simp -implicitDefEqProofs only [ev,mixed,Nat.reduceLT,Nat.reduceAdd,Nat.reduceMul,reduceIte,Nat.reduceEqDiff,reduceCtorEq,Nat.reducePow,Nat.reduceLeDiff,Int.reduceLE,Int.reduceLT,Int.reduceToNat,Int.reduceEq,Nat.reduceBEq,itsOf,gdA,byteI,opid,lenQ,ixQ,ldH,readAt,readCells,asCell,faQ,exQ,fldQ,partA,buildQ,slQ,stH,bslH,appH,dcells,convI,elemsOf,D.one,nilS,fillD,convN,cvH,tyR1Sum0,rx]) | (with_reducible refine ⟨?_,?_⟩; (· first | (obtain ⟨rfl⟩:=‹Hq _ _›; with_reducible refine chk_ok ?_; kernel_rfl) | kernel_rfl)) | (with_reducible intro ops hops)))
             (first | refine Call_flat [] [] (turn_A e 25 (by decide) (by decide)) (by simp [cvAs,cvA,cvRL,cvR,cvBox,cv1,cvL,cv0,bI,byteI,elemsOf,upd]) rfl ?_ | refine CallF_flat [] [] [] (turn_A e 25 (by decide) (by decide)) (fun G _=>by simp [cvAs,cvA,cvRL,cvR,cvBox,cv1,cvL,cv0,bI,byteI,elemsOf,upd]) rfl ?_)
             (repeat (first | (simp -implicitDefEqProofs only [ev,mixed,Nat.reduceLT,Nat.reduceAdd,Nat.reduceMul,reduceIte,Nat.reduceEqDiff,reduceCtorEq,Nat.reducePow,Nat.reduceLeDiff,Int.reduceLE,Int.reduceLT,Int.reduceToNat,Int.reduceEq,Nat.reduceBEq,itsOf,gdA,byteI,opid,lenQ,ixQ,ldH,readAt,readCells,asCell,faQ,exQ,fldQ,partA,buildQ,slQ,stH,bslH,appH,dcells,convI,elemsOf,D.one,nilS,fillD,convN,cvH,tyR1Sum0,rx,wad,gK,gW,l1]) | (with_reducible refine ⟨?_,?_⟩; (· first | (obtain ⟨rfl⟩:=‹Hq _ _›; with_reducible refine chk_ok ?_; kernel_rfl) | kernel_rfl)) | (with_reducible intro ops hops)))
             (first | refine Call_flat [] [] (turn_A a 2 (by decide) (by decide)) (by simp [cvAs,cvA,cvRL,cvR,cvBox,cv1,cvL,cv0,bI,byteI,elemsOf,upd]) rfl ?_ | refine CallF_flat [] [] [] (turn_A a 2 (by decide) (by decide)) (fun G _=>by simp [cvAs,cvA,cvRL,cvR,cvBox,cv1,cvL,cv0,bI,byteI,elemsOf,upd]) rfl ?_)
             (repeat (first | (simp -implicitDefEqProofs only [ev,mixed,Nat.reduceLT,Nat.reduceAdd,Nat.reduceMul,reduceIte,Nat.reduceEqDiff,reduceCtorEq,Nat.reducePow,Nat.reduceLeDiff,Int.reduceLE,Int.reduceLT,Int.reduceToNat,Int.reduceEq,Nat.reduceBEq,itsOf,gdA,byteI,opid,lenQ,ixQ,ldH,readAt,readCells,asCell,faQ,exQ,fldQ,partA,buildQ,slQ,stH,bslH,appH,dcells,convI,elemsOf,D.one,nilS,fillD,convN,cvH,tyR1Sum0]) | (with_reducible refine ⟨?_,?_⟩; (· first | (obtain ⟨rfl⟩:=‹Hq _ _›; with_reducible refine chk_ok ?_; kernel_rfl) | kernel_rfl)) | (with_reducible intro ops hops)))
             (first | refine Call_flat [] [] (turn_A a 13 (by decide) (by decide)) (by simp [cvAs,cvA,cvRL,cvR,cvBox,cv1,cvL,cv0,bI,byteI,elemsOf,upd]) rfl ?_ | refine CallF_flat [] [] [] (turn_A a 13 (by decide) (by decide)) (fun G _=>by simp [cvAs,cvA,cvRL,cvR,cvBox,cv1,cvL,cv0,bI,byteI,elemsOf,upd]) rfl ?_)
             (repeat (first | (simp -implicitDefEqProofs only [ev,mixed,Nat.reduceLT,Nat.reduceAdd,Nat.reduceMul,reduceIte,Nat.reduceEqDiff,reduceCtorEq,Nat.reducePow,Nat.reduceLeDiff,Int.reduceLE,Int.reduceLT,Int.reduceToNat,Int.reduceEq,Nat.reduceBEq,itsOf,gdA,byteI,opid,lenQ,ixQ,ldH,readAt,readCells,asCell,faQ,exQ,fldQ,partA,buildQ,slQ,stH,bslH,appH,dcells,convI,elemsOf,D.one,nilS,fillD,convN,cvH,tyR1Sum0,rx]) | (with_reducible refine ⟨?_,?_⟩; (· first | (obtain ⟨rfl⟩:=‹Hq _ _›; with_reducible refine chk_ok ?_; kernel_rfl) | kernel_rfl)) | (with_reducible intro ops hops)))
             (first | refine Call_flat [] [] (turn_A a 22 (by decide) (by decide)) (by simp [cvAs,cvA,cvRL,cvR,cvBox,cv1,cvL,cv0,bI,byteI,elemsOf,upd]) rfl ?_ | refine CallF_flat [] [] [] (turn_A a 22 (by decide) (by decide)) (fun G _=>by simp [cvAs,cvA,cvRL,cvR,cvBox,cv1,cvL,cv0,bI,byteI,elemsOf,upd]) rfl ?_)
             (repeat (first | (simp -implicitDefEqProofs only [ev,mixed,Nat.reduceLT,Nat.reduceAdd,Nat.reduceMul,reduceIte,Nat.reduceEqDiff,reduceCtorEq,Nat.reducePow,Nat.reduceLeDiff,Int.reduceLE,Int.reduceLT,Int.reduceToNat,Int.reduceEq,Nat.reduceBEq,itsOf,gdA,byteI,opid,lenQ,ixQ,ldH,readAt,readCells,asCell,faQ,exQ,fldQ,partA,buildQ,slQ,stH,bslH,appH,dcells,convI,elemsOf,D.one,nilS,fillD,convN,cvH,tyR1Sum0,rx,wad,w1]) | (with_reducible refine ⟨?_,?_⟩; (· first | (obtain ⟨rfl⟩:=‹Hq _ _›; with_reducible refine chk_ok ?_; kernel_rfl) | kernel_rfl)) | (with_reducible intro ops hops)))
             refine ⟨t+1,h2,le_stOf _ _ [] [(101,101),(102,102),(103,103),(104,104)] ?_ ?_ rfl rfl,by simp; omega⟩
             ·simp [cv,cv1,cv0,upd,lk,srcOf,hs]
             ·simp [objOk,srcOf,lk,cvO,frz,upd,hO,hKK]
            ·have h2:t=64:=by simp at h; omega
             subst h2
             clear h ht
             generalize roundsTo v W 64=u at hbs ⊢
             (repeat (first | (simp -implicitDefEqProofs only [ev,mixed,Nat.reduceLT,Nat.reduceAdd,Nat.reduceMul,reduceIte,Nat.reduceEqDiff,reduceCtorEq,Nat.reducePow,Nat.reduceLeDiff,Int.reduceLE,Int.reduceLT,Int.reduceToNat,Int.reduceEq,Nat.reduceBEq,itsOf,gdA,byteI,opid,lenQ,ixQ,ldH,readAt,readCells,asCell,faQ,exQ,fldQ,partA,buildQ,slQ,stH,bslH,appH,dcells,convI,elemsOf,D.one,nilS,fillD,convN,cvH,tyR1Sum0,u32I]) | (with_reducible refine ⟨?_,?_⟩; (· first | (obtain ⟨rfl⟩:=‹Hq _ _›; with_reducible refine chk_ok ?_; kernel_rfl) | kernel_rfl)) | (with_reducible intro ops hops)))
             refine W_loopI (ι:=Nat) (fun q=>q≤8)
              (fun q=>stOf [(4,.os 101 1 0 64),(5,.os 102 1 0 8),(8,.os 103 1 0 (64 * J)),(11,.i (.s (.int .i64 ((64 * k:Nat):Int)))),(265,.os 105 1 0 8),(266,.i (.s (.int .i64 8))),(267,.i (.s (.int .i64 (q:Nat))))]
               [(101,.arr 1 (KS.map u32I)),(102,.arr 1 ((hmix v u q).map u32I)),(103,.arr 1 (M.map byteI)),(105,.arr 1 (u.list.map u32I))]) (fun q=>8 - q) 0 (Nat.zero_le _) ?_ ?_
             ·refine le_stOf _ _ [] [(101,101),(102,102),(103,103),(105,13552)] ?_ ?_ rfl rfl
              ·simp [cv,cv1,cv0,upd,lk,srcOf]
              ·simp [objOk,srcOf,lk,cvO,frz,upd,hO,V8.list,u32I,hmix]
             ·intro q hq
              rw [stOf_eq]
              have hc:q=0∨q=1∨q=2∨q=3∨q=4∨q=5∨q=6∨q=7∨q=8:=by omega
              generalize hKK:KS.map u32I=KK
              by_cases h8:q=8
              ·subst h8
               have w1:IntKind.i64.wrap (((64 * k:Nat):Int)+64)=((64 * (k+1):Nat):Int):=by rw [wrap64 (by omega) (by omega)]; omega
               (repeat (first | (simp -implicitDefEqProofs only [ev,mixed,Nat.reduceLT,Nat.reduceAdd,Nat.reduceMul,reduceIte,Nat.reduceEqDiff,reduceCtorEq,Nat.reducePow,Nat.reduceLeDiff,Int.reduceLE,Int.reduceLT,Int.reduceToNat,Int.reduceEq,Nat.reduceBEq,itsOf,gdA,byteI,opid,lenQ,ixQ,ldH,readAt,readCells,asCell,faQ,exQ,fldQ,partA,buildQ,slQ,stH,bslH,appH,dcells,convI,elemsOf,D.one,nilS,fillD,convN,cvH,tyR1Sum0,w1]) | (with_reducible refine ⟨?_,?_⟩; (· first | (obtain ⟨rfl⟩:=‹Hq _ _›; with_reducible refine chk_ok ?_; kernel_rfl) | kernel_rfl)) | (with_reducible intro ops hops)))
               refine ⟨k+1,h1,le_stOf _ _ [] [(101,101),(102,102),(103,103)] ?_ ?_ rfl rfl,by simp; omega⟩
               ·simp [cv,cv1,cv0,upd,lk,srcOf]
               ·simp [objOk,srcOf,lk,cvO,frz,upd,hO,hbs,hmix,V8.list,hKK,u32I]
              ·rcases hc with rfl | rfl | rfl | rfl | rfl | rfl | rfl | rfl | rfl
               ·(repeat (first | (simp -implicitDefEqProofs only [ev,mixed,Nat.reduceLT,Nat.reduceAdd,Nat.reduceMul,reduceIte,Nat.reduceEqDiff,reduceCtorEq,Nat.reducePow,Nat.reduceLeDiff,Int.reduceLE,Int.reduceLT,Int.reduceToNat,Int.reduceEq,Nat.reduceBEq,itsOf,gdA,byteI,opid,lenQ,ixQ,ldH,readAt,readCells,asCell,faQ,exQ,fldQ,partA,buildQ,slQ,stH,bslH,appH,dcells,convI,elemsOf,D.one,nilS,fillD,convN,cvH,tyR1Sum0,hmix,V8.list,u32I,wad,List.set_cons_zero,List.set_cons_succ,wq0]) | (with_reducible refine ⟨?_,?_⟩; (· first | (obtain ⟨rfl⟩:=‹Hq _ _›; with_reducible refine chk_ok ?_; kernel_rfl) | kernel_rfl)) | (with_reducible intro ops hops)))
                refine ⟨1,by decide,le_stOf _ _ [] [(101,101),(102,102),(103,103),(105,105)] ?_ ?_ rfl rfl,by decide⟩
                ·simp [cv,cv1,cv0,upd,lk,srcOf]
                ·simp [objOk,srcOf,lk,cvO,frz,upd,hO,hmix,V8.list,hKK,u32I]
               ·(repeat (first | (simp -implicitDefEqProofs only [ev,mixed,Nat.reduceLT,Nat.reduceAdd,Nat.reduceMul,reduceIte,Nat.reduceEqDiff,reduceCtorEq,Nat.reducePow,Nat.reduceLeDiff,Int.reduceLE,Int.reduceLT,Int.reduceToNat,Int.reduceEq,Nat.reduceBEq,itsOf,gdA,byteI,opid,lenQ,ixQ,ldH,readAt,readCells,asCell,faQ,exQ,fldQ,partA,buildQ,slQ,stH,bslH,appH,dcells,convI,elemsOf,D.one,nilS,fillD,convN,cvH,tyR1Sum0,hmix,V8.list,u32I,wad,List.set_cons_zero,List.set_cons_succ,wq1]) | (with_reducible refine ⟨?_,?_⟩; (· first | (obtain ⟨rfl⟩:=‹Hq _ _›; with_reducible refine chk_ok ?_; kernel_rfl) | kernel_rfl)) | (with_reducible intro ops hops)))
                refine ⟨2,by decide,le_stOf _ _ [] [(101,101),(102,102),(103,103),(105,105)] ?_ ?_ rfl rfl,by decide⟩
                ·simp [cv,cv1,cv0,upd,lk,srcOf]
                ·simp [objOk,srcOf,lk,cvO,frz,upd,hO,hmix,V8.list,hKK,u32I]
               ·(repeat (first | (simp -implicitDefEqProofs only [ev,mixed,Nat.reduceLT,Nat.reduceAdd,Nat.reduceMul,reduceIte,Nat.reduceEqDiff,reduceCtorEq,Nat.reducePow,Nat.reduceLeDiff,Int.reduceLE,Int.reduceLT,Int.reduceToNat,Int.reduceEq,Nat.reduceBEq,itsOf,gdA,byteI,opid,lenQ,ixQ,ldH,readAt,readCells,asCell,faQ,exQ,fldQ,partA,buildQ,slQ,stH,bslH,appH,dcells,convI,elemsOf,D.one,nilS,fillD,convN,cvH,tyR1Sum0,hmix,V8.list,u32I,wad,List.set_cons_zero,List.set_cons_succ,wq2]) | (with_reducible refine ⟨?_,?_⟩; (· first | (obtain ⟨rfl⟩:=‹Hq _ _›; with_reducible refine chk_ok ?_; kernel_rfl) | kernel_rfl)) | (with_reducible intro ops hops)))
                refine ⟨3,by decide,le_stOf _ _ [] [(101,101),(102,102),(103,103),(105,105)] ?_ ?_ rfl rfl,by decide⟩
                ·simp [cv,cv1,cv0,upd,lk,srcOf]
                ·simp [objOk,srcOf,lk,cvO,frz,upd,hO,hmix,V8.list,hKK,u32I]
               ·(repeat (first | (simp -implicitDefEqProofs only [ev,mixed,Nat.reduceLT,Nat.reduceAdd,Nat.reduceMul,reduceIte,Nat.reduceEqDiff,reduceCtorEq,Nat.reducePow,Nat.reduceLeDiff,Int.reduceLE,Int.reduceLT,Int.reduceToNat,Int.reduceEq,Nat.reduceBEq,itsOf,gdA,byteI,opid,lenQ,ixQ,ldH,readAt,readCells,asCell,faQ,exQ,fldQ,partA,buildQ,slQ,stH,bslH,appH,dcells,convI,elemsOf,D.one,nilS,fillD,convN,cvH,tyR1Sum0,hmix,V8.list,u32I,wad,List.set_cons_zero,List.set_cons_succ,wq3]) | (with_reducible refine ⟨?_,?_⟩; (· first | (obtain ⟨rfl⟩:=‹Hq _ _›; with_reducible refine chk_ok ?_; kernel_rfl) | kernel_rfl)) | (with_reducible intro ops hops)))
                refine ⟨4,by decide,le_stOf _ _ [] [(101,101),(102,102),(103,103),(105,105)] ?_ ?_ rfl rfl,by decide⟩
                ·simp [cv,cv1,cv0,upd,lk,srcOf]
                ·simp [objOk,srcOf,lk,cvO,frz,upd,hO,hmix,V8.list,hKK,u32I]
               ·(repeat (first | (simp -implicitDefEqProofs only [ev,mixed,Nat.reduceLT,Nat.reduceAdd,Nat.reduceMul,reduceIte,Nat.reduceEqDiff,reduceCtorEq,Nat.reducePow,Nat.reduceLeDiff,Int.reduceLE,Int.reduceLT,Int.reduceToNat,Int.reduceEq,Nat.reduceBEq,itsOf,gdA,byteI,opid,lenQ,ixQ,ldH,readAt,readCells,asCell,faQ,exQ,fldQ,partA,buildQ,slQ,stH,bslH,appH,dcells,convI,elemsOf,D.one,nilS,fillD,convN,cvH,tyR1Sum0,hmix,V8.list,u32I,wad,List.set_cons_zero,List.set_cons_succ,wq4]) | (with_reducible refine ⟨?_,?_⟩; (· first | (obtain ⟨rfl⟩:=‹Hq _ _›; with_reducible refine chk_ok ?_; kernel_rfl) | kernel_rfl)) | (with_reducible intro ops hops)))
                refine ⟨5,by decide,le_stOf _ _ [] [(101,101),(102,102),(103,103),(105,105)] ?_ ?_ rfl rfl,by decide⟩
                ·simp [cv,cv1,cv0,upd,lk,srcOf]
                ·simp [objOk,srcOf,lk,cvO,frz,upd,hO,hmix,V8.list,hKK,u32I]
               ·(repeat (first | (simp -implicitDefEqProofs only [ev,mixed,Nat.reduceLT,Nat.reduceAdd,Nat.reduceMul,reduceIte,Nat.reduceEqDiff,reduceCtorEq,Nat.reducePow,Nat.reduceLeDiff,Int.reduceLE,Int.reduceLT,Int.reduceToNat,Int.reduceEq,Nat.reduceBEq,itsOf,gdA,byteI,opid,lenQ,ixQ,ldH,readAt,readCells,asCell,faQ,exQ,fldQ,partA,buildQ,slQ,stH,bslH,appH,dcells,convI,elemsOf,D.one,nilS,fillD,convN,cvH,tyR1Sum0,hmix,V8.list,u32I,wad,List.set_cons_zero,List.set_cons_succ,wq5]) | (with_reducible refine ⟨?_,?_⟩; (· first | (obtain ⟨rfl⟩:=‹Hq _ _›; with_reducible refine chk_ok ?_; kernel_rfl) | kernel_rfl)) | (with_reducible intro ops hops)))
                refine ⟨6,by decide,le_stOf _ _ [] [(101,101),(102,102),(103,103),(105,105)] ?_ ?_ rfl rfl,by decide⟩
                ·simp [cv,cv1,cv0,upd,lk,srcOf]
                ·simp [objOk,srcOf,lk,cvO,frz,upd,hO,hmix,V8.list,hKK,u32I]
               ·(repeat (first | (simp -implicitDefEqProofs only [ev,mixed,Nat.reduceLT,Nat.reduceAdd,Nat.reduceMul,reduceIte,Nat.reduceEqDiff,reduceCtorEq,Nat.reducePow,Nat.reduceLeDiff,Int.reduceLE,Int.reduceLT,Int.reduceToNat,Int.reduceEq,Nat.reduceBEq,itsOf,gdA,byteI,opid,lenQ,ixQ,ldH,readAt,readCells,asCell,faQ,exQ,fldQ,partA,buildQ,slQ,stH,bslH,appH,dcells,convI,elemsOf,D.one,nilS,fillD,convN,cvH,tyR1Sum0,hmix,V8.list,u32I,wad,List.set_cons_zero,List.set_cons_succ,wq6]) | (with_reducible refine ⟨?_,?_⟩; (· first | (obtain ⟨rfl⟩:=‹Hq _ _›; with_reducible refine chk_ok ?_; kernel_rfl) | kernel_rfl)) | (with_reducible intro ops hops)))
                refine ⟨7,by decide,le_stOf _ _ [] [(101,101),(102,102),(103,103),(105,105)] ?_ ?_ rfl rfl,by decide⟩
                ·simp [cv,cv1,cv0,upd,lk,srcOf]
                ·simp [objOk,srcOf,lk,cvO,frz,upd,hO,hmix,V8.list,hKK,u32I]
               ·(repeat (first | (simp -implicitDefEqProofs only [ev,mixed,Nat.reduceLT,Nat.reduceAdd,Nat.reduceMul,reduceIte,Nat.reduceEqDiff,reduceCtorEq,Nat.reducePow,Nat.reduceLeDiff,Int.reduceLE,Int.reduceLT,Int.reduceToNat,Int.reduceEq,Nat.reduceBEq,itsOf,gdA,byteI,opid,lenQ,ixQ,ldH,readAt,readCells,asCell,faQ,exQ,fldQ,partA,buildQ,slQ,stH,bslH,appH,dcells,convI,elemsOf,D.one,nilS,fillD,convN,cvH,tyR1Sum0,hmix,V8.list,u32I,wad,List.set_cons_zero,List.set_cons_succ,wq7]) | (with_reducible refine ⟨?_,?_⟩; (· first | (obtain ⟨rfl⟩:=‹Hq _ _›; with_reducible refine chk_ok ?_; kernel_rfl) | kernel_rfl)) | (with_reducible intro ops hops)))
                refine ⟨8,by decide,le_stOf _ _ [] [(101,101),(102,102),(103,103),(105,105)] ?_ ?_ rfl rfl,by decide⟩
                ·simp [cv,cv1,cv0,upd,lk,srcOf]
                ·simp [objOk,srcOf,lk,cvO,frz,upd,hO,hmix,V8.list,hKK,u32I]
               ·exact absurd rfl h8
        ·have h1:k=J:=by simp at h; omega
         subst h1
         clear h
         generalize blocksW V0 k M=v
         (repeat (first | (simp -implicitDefEqProofs only [ev,mixed,Nat.reduceLT,Nat.reduceAdd,Nat.reduceMul,reduceIte,Nat.reduceEqDiff,reduceCtorEq,Nat.reducePow,Nat.reduceLeDiff,Int.reduceLE,Int.reduceLT,Int.reduceToNat,Int.reduceEq,Nat.reduceBEq,itsOf,gdA,byteI,opid,lenQ,ixQ,ldH,readAt,readCells,asCell,faQ,exQ,fldQ,partA,buildQ,slQ,stH,bslH,appH,dcells,convI,elemsOf,D.one,nilS,fillD,convN,cvH,tyR1Sum0]) | (with_reducible refine ⟨?_,?_⟩; (· first | (obtain ⟨rfl⟩:=‹Hq _ _›; with_reducible refine chk_ok ?_; kernel_rfl) | kernel_rfl)) | (with_reducible intro ops hops)))
         clear hM hJ hk
         refine W_loopI (ι:=Nat) (fun q=>q≤8)
          (fun q=>stOf [(34,.os 106 1 0 (4 * q)),(282,.os 102 1 0 8),(283,.i (.s (.int .i64 8))),(284,.i (.s (.int .i64 (q:Nat))))]
           [(102,.arr 1 (v.list.map u32I)),(106,.arr 1 ((obytes v q).map byteI))]) (fun q=>8 - q) 0 (Nat.zero_le _) ?_ ?_
         ·refine le_stOf _ _ [] [(102,102)] ?_ ?_ rfl rfl
          ·simp [cv,cv1,cv0,upd,lk,srcOf]
          ·simp [objOk,srcOf,lk,cvO,frz,upd,hO,obytes]
         ·intro q hq
          rw [stOf_eq]
          (repeat (first | (simp -implicitDefEqProofs only [ev,mixed,Nat.reduceLT,Nat.reduceAdd,Nat.reduceMul,reduceIte,Nat.reduceEqDiff,reduceCtorEq,Nat.reducePow,Nat.reduceLeDiff,Int.reduceLE,Int.reduceLT,Int.reduceToNat,Int.reduceEq,Nat.reduceBEq,itsOf,gdA,byteI,opid,lenQ,ixQ,ldH,readAt,readCells,asCell,faQ,exQ,fldQ,partA,buildQ,slQ,stH,bslH,appH,dcells,convI,elemsOf,D.one,nilS,fillD,convN,cvH,tyR1Sum0]) | (with_reducible refine ⟨?_,?_⟩; (· first | (obtain ⟨rfl⟩:=‹Hq _ _›; with_reducible refine chk_ok ?_; kernel_rfl) | kernel_rfl)) | (with_reducible intro ops hops)))
          refine Wc_split (fun h=>?_) (fun h=>?_)
          ·have h2:q < 8:=by simp at h; omega
           clear h
           have hol:=obytes_len v q hq
           have hos:=obytes_succ v q h2
           have hvl:v.list.length=8:=rfl
           have gq:(v.list.map u32I)[q]?=some [.s (.int .u32 ((v.list.getD q 0:Nat):Int))]:=by simp [show q < v.list.length by omega,u32I]
           have l1:((q:Int) < 8)=True:=eq_true (by omega)
           generalize v.list.getD q 0=x at hos gq
           generalize obytes v q=ob at hol hos
           generalize hVL:v.list.map u32I=VL at gq
           (repeat (first | (simp -implicitDefEqProofs only [ev,mixed,Nat.reduceLT,Nat.reduceAdd,Nat.reduceMul,reduceIte,Nat.reduceEqDiff,reduceCtorEq,Nat.reducePow,Nat.reduceLeDiff,Int.reduceLE,Int.reduceLT,Int.reduceToNat,Int.reduceEq,Nat.reduceBEq,itsOf,gdA,byteI,opid,lenQ,ixQ,ldH,readAt,readCells,asCell,faQ,exQ,fldQ,partA,buildQ,slQ,stH,bslH,appH,dcells,convI,elemsOf,D.one,nilS,fillD,convN,cvH,tyR1Sum0,gq,l1]) | (with_reducible refine ⟨?_,?_⟩; (· first | (obtain ⟨rfl⟩:=‹Hq _ _›; with_reducible refine chk_ok ?_; kernel_rfl) | kernel_rfl)) | (with_reducible intro ops hops)))
           refine W_loopI (ι:=Nat) (fun t=>t≤4)
            (fun t=>stOf [(34,.os 106 1 0 (4 * q+t)),(36,.i (.s (.int .u32 (x:Nat)))),(37,.i (.s (.int .i64 (3 - (t:Int))))),(282,.os 102 1 0 8),(283,.i (.s (.int .i64 8))),(284,.i (.s (.int .i64 (q:Nat))))]
             [(102,.arr 1 VL),(106,.arr 1 ((ob++(be32 x).take t).map byteI))]) (fun t=>4 - t) 0 (Nat.zero_le _) ?_ ?_
           ·refine le_stOf _ _ [] [(102,102),(106,106)] ?_ ?_ rfl rfl
            ·simp [cv,cv1,cv0,upd,lk,srcOf]
            ·simp [objOk,srcOf,lk,cvO,frz,upd,hO]
           ·intro t ht
            rw [stOf_eq]
            (repeat (first | (simp -implicitDefEqProofs only [ev,mixed,Nat.reduceLT,Nat.reduceAdd,Nat.reduceMul,reduceIte,Nat.reduceEqDiff,reduceCtorEq,Nat.reducePow,Nat.reduceLeDiff,Int.reduceLE,Int.reduceLT,Int.reduceToNat,Int.reduceEq,Nat.reduceBEq,itsOf,gdA,byteI,opid,lenQ,ixQ,ldH,readAt,readCells,asCell,faQ,exQ,fldQ,partA,buildQ,slQ,stH,bslH,appH,dcells,convI,elemsOf,D.one,nilS,fillD,convN,cvH,tyR1Sum0]) | (with_reducible refine ⟨?_,?_⟩; (· first | (obtain ⟨rfl⟩:=‹Hq _ _›; with_reducible refine chk_ok ?_; kernel_rfl) | kernel_rfl)) | (with_reducible intro ops hops)))
            refine Wc_split (fun h=>?_) (fun h=>?_)
            ·have h1:t < 4:=by simp at h; omega
             clear h
             have hts:=take_snoc' (be32_get x t h1)
             have e7:(3:Int) - (t:Int)=((3 - t:Nat):Int):=by omega
             have w3:IntKind.i64.wrap (8 * ((3 - t:Nat):Int))=((8 * (3 - t):Nat):Int):=by rw [wrap64 (by omega) (by omega)]; omega
             have w4:=byte_shift (k:=.u32) x (3 - t) (by simp [IntKind.bits]; omega)
             have w5:IntKind.i64.wrap (((3 - t:Nat):Int) - 1)=3 - ((t+1:Nat):Int):=by rw [wrap64 (by omega) (by omega)]; omega
             have hl8:(be32 x).length=4:=rfl
             have e3:4 * q+t+1≤140737488355328:=by omega
             have e8:ob.length+min t (be32 x).length=4 * q+t:=by rw [hl8]; omega
             generalize byteOf x (256 ^ (3 - t))=c at hts w4
             generalize 3 - t=d at e7 w3 w4 w5
             generalize be32 x=B4 at hts e8 hl8
             (repeat (first | (simp -implicitDefEqProofs only [ev,mixed,Nat.reduceLT,Nat.reduceAdd,Nat.reduceMul,reduceIte,Nat.reduceEqDiff,reduceCtorEq,Nat.reducePow,Nat.reduceLeDiff,Int.reduceLE,Int.reduceLT,Int.reduceToNat,Int.reduceEq,Nat.reduceBEq,itsOf,gdA,byteI,opid,lenQ,ixQ,ldH,readAt,readCells,asCell,faQ,exQ,fldQ,partA,buildQ,slQ,stH,bslH,appH,dcells,convI,elemsOf,D.one,nilS,fillD,convN,cvH,tyR1Sum0,e7,w3,w4,w5,e3,e8,uni_byteI,List.length_take]) | (with_reducible refine ⟨?_,?_⟩; (· first | (obtain ⟨rfl⟩:=‹Hq _ _›; with_reducible refine chk_ok ?_; kernel_rfl) | kernel_rfl)) | (with_reducible intro ops hops)))
             refine ⟨t+1,h1,le_stOf _ _ [] [(102,102),(106,16623)] ?_ ?_ rfl rfl,by simp; omega⟩
             ·simp [cv,cv1,cv0,upd,lk,srcOf]; omega
             ·simp [objOk,srcOf,lk,cvO,frz,upd,hO,byteI,hts]
            ·have h1:t=4:=by simp at h; omega
             subst h1
             have w1:IntKind.i64.wrap ((q:Int)+1)=((q+1:Nat):Int):=by rw [wrap64 (by omega) (by omega)]; omega
             rw [show (be32 x).take 4=be32 x from rfl,← hos]
             (repeat (first | (simp -implicitDefEqProofs only [ev,mixed,Nat.reduceLT,Nat.reduceAdd,Nat.reduceMul,reduceIte,Nat.reduceEqDiff,reduceCtorEq,Nat.reducePow,Nat.reduceLeDiff,Int.reduceLE,Int.reduceLT,Int.reduceToNat,Int.reduceEq,Nat.reduceBEq,itsOf,gdA,byteI,opid,lenQ,ixQ,ldH,readAt,readCells,asCell,faQ,exQ,fldQ,partA,buildQ,slQ,stH,bslH,appH,dcells,convI,elemsOf,D.one,nilS,fillD,convN,cvH,tyR1Sum0,w1]) | (with_reducible refine ⟨?_,?_⟩; (· first | (obtain ⟨rfl⟩:=‹Hq _ _›; with_reducible refine chk_ok ?_; kernel_rfl) | kernel_rfl)) | (with_reducible intro ops hops)))
             refine ⟨q+1,h2,le_stOf _ _ [] [(102,102),(106,106)] ?_ ?_ rfl rfl,by simp; omega⟩
             ·simp [cv,cv1,cv0,upd,lk,srcOf]; omega
             ·simp [objOk,srcOf,lk,cvO,frz,upd,hO,hVL]
          ·have h2:q=8:=by simp at h; omega
           subst h2
           have hol:=obytes_len v 8 (Nat.le_refl _)
           rw [← obytes_all]
           generalize obytes v 8=ob at hol
           (repeat (first | (simp -implicitDefEqProofs only [ev,mixed,Nat.reduceLT,Nat.reduceAdd,Nat.reduceMul,reduceIte,Nat.reduceEqDiff,reduceCtorEq,Nat.reducePow,Nat.reduceLeDiff,Int.reduceLE,Int.reduceLT,Int.reduceToNat,Int.reduceEq,Nat.reduceBEq,itsOf,gdA,byteI,opid,lenQ,ixQ,ldH,readAt,readCells,asCell,faQ,exQ,fldQ,partA,buildQ,slQ,stH,bslH,appH,dcells,convI,elemsOf,D.one,nilS,fillD,convN,cvH,tyR1Sum0]) | (with_reducible refine ⟨?_,?_⟩; (· first | (obtain ⟨rfl⟩:=‹Hq _ _›; with_reducible refine chk_ok ?_; kernel_rfl) | kernel_rfl)) | (with_reducible intro ops hops)))
           refine fin_ret [106] rfl ?_
           have hof:List.take 32 (ob.map byteI)=ob.map byteI:=List.take_of_length_le (by simp; omega)
           simp [cv,cv1,cv0,upd,hO,lk,elemsOf,hol,hof]
end Go.Proofs.Ytkodnlkgblkfdaa
