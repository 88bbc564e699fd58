/- Strings: compared; their order is one. -/
import Derived.Test.YtckjpabekmhnhaaDoorG0
set_option linter.all false
namespace Go.Proofs.YtckjpabekmhnhaaDoor
open Go Go.Abs Go.RowKit Go.Proofs.YtckjpabekmhnhaaDoor.Ty
theorem tyStrs0:(type_of% @Ty.T9):=@Ty.T9
theorem tyStrs1:(type_of% @Ty.T9):=@Ty.T9
theorem cmpstr_D (a b:ByteArray) (G:Nat→Ob):DirD Tryd.prog 79 [sD a,sD b] G (.i (.s (.int .i64 (cmpS a b)))) G:=by
 refine dir_flat (vs:=[.string a,.string b]) (v:=.int .i64 (cmpS a b)) rfl (fun w=>?_) (fun K=>.i (.s _ rfl))
 rw [run_callFunc_extern Tryd.func79 (by kernel_rfl) (by kernel_rfl) (by kernel_rfl) (e:=Extern.BytealgCompare.compare) (by kernel_rfl)]
 rw [show ([Value.string a,Value.string b].toArray)=#[.string a,.string b] from rfl,Lib.run_compareString]
 rfl
set_option maxHeartbeats 2000000
theorem cmpString_A (a b:ByteArray):PureD Tryd.prog 76 [sD a,sD b] (.i (.s (.int .i64 (cmpS a b)))):=by
 refine callD_W 8 Tryd.func76 rfl rfl rfl (fun _ _=>rfl) ?_
 (repeat (first | (simp -implicitDefEqProofs only [ev,mixed,Nat.reduceLT,Nat.reduceAdd,Nat.reduceMul,reduceIte,Nat.reduceEqDiff,reduceCtorEq,Nat.reducePow,Nat.reduceLeDiff,Int.reduceLE,Int.reduceLT,Int.reduceToNat,Int.reduceEq,Nat.reduceBEq,itsOf,gdA,byteI,opid,lenQ,ixQ,ldH,readAt,readCells,asCell,faQ,exQ,fldQ,partA,buildQ,slQ,stH,bslH,appH,dcells,convI,elemsOf,D.one,nilS,fillD,convN,cvH,tyStrs0,sD]) | (with_reducible refine ⟨?_,?_⟩; (· first | (obtain ⟨rfl⟩:=‹Hq _ _›; with_reducible refine chk_ok ?_; kernel_rfl) | kernel_rfl)) | (with_reducible intro ops hops)))
 refine Call_dir (cmpstr_D a b) ?_
 (repeat (first | (simp -implicitDefEqProofs only [ev,mixed,Nat.reduceLT,Nat.reduceAdd,Nat.reduceMul,reduceIte,Nat.reduceEqDiff,reduceCtorEq,Nat.reducePow,Nat.reduceLeDiff,Int.reduceLE,Int.reduceLT,Int.reduceToNat,Int.reduceEq,Nat.reduceBEq,itsOf,gdA,byteI,opid,lenQ,ixQ,ldH,readAt,readCells,asCell,faQ,exQ,fldQ,partA,buildQ,slQ,stH,bslH,appH,dcells,convI,elemsOf,D.one,nilS,fillD,convN,cvH,tyStrs0]) | (with_reducible refine ⟨?_,?_⟩; (· first | (obtain ⟨rfl⟩:=‹Hq _ _›; with_reducible refine chk_ok ?_; kernel_rfl) | kernel_rfl)) | (with_reducible intro ops hops)))
 refine fin_ret [] rfl ?_
 simp [cv,cv1,cv0,upd]
theorem scmp_A (a b:ByteArray):PureD Tryd.prog 70 [sD a,sD b] (.i (.s (.int .i64 (cmpS a b)))):=by
 refine callD_W 8 Tryd.func70 rfl rfl rfl (fun _ _=>rfl) ?_
 (repeat (first | (simp -implicitDefEqProofs only [ev,mixed,Nat.reduceLT,Nat.reduceAdd,Nat.reduceMul,reduceIte,Nat.reduceEqDiff,reduceCtorEq,Nat.reducePow,Nat.reduceLeDiff,Int.reduceLE,Int.reduceLT,Int.reduceToNat,Int.reduceEq,Nat.reduceBEq,itsOf,gdA,byteI,opid,lenQ,ixQ,ldH,readAt,readCells,asCell,faQ,exQ,fldQ,partA,buildQ,slQ,stH,bslH,appH,dcells,convI,elemsOf,D.one,nilS,fillD,convN,cvH,tyStrs1,sD]) | (with_reducible refine ⟨?_,?_⟩; (· first | (obtain ⟨rfl⟩:=‹Hq _ _›; with_reducible refine chk_ok ?_; kernel_rfl) | kernel_rfl)) | (with_reducible intro ops hops)))
 (first | refine Call_flat [] [] (cmpString_A a b) (by simp [cvAs,cvA,cvRL,cvR,cvBox,cv1,cvL,cv0,bI,byteI,sD,elemsOf,upd]) rfl ?_ | refine CallF_flat [] [] [] (cmpString_A a b) (fun G _=>by simp [cvAs,cvA,cvRL,cvR,cvBox,cv1,cvL,cv0,bI,byteI,sD,elemsOf,upd]) rfl ?_)
 (repeat (first | (simp -implicitDefEqProofs only [ev,mixed,Nat.reduceLT,Nat.reduceAdd,Nat.reduceMul,reduceIte,Nat.reduceEqDiff,reduceCtorEq,Nat.reducePow,Nat.reduceLeDiff,Int.reduceLE,Int.reduceLT,Int.reduceToNat,Int.reduceEq,Nat.reduceBEq,itsOf,gdA,byteI,opid,lenQ,ixQ,ldH,readAt,readCells,asCell,faQ,exQ,fldQ,partA,buildQ,slQ,stH,bslH,appH,dcells,convI,elemsOf,D.one,nilS,fillD,convN,cvH,tyStrs1]) | (with_reducible refine ⟨?_,?_⟩; (· first | (obtain ⟨rfl⟩:=‹Hq _ _›; with_reducible refine chk_ok ?_; kernel_rfl) | kernel_rfl)) | (with_reducible intro ops hops)))
 refine fin_ret [] rfl ?_
 simp [cv,cv1,cv0,upd]
end Go.Proofs.YtckjpabekmhnhaaDoor
