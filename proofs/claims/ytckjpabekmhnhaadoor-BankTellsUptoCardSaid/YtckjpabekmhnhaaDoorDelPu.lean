/- slices.Delete at api.Purse: contract over an own slice. -/
import Derived.Test.YtckjpabekmhnhaaDoorPurseF
import Derived.Test.YtckjpabekmhnhaaDoorInsL
set_option linter.all false
namespace Go.Proofs.YtckjpabekmhnhaaDoor
open Go Go.Abs Go.RowKit Go.Proofs.YtckjpabekmhnhaaDoor.Ty
theorem tyDelPu0:(type_of% @Ty.T3)∧(type_of% @Ty.T9)∧(type_of% @Ty.T22)∧(type_of% @Ty.T23)∧(type_of% @Ty.T50):=⟨@Ty.T3,@Ty.T9,@Ty.T22,@Ty.T23,@Ty.T50⟩
set_option maxHeartbeats 4000000
theorem delete_Pu (es:List (List I)) (i:Nat) (hi:i < es.length) (hl:es.length≤1048576) (hu:∀ e∈es,e.length=3) :
  CallD Tryd.prog 53 [.os 0 3 0 es.length,intD i,intD (i+1:Nat)] (hF [(0,.arr 3 es)]) (.os 1 3 0 (es.length - 1))
   (hOf (hF [(0,.arr 3 es)]) [(1,.arr 3 (es.take i++es.drop (i+1)))]):=by
 have hu2:=uN hu
 have hu3:uni 3 (es.drop (i+1))=true:=uN fun e he=>hu e (List.mem_of_mem_drop he)
 refine oc_case (by omega) fun c hc=>?_
 have g1:decide ((i:Int)=((i+1:Nat):Int))=false:=decide_eq_false (by omega)
 have l1:(i≤i+1)=True:=eq_true (by omega)
 have l2:(i+1≤es.length)=True:=eq_true (by omega)
 have l3:(es.length≤c)=True:=eq_true (by omega)
 have l4:(i≤c)=True:=eq_true (by omega)
 have l5:(i≤es.length)=True:=eq_true (by omega)
 have l6:(es.length - 1≤es.length)=True:=eq_true (by omega)
 have l7:(es.length - 1≤c)=True:=eq_true (by omega)
 have m1:i+(es.length - (i+1))=es.length - 1:=by omega
 have m2:i+1+(es.length - (i+1))=es.length:=by omega
 have tk:(es.drop (i+1)).take (es.length - (i+1))=es.drop (i+1):=List.take_of_length_le (by simp)
 have l8:(es.length - 1≤(over es i (es.drop (i+1))).length)=True:=eq_true (by unfold over; simp; omega)
 refine callD_W 33 Tryd.func53 rfl rfl rfl (fun o ho=>by simp [hF,lk,show o≠0 by omega,show o≠1 by omega,show o≠2 by omega,show o≠3 by omega,show o≠4 by omega,show o≠5 by omega]) ?_
 (repeat (first | (simp -implicitDefEqProofs only [ev,mixed,Nat.reduceLT,Nat.reduceAdd,Nat.reduceMul,reduceIte,Nat.reduceEqDiff,reduceCtorEq,Nat.reducePow,Nat.reduceLeDiff,Int.reduceLE,Int.reduceLT,Int.reduceToNat,Int.reduceEq,Nat.reduceBEq,itsOf,gdA,byteI,opid,lenQ,ixQ,ldH,readAt,readCells,asCell,faQ,exQ,fldQ,partA,buildQ,slQ,stH,bslH,appH,dcells,convI,elemsOf,D.one,nilS,fillD,convN,cvH,tyDelPu0,intD,slX,capX,lenX,apX,clX,cpX,dstX,lenS,srcX,g1,l1,l2,l3,l4,l5,l6,l7,l8,m1,m2,tk,hu2,hu3,or_true,true_or,Nat.sub_zero,Nat.zero_le]) | (with_reducible refine ⟨?_,?_⟩; (· first | (obtain ⟨rfl⟩:=‹Hq _ _›; with_reducible refine chk_ok ?_; kernel_rfl) | kernel_rfl)) | (with_reducible intro ops hops)))
 have hos:=del_over (R:=List.replicate (es.length - (es.length - 1)) [I.s (.string ⟨#[]⟩),I.s (.string ⟨#[]⟩),I.s (.int .u64 0)]) hi
 rw [← hos]
 exact fin_oc (o:=0) (cap:=c) rfl (by simp [upd]) (by simp [upd,hF,lk]) (by simp [upd,hF,lk]) (by simp [hF,lk]) (by simp [hF,lk])
end Go.Proofs.YtckjpabekmhnhaaDoor
