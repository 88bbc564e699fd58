/- bank.Burn: by value. -/
import Derived.Test.YtckjpabekmhnhaaDoorBankW
import Derived.Test.YtckjpabekmhnhaaDoorInsPu
import Derived.Test.YtckjpabekmhnhaaDoorDelPu
set_option linter.all false
namespace Go.Proofs.YtckjpabekmhnhaaDoor
open Go Go.Abs Go.RowKit Go.Proofs.YtckjpabekmhnhaaDoor.Ty
theorem tyBankX0:(type_of% @Ty.T2)∧(type_of% @Ty.T3)∧(type_of% @Ty.T9)∧(type_of% @Ty.T22)∧(type_of% @Ty.T23)∧(type_of% @Ty.T30)∧(type_of% @Ty.T50)∧(type_of% @Ty.T100):=⟨@Ty.T2,@Ty.T3,@Ty.T9,@Ty.T22,@Ty.T23,@Ty.T30,@Ty.T50,@Ty.T100⟩
set_option maxHeartbeats 4000000
theorem wordOk2 (o d:ByteArray):[o,d].all wordOk=(wordOk o && wordOk d):=by simp
theorem es3 (l:List PurseD):∀ e∈l.map encPu,e.length=3:=by
 intro e he; simp only [List.mem_map] at he; obtain ⟨q,_,rfl⟩:=he; rfl
theorem burn_A (l:List PurseD) (h:RightP l) (o d:ByteArray) (n:Nat) (hn:n < 18446744073709551616) :
  PureD Tryd.prog 24 [.i (pusI l),sD o,sD d,wD n] (.tup [.i (pusI (burnP l o d n).1),intD (burnP l o d n).2]):=by
 have hw:=word_A [o,d] (by simp)
 rw [wordOk2] at hw
 have hlen:=h.len
 have ham:=amount_A l o d (by omega) h.srt
 have hcl:=clonePu_new l (by omega)
 have hf:=pfind_A l o d (by omega) h.srt
 have hlt:=amtP_lt h o d
 have hga:=getP_amt h o d
 simp only [List.map_cons,List.map_nil,sI] at hw
 unfold burnP
 cases hb:(wordOk o && wordOk d)
 ·rw [hb] at hw
  simp only [Bool.not_false,if_true]
  refine callD_W 58 Tryd.func24 rfl rfl rfl (fun _ _=>rfl) ?_
  (repeat (first | (simp -implicitDefEqProofs only [ev,mixed,Nat.reduceLT,Nat.reduceAdd,Nat.reduceMul,reduceIte,Nat.reduceEqDiff,reduceCtorEq,Nat.reducePow,Nat.reduceLeDiff,Int.reduceLE,Int.reduceLT,Int.reduceToNat,Int.reduceEq,Nat.reduceBEq,itsOf,gdA,byteI,opid,lenQ,ixQ,ldH,readAt,readCells,asCell,faQ,exQ,fldQ,partA,buildQ,slQ,stH,bslH,appH,dcells,convI,elemsOf,D.one,nilS,fillD,convN,cvH,tyBankX0,pusI,sD,wD]) | (with_reducible refine ⟨?_,?_⟩; (· first | (obtain ⟨rfl⟩:=‹Hq _ _›; with_reducible refine chk_ok ?_; kernel_rfl) | kernel_rfl)) | (with_reducible intro ops hops)))
  (first | refine Call_flat [1258] [] (hw) (by simp [cvAs,cvA,cvRL,cvR,cvBox,cv1,cvL,cv0,bI,byteI,intD,boolD,sD,sI,pusI,wD,elemsOf,upd,hO,lk]) rfl ?_ | refine CallF_flat [1258] [] [1258] (hw) (fun G hG=>by (have hG1258:=hG 1258 (by simp); simp [cvAs,cvA,cvRL,cvR,cvBox,cv1,cvL,cv0,bI,byteI,intD,boolD,sD,sI,pusI,wD,elemsOf,upd,hO,lk,hG1258])) rfl ?_)
  (repeat (first | (simp -implicitDefEqProofs only [ev,mixed,Nat.reduceLT,Nat.reduceAdd,Nat.reduceMul,reduceIte,Nat.reduceEqDiff,reduceCtorEq,Nat.reducePow,Nat.reduceLeDiff,Int.reduceLE,Int.reduceLT,Int.reduceToNat,Int.reduceEq,Nat.reduceBEq,itsOf,gdA,byteI,opid,lenQ,ixQ,ldH,readAt,readCells,asCell,faQ,exQ,fldQ,partA,buildQ,slQ,stH,bslH,appH,dcells,convI,elemsOf,D.one,nilS,fillD,convN,cvH,tyBankX0,intD]) | (with_reducible refine ⟨?_,?_⟩; (· first | (obtain ⟨rfl⟩:=‹Hq _ _›; with_reducible refine chk_ok ?_; kernel_rfl) | kernel_rfl)) | (with_reducible intro ops hops)))
  refine fin_tt [] rfl ?_
  simp [cv,cvT,cv1,cv0,upd,intD,pusI]
 ·rw [hb] at hw
  simp only [Bool.not_true,Bool.false_eq_true,if_false]
  simp only [if_true] at hw
  by_cases ha:amtP l o d < n
  ·have g1:decide ((amtP l o d:Int) < (n:Int))=true:=decide_eq_true (by omega)
   rw [if_pos ha]
   refine callD_W 58 Tryd.func24 rfl rfl rfl (fun _ _=>rfl) ?_
   (repeat (first | (simp -implicitDefEqProofs only [ev,mixed,Nat.reduceLT,Nat.reduceAdd,Nat.reduceMul,reduceIte,Nat.reduceEqDiff,reduceCtorEq,Nat.reducePow,Nat.reduceLeDiff,Int.reduceLE,Int.reduceLT,Int.reduceToNat,Int.reduceEq,Nat.reduceBEq,itsOf,gdA,byteI,opid,lenQ,ixQ,ldH,readAt,readCells,asCell,faQ,exQ,fldQ,partA,buildQ,slQ,stH,bslH,appH,dcells,convI,elemsOf,D.one,nilS,fillD,convN,cvH,tyBankX0,pusI,sD,wD]) | (with_reducible refine ⟨?_,?_⟩; (· first | (obtain ⟨rfl⟩:=‹Hq _ _›; with_reducible refine chk_ok ?_; kernel_rfl) | kernel_rfl)) | (with_reducible intro ops hops)))
   (first | refine Call_flat [1258] [] (hw) (by simp [cvAs,cvA,cvRL,cvR,cvBox,cv1,cvL,cv0,bI,byteI,intD,boolD,sD,sI,pusI,wD,elemsOf,upd,hO,lk]) rfl ?_ | refine CallF_flat [1258] [] [1258] (hw) (fun G hG=>by (have hG1258:=hG 1258 (by simp); simp [cvAs,cvA,cvRL,cvR,cvBox,cv1,cvL,cv0,bI,byteI,intD,boolD,sD,sI,pusI,wD,elemsOf,upd,hO,lk,hG1258])) rfl ?_)
   (repeat (first | (simp -implicitDefEqProofs only [ev,mixed,Nat.reduceLT,Nat.reduceAdd,Nat.reduceMul,reduceIte,Nat.reduceEqDiff,reduceCtorEq,Nat.reducePow,Nat.reduceLeDiff,Int.reduceLE,Int.reduceLT,Int.reduceToNat,Int.reduceEq,Nat.reduceBEq,itsOf,gdA,byteI,opid,lenQ,ixQ,ldH,readAt,readCells,asCell,faQ,exQ,fldQ,partA,buildQ,slQ,stH,bslH,appH,dcells,convI,elemsOf,D.one,nilS,fillD,convN,cvH,tyBankX0,intD]) | (with_reducible refine ⟨?_,?_⟩; (· first | (obtain ⟨rfl⟩:=‹Hq _ _›; with_reducible refine chk_ok ?_; kernel_rfl) | kernel_rfl)) | (with_reducible intro ops hops)))
   (first | refine Call_flat [] [] (ham) (by simp [cvAs,cvA,cvRL,cvR,cvBox,cv1,cvL,cv0,bI,byteI,intD,boolD,sD,sI,pusI,wD,elemsOf,upd]) rfl ?_ | refine CallF_flat [] [] [] (ham) (fun G _=>by simp [cvAs,cvA,cvRL,cvR,cvBox,cv1,cvL,cv0,bI,byteI,intD,boolD,sD,sI,pusI,wD,elemsOf,upd]) rfl ?_)
   (repeat (first | (simp -implicitDefEqProofs only [ev,mixed,Nat.reduceLT,Nat.reduceAdd,Nat.reduceMul,reduceIte,Nat.reduceEqDiff,reduceCtorEq,Nat.reducePow,Nat.reduceLeDiff,Int.reduceLE,Int.reduceLT,Int.reduceToNat,Int.reduceEq,Nat.reduceBEq,itsOf,gdA,byteI,opid,lenQ,ixQ,ldH,readAt,readCells,asCell,faQ,exQ,fldQ,partA,buildQ,slQ,stH,bslH,appH,dcells,convI,elemsOf,D.one,nilS,fillD,convN,cvH,tyBankX0,intD,wD,g1]) | (with_reducible refine ⟨?_,?_⟩; (· first | (obtain ⟨rfl⟩:=‹Hq _ _›; with_reducible refine chk_ok ?_; kernel_rfl) | kernel_rfl)) | (with_reducible intro ops hops)))
   refine fin_tt [] rfl ?_
   simp [cv,cvT,cv1,cv0,upd,intD,pusI]
  ·have g1:decide ((amtP l o d:Int) < (n:Int))=false:=decide_eq_false (by omega)
   rw [if_neg ha]
   simp only
   generalize hA:amtP l o d=A at *
   cases hg:getP l o d with
   | none =>
    rw [hg] at hf hga
    have hA0:A=0:=by
     apply Decidable.byContradiction; intro hc
     rw [if_neg hc] at hga; cases hga
    have hres:setP l o d (A - n)=l:=by
     unfold setP putPu
     rw [if_pos (by omega),KL.put_none cmpP_ok h.srt hg]
    rw [hres]
    generalize placeP l o d=j at *
    refine callD_W 58 Tryd.func24 rfl rfl rfl (fun _ _=>rfl) ?_
    (repeat (first | (simp -implicitDefEqProofs only [ev,mixed,Nat.reduceLT,Nat.reduceAdd,Nat.reduceMul,reduceIte,Nat.reduceEqDiff,reduceCtorEq,Nat.reducePow,Nat.reduceLeDiff,Int.reduceLE,Int.reduceLT,Int.reduceToNat,Int.reduceEq,Nat.reduceBEq,itsOf,gdA,byteI,opid,lenQ,ixQ,ldH,readAt,readCells,asCell,faQ,exQ,fldQ,partA,buildQ,slQ,stH,bslH,appH,dcells,convI,elemsOf,D.one,nilS,fillD,convN,cvH,tyBankX0,pusI,sD,wD]) | (with_reducible refine ⟨?_,?_⟩; (· first | (obtain ⟨rfl⟩:=‹Hq _ _›; with_reducible refine chk_ok ?_; kernel_rfl) | kernel_rfl)) | (with_reducible intro ops hops)))
    (first | refine Call_flat [1258] [] (hw) (by simp [cvAs,cvA,cvRL,cvR,cvBox,cv1,cvL,cv0,bI,byteI,intD,boolD,sD,sI,pusI,wD,elemsOf,upd,hO,lk]) rfl ?_ | refine CallF_flat [1258] [] [1258] (hw) (fun G hG=>by (have hG1258:=hG 1258 (by simp); simp [cvAs,cvA,cvRL,cvR,cvBox,cv1,cvL,cv0,bI,byteI,intD,boolD,sD,sI,pusI,wD,elemsOf,upd,hO,lk,hG1258])) rfl ?_)
    (repeat (first | (simp -implicitDefEqProofs only [ev,mixed,Nat.reduceLT,Nat.reduceAdd,Nat.reduceMul,reduceIte,Nat.reduceEqDiff,reduceCtorEq,Nat.reducePow,Nat.reduceLeDiff,Int.reduceLE,Int.reduceLT,Int.reduceToNat,Int.reduceEq,Nat.reduceBEq,itsOf,gdA,byteI,opid,lenQ,ixQ,ldH,readAt,readCells,asCell,faQ,exQ,fldQ,partA,buildQ,slQ,stH,bslH,appH,dcells,convI,elemsOf,D.one,nilS,fillD,convN,cvH,tyBankX0,intD]) | (with_reducible refine ⟨?_,?_⟩; (· first | (obtain ⟨rfl⟩:=‹Hq _ _›; with_reducible refine chk_ok ?_; kernel_rfl) | kernel_rfl)) | (with_reducible intro ops hops)))
    (first | refine Call_flat [] [] (ham) (by simp [cvAs,cvA,cvRL,cvR,cvBox,cv1,cvL,cv0,bI,byteI,intD,boolD,sD,sI,pusI,wD,elemsOf,upd]) rfl ?_ | refine CallF_flat [] [] [] (ham) (fun G _=>by simp [cvAs,cvA,cvRL,cvR,cvBox,cv1,cvL,cv0,bI,byteI,intD,boolD,sD,sI,pusI,wD,elemsOf,upd]) rfl ?_)
    (repeat (first | (simp -implicitDefEqProofs only [ev,mixed,Nat.reduceLT,Nat.reduceAdd,Nat.reduceMul,reduceIte,Nat.reduceEqDiff,reduceCtorEq,Nat.reducePow,Nat.reduceLeDiff,Int.reduceLE,Int.reduceLT,Int.reduceToNat,Int.reduceEq,Nat.reduceBEq,itsOf,gdA,byteI,opid,lenQ,ixQ,ldH,readAt,readCells,asCell,faQ,exQ,fldQ,partA,buildQ,slQ,stH,bslH,appH,dcells,convI,elemsOf,D.one,nilS,fillD,convN,cvH,tyBankX0,intD,wD,g1]) | (with_reducible refine ⟨?_,?_⟩; (· first | (obtain ⟨rfl⟩:=‹Hq _ _›; with_reducible refine chk_ok ?_; kernel_rfl) | kernel_rfl)) | (with_reducible intro ops hops)))
    refine Call_new 2537 hcl (by simp [hO,lk,upd,noH]) rfl ?_
    (repeat (first | (simp -implicitDefEqProofs only [ev,mixed,Nat.reduceLT,Nat.reduceAdd,Nat.reduceMul,reduceIte,Nat.reduceEqDiff,reduceCtorEq,Nat.reducePow,Nat.reduceLeDiff,Int.reduceLE,Int.reduceLT,Int.reduceToNat,Int.reduceEq,Nat.reduceBEq,itsOf,gdA,byteI,opid,lenQ,ixQ,ldH,readAt,readCells,asCell,faQ,exQ,fldQ,partA,buildQ,slQ,stH,bslH,appH,dcells,convI,elemsOf,D.one,nilS,fillD,convN,cvH,tyBankX0,intD,sD]) | (with_reducible refine ⟨?_,?_⟩; (· first | (obtain ⟨rfl⟩:=‹Hq _ _›; with_reducible refine chk_ok ?_; kernel_rfl) | kernel_rfl)) | (with_reducible intro ops hops)))
    (first | refine Call_flat [2537] [] (hf) (by simp [cvAs,cvA,cvRL,cvR,cvBox,cv1,cvL,cv0,bI,byteI,intD,boolD,sD,sI,pusI,wD,elemsOf,upd,hO,lk,take_len_map]) rfl ?_ | refine CallF_flat [2537] [] [2537] (hf) (fun G hG=>by (have hG2537:=hG 2537 (by simp); simp [cvAs,cvA,cvRL,cvR,cvBox,cv1,cvL,cv0,bI,byteI,intD,boolD,sD,sI,pusI,wD,elemsOf,upd,hO,lk,take_len_map,hG2537])) rfl ?_)
    (repeat (first | (simp -implicitDefEqProofs only [ev,mixed,Nat.reduceLT,Nat.reduceAdd,Nat.reduceMul,reduceIte,Nat.reduceEqDiff,reduceCtorEq,Nat.reducePow,Nat.reduceLeDiff,Int.reduceLE,Int.reduceLT,Int.reduceToNat,Int.reduceEq,Nat.reduceBEq,itsOf,gdA,byteI,opid,lenQ,ixQ,ldH,readAt,readCells,asCell,faQ,exQ,fldQ,partA,buildQ,slQ,stH,bslH,appH,dcells,convI,elemsOf,D.one,nilS,fillD,convN,cvH,tyBankX0,intD,boolD,Option.isSome_none]) | (with_reducible refine ⟨?_,?_⟩; (· first | (obtain ⟨rfl⟩:=‹Hq _ _›; with_reducible refine chk_ok ?_; kernel_rfl) | kernel_rfl)) | (with_reducible intro ops hops)))
    refine fin_tt [2537] rfl ?_
    simp [cv,cvT,cv1,cv0,upd,intD,pusI,elemsOf,take_len_map]
   | some v =>
    rw [hg] at hf hga
    have hA0:A≠0:=by intro hc; rw [if_pos hc] at hga; cases hga
    rw [if_neg hA0] at hga
    injection hga with hga
    subst hga
    obtain ⟨hp,hv⟩:=KL.place_lt cmpP_ok h.srt hg
    have hp':placeP l o d < l.length:=hp
    have e1:(l.map encPu)[placeP l o d]?=some (encPu ⟨o,d,A⟩):=by rw [List.getElem?_map,List.getElem?_eq_getElem hp,hv]; rfl
    have w1:IntKind.u64.wrap ((A:Int) - (n:Int))=((A - n:Nat):Int):=by rw [IntKind.wrap_u64]; omega
    have w2:IntKind.i64.wrap ((placeP l o d:Int)+1)=((placeP l o d+1:Nat):Int):=by rw [wrap64 (by omega) (by omega)]; omega
    have L1:((placeP l o d:Int) < (l.length:Int))=True:=eq_true (by omega)
    simp only [encPu] at e1
    have e2:((l.map encPu).set (placeP l o d) [.s (.string o),.s (.string d),.s (.int .u64 ((A - n:Nat):Int))])[placeP l o d]?=some [.s (.string o),.s (.string d),.s (.int .u64 ((A - n:Nat):Int))]:=by
     rw [List.getElem?_set]; simp [hp']
    by_cases h0:A - n=0
    ·have hdel:=delete_Pu ((l.map encPu).set (placeP l o d) [.s (.string o),.s (.string d),.s (.int .u64 ((A - n:Nat):Int))]) (placeP l o d) (by simpa using hp) (by simp; omega) (by
      intro e he
      rcases List.mem_or_eq_of_mem_set he with he | rfl
      ·exact es3 l e he
      ·rfl)
     have hres:setP l o d (A - n)=l.take (placeP l o d)++l.drop (placeP l o d+1):=by
      unfold setP putPu
      rw [if_pos h0,KL.put_del cmpP_ok h.srt hg]
     have he2:((l.map encPu).set (placeP l o d) [.s (.string o),.s (.string d),.s (.int .u64 ((A - n:Nat):Int))]).take (placeP l o d)++((l.map encPu).set (placeP l o d) [.s (.string o),.s (.string d),.s (.int .u64 ((A - n:Nat):Int))]).drop (placeP l o d+1)=(setP l o d (A - n)).map encPu:=by
      rw [hres,List.take_set_of_le (Nat.le_refl _),List.drop_set_of_lt (by omega),← List.map_take,← List.map_drop,List.map_append]
     have hln:l.length - 1=(setP l o d (A - n)).length:=by rw [hres]; simp; omega
     rw [he2] at hdel
     simp only [List.length_set,List.length_map,intD] at hdel
     rw [hln] at hdel
     generalize setP l o d (A - n)=R at *
     have g2:decide (((A - n:Nat):Int)=0)=true:=decide_eq_true (by omega)
     generalize placeP l o d=j at *
     generalize A - n=B at *
     refine callD_W 58 Tryd.func24 rfl rfl rfl (fun _ _=>rfl) ?_
     (repeat (first | (simp -implicitDefEqProofs only [ev,mixed,Nat.reduceLT,Nat.reduceAdd,Nat.reduceMul,reduceIte,Nat.reduceEqDiff,reduceCtorEq,Nat.reducePow,Nat.reduceLeDiff,Int.reduceLE,Int.reduceLT,Int.reduceToNat,Int.reduceEq,Nat.reduceBEq,itsOf,gdA,byteI,opid,lenQ,ixQ,ldH,readAt,readCells,asCell,faQ,exQ,fldQ,partA,buildQ,slQ,stH,bslH,appH,dcells,convI,elemsOf,D.one,nilS,fillD,convN,cvH,tyBankX0,pusI,sD,wD]) | (with_reducible refine ⟨?_,?_⟩; (· first | (obtain ⟨rfl⟩:=‹Hq _ _›; with_reducible refine chk_ok ?_; kernel_rfl) | kernel_rfl)) | (with_reducible intro ops hops)))
     (first | refine Call_flat [1258] [] (hw) (by simp [cvAs,cvA,cvRL,cvR,cvBox,cv1,cvL,cv0,bI,byteI,intD,boolD,sD,sI,pusI,wD,elemsOf,upd,hO,lk]) rfl ?_ | refine CallF_flat [1258] [] [1258] (hw) (fun G hG=>by (have hG1258:=hG 1258 (by simp); simp [cvAs,cvA,cvRL,cvR,cvBox,cv1,cvL,cv0,bI,byteI,intD,boolD,sD,sI,pusI,wD,elemsOf,upd,hO,lk,hG1258])) rfl ?_)
     (repeat (first | (simp -implicitDefEqProofs only [ev,mixed,Nat.reduceLT,Nat.reduceAdd,Nat.reduceMul,reduceIte,Nat.reduceEqDiff,reduceCtorEq,Nat.reducePow,Nat.reduceLeDiff,Int.reduceLE,Int.reduceLT,Int.reduceToNat,Int.reduceEq,Nat.reduceBEq,itsOf,gdA,byteI,opid,lenQ,ixQ,ldH,readAt,readCells,asCell,faQ,exQ,fldQ,partA,buildQ,slQ,stH,bslH,appH,dcells,convI,elemsOf,D.one,nilS,fillD,convN,cvH,tyBankX0,intD]) | (with_reducible refine ⟨?_,?_⟩; (· first | (obtain ⟨rfl⟩:=‹Hq _ _›; with_reducible refine chk_ok ?_; kernel_rfl) | kernel_rfl)) | (with_reducible intro ops hops)))
     (first | refine Call_flat [] [] (ham) (by simp [cvAs,cvA,cvRL,cvR,cvBox,cv1,cvL,cv0,bI,byteI,intD,boolD,sD,sI,pusI,wD,elemsOf,upd]) rfl ?_ | refine CallF_flat [] [] [] (ham) (fun G _=>by simp [cvAs,cvA,cvRL,cvR,cvBox,cv1,cvL,cv0,bI,byteI,intD,boolD,sD,sI,pusI,wD,elemsOf,upd]) rfl ?_)
     (repeat (first | (simp -implicitDefEqProofs only [ev,mixed,Nat.reduceLT,Nat.reduceAdd,Nat.reduceMul,reduceIte,Nat.reduceEqDiff,reduceCtorEq,Nat.reducePow,Nat.reduceLeDiff,Int.reduceLE,Int.reduceLT,Int.reduceToNat,Int.reduceEq,Nat.reduceBEq,itsOf,gdA,byteI,opid,lenQ,ixQ,ldH,readAt,readCells,asCell,faQ,exQ,fldQ,partA,buildQ,slQ,stH,bslH,appH,dcells,convI,elemsOf,D.one,nilS,fillD,convN,cvH,tyBankX0,intD,wD,g1]) | (with_reducible refine ⟨?_,?_⟩; (· first | (obtain ⟨rfl⟩:=‹Hq _ _›; with_reducible refine chk_ok ?_; kernel_rfl) | kernel_rfl)) | (with_reducible intro ops hops)))
     refine Call_new 2537 hcl (by simp [hO,lk,upd,noH]) rfl ?_
     (repeat (first | (simp -implicitDefEqProofs only [ev,mixed,Nat.reduceLT,Nat.reduceAdd,Nat.reduceMul,reduceIte,Nat.reduceEqDiff,reduceCtorEq,Nat.reducePow,Nat.reduceLeDiff,Int.reduceLE,Int.reduceLT,Int.reduceToNat,Int.reduceEq,Nat.reduceBEq,itsOf,gdA,byteI,opid,lenQ,ixQ,ldH,readAt,readCells,asCell,faQ,exQ,fldQ,partA,buildQ,slQ,stH,bslH,appH,dcells,convI,elemsOf,D.one,nilS,fillD,convN,cvH,tyBankX0,intD,sD]) | (with_reducible refine ⟨?_,?_⟩; (· first | (obtain ⟨rfl⟩:=‹Hq _ _›; with_reducible refine chk_ok ?_; kernel_rfl) | kernel_rfl)) | (with_reducible intro ops hops)))
     (first | refine Call_flat [2537] [] (hf) (by simp [cvAs,cvA,cvRL,cvR,cvBox,cv1,cvL,cv0,bI,byteI,intD,boolD,sD,sI,pusI,wD,elemsOf,upd,hO,lk,take_len_map]) rfl ?_ | refine CallF_flat [2537] [] [2537] (hf) (fun G hG=>by (have hG2537:=hG 2537 (by simp); simp [cvAs,cvA,cvRL,cvR,cvBox,cv1,cvL,cv0,bI,byteI,intD,boolD,sD,sI,pusI,wD,elemsOf,upd,hO,lk,take_len_map,hG2537])) rfl ?_)
     (repeat (first | (simp -implicitDefEqProofs only [ev,mixed,Nat.reduceLT,Nat.reduceAdd,Nat.reduceMul,reduceIte,Nat.reduceEqDiff,reduceCtorEq,Nat.reducePow,Nat.reduceLeDiff,Int.reduceLE,Int.reduceLT,Int.reduceToNat,Int.reduceEq,Nat.reduceBEq,itsOf,gdA,byteI,opid,lenQ,ixQ,ldH,readAt,readCells,asCell,faQ,exQ,fldQ,partA,buildQ,slQ,stH,bslH,appH,dcells,convI,elemsOf,D.one,nilS,fillD,convN,cvH,tyBankX0,intD,boolD,Option.isSome_some,L1,e1,e2,w1,w2,g2]) | (with_reducible refine ⟨?_,?_⟩; (· first | (obtain ⟨rfl⟩:=‹Hq _ _›; with_reducible refine chk_ok ?_; kernel_rfl) | kernel_rfl)) | (with_reducible intro ops hops)))
     refine Call_arr 3820 hdel (by simp [hO,lk,upd,noH]) (by simp [hO,lk,upd,noH]) rfl ?_
     (repeat (first | (simp -implicitDefEqProofs only [ev,mixed,Nat.reduceLT,Nat.reduceAdd,Nat.reduceMul,reduceIte,Nat.reduceEqDiff,reduceCtorEq,Nat.reducePow,Nat.reduceLeDiff,Int.reduceLE,Int.reduceLT,Int.reduceToNat,Int.reduceEq,Nat.reduceBEq,itsOf,gdA,byteI,opid,lenQ,ixQ,ldH,readAt,readCells,asCell,faQ,exQ,fldQ,partA,buildQ,slQ,stH,bslH,appH,dcells,convI,elemsOf,D.one,nilS,fillD,convN,cvH,tyBankX0,intD]) | (with_reducible refine ⟨?_,?_⟩; (· first | (obtain ⟨rfl⟩:=‹Hq _ _›; with_reducible refine chk_ok ?_; kernel_rfl) | kernel_rfl)) | (with_reducible intro ops hops)))
     refine fin_tt [3820] rfl ?_
     simp [cv,cvT,cv1,cv0,upd,intD,pusI,elemsOf,take_len_map]
    ·have hres:(l.map encPu).set (placeP l o d) [.s (.string o),.s (.string d),.s (.int .u64 ((A - n:Nat):Int))]=(setP l o d (A - n)).map encPu:=by
      unfold setP putPu
      rw [if_neg h0,KL.put_hit cmpP_ok h.srt hg,List.set_eq_take_append_cons_drop,if_pos (by simpa using hp')]
      simp [encPu]
     have hln:l.length=(setP l o d (A - n)).length:=by
      have:=congrArg List.length hres
      simpa using this
     have g2:decide (((A - n:Nat):Int)=0)=false:=decide_eq_false (by omega)
     generalize setP l o d (A - n)=R at *
     generalize placeP l o d=j at *
     generalize A - n=B at *
     refine callD_W 58 Tryd.func24 rfl rfl rfl (fun _ _=>rfl) ?_
     (repeat (first | (simp -implicitDefEqProofs only [ev,mixed,Nat.reduceLT,Nat.reduceAdd,Nat.reduceMul,reduceIte,Nat.reduceEqDiff,reduceCtorEq,Nat.reducePow,Nat.reduceLeDiff,Int.reduceLE,Int.reduceLT,Int.reduceToNat,Int.reduceEq,Nat.reduceBEq,itsOf,gdA,byteI,opid,lenQ,ixQ,ldH,readAt,readCells,asCell,faQ,exQ,fldQ,partA,buildQ,slQ,stH,bslH,appH,dcells,convI,elemsOf,D.one,nilS,fillD,convN,cvH,tyBankX0,pusI,sD,wD]) | (with_reducible refine ⟨?_,?_⟩; (· first | (obtain ⟨rfl⟩:=‹Hq _ _›; with_reducible refine chk_ok ?_; kernel_rfl) | kernel_rfl)) | (with_reducible intro ops hops)))
     (first | refine Call_flat [1258] [] (hw) (by simp [cvAs,cvA,cvRL,cvR,cvBox,cv1,cvL,cv0,bI,byteI,intD,boolD,sD,sI,pusI,wD,elemsOf,upd,hO,lk]) rfl ?_ | refine CallF_flat [1258] [] [1258] (hw) (fun G hG=>by (have hG1258:=hG 1258 (by simp); simp [cvAs,cvA,cvRL,cvR,cvBox,cv1,cvL,cv0,bI,byteI,intD,boolD,sD,sI,pusI,wD,elemsOf,upd,hO,lk,hG1258])) rfl ?_)
     (repeat (first | (simp -implicitDefEqProofs only [ev,mixed,Nat.reduceLT,Nat.reduceAdd,Nat.reduceMul,reduceIte,Nat.reduceEqDiff,reduceCtorEq,Nat.reducePow,Nat.reduceLeDiff,Int.reduceLE,Int.reduceLT,Int.reduceToNat,Int.reduceEq,Nat.reduceBEq,itsOf,gdA,byteI,opid,lenQ,ixQ,ldH,readAt,readCells,asCell,faQ,exQ,fldQ,partA,buildQ,slQ,stH,bslH,appH,dcells,convI,elemsOf,D.one,nilS,fillD,convN,cvH,tyBankX0,intD]) | (with_reducible refine ⟨?_,?_⟩; (· first | (obtain ⟨rfl⟩:=‹Hq _ _›; with_reducible refine chk_ok ?_; kernel_rfl) | kernel_rfl)) | (with_reducible intro ops hops)))
     (first | refine Call_flat [] [] (ham) (by simp [cvAs,cvA,cvRL,cvR,cvBox,cv1,cvL,cv0,bI,byteI,intD,boolD,sD,sI,pusI,wD,elemsOf,upd]) rfl ?_ | refine CallF_flat [] [] [] (ham) (fun G _=>by simp [cvAs,cvA,cvRL,cvR,cvBox,cv1,cvL,cv0,bI,byteI,intD,boolD,sD,sI,pusI,wD,elemsOf,upd]) rfl ?_)
     (repeat (first | (simp -implicitDefEqProofs only [ev,mixed,Nat.reduceLT,Nat.reduceAdd,Nat.reduceMul,reduceIte,Nat.reduceEqDiff,reduceCtorEq,Nat.reducePow,Nat.reduceLeDiff,Int.reduceLE,Int.reduceLT,Int.reduceToNat,Int.reduceEq,Nat.reduceBEq,itsOf,gdA,byteI,opid,lenQ,ixQ,ldH,readAt,readCells,asCell,faQ,exQ,fldQ,partA,buildQ,slQ,stH,bslH,appH,dcells,convI,elemsOf,D.one,nilS,fillD,convN,cvH,tyBankX0,intD,wD,g1]) | (with_reducible refine ⟨?_,?_⟩; (· first | (obtain ⟨rfl⟩:=‹Hq _ _›; with_reducible refine chk_ok ?_; kernel_rfl) | kernel_rfl)) | (with_reducible intro ops hops)))
     refine Call_new 2537 hcl (by simp [hO,lk,upd,noH]) rfl ?_
     (repeat (first | (simp -implicitDefEqProofs only [ev,mixed,Nat.reduceLT,Nat.reduceAdd,Nat.reduceMul,reduceIte,Nat.reduceEqDiff,reduceCtorEq,Nat.reducePow,Nat.reduceLeDiff,Int.reduceLE,Int.reduceLT,Int.reduceToNat,Int.reduceEq,Nat.reduceBEq,itsOf,gdA,byteI,opid,lenQ,ixQ,ldH,readAt,readCells,asCell,faQ,exQ,fldQ,partA,buildQ,slQ,stH,bslH,appH,dcells,convI,elemsOf,D.one,nilS,fillD,convN,cvH,tyBankX0,intD,sD]) | (with_reducible refine ⟨?_,?_⟩; (· first | (obtain ⟨rfl⟩:=‹Hq _ _›; with_reducible refine chk_ok ?_; kernel_rfl) | kernel_rfl)) | (with_reducible intro ops hops)))
     (first | refine Call_flat [2537] [] (hf) (by simp [cvAs,cvA,cvRL,cvR,cvBox,cv1,cvL,cv0,bI,byteI,intD,boolD,sD,sI,pusI,wD,elemsOf,upd,hO,lk,take_len_map]) rfl ?_ | refine CallF_flat [2537] [] [2537] (hf) (fun G hG=>by (have hG2537:=hG 2537 (by simp); simp [cvAs,cvA,cvRL,cvR,cvBox,cv1,cvL,cv0,bI,byteI,intD,boolD,sD,sI,pusI,wD,elemsOf,upd,hO,lk,take_len_map,hG2537])) rfl ?_)
     (repeat (first | (simp -implicitDefEqProofs only [ev,mixed,Nat.reduceLT,Nat.reduceAdd,Nat.reduceMul,reduceIte,Nat.reduceEqDiff,reduceCtorEq,Nat.reducePow,Nat.reduceLeDiff,Int.reduceLE,Int.reduceLT,Int.reduceToNat,Int.reduceEq,Nat.reduceBEq,itsOf,gdA,byteI,opid,lenQ,ixQ,ldH,readAt,readCells,asCell,faQ,exQ,fldQ,partA,buildQ,slQ,stH,bslH,appH,dcells,convI,elemsOf,D.one,nilS,fillD,convN,cvH,tyBankX0,intD,boolD,Option.isSome_some,L1,e1,e2,w1,w2,g2]) | (with_reducible refine ⟨?_,?_⟩; (· first | (obtain ⟨rfl⟩:=‹Hq _ _›; with_reducible refine chk_ok ?_; kernel_rfl) | kernel_rfl)) | (with_reducible intro ops hops)))
     refine fin_tt [2537] rfl ?_
     simp [cv,cvT,cv1,cv0,upd,intD,pusI,elemsOf,hres,hln,take_len_map]
end Go.Proofs.YtckjpabekmhnhaaDoor
