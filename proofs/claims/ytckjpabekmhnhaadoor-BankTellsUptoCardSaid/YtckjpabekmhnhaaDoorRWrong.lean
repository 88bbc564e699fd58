/- landref8.Wrong of a state that bears purses alone: by value. -/
import Derived.Test.YtckjpabekmhnhaaDoorRName
import Derived.Test.YtckjpabekmhnhaaDoorRFrom
import Derived.Test.YtckjpabekmhnhaaDoorBankW
set_option linter.all false
namespace Go.Proofs.YtckjpabekmhnhaaDoor
open Go Go.Abs Go.RowKit Go.Proofs.YtckjpabekmhnhaaDoor.Ty
theorem tyRWrong0:(type_of% @Ty.T1)∧(type_of% @Ty.T3)∧(type_of% @Ty.T4)∧(type_of% @Ty.T5)∧(type_of% @Ty.T39)∧(type_of% @Ty.T57)∧(type_of% @Ty.T108)∧(type_of% @Ty.T113):=⟨@Ty.T1,@Ty.T3,@Ty.T4,@Ty.T5,@Ty.T39,@Ty.T57,@Ty.T108,@Ty.T113⟩
theorem tyRWrong1:(type_of% @Ty.T1)∧(type_of% @Ty.T2)∧(type_of% @Ty.T3)∧(type_of% @Ty.T4)∧(type_of% @Ty.T5)∧(type_of% @Ty.T6)∧(type_of% @Ty.T7)∧(type_of% @Ty.T9)∧(type_of% @Ty.T22)∧(type_of% @Ty.T23)∧(type_of% @Ty.T30)∧(type_of% @Ty.T39)∧(type_of% @Ty.T50)∧(type_of% @Ty.T54)∧(type_of% @Ty.T55)∧(type_of% @Ty.T56)∧(type_of% @Ty.T57)∧(type_of% @Ty.T59)∧(type_of% @Ty.T83)∧(type_of% @Ty.T84)∧(type_of% @Ty.T85)∧(type_of% @Ty.T87)∧(type_of% @Ty.T90)∧(type_of% @Ty.T92)∧(type_of% @Ty.T93)∧(type_of% @Ty.T108)∧(type_of% @Ty.T111)∧(type_of% @Ty.T113):=⟨@Ty.T1,@Ty.T2,@Ty.T3,@Ty.T4,@Ty.T5,@Ty.T6,@Ty.T7,@Ty.T9,@Ty.T22,@Ty.T23,@Ty.T30,@Ty.T39,@Ty.T50,@Ty.T54,@Ty.T55,@Ty.T56,@Ty.T57,@Ty.T59,@Ty.T83,@Ty.T84,@Ty.T85,@Ty.T87,@Ty.T90,@Ty.T92,@Ty.T93,@Ty.T108,@Ty.T111,@Ty.T113⟩
def purB (o:Option PurseD) (p:PurseD):Nat :=
 if p.o.size=0∨40 < p.o.size∨p.d.size=0∨40 < p.d.size then 4 else if p.n=0 then 3 else
 match o with
 | none=>0
 | some q=>if cmpP (pk q) (pk p) < 0 then 0 else 2
def wrongL:Option PurseD→List PurseD→Nat
 | _,[]=>0
 | o,p :: t=>if purB o p=0 then wrongL (some p) t else purB o p
def nilI:D:=.i (.s (.slice none 0 0))
def stC (l:List PurseD):List D:=[.i (.s (.string ⟨#[97]⟩)),intV 0,intV 0,nilI,nilI,nilI,nilI,nilI,nilI,.i (pusI l)]
def encL (p:Nat × Nat):List I:=[.s (.int .i64 p.1),.s (.int .i64 p.2)]
theorem len0 {P:Program} {t e:TypeId} (hu:undOf P t=some (.slice e)):pv P (Builtin.len_ #[t] 0 #[.slice none 0 0])=some (.int .i64 0):=by
 simp only [Builtin.len_]
 rw [show (#[t]:Array TypeId)[0]?=some t from rfl,show (#[Value.slice none 0 0]:Array Value)[0]?=some (.slice none 0 0) from rfl]
 simp only [pv_bind',show pv P (underlying t)=some (.slice e) from hu,Option.bind_some,pv_pure]
 rfl
theorem zeroA:Int.ofNat 0=0:=rfl
set_option maxHeartbeats 4000000
theorem marksNil_A:PureD Tryd.prog 59 [.i (.sl [])] (intD 0):=by
 refine callD_W 67 Tryd.func59 rfl rfl rfl (fun _ _=>rfl) ?_
 (repeat (first | (simp -implicitDefEqProofs only [ev,mixed,Nat.reduceLT,Nat.reduceAdd,Nat.reduceMul,reduceIte,Nat.reduceEqDiff,reduceCtorEq,Nat.reducePow,Nat.reduceLeDiff,Int.reduceLE,Int.reduceLT,Int.reduceToNat,Int.reduceEq,Nat.reduceBEq,itsOf,gdA,byteI,opid,lenQ,ixQ,ldH,readAt,readCells,asCell,faQ,exQ,fldQ,partA,buildQ,slQ,stH,bslH,appH,dcells,convI,elemsOf,D.one,nilS,fillD,convN,cvH,tyRWrong0,List.length_nil,Int.natCast_zero]) | (with_reducible refine ⟨?_,?_⟩; (· first | (obtain ⟨rfl⟩:=‹Hq _ _›; with_reducible refine chk_ok ?_; kernel_rfl) | kernel_rfl)) | (with_reducible intro ops hops)))
 refine W_loopI (ι:=Nat) (fun i=>i=0)
  (fun i=>stOf [(2,intD 0),(6,intD 0),(7,intD 0)] []) (fun i=>1 - i) 0 rfl ?_ ?_
 ·refine le_stOf _ _ [] [] ?_ ?_ rfl rfl
  ·simp [cv,cvL,cv1,cv0,upd,lk,srcOf,intD,sD,sI]
  ·simp
 ·rintro i rfl
  rw [stOf_eq]
  have g1:decide ((0:Int) < 0)=false:=by decide
  (repeat (first | (simp -implicitDefEqProofs only [ev,mixed,Nat.reduceLT,Nat.reduceAdd,Nat.reduceMul,reduceIte,Nat.reduceEqDiff,reduceCtorEq,Nat.reducePow,Nat.reduceLeDiff,Int.reduceLE,Int.reduceLT,Int.reduceToNat,Int.reduceEq,Nat.reduceBEq,itsOf,gdA,byteI,opid,lenQ,ixQ,ldH,readAt,readCells,asCell,faQ,exQ,fldQ,partA,buildQ,slQ,stH,bslH,appH,dcells,convI,elemsOf,D.one,nilS,fillD,convN,cvH,tyRWrong0,intD,g1]) | (with_reducible refine ⟨?_,?_⟩; (· first | (obtain ⟨rfl⟩:=‹Hq _ _›; with_reducible refine chk_ok ?_; kernel_rfl) | kernel_rfl)) | (with_reducible intro ops hops)))
  refine fin_ret [] rfl ?_
  simp [cv,cv1,cv0,upd,intD]
set_option maxRecDepth 4000 in
theorem rwrong_A (l:List PurseD) (hl:l.length≤60):PureD Tryd.prog 37 [.agg (stC l)] (intD (wrongL none l)):=by
 have hname:=name_A ⟨#[97]⟩
 rw [show nameOk ⟨#[97]⟩=true by decide] at hname
 have hfrom:=from_A 0 [0,0] (by simp)
 rw [show ([0,0].all (inB 0))=true by decide] at hfrom
 simp only [ints,List.map_cons,List.map_nil] at hfrom
 have hmarks:=marksNil_A
 generalize hR:wrongL none l=R
 have q1:=len0 un57
 have q2:=len0 un54
 have q3:=len0 un55
 have q4:=len0 un56
 refine callD_W 230 Tryd.func37 rfl rfl rfl (fun _ _=>rfl) ?_
 (repeat (first | (simp -implicitDefEqProofs only [ev,mixed,Nat.reduceLT,Nat.reduceAdd,Nat.reduceMul,reduceIte,Nat.reduceEqDiff,reduceCtorEq,Nat.reducePow,Nat.reduceLeDiff,Int.reduceLE,Int.reduceLT,Int.reduceToNat,Int.reduceEq,Nat.reduceBEq,itsOf,gdA,byteI,opid,lenQ,ixQ,ldH,readAt,readCells,asCell,faQ,exQ,fldQ,partA,buildQ,slQ,stH,bslH,appH,dcells,convI,elemsOf,D.one,nilS,fillD,convN,cvH,tyRWrong1,stC,intV,nilI,pusI,q1,q2,q3,q4]) | (with_reducible refine ⟨?_,?_⟩; (· first | (obtain ⟨rfl⟩:=‹Hq _ _›; with_reducible refine chk_ok ?_; kernel_rfl) | kernel_rfl)) | (with_reducible intro ops hops)))
 (first | refine Call_flat [] [] (hname) (by simp [cvAs,cvA,cvRL,cvR,cvBox,cv1,cvL,cv0,bI,byteI,intD,sD,sI,pusI,elemsOf,upd]) rfl ?_ | refine CallF_flat [] [] [] (hname) (fun G _=>by simp [cvAs,cvA,cvRL,cvR,cvBox,cv1,cvL,cv0,bI,byteI,intD,sD,sI,pusI,elemsOf,upd]) rfl ?_)
 (repeat (first | (simp -implicitDefEqProofs only [ev,mixed,Nat.reduceLT,Nat.reduceAdd,Nat.reduceMul,reduceIte,Nat.reduceEqDiff,reduceCtorEq,Nat.reducePow,Nat.reduceLeDiff,Int.reduceLE,Int.reduceLT,Int.reduceToNat,Int.reduceEq,Nat.reduceBEq,itsOf,gdA,byteI,opid,lenQ,ixQ,ldH,readAt,readCells,asCell,faQ,exQ,fldQ,partA,buildQ,slQ,stH,bslH,appH,dcells,convI,elemsOf,D.one,nilS,fillD,convN,cvH,tyRWrong1,boolV,q1,q2,q3,q4]) | (with_reducible refine ⟨?_,?_⟩; (· first | (obtain ⟨rfl⟩:=‹Hq _ _›; with_reducible refine chk_ok ?_; kernel_rfl) | kernel_rfl)) | (with_reducible intro ops hops)))
 (first | refine Call_flat [1772] [] (hfrom) (by simp [cvAs,cvA,cvRL,cvR,cvBox,cv1,cvL,cv0,bI,byteI,intD,sD,sI,pusI,elemsOf,upd,hO,lk,intV]) rfl ?_ | refine CallF_flat [1772] [] [1772] (hfrom) (fun G hG=>by (have hG1772:=hG 1772 (by simp); simp [cvAs,cvA,cvRL,cvR,cvBox,cv1,cvL,cv0,bI,byteI,intD,sD,sI,pusI,elemsOf,upd,hO,lk,intV,hG1772])) rfl ?_)
 (repeat (first | (simp -implicitDefEqProofs only [ev,mixed,Nat.reduceLT,Nat.reduceAdd,Nat.reduceMul,reduceIte,Nat.reduceEqDiff,reduceCtorEq,Nat.reducePow,Nat.reduceLeDiff,Int.reduceLE,Int.reduceLT,Int.reduceToNat,Int.reduceEq,Nat.reduceBEq,itsOf,gdA,byteI,opid,lenQ,ixQ,ldH,readAt,readCells,asCell,faQ,exQ,fldQ,partA,buildQ,slQ,stH,bslH,appH,dcells,convI,elemsOf,D.one,nilS,fillD,convN,cvH,tyRWrong1,boolV,q1,q2,q3,q4]) | (with_reducible refine ⟨?_,?_⟩; (· first | (obtain ⟨rfl⟩:=‹Hq _ _›; with_reducible refine chk_ok ?_; kernel_rfl) | kernel_rfl)) | (with_reducible intro ops hops)))
 refine W_loopI (ι:=Nat) (fun i=>i≤7)
  (fun i=>stOf [(1,.pt 101 0 0 0),(57,.os 100 2 0 7),(58,intD 7),(59,intD i)] [(100,.arr 2 ([(0,4),(0,8),(0,8),(0,50),(0,50),(0,50),(l.length,60)].map encL)),(101,.box (stC l))]) (fun i=>7 - i) 0 (Nat.zero_le _) ?_ ?_
 ·refine le_stOf _ _ [] [(100,2308),(101,1000)] ?_ ?_ rfl rfl
  ·simp [cv,cvL,cv1,cv0,upd,lk,srcOf,intD]
  ·simp [objOk,srcOf,lk,cvO,cvL,cv1,cv0,frz,upd,hO,noH,stC,intV,nilI,pusI,encL,D.one]
 have hL:∀ p∈[(0,4),(0,8),(0,8),(0,50),(0,50),(0,50),(l.length,60)],p.1≤p.2:=by simp; exact hl
 have hLn:[(0,4),(0,8),(0,8),(0,50),(0,50),(0,50),(l.length,60)].length=7:=rfl
 generalize [(0,4),(0,8),(0,8),(0,50),(0,50),(0,50),(l.length,60)]=L at hL hLn ⊢
 rintro i hi
 rw [stOf_eq]
 by_cases h:i < L.length
 ·have g1:decide ((i:Int) < 7)=true:=decide_eq_true (by omega)
  have e1:(L.map encL)[i]?=some (encL L[i]):=by rw [List.getElem?_map,List.getElem?_eq_getElem h]; rfl
  have w1:IntKind.i64.wrap ((i:Int)+1)=((i+1:Nat):Int):=by rw [wrap64 (by omega) (by omega)]; omega
  have L1:((i:Int) < 7)=True:=eq_true (by omega)
  have hp:=hL L[i] (List.getElem_mem h)
  generalize L[i]=p at *
  obtain ⟨x,y⟩:=p
  simp only [encL] at e1 hp
  have g2:decide ((y:Int) < (x:Int))=false:=decide_eq_false (by omega)
  (repeat (first | (simp -implicitDefEqProofs only [ev,mixed,Nat.reduceLT,Nat.reduceAdd,Nat.reduceMul,reduceIte,Nat.reduceEqDiff,reduceCtorEq,Nat.reducePow,Nat.reduceLeDiff,Int.reduceLE,Int.reduceLT,Int.reduceToNat,Int.reduceEq,Nat.reduceBEq,itsOf,gdA,byteI,opid,lenQ,ixQ,ldH,readAt,readCells,asCell,faQ,exQ,fldQ,partA,buildQ,slQ,stH,bslH,appH,dcells,convI,elemsOf,D.one,nilS,fillD,convN,cvH,tyRWrong1,intD,g1,e1,g2,w1,L1]) | (with_reducible refine ⟨?_,?_⟩; (· first | (obtain ⟨rfl⟩:=‹Hq _ _›; with_reducible refine chk_ok ?_; kernel_rfl) | kernel_rfl)) | (with_reducible intro ops hops)))
  refine ⟨i+1,by omega,le_stOf _ _ [] [(100,100),(101,101)] ?_ ?_ rfl rfl,by simp; omega⟩
  ·simp [cv,cvL,cv1,cv0,upd,lk,srcOf,intD]
  ·simp [objOk,srcOf,lk,cvO,cvL,cv1,cv0,frz,upd,hO,noH,stC,intV,nilI,pusI,encL,D.one]
 have g1:decide ((i:Int) < 7)=false:=decide_eq_false (by omega)
 (repeat (first | (simp -implicitDefEqProofs only [ev,mixed,Nat.reduceLT,Nat.reduceAdd,Nat.reduceMul,reduceIte,Nat.reduceEqDiff,reduceCtorEq,Nat.reducePow,Nat.reduceLeDiff,Int.reduceLE,Int.reduceLT,Int.reduceToNat,Int.reduceEq,Nat.reduceBEq,itsOf,gdA,byteI,opid,lenQ,ixQ,ldH,readAt,readCells,asCell,faQ,exQ,fldQ,partA,buildQ,slQ,stH,bslH,appH,dcells,convI,elemsOf,D.one,nilS,fillD,convN,cvH,tyRWrong1,intD,g1,stC,q1,q2,q3,q4,intV,nilI,pusI]) | (with_reducible refine ⟨?_,?_⟩; (· first | (obtain ⟨rfl⟩:=‹Hq _ _›; with_reducible refine chk_ok ?_; kernel_rfl) | kernel_rfl)) | (with_reducible intro ops hops)))
 have z1:decide ((0:Int) < 0)=false:=by decide
 refine W_loopI (ι:=Nat) (fun i=>i=0)
  (fun i=>stOf [(1,.pt 101 0 0 0),(71,intD 0),(72,intD 0)] [(101,.box (stC l))]) (fun i=>1 - i) 0 rfl ?_ ?_
 ·refine le_stOf _ _ [] [(101,101)] ?_ ?_ rfl rfl
  ·simp [cv,cvL,cv1,cv0,upd,lk,srcOf,intD]
  ·simp [objOk,srcOf,lk,cvO,cvL,cv1,cv0,frz,upd,hO,noH,stC,intV,nilI,pusI,encL,D.one]
 rintro i rfl
 rw [stOf_eq]
 (repeat (first | (simp -implicitDefEqProofs only [ev,mixed,Nat.reduceLT,Nat.reduceAdd,Nat.reduceMul,reduceIte,Nat.reduceEqDiff,reduceCtorEq,Nat.reducePow,Nat.reduceLeDiff,Int.reduceLE,Int.reduceLT,Int.reduceToNat,Int.reduceEq,Nat.reduceBEq,itsOf,gdA,byteI,opid,lenQ,ixQ,ldH,readAt,readCells,asCell,faQ,exQ,fldQ,partA,buildQ,slQ,stH,bslH,appH,dcells,convI,elemsOf,D.one,nilS,fillD,convN,cvH,tyRWrong1,intD,z1,stC,q1,q2,q3,q4,intV,nilI,pusI]) | (with_reducible refine ⟨?_,?_⟩; (· first | (obtain ⟨rfl⟩:=‹Hq _ _›; with_reducible refine chk_ok ?_; kernel_rfl) | kernel_rfl)) | (with_reducible intro ops hops)))
 refine W_loopI (ι:=Nat) (fun i=>i=0)
  (fun i=>stOf [(1,.pt 101 0 0 0),(84,intD 0),(85,intD 0)] [(101,.box (stC l))]) (fun i=>1 - i) 0 rfl ?_ ?_
 ·refine le_stOf _ _ [] [(101,101)] ?_ ?_ rfl rfl
  ·simp [cv,cvL,cv1,cv0,upd,lk,srcOf,intD]
  ·simp [objOk,srcOf,lk,cvO,cvL,cv1,cv0,frz,upd,hO,noH,stC,intV,nilI,pusI,encL,D.one]
 rintro i rfl
 rw [stOf_eq]
 (repeat (first | (simp -implicitDefEqProofs only [ev,mixed,Nat.reduceLT,Nat.reduceAdd,Nat.reduceMul,reduceIte,Nat.reduceEqDiff,reduceCtorEq,Nat.reducePow,Nat.reduceLeDiff,Int.reduceLE,Int.reduceLT,Int.reduceToNat,Int.reduceEq,Nat.reduceBEq,itsOf,gdA,byteI,opid,lenQ,ixQ,ldH,readAt,readCells,asCell,faQ,exQ,fldQ,partA,buildQ,slQ,stH,bslH,appH,dcells,convI,elemsOf,D.one,nilS,fillD,convN,cvH,tyRWrong1,intD,z1,stC,q1,q2,q3,q4,intV,nilI,pusI]) | (with_reducible refine ⟨?_,?_⟩; (· first | (obtain ⟨rfl⟩:=‹Hq _ _›; with_reducible refine chk_ok ?_; kernel_rfl) | kernel_rfl)) | (with_reducible intro ops hops)))
 refine W_loopI (ι:=Nat) (fun i=>i=0)
  (fun i=>stOf [(1,.pt 101 0 0 0),(114,intD 0),(115,intD 0)] [(101,.box (stC l))]) (fun i=>1 - i) 0 rfl ?_ ?_
 ·refine le_stOf _ _ [] [(101,101)] ?_ ?_ rfl rfl
  ·simp [cv,cvL,cv1,cv0,upd,lk,srcOf,intD]
  ·simp [objOk,srcOf,lk,cvO,cvL,cv1,cv0,frz,upd,hO,noH,stC,intV,nilI,pusI,encL,D.one]
 rintro i rfl
 rw [stOf_eq]
 (repeat (first | (simp -implicitDefEqProofs only [ev,mixed,Nat.reduceLT,Nat.reduceAdd,Nat.reduceMul,reduceIte,Nat.reduceEqDiff,reduceCtorEq,Nat.reducePow,Nat.reduceLeDiff,Int.reduceLE,Int.reduceLT,Int.reduceToNat,Int.reduceEq,Nat.reduceBEq,itsOf,gdA,byteI,opid,lenQ,ixQ,ldH,readAt,readCells,asCell,faQ,exQ,fldQ,partA,buildQ,slQ,stH,bslH,appH,dcells,convI,elemsOf,D.one,nilS,fillD,convN,cvH,tyRWrong1,intD,z1,stC,q1,q2,q3,q4,intV,nilI,pusI]) | (with_reducible refine ⟨?_,?_⟩; (· first | (obtain ⟨rfl⟩:=‹Hq _ _›; with_reducible refine chk_ok ?_; kernel_rfl) | kernel_rfl)) | (with_reducible intro ops hops)))
 refine W_loopI (ι:=Nat) (fun i=>i≤3)
  (fun i=>stOf [(1,.pt 101 0 0 0),(157,.os 100 1 0 3),(158,intD 3),(159,intD i)] [(100,.arr 1 [[I.sl []],[I.sl []],[I.sl []]]),(101,.box (stC l))]) (fun i=>3 - i) 0 (Nat.zero_le _) ?_ ?_
 ·refine le_stOf _ _ [] [(100,9710),(101,101)] ?_ ?_ rfl rfl
  ·simp [cv,cvL,cv1,cv0,upd,lk,srcOf,intD]
  ·simp [objOk,srcOf,lk,cvO,cvL,cv1,cv0,frz,upd,hO,noH,stC,intV,nilI,pusI,encL,D.one]
 rintro i hi
 rw [stOf_eq]
 by_cases h:i < 3
 ·have g1:decide ((i:Int) < 3)=true:=decide_eq_true (by omega)
  have e1:[[I.sl []],[I.sl []],[I.sl []]][i]?=some [I.sl []]:=by
   rcases (by omega:i=0∨i=1∨i=2) with rfl | rfl | rfl <;> rfl
  have w1:IntKind.i64.wrap ((i:Int)+1)=((i+1:Nat):Int):=by rw [wrap64 (by omega) (by omega)]; omega
  have L1:((i:Int) < 3)=True:=eq_true (by omega)
  generalize hX:[[I.sl []],[I.sl []],[I.sl []]]=X at e1 ⊢
  (repeat (first | (simp -implicitDefEqProofs only [ev,mixed,Nat.reduceLT,Nat.reduceAdd,Nat.reduceMul,reduceIte,Nat.reduceEqDiff,reduceCtorEq,Nat.reducePow,Nat.reduceLeDiff,Int.reduceLE,Int.reduceLT,Int.reduceToNat,Int.reduceEq,Nat.reduceBEq,itsOf,gdA,byteI,opid,lenQ,ixQ,ldH,readAt,readCells,asCell,faQ,exQ,fldQ,partA,buildQ,slQ,stH,bslH,appH,dcells,convI,elemsOf,D.one,nilS,fillD,convN,cvH,tyRWrong1,intD,g1,e1,w1,L1]) | (with_reducible refine ⟨?_,?_⟩; (· first | (obtain ⟨rfl⟩:=‹Hq _ _›; with_reducible refine chk_ok ?_; kernel_rfl) | kernel_rfl)) | (with_reducible intro ops hops)))
  (first | refine Call_frz [] (hmarks) (by simp [cvAs,cvA,cvRL,cvR,cvBox,cv1,cvL,cv0,bI,byteI,intD,sD,sI,pusI,elemsOf,upd]) ?_ | refine CallF_frz [] [] (hmarks) (fun G _=>by simp [cvAs,cvA,cvRL,cvR,cvBox,cv1,cvL,cv0,bI,byteI,intD,sD,sI,pusI,elemsOf,upd]) (by simp) ?_)
  (repeat (first | (simp -implicitDefEqProofs only [ev,mixed,Nat.reduceLT,Nat.reduceAdd,Nat.reduceMul,reduceIte,Nat.reduceEqDiff,reduceCtorEq,Nat.reducePow,Nat.reduceLeDiff,Int.reduceLE,Int.reduceLT,Int.reduceToNat,Int.reduceEq,Nat.reduceBEq,itsOf,gdA,byteI,opid,lenQ,ixQ,ldH,readAt,readCells,asCell,faQ,exQ,fldQ,partA,buildQ,slQ,stH,bslH,appH,dcells,convI,elemsOf,D.one,nilS,fillD,convN,cvH,tyRWrong1,intD,g1,e1,w1,L1]) | (with_reducible refine ⟨?_,?_⟩; (· first | (obtain ⟨rfl⟩:=‹Hq _ _›; with_reducible refine chk_ok ?_; kernel_rfl) | kernel_rfl)) | (with_reducible intro ops hops)))
  refine ⟨i+1,by omega,le_stOf _ _ [] [(100,100),(101,101)] ?_ ?_ rfl rfl,by simp; omega⟩
  ·simp [cv,cvL,cv1,cv0,upd,lk,srcOf,intD]
  ·simp [objOk,srcOf,lk,cvO,cvL,cv1,cv0,frz,upd,hO,noH,stC,intV,nilI,pusI,encL,D.one,hX]
 have g1:decide ((i:Int) < 3)=false:=decide_eq_false (by omega)
 (repeat (first | (simp -implicitDefEqProofs only [ev,mixed,Nat.reduceLT,Nat.reduceAdd,Nat.reduceMul,reduceIte,Nat.reduceEqDiff,reduceCtorEq,Nat.reducePow,Nat.reduceLeDiff,Int.reduceLE,Int.reduceLT,Int.reduceToNat,Int.reduceEq,Nat.reduceBEq,itsOf,gdA,byteI,opid,lenQ,ixQ,ldH,readAt,readCells,asCell,faQ,exQ,fldQ,partA,buildQ,slQ,stH,bslH,appH,dcells,convI,elemsOf,D.one,nilS,fillD,convN,cvH,tyRWrong1,intD,g1,stC,intV,nilI,pusI]) | (with_reducible refine ⟨?_,?_⟩; (· first | (obtain ⟨rfl⟩:=‹Hq _ _›; with_reducible refine chk_ok ?_; kernel_rfl) | kernel_rfl)) | (with_reducible intro ops hops)))
 refine W_loopI (ι:=Nat) (fun i=>i≤l.length∧wrongL (if i=0 then none else l[i - 1]?) (l.drop i)=R)
  (fun i=>stOf [(1,.pt 101 0 0 0),(170,.i (pusI l)),(171,intD l.length),(172,intD i)] [(101,.box (stC l))]) (fun i=>l.length - i) 0 ⟨Nat.zero_le _,hR⟩ ?_ ?_
 ·refine le_stOf _ _ [] [(101,101)] ?_ ?_ rfl rfl
  ·simp [cv,cvL,cv1,cv0,upd,lk,srcOf,intD,pusI]
  ·simp [objOk,srcOf,lk,cvO,cvL,cv1,cv0,frz,upd,hO,noH,stC,intV,nilI,pusI,encL,D.one]
 rintro i ⟨hi,hr⟩
 rw [stOf_eq]
 clear hR
 by_cases h:i < l.length
 rotate_left
 ·have g1:decide ((i:Int) < (l.length:Int))=false:=decide_eq_false (by omega)
  rw [List.drop_eq_nil_of_le (by omega)] at hr
  simp only [wrongL] at hr
  subst hr
  (repeat (first | (simp -implicitDefEqProofs only [ev,mixed,Nat.reduceLT,Nat.reduceAdd,Nat.reduceMul,reduceIte,Nat.reduceEqDiff,reduceCtorEq,Nat.reducePow,Nat.reduceLeDiff,Int.reduceLE,Int.reduceLT,Int.reduceToNat,Int.reduceEq,Nat.reduceBEq,itsOf,gdA,byteI,opid,lenQ,ixQ,ldH,readAt,readCells,asCell,faQ,exQ,fldQ,partA,buildQ,slQ,stH,bslH,appH,dcells,convI,elemsOf,D.one,nilS,fillD,convN,cvH,tyRWrong1,intD,g1]) | (with_reducible refine ⟨?_,?_⟩; (· first | (obtain ⟨rfl⟩:=‹Hq _ _›; with_reducible refine chk_ok ?_; kernel_rfl) | kernel_rfl)) | (with_reducible intro ops hops)))
  refine fin_ret [] rfl ?_
  simp [cv,cv1,cv0,upd,intD]
 have g1:decide ((i:Int) < (l.length:Int))=true:=decide_eq_true (by omega)
 have e1:(l.map encPu)[i]?=some (encPu l[i]):=by rw [List.getElem?_map,List.getElem?_eq_getElem h]; rfl
 have w1:IntKind.i64.wrap ((i:Int)+1)=((i+1:Nat):Int):=by rw [wrap64 (by omega) (by omega)]; omega
 have w2:1≤i→IntKind.i64.wrap ((i:Int) - 1)=((i - 1:Nat):Int):=by intro _; rw [wrap64 (by omega) (by omega)]; omega
 have e2:1≤i→∃ q,l[i - 1]?=some q∧(l.map encPu)[i - 1]?=some (encPu q):=by
  intro _
  refine ⟨l[i - 1],List.getElem?_eq_getElem (by omega),?_⟩
  rw [List.getElem?_map,List.getElem?_eq_getElem (by omega)]; rfl
 have hs:l[i]?=some l[i]:=List.getElem?_eq_getElem h
 rw [List.drop_eq_getElem_cons h,wrongL] at hr
 generalize l[i]=p at *
 simp only [encPu] at e1
 by_cases b1:p.o.size=0
 ·have c1:decide ((p.o.size:Int)=0)=true:=decide_eq_true (by omega)
  have hb:purB (if i=0 then none else l[i - 1]?) p=4:=by unfold purB; rw [if_pos (by omega)]
  rw [hb,if_neg (by decide)] at hr
  subst hr
  (repeat (first | (simp -implicitDefEqProofs only [ev,mixed,Nat.reduceLT,Nat.reduceAdd,Nat.reduceMul,reduceIte,Nat.reduceEqDiff,reduceCtorEq,Nat.reducePow,Nat.reduceLeDiff,Int.reduceLE,Int.reduceLT,Int.reduceToNat,Int.reduceEq,Nat.reduceBEq,itsOf,gdA,byteI,opid,lenQ,ixQ,ldH,readAt,readCells,asCell,faQ,exQ,fldQ,partA,buildQ,slQ,stH,bslH,appH,dcells,convI,elemsOf,D.one,nilS,fillD,convN,cvH,tyRWrong1,intD,g1,e1,c1,stC,intV,nilI,pusI]) | (with_reducible refine ⟨?_,?_⟩; (· first | (obtain ⟨rfl⟩:=‹Hq _ _›; with_reducible refine chk_ok ?_; kernel_rfl) | kernel_rfl)) | (with_reducible intro ops hops)))
  refine fin_ret [] rfl ?_
  simp [cv,cv1,cv0,upd,intD]
 have c1:decide ((p.o.size:Int)=0)=false:=decide_eq_false (by omega)
 by_cases b2:40 < p.o.size
 ·have c2:decide ((40:Int) < (p.o.size:Int))=true:=decide_eq_true (by omega)
  have hb:purB (if i=0 then none else l[i - 1]?) p=4:=by unfold purB; rw [if_pos (by omega)]
  rw [hb,if_neg (by decide)] at hr
  subst hr
  (repeat (first | (simp -implicitDefEqProofs only [ev,mixed,Nat.reduceLT,Nat.reduceAdd,Nat.reduceMul,reduceIte,Nat.reduceEqDiff,reduceCtorEq,Nat.reducePow,Nat.reduceLeDiff,Int.reduceLE,Int.reduceLT,Int.reduceToNat,Int.reduceEq,Nat.reduceBEq,itsOf,gdA,byteI,opid,lenQ,ixQ,ldH,readAt,readCells,asCell,faQ,exQ,fldQ,partA,buildQ,slQ,stH,bslH,appH,dcells,convI,elemsOf,D.one,nilS,fillD,convN,cvH,tyRWrong1,intD,g1,e1,c1,c2,stC,intV,nilI,pusI]) | (with_reducible refine ⟨?_,?_⟩; (· first | (obtain ⟨rfl⟩:=‹Hq _ _›; with_reducible refine chk_ok ?_; kernel_rfl) | kernel_rfl)) | (with_reducible intro ops hops)))
  refine fin_ret [] rfl ?_
  simp [cv,cv1,cv0,upd,intD]
 have c2:decide ((40:Int) < (p.o.size:Int))=false:=decide_eq_false (by omega)
 by_cases b3:p.d.size=0
 ·have c3:decide ((p.d.size:Int)=0)=true:=decide_eq_true (by omega)
  have hb:purB (if i=0 then none else l[i - 1]?) p=4:=by unfold purB; rw [if_pos (by omega)]
  rw [hb,if_neg (by decide)] at hr
  subst hr
  (repeat (first | (simp -implicitDefEqProofs only [ev,mixed,Nat.reduceLT,Nat.reduceAdd,Nat.reduceMul,reduceIte,Nat.reduceEqDiff,reduceCtorEq,Nat.reducePow,Nat.reduceLeDiff,Int.reduceLE,Int.reduceLT,Int.reduceToNat,Int.reduceEq,Nat.reduceBEq,itsOf,gdA,byteI,opid,lenQ,ixQ,ldH,readAt,readCells,asCell,faQ,exQ,fldQ,partA,buildQ,slQ,stH,bslH,appH,dcells,convI,elemsOf,D.one,nilS,fillD,convN,cvH,tyRWrong1,intD,g1,e1,c1,c2,c3,stC,intV,nilI,pusI]) | (with_reducible refine ⟨?_,?_⟩; (· first | (obtain ⟨rfl⟩:=‹Hq _ _›; with_reducible refine chk_ok ?_; kernel_rfl) | kernel_rfl)) | (with_reducible intro ops hops)))
  refine fin_ret [] rfl ?_
  simp [cv,cv1,cv0,upd,intD]
 have c3:decide ((p.d.size:Int)=0)=false:=decide_eq_false (by omega)
 by_cases b4:40 < p.d.size
 ·have c4:decide ((40:Int) < (p.d.size:Int))=true:=decide_eq_true (by omega)
  have hb:purB (if i=0 then none else l[i - 1]?) p=4:=by unfold purB; rw [if_pos (by omega)]
  rw [hb,if_neg (by decide)] at hr
  subst hr
  (repeat (first | (simp -implicitDefEqProofs only [ev,mixed,Nat.reduceLT,Nat.reduceAdd,Nat.reduceMul,reduceIte,Nat.reduceEqDiff,reduceCtorEq,Nat.reducePow,Nat.reduceLeDiff,Int.reduceLE,Int.reduceLT,Int.reduceToNat,Int.reduceEq,Nat.reduceBEq,itsOf,gdA,byteI,opid,lenQ,ixQ,ldH,readAt,readCells,asCell,faQ,exQ,fldQ,partA,buildQ,slQ,stH,bslH,appH,dcells,convI,elemsOf,D.one,nilS,fillD,convN,cvH,tyRWrong1,intD,g1,e1,c1,c2,c3,c4,stC,intV,nilI,pusI]) | (with_reducible refine ⟨?_,?_⟩; (· first | (obtain ⟨rfl⟩:=‹Hq _ _›; with_reducible refine chk_ok ?_; kernel_rfl) | kernel_rfl)) | (with_reducible intro ops hops)))
  refine fin_ret [] rfl ?_
  simp [cv,cv1,cv0,upd,intD]
 have c4:decide ((40:Int) < (p.d.size:Int))=false:=decide_eq_false (by omega)
 by_cases b5:p.n=0
 ·have c5:decide ((p.n:Int)=0)=true:=decide_eq_true (by omega)
  have hb:purB (if i=0 then none else l[i - 1]?) p=3:=by unfold purB; rw [if_neg (by omega),if_pos b5]
  rw [hb,if_neg (by decide)] at hr
  subst hr
  (repeat (first | (simp -implicitDefEqProofs only [ev,mixed,Nat.reduceLT,Nat.reduceAdd,Nat.reduceMul,reduceIte,Nat.reduceEqDiff,reduceCtorEq,Nat.reducePow,Nat.reduceLeDiff,Int.reduceLE,Int.reduceLT,Int.reduceToNat,Int.reduceEq,Nat.reduceBEq,itsOf,gdA,byteI,opid,lenQ,ixQ,ldH,readAt,readCells,asCell,faQ,exQ,fldQ,partA,buildQ,slQ,stH,bslH,appH,dcells,convI,elemsOf,D.one,nilS,fillD,convN,cvH,tyRWrong1,intD,g1,e1,c1,c2,c3,c4,c5,stC,intV,nilI,pusI]) | (with_reducible refine ⟨?_,?_⟩; (· first | (obtain ⟨rfl⟩:=‹Hq _ _›; with_reducible refine chk_ok ?_; kernel_rfl) | kernel_rfl)) | (with_reducible intro ops hops)))
  refine fin_ret [] rfl ?_
  simp [cv,cv1,cv0,upd,intD]
 have c5:decide ((p.n:Int)=0)=false:=decide_eq_false (by omega)
 by_cases b6:i=0
 ·have c6:decide ((0:Int) < (i:Int))=false:=decide_eq_false (by omega)
  have hb:purB (if i=0 then none else l[i - 1]?) p=0:=by unfold purB; rw [if_neg (by omega),if_neg b5,if_pos b6]
  rw [hb,if_pos rfl] at hr
  (repeat (first | (simp -implicitDefEqProofs only [ev,mixed,Nat.reduceLT,Nat.reduceAdd,Nat.reduceMul,reduceIte,Nat.reduceEqDiff,reduceCtorEq,Nat.reducePow,Nat.reduceLeDiff,Int.reduceLE,Int.reduceLT,Int.reduceToNat,Int.reduceEq,Nat.reduceBEq,itsOf,gdA,byteI,opid,lenQ,ixQ,ldH,readAt,readCells,asCell,faQ,exQ,fldQ,partA,buildQ,slQ,stH,bslH,appH,dcells,convI,elemsOf,D.one,nilS,fillD,convN,cvH,tyRWrong1,intD,g1,e1,c1,c2,c3,c4,c5,c6,w1,stC,intV,nilI,pusI]) | (with_reducible refine ⟨?_,?_⟩; (· first | (obtain ⟨rfl⟩:=‹Hq _ _›; with_reducible refine chk_ok ?_; kernel_rfl) | kernel_rfl)) | (with_reducible intro ops hops)))
  refine ⟨i+1,⟨h,by rw [if_neg (by omega),Nat.add_sub_cancel,hs]; exact hr⟩,le_stOf _ _ [] [(101,101)] ?_ ?_ rfl rfl,by simp; omega⟩
  ·simp [cv,cvL,cv1,cv0,upd,lk,srcOf,intD,pusI]
  ·simp [objOk,srcOf,lk,cvO,cvL,cv1,cv0,frz,upd,hO,noH,stC,intV,nilI,pusI,encL,D.one]
 have c6:decide ((0:Int) < (i:Int))=true:=decide_eq_true (by omega)
 have w2:=w2 (by omega)
 obtain ⟨q,hq,e2⟩:=e2 (by omega)
 have hb:purB (if i=0 then none else l[i - 1]?) p=if cmpP (pk q) (pk p) < 0 then 0 else 2:=by unfold purB; rw [if_neg (by omega),if_neg b5,if_neg b6,hq]
 rw [hb] at hr
 clear hb
 unfold cmpP pk at hr
 simp only at hr
 simp only [encPu] at e2
 generalize hx:cmpS q.o p.o=x at *
 generalize hy:cmpS q.d p.d=y at *
 by_cases b7:0 < x
 ·have c7:decide (0 < x)=true:=decide_eq_true b7
  rw [if_neg (show ¬ (if x=0 then y else x) < 0 by rw [if_neg (by omega)]; omega),if_neg (by decide)] at hr
  subst hr
  (repeat (first | (simp -implicitDefEqProofs only [ev,mixed,Nat.reduceLT,Nat.reduceAdd,Nat.reduceMul,reduceIte,Nat.reduceEqDiff,reduceCtorEq,Nat.reducePow,Nat.reduceLeDiff,Int.reduceLE,Int.reduceLT,Int.reduceToNat,Int.reduceEq,Nat.reduceBEq,itsOf,gdA,byteI,opid,lenQ,ixQ,ldH,readAt,readCells,asCell,faQ,exQ,fldQ,partA,buildQ,slQ,stH,bslH,appH,dcells,convI,elemsOf,D.one,nilS,fillD,convN,cvH,tyRWrong1,intD,g1,e1,c1,c2,c3,c4,c5,c6,w2,e2,hx,c7,stC,intV,nilI,pusI]) | (with_reducible refine ⟨?_,?_⟩; (· first | (obtain ⟨rfl⟩:=‹Hq _ _›; with_reducible refine chk_ok ?_; kernel_rfl) | kernel_rfl)) | (with_reducible intro ops hops)))
  refine fin_ret [] rfl ?_
  simp [cv,cv1,cv0,upd,intD]
 have c7:decide (0 < x)=false:=decide_eq_false b7
 have c8:(q.o == p.o)=decide (x=0):=by
  rw [beqS,← hx]
  by_cases e:q.o=p.o
  ·rw [decide_eq_true e,decide_eq_true (cmpS_zero.2 e)]
  ·rw [decide_eq_false e,decide_eq_false (fun hc=>e (cmpS_zero.1 hc))]
 by_cases b8:x=0
 ·rw [decide_eq_true b8] at c8
  rw [if_pos b8] at hr
  by_cases b9:0≤y
  ·have c9:decide (0≤y)=true:=decide_eq_true b9
   rw [if_neg (show ¬ y < 0 by omega),if_neg (by decide)] at hr
   subst hr
   (repeat (first | (simp -implicitDefEqProofs only [ev,mixed,Nat.reduceLT,Nat.reduceAdd,Nat.reduceMul,reduceIte,Nat.reduceEqDiff,reduceCtorEq,Nat.reducePow,Nat.reduceLeDiff,Int.reduceLE,Int.reduceLT,Int.reduceToNat,Int.reduceEq,Nat.reduceBEq,itsOf,gdA,byteI,opid,lenQ,ixQ,ldH,readAt,readCells,asCell,faQ,exQ,fldQ,partA,buildQ,slQ,stH,bslH,appH,dcells,convI,elemsOf,D.one,nilS,fillD,convN,cvH,tyRWrong1,intD,g1,e1,c1,c2,c3,c4,c5,c6,w2,e2,hx,hy,c7,c8,c9,stC,intV,nilI,pusI]) | (with_reducible refine ⟨?_,?_⟩; (· first | (obtain ⟨rfl⟩:=‹Hq _ _›; with_reducible refine chk_ok ?_; kernel_rfl) | kernel_rfl)) | (with_reducible intro ops hops)))
   refine fin_ret [] rfl ?_
   simp [cv,cv1,cv0,upd,intD]
  ·have c9:decide (0≤y)=false:=decide_eq_false b9
   rw [if_pos (show y < 0 by omega),if_pos rfl] at hr
   (repeat (first | (simp -implicitDefEqProofs only [ev,mixed,Nat.reduceLT,Nat.reduceAdd,Nat.reduceMul,reduceIte,Nat.reduceEqDiff,reduceCtorEq,Nat.reducePow,Nat.reduceLeDiff,Int.reduceLE,Int.reduceLT,Int.reduceToNat,Int.reduceEq,Nat.reduceBEq,itsOf,gdA,byteI,opid,lenQ,ixQ,ldH,readAt,readCells,asCell,faQ,exQ,fldQ,partA,buildQ,slQ,stH,bslH,appH,dcells,convI,elemsOf,D.one,nilS,fillD,convN,cvH,tyRWrong1,intD,g1,e1,c1,c2,c3,c4,c5,c6,w1,w2,e2,hx,hy,c7,c8,c9,stC,intV,nilI,pusI]) | (with_reducible refine ⟨?_,?_⟩; (· first | (obtain ⟨rfl⟩:=‹Hq _ _›; with_reducible refine chk_ok ?_; kernel_rfl) | kernel_rfl)) | (with_reducible intro ops hops)))
   refine ⟨i+1,⟨h,by rw [if_neg (by omega),Nat.add_sub_cancel,hs]; exact hr⟩,le_stOf _ _ [] [(101,101)] ?_ ?_ rfl rfl,by simp; omega⟩
   ·simp [cv,cvL,cv1,cv0,upd,lk,srcOf,intD,pusI]
   ·simp [objOk,srcOf,lk,cvO,cvL,cv1,cv0,frz,upd,hO,noH,stC,intV,nilI,pusI,encL,D.one]
 ·rw [decide_eq_false b8] at c8
  rw [if_neg b8,if_pos (show x < 0 by omega),if_pos rfl] at hr
  (repeat (first | (simp -implicitDefEqProofs only [ev,mixed,Nat.reduceLT,Nat.reduceAdd,Nat.reduceMul,reduceIte,Nat.reduceEqDiff,reduceCtorEq,Nat.reducePow,Nat.reduceLeDiff,Int.reduceLE,Int.reduceLT,Int.reduceToNat,Int.reduceEq,Nat.reduceBEq,itsOf,gdA,byteI,opid,lenQ,ixQ,ldH,readAt,readCells,asCell,faQ,exQ,fldQ,partA,buildQ,slQ,stH,bslH,appH,dcells,convI,elemsOf,D.one,nilS,fillD,convN,cvH,tyRWrong1,intD,g1,e1,c1,c2,c3,c4,c5,c6,w1,w2,e2,hx,c7,c8,stC,intV,nilI,pusI]) | (with_reducible refine ⟨?_,?_⟩; (· first | (obtain ⟨rfl⟩:=‹Hq _ _›; with_reducible refine chk_ok ?_; kernel_rfl) | kernel_rfl)) | (with_reducible intro ops hops)))
  refine ⟨i+1,⟨h,by rw [if_neg (by omega),Nat.add_sub_cancel,hs]; exact hr⟩,le_stOf _ _ [] [(101,101)] ?_ ?_ rfl rfl,by simp; omega⟩
  ·simp [cv,cvL,cv1,cv0,upd,lk,srcOf,intD,pusI]
  ·simp [objOk,srcOf,lk,cvO,cvL,cv1,cv0,frz,upd,hO,noH,stC,intV,nilI,pusI,encL,D.one]
end Go.Proofs.YtckjpabekmhnhaaDoor
