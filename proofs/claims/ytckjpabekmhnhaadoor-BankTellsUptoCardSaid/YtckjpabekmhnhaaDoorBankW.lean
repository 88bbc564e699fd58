/- bank.word, Supply, slices.Clone of purses: by value. -/
import Derived.Test.YtckjpabekmhnhaaDoorBankP
import Derived.Test.YtckjpabekmhnhaaDoorPurseF
import Derived.Test.YtckjpabekmhnhaaDoorAdd64
set_option linter.all false
namespace Go.Proofs.YtckjpabekmhnhaaDoor
open Go Go.Abs Go.RowKit Go.Proofs.YtckjpabekmhnhaaDoor.Ty
theorem tyBankW0:(type_of% @Ty.T3)∧(type_of% @Ty.T9)∧(type_of% @Ty.T100):=⟨@Ty.T3,@Ty.T9,@Ty.T100⟩
theorem tyBankW1:(type_of% @Ty.T3)∧(type_of% @Ty.T9)∧(type_of% @Ty.T22)∧(type_of% @Ty.T23)∧(type_of% @Ty.T50):=⟨@Ty.T3,@Ty.T9,@Ty.T22,@Ty.T23,@Ty.T50⟩
theorem tyBankW2:(type_of% @Ty.T0)∧(type_of% @Ty.T9)∧(type_of% @Ty.T22)∧(type_of% @Ty.T23)∧(type_of% @Ty.T50):=⟨@Ty.T0,@Ty.T9,@Ty.T22,@Ty.T23,@Ty.T50⟩
set_option maxHeartbeats 2000000
theorem word_A (l:List ByteArray) (hl:l.length≤100):PureD Tryd.prog 43 [.i (.sl (l.map fun s=>[sI s]))] (intD (if l.all wordOk then 0 else 4)):=by
 generalize hR:(if l.all wordOk then 0 else 4:Int)=R
 refine callD_W 20 Tryd.func43 rfl rfl rfl (fun _ _=>rfl) ?_
 (repeat (first | (simp -implicitDefEqProofs only [ev,mixed,Nat.reduceLT,Nat.reduceAdd,Nat.reduceMul,reduceIte,Nat.reduceEqDiff,reduceCtorEq,Nat.reducePow,Nat.reduceLeDiff,Int.reduceLE,Int.reduceLT,Int.reduceToNat,Int.reduceEq,Nat.reduceBEq,itsOf,gdA,byteI,opid,lenQ,ixQ,ldH,readAt,readCells,asCell,faQ,exQ,fldQ,partA,buildQ,slQ,stH,bslH,appH,dcells,convI,elemsOf,D.one,nilS,fillD,convN,cvH,tyBankW0,sI]) | (with_reducible refine ⟨?_,?_⟩; (· first | (obtain ⟨rfl⟩:=‹Hq _ _›; with_reducible refine chk_ok ?_; kernel_rfl) | kernel_rfl)) | (with_reducible intro ops hops)))
 refine W_loopI (ι:=Nat) (fun i=>i≤l.length∧(if (l.drop i).all wordOk then 0 else 4:Int)=R)
  (fun i=>stOf [(2,intD 0),(5,.i (.sl (l.map fun s=>[sI s]))),(6,intD l.length),(7,intD i)] []) (fun i=>l.length - i) 0 ⟨Nat.zero_le _,hR⟩ ?_ ?_
 ·refine le_stOf _ _ [] [] ?_ ?_ rfl rfl
  ·simp [cv,cvL,cv1,cv0,upd,lk,srcOf,intD,sI]
  ·simp
 ·rintro i ⟨hi,hr⟩
  clear hR
  rw [stOf_eq]
  by_cases h:i < l.length
  ·have g1:decide ((i:Int) < (l.length:Int))=true:=decide_eq_true (by omega)
   have e1:(l.map fun s=>[sI s])[i]?=some [sI l[i]]:=by rw [List.getElem?_map,List.getElem?_eq_getElem h]; rfl
   have w1:IntKind.i64.wrap ((i:Int)+1)=((i+1:Nat):Int):=by rw [wrap64 (by omega) (by omega)]; omega
   rw [List.drop_eq_getElem_cons h,List.all_cons] at hr
   generalize l[i]=s at *
   simp only [sI] at e1
   by_cases h1:1≤s.size
   ·have g2:decide ((s.size:Int) < 1)=false:=decide_eq_false (by omega)
    by_cases h2:s.size≤40
    ·have g3:decide ((40:Int) < (s.size:Int))=false:=decide_eq_false (by omega)
     have hw:wordOk s=true:=wordOk_iff.2 ⟨h1,h2⟩
     rw [hw,Bool.true_and] at hr
     (repeat (first | (simp -implicitDefEqProofs only [ev,mixed,Nat.reduceLT,Nat.reduceAdd,Nat.reduceMul,reduceIte,Nat.reduceEqDiff,reduceCtorEq,Nat.reducePow,Nat.reduceLeDiff,Int.reduceLE,Int.reduceLT,Int.reduceToNat,Int.reduceEq,Nat.reduceBEq,itsOf,gdA,byteI,opid,lenQ,ixQ,ldH,readAt,readCells,asCell,faQ,exQ,fldQ,partA,buildQ,slQ,stH,bslH,appH,dcells,convI,elemsOf,D.one,nilS,fillD,convN,cvH,tyBankW0,intD,sI,g1,e1,g2,g3,w1]) | (with_reducible refine ⟨?_,?_⟩; (· first | (obtain ⟨rfl⟩:=‹Hq _ _›; with_reducible refine chk_ok ?_; kernel_rfl) | kernel_rfl)) | (with_reducible intro ops hops)))
     refine ⟨i+1,⟨h,hr⟩,le_stOf _ _ [] [] ?_ ?_ rfl rfl,by simp; omega⟩
     ·simp [cv,cvL,cv1,cv0,upd,lk,srcOf,intD,sI]
     ·simp
    ·have g3:decide ((40:Int) < (s.size:Int))=true:=decide_eq_true (by omega)
     have hw:wordOk s=false:=by simp [wordOk]; omega
     rw [hw,Bool.false_and,if_neg (by simp)] at hr
     subst hr
     (repeat (first | (simp -implicitDefEqProofs only [ev,mixed,Nat.reduceLT,Nat.reduceAdd,Nat.reduceMul,reduceIte,Nat.reduceEqDiff,reduceCtorEq,Nat.reducePow,Nat.reduceLeDiff,Int.reduceLE,Int.reduceLT,Int.reduceToNat,Int.reduceEq,Nat.reduceBEq,itsOf,gdA,byteI,opid,lenQ,ixQ,ldH,readAt,readCells,asCell,faQ,exQ,fldQ,partA,buildQ,slQ,stH,bslH,appH,dcells,convI,elemsOf,D.one,nilS,fillD,convN,cvH,tyBankW0,intD,sI,g1,e1,g2,g3]) | (with_reducible refine ⟨?_,?_⟩; (· first | (obtain ⟨rfl⟩:=‹Hq _ _›; with_reducible refine chk_ok ?_; kernel_rfl) | kernel_rfl)) | (with_reducible intro ops hops)))
     refine fin_ret [] rfl ?_
     simp [cv,cv1,cv0,upd,intD]
   ·have g2:decide ((s.size:Int) < 1)=true:=decide_eq_true (by omega)
    have hw:wordOk s=false:=by simp [wordOk]; omega
    rw [hw,Bool.false_and,if_neg (by simp)] at hr
    subst hr
    (repeat (first | (simp -implicitDefEqProofs only [ev,mixed,Nat.reduceLT,Nat.reduceAdd,Nat.reduceMul,reduceIte,Nat.reduceEqDiff,reduceCtorEq,Nat.reducePow,Nat.reduceLeDiff,Int.reduceLE,Int.reduceLT,Int.reduceToNat,Int.reduceEq,Nat.reduceBEq,itsOf,gdA,byteI,opid,lenQ,ixQ,ldH,readAt,readCells,asCell,faQ,exQ,fldQ,partA,buildQ,slQ,stH,bslH,appH,dcells,convI,elemsOf,D.one,nilS,fillD,convN,cvH,tyBankW0,intD,sI,g1,e1,g2]) | (with_reducible refine ⟨?_,?_⟩; (· first | (obtain ⟨rfl⟩:=‹Hq _ _›; with_reducible refine chk_ok ?_; kernel_rfl) | kernel_rfl)) | (with_reducible intro ops hops)))
    refine fin_ret [] rfl ?_
    simp [cv,cv1,cv0,upd,intD]
  ·have g1:decide ((i:Int) < (l.length:Int))=false:=decide_eq_false (by omega)
   rw [List.drop_eq_nil_of_le (by omega)] at hr
   simp only [List.all_nil,if_true] at hr
   subst hr
   (repeat (first | (simp -implicitDefEqProofs only [ev,mixed,Nat.reduceLT,Nat.reduceAdd,Nat.reduceMul,reduceIte,Nat.reduceEqDiff,reduceCtorEq,Nat.reducePow,Nat.reduceLeDiff,Int.reduceLE,Int.reduceLT,Int.reduceToNat,Int.reduceEq,Nat.reduceBEq,itsOf,gdA,byteI,opid,lenQ,ixQ,ldH,readAt,readCells,asCell,faQ,exQ,fldQ,partA,buildQ,slQ,stH,bslH,appH,dcells,convI,elemsOf,D.one,nilS,fillD,convN,cvH,tyBankW0,intD,g1]) | (with_reducible refine ⟨?_,?_⟩; (· first | (obtain ⟨rfl⟩:=‹Hq _ _›; with_reducible refine chk_ok ?_; kernel_rfl) | kernel_rfl)) | (with_reducible intro ops hops)))
   refine fin_ret [] rfl ?_
   simp [cv,cv1,cv0,upd,intD]
theorem sup_take {l:List PurseD} {d:ByteArray} {i:Nat} (h:i < l.length):supP (l.take (i+1)) d=supP (l.take i) d+if l[i].d=d then l[i].n else 0:=by
 unfold supP
 rw [List.take_succ_eq_append_getElem h,List.map_append,List.sum_append]; simp
def ovr (n:Nat):Nat:=if 18446744073709551616≤n then 1 else 0
theorem beqS (a b:ByteArray):(a == b)=decide (a=b):=by
 obtain ⟨a⟩:=a
 obtain ⟨b⟩:=b
 show (a == b)=_
 by_cases h:a=b
 ·subst h; simp
 ·rw [decide_eq_false (fun e=>h (by injection e))]; exact beq_eq_false_iff_ne.2 h
theorem bor00:bits .or .u64 0 0=0:=by decide
theorem bor01:bits .or .u64 0 1=1:=by decide
theorem bor10:bits .or .u64 1 0=1:=by decide
theorem bor11:bits .or .u64 1 1=1:=by decide
theorem supply_A (l:List PurseD) (d:ByteArray) (hl:l.length≤1048576) (hn:∀ p∈l,p.n < 18446744073709551616) :
  PureD Tryd.prog 6 [.i (pusI l),sD d] (.tup [wD (if 18446744073709551616≤supP l d then 0 else supP l d),boolD (decide (18446744073709551616≤supP l d))]):=by
 refine callD_W 35 Tryd.func6 rfl rfl rfl (fun _ _=>rfl) ?_
 (repeat (first | (simp -implicitDefEqProofs only [ev,mixed,Nat.reduceLT,Nat.reduceAdd,Nat.reduceMul,reduceIte,Nat.reduceEqDiff,reduceCtorEq,Nat.reducePow,Nat.reduceLeDiff,Int.reduceLE,Int.reduceLT,Int.reduceToNat,Int.reduceEq,Nat.reduceBEq,itsOf,gdA,byteI,opid,lenQ,ixQ,ldH,readAt,readCells,asCell,faQ,exQ,fldQ,partA,buildQ,slQ,stH,bslH,appH,dcells,convI,elemsOf,D.one,nilS,fillD,convN,cvH,tyBankW1,pusI,sD]) | (with_reducible refine ⟨?_,?_⟩; (· first | (obtain ⟨rfl⟩:=‹Hq _ _›; with_reducible refine chk_ok ?_; kernel_rfl) | kernel_rfl)) | (with_reducible intro ops hops)))
 refine W_loopI (ι:=Nat) (fun i=>i≤l.length)
  (fun i=>stOf [(1,sD d),(6,wD (supP (l.take i) d % 18446744073709551616)),(7,wD (ovr (supP (l.take i) d))),(11,.i (.sl (l.map encPu))),(12,intD l.length),(13,intD i)] []) (fun i=>l.length - i) 0 (Nat.zero_le _) ?_ ?_
 ·refine le_stOf _ _ [] [] ?_ ?_ rfl rfl
  ·simp [cv,cvL,cv1,cv0,upd,lk,srcOf,intD,sI,wD,supP,ovr,sD]
  ·simp
 ·rintro i hi
  rw [stOf_eq]
  by_cases h:i < l.length
  ·have g1:decide ((i:Int) < (l.length:Int))=true:=decide_eq_true (by omega)
   have e1:(l.map encPu)[i]?=some (encPu l[i]):=by rw [List.getElem?_map,List.getElem?_eq_getElem h]; rfl
   have w1:IntKind.i64.wrap ((i:Int)+1)=((i+1:Nat):Int):=by rw [wrap64 (by omega) (by omega)]; omega
   have hs:=sup_take (d:=d) h
   have hpn:=hn l[i] (List.getElem_mem h)
   generalize l[i]=p at *
   generalize hS':supP (l.take (i+1)) d=S' at *
   generalize hS:supP (l.take i) d=S at *
   simp only [encPu] at e1
   by_cases hd:p.d=d
   ·have g2:(p.d == d)=true:=by rw [beqS]; exact decide_eq_true hd
    rw [if_pos hd] at hs
    have a1:S % 18446744073709551616 < 18446744073709551616:=Nat.mod_lt _ (by decide)
    have hadd:=add64_X (S % 18446744073709551616) p.n 0 a1 hpn (by decide)
    have hm:(S % 18446744073709551616+p.n+0) % 18446744073709551616=S' % 18446744073709551616:=by omega
    rw [hm] at hadd
    have hor:(∃ c:Nat,(S % 18446744073709551616+p.n+0) / 18446744073709551616=c∧((ovr S=0∧c=0∧ovr S'=0)∨(ovr S=0∧c=1∧ovr S'=1)∨(ovr S=1∧c=0∧ovr S'=1)∨(ovr S=1∧c=1∧ovr S'=1))):=by
     refine ⟨_,rfl,?_⟩
     have:(S % 18446744073709551616+p.n+0) / 18446744073709551616=0∨(S % 18446744073709551616+p.n+0) / 18446744073709551616=1:=by omega
     unfold ovr
     rcases this with e | e <;> rw [e] <;> by_cases k1:18446744073709551616≤S <;> by_cases k2:18446744073709551616≤S' <;> first | (simp [k1,k2]; done) | (exfalso; omega)
    obtain ⟨c,hc,hor⟩:=hor
    rw [hc] at hadd
    generalize S % 18446744073709551616=A at *
    generalize hB:S' % 18446744073709551616=B at *
    have fin:∀ x y:Nat,ovr S=x→c=y→((x=0∧y=0∧ovr S'=0)∨(x=0∧y=1∧ovr S'=1)∨(x=1∧y=0∧ovr S'=1)∨(x=1∧y=1∧ovr S'=1)):=by
     intro x y hx hy; rw [← hx,← hy]; exact hor
    generalize ovr S=x at *
    generalize hO:ovr S'=z at *
    rcases hor with ⟨rfl,rfl,rfl⟩ | ⟨rfl,rfl,rfl⟩ | ⟨rfl,rfl,rfl⟩ | ⟨rfl,rfl,rfl⟩ <;>
    ·(repeat (first | (simp -implicitDefEqProofs only [ev,mixed,Nat.reduceLT,Nat.reduceAdd,Nat.reduceMul,reduceIte,Nat.reduceEqDiff,reduceCtorEq,Nat.reducePow,Nat.reduceLeDiff,Int.reduceLE,Int.reduceLT,Int.reduceToNat,Int.reduceEq,Nat.reduceBEq,itsOf,gdA,byteI,opid,lenQ,ixQ,ldH,readAt,readCells,asCell,faQ,exQ,fldQ,partA,buildQ,slQ,stH,bslH,appH,dcells,convI,elemsOf,D.one,nilS,fillD,convN,cvH,tyBankW1,intD,sD,wD,g1,e1,g2,Int.natCast_zero,Int.natCast_one]) | (with_reducible refine ⟨?_,?_⟩; (· first | (obtain ⟨rfl⟩:=‹Hq _ _›; with_reducible refine chk_ok ?_; kernel_rfl) | kernel_rfl)) | (with_reducible intro ops hops)))
     refine Call_dir hadd ?_
     (repeat (first | (simp -implicitDefEqProofs only [ev,mixed,Nat.reduceLT,Nat.reduceAdd,Nat.reduceMul,reduceIte,Nat.reduceEqDiff,reduceCtorEq,Nat.reducePow,Nat.reduceLeDiff,Int.reduceLE,Int.reduceLT,Int.reduceToNat,Int.reduceEq,Nat.reduceBEq,itsOf,gdA,byteI,opid,lenQ,ixQ,ldH,readAt,readCells,asCell,faQ,exQ,fldQ,partA,buildQ,slQ,stH,bslH,appH,dcells,convI,elemsOf,D.one,nilS,fillD,convN,cvH,tyBankW1,intD,sD,wD,w1,Int.natCast_zero,Int.natCast_one]) | (with_reducible refine ⟨?_,?_⟩; (· first | (obtain ⟨rfl⟩:=‹Hq _ _›; with_reducible refine chk_ok ?_; kernel_rfl) | kernel_rfl)) | (with_reducible intro ops hops)))
     refine ⟨i+1,h,le_stOf _ _ [] [] ?_ ?_ rfl rfl,by simp; omega⟩
     ·simp [cv,cvL,cv1,cv0,upd,lk,srcOf,intD,sI,wD,sD,hS',hB,hO,bor00,bor01,bor10,bor11]
     ·simp
   ·have g2:(p.d == d)=false:=by rw [beqS]; exact decide_eq_false hd
    rw [if_neg hd] at hs
    obtain rfl:S'=S:=hs
    (repeat (first | (simp -implicitDefEqProofs only [ev,mixed,Nat.reduceLT,Nat.reduceAdd,Nat.reduceMul,reduceIte,Nat.reduceEqDiff,reduceCtorEq,Nat.reducePow,Nat.reduceLeDiff,Int.reduceLE,Int.reduceLT,Int.reduceToNat,Int.reduceEq,Nat.reduceBEq,itsOf,gdA,byteI,opid,lenQ,ixQ,ldH,readAt,readCells,asCell,faQ,exQ,fldQ,partA,buildQ,slQ,stH,bslH,appH,dcells,convI,elemsOf,D.one,nilS,fillD,convN,cvH,tyBankW1,intD,sD,wD,g1,e1,g2,w1]) | (with_reducible refine ⟨?_,?_⟩; (· first | (obtain ⟨rfl⟩:=‹Hq _ _›; with_reducible refine chk_ok ?_; kernel_rfl) | kernel_rfl)) | (with_reducible intro ops hops)))
    refine ⟨i+1,h,le_stOf _ _ [] [] ?_ ?_ rfl rfl,by simp; omega⟩
    ·simp [cv,cvL,cv1,cv0,upd,lk,srcOf,intD,sI,wD,sD,hS']
    ·simp
  ·have g1:decide ((i:Int) < (l.length:Int))=false:=decide_eq_false (by omega)
   have ht:l.take i=l:=List.take_of_length_le (by omega)
   rw [ht]
   generalize supP l d=S
   by_cases hS:18446744073709551616≤S
   ·have hov:ovr S=1:=by simp [ovr,hS]
    rw [hov,if_pos hS,decide_eq_true hS]
    (repeat (first | (simp -implicitDefEqProofs only [ev,mixed,Nat.reduceLT,Nat.reduceAdd,Nat.reduceMul,reduceIte,Nat.reduceEqDiff,reduceCtorEq,Nat.reducePow,Nat.reduceLeDiff,Int.reduceLE,Int.reduceLT,Int.reduceToNat,Int.reduceEq,Nat.reduceBEq,itsOf,gdA,byteI,opid,lenQ,ixQ,ldH,readAt,readCells,asCell,faQ,exQ,fldQ,partA,buildQ,slQ,stH,bslH,appH,dcells,convI,elemsOf,D.one,nilS,fillD,convN,cvH,tyBankW1,intD,wD,g1,Int.natCast_one,Int.natCast_zero]) | (with_reducible refine ⟨?_,?_⟩; (· first | (obtain ⟨rfl⟩:=‹Hq _ _›; with_reducible refine chk_ok ?_; kernel_rfl) | kernel_rfl)) | (with_reducible intro ops hops)))
    refine fin_tt [] rfl ?_
    simp [cv,cvT,cv1,cv0,upd,intD,boolD,wD]
   ·have hov:ovr S=0:=by simp [ovr,hS]
    have hm:S % 18446744073709551616=S:=Nat.mod_eq_of_lt (by omega)
    rw [hov,if_neg hS,decide_eq_false hS,hm]
    (repeat (first | (simp -implicitDefEqProofs only [ev,mixed,Nat.reduceLT,Nat.reduceAdd,Nat.reduceMul,reduceIte,Nat.reduceEqDiff,reduceCtorEq,Nat.reducePow,Nat.reduceLeDiff,Int.reduceLE,Int.reduceLT,Int.reduceToNat,Int.reduceEq,Nat.reduceBEq,itsOf,gdA,byteI,opid,lenQ,ixQ,ldH,readAt,readCells,asCell,faQ,exQ,fldQ,partA,buildQ,slQ,stH,bslH,appH,dcells,convI,elemsOf,D.one,nilS,fillD,convN,cvH,tyBankW1,intD,wD,g1,Int.natCast_zero]) | (with_reducible refine ⟨?_,?_⟩; (· first | (obtain ⟨rfl⟩:=‹Hq _ _›; with_reducible refine chk_ok ?_; kernel_rfl) | kernel_rfl)) | (with_reducible intro ops hops)))
    refine fin_tt [] rfl ?_
    simp [cv,cvT,cv1,cv0,upd,intD,boolD,wD]
theorem uni_encPu (l:List PurseD):uni 3 (l.map encPu)=true:=by simp [uni,encPu]
theorem clonePu_new (l:List PurseD) (hl:l.length≤1048576):CallD Tryd.prog 51 [.i (pusI l)] noH (.os 1 3 0 l.length) (hOf noH [(1,.arr 3 (l.map encPu))]):=by
 cases l with
 | nil =>
  refine call_case (Enters_of Tryd.func51 rfl rfl) fun K vs hrd=>?_
  obtain ⟨hs,hg⟩:=hrd
  obtain ⟨a,c,hv⟩:∃ a c,vs.getD 0 undef=.slice a 0 c:=by
   have:=hg 0 _ rfl
   generalize vs.getD 0 undef=v at this
   cases this with
   | i hx =>
    cases hx with
    | e a c=>exact ⟨a,c,rfl⟩
    | sl b off cap sz es f h1 h2=>exact ⟨_,_,rfl⟩
  refine ⟨[.i (.s (.slice a 0 c))],?_,hs,fun j d hd=>?_⟩
  ·have hun:=un22
   refine callD_W 8 Tryd.func51 rfl rfl rfl (fun _ _=>rfl) ?_
   cases a with
   | none =>
    (repeat (first | (simp -implicitDefEqProofs only [ev,mixed,Nat.reduceLT,Nat.reduceAdd,Nat.reduceMul,reduceIte,Nat.reduceEqDiff,reduceCtorEq,Nat.reducePow,Nat.reduceLeDiff,Int.reduceLE,Int.reduceLT,Int.reduceToNat,Int.reduceEq,Nat.reduceBEq,itsOf,gdA,byteI,opid,lenQ,ixQ,ldH,readAt,readCells,asCell,faQ,exQ,fldQ,partA,buildQ,slQ,stH,bslH,appH,dcells,convI,elemsOf,D.one,nilS,fillD,convN,cvH,tyBankW2,bq_eqnil hun,Option.isNone_none]) | (with_reducible refine ⟨?_,?_⟩; (· first | (obtain ⟨rfl⟩:=‹Hq _ _›; with_reducible refine chk_ok ?_; kernel_rfl) | kernel_rfl)) | (with_reducible intro ops hops)))
    refine fin_retD [(1,.arr 3 [])] [] [] rfl ?_ ?_ rfl ?_ rfl
    ·simp [cv,cv1,cv0,upd,srcR,hF,lk,noH]
    ·simp [objOk,srcR,lk,cvO,frz,upd,hF,noH]
    ·simp [noH]
   | some a =>
    (repeat (first | (simp -implicitDefEqProofs only [ev,mixed,Nat.reduceLT,Nat.reduceAdd,Nat.reduceMul,reduceIte,Nat.reduceEqDiff,reduceCtorEq,Nat.reducePow,Nat.reduceLeDiff,Int.reduceLE,Int.reduceLT,Int.reduceToNat,Int.reduceEq,Nat.reduceBEq,itsOf,gdA,byteI,opid,lenQ,ixQ,ldH,readAt,readCells,asCell,faQ,exQ,fldQ,partA,buildQ,slQ,stH,bslH,appH,dcells,convI,elemsOf,D.one,nilS,fillD,convN,cvH,tyBankW2,bq_eqnil hun,Option.isNone_some]) | (with_reducible refine ⟨?_,?_⟩; (· first | (obtain ⟨rfl⟩:=‹Hq _ _›; with_reducible refine chk_ok ?_; kernel_rfl) | kernel_rfl)) | (with_reducible intro ops hops)))
    refine fin_retD [(1,.arr 3 [])] [] [(1,1770)] rfl ?_ ?_ rfl ?_ rfl
    ·simp [cv,cv1,cv0,upd,srcR,hF,lk,noH]
    ·simp [objOk,srcR,lk,cvO,frz,upd,hF,noH]
    ·simp [noH]
  ·cases j with
   | zero=>simp at hd; subst hd; rw [hv]; exact .i (.s _ rfl)
   | succ j=>simp at hd
 | cons p t =>
  have hu:=uni_encPu t
  have e3:t.length+1≤140737488355328:=by simp at hl; omega
  have e4:(t.length+1) * 40≤140737488355328:=by simp at hl; omega
  have e5:(encPu p).length=3:=rfl
  refine callD_W 8 Tryd.func51 rfl rfl rfl (fun _ _=>rfl) ?_
  (repeat (first | (simp -implicitDefEqProofs only [ev,mixed,Nat.reduceLT,Nat.reduceAdd,Nat.reduceMul,reduceIte,Nat.reduceEqDiff,reduceCtorEq,Nat.reducePow,Nat.reduceLeDiff,Int.reduceLE,Int.reduceLT,Int.reduceToNat,Int.reduceEq,Nat.reduceBEq,itsOf,gdA,byteI,opid,lenQ,ixQ,ldH,readAt,readCells,asCell,faQ,exQ,fldQ,partA,buildQ,slQ,stH,bslH,appH,dcells,convI,elemsOf,D.one,nilS,fillD,convN,cvH,tyBankW2,pusI,hu,e3,e4,e5,List.map_cons,List.length_cons,List.length_map]) | (with_reducible refine ⟨?_,?_⟩; (· first | (obtain ⟨rfl⟩:=‹Hq _ _›; with_reducible refine chk_ok ?_; kernel_rfl) | kernel_rfl)) | (with_reducible intro ops hops)))
  refine fin_retD [(1,.arr 3 ((p :: t).map encPu))] [] [(1,1770)] rfl ?_ ?_ rfl ?_ rfl
  ·simp [cv,cv1,cv0,upd,srcR,hF,lk,noH]
  ·simp [objOk,srcR,lk,cvO,frz,upd,hF,noH]
  ·simp [noH]
end Go.Proofs.YtckjpabekmhnhaaDoor
