/- landlaw12.right, alive, landref10.SamePurses: by value. -/
import Derived.Test.YtckjpabekmhnhaaDoorRWrong
import Derived.Test.YtckjpabekmhnhaaDoorBankY
set_option linter.all false
namespace Go.Proofs.YtckjpabekmhnhaaDoor
open Go Go.Abs Go.RowKit Go.Proofs.YtckjpabekmhnhaaDoor.Ty
theorem tyRight0:(type_of% @Ty.T3)∧(type_of% @Ty.T4)∧(type_of% @Ty.T5)∧(type_of% @Ty.T9)∧(type_of% @Ty.T22)∧(type_of% @Ty.T23)∧(type_of% @Ty.T30)∧(type_of% @Ty.T39)∧(type_of% @Ty.T50)∧(type_of% @Ty.T54)∧(type_of% @Ty.T55)∧(type_of% @Ty.T56)∧(type_of% @Ty.T57)∧(type_of% @Ty.T59)∧(type_of% @Ty.T85)∧(type_of% @Ty.T87)∧(type_of% @Ty.T90)∧(type_of% @Ty.T92)∧(type_of% @Ty.T111)∧(type_of% @Ty.T113):=⟨@Ty.T3,@Ty.T4,@Ty.T5,@Ty.T9,@Ty.T22,@Ty.T23,@Ty.T30,@Ty.T39,@Ty.T50,@Ty.T54,@Ty.T55,@Ty.T56,@Ty.T57,@Ty.T59,@Ty.T85,@Ty.T87,@Ty.T90,@Ty.T92,@Ty.T111,@Ty.T113⟩
theorem tyRight1:(type_of% @Ty.T3)∧(type_of% @Ty.T9)∧(type_of% @Ty.T22)∧(type_of% @Ty.T23)∧(type_of% @Ty.T50):=⟨@Ty.T3,@Ty.T9,@Ty.T22,@Ty.T23,@Ty.T50⟩
theorem tyRight2:(type_of% @Ty.T3)∧(type_of% @Ty.T9)∧(type_of% @Ty.T22)∧(type_of% @Ty.T23)∧(type_of% @Ty.T30)∧(type_of% @Ty.T50):=⟨@Ty.T3,@Ty.T9,@Ty.T22,@Ty.T23,@Ty.T30,@Ty.T50⟩
def rightB (l:List PurseD):Bool:=decide (l.length≤60) && decide (wrongL none l=0)
theorem purB_zero {o:Option PurseD} {p:PurseD}:purB o p=0↔(1≤p.o.size∧p.o.size≤40)∧(1≤p.d.size∧p.d.size≤40)∧0 < p.n∧∀ q,o=some q→cmpP (pk q) (pk p) < 0:=by
 unfold purB
 split
 ·constructor
  ·intro h; cases h
  ·rintro ⟨h1,h2,_⟩; omega
 ·split
  ·constructor
   ·intro h; cases h
   ·rintro ⟨h1,h2,h3,_⟩; omega
  ·cases o with
   | none=>simp; omega
   | some q =>
    simp only
    split
    ·rename_i h; simp [h]; omega
    ·rename_i h
     constructor
     ·intro hc; cases hc
     ·rintro ⟨_,_,_,h4⟩; exact absurd (h4 q rfl) h
theorem wrongL_zero:∀ {l:List PurseD} {o:Option PurseD},(∀ p∈l,p.n < 18446744073709551616)→(wrongL o l=0↔(∀ p∈l,1≤p.o.size∧p.o.size≤40)∧(∀ p∈l,1≤p.d.size∧p.d.size≤40)∧(∀ p∈l,0 < p.n)∧SrtP l∧∀ q,o=some q→∀ p∈l,cmpP (pk q) (pk p) < 0)
 | [],o,_=>by simp [wrongL,SrtP,KL.Srt]
 | p :: t,o,h=>by
  have ih:=wrongL_zero (l:=t) (o:=some p) (fun x hx=>h x (List.mem_cons_of_mem _ hx))
  rw [wrongL]
  by_cases h0:purB o p=0
  ·rw [if_pos h0,ih]
   have hp:=purB_zero.1 h0
   constructor
   ·rintro ⟨h1,h2,h3,h4,h5⟩
    refine ⟨?_,?_,?_,List.pairwise_cons.2 ⟨h5 p rfl,h4⟩,?_⟩
    ·intro x hx; rcases List.mem_cons.1 hx with rfl | hx; exact hp.1; exact h1 x hx
    ·intro x hx; rcases List.mem_cons.1 hx with rfl | hx; exact hp.2.1; exact h2 x hx
    ·intro x hx; rcases List.mem_cons.1 hx with rfl | hx; exact hp.2.2.1; exact h3 x hx
    ·intro q hq x hx
     have hqp:=hp.2.2.2 q hq
     rcases List.mem_cons.1 hx with rfl | hx
     ·exact hqp
     ·exact cmpP_ok.trans _ _ _ hqp (h5 p rfl x hx)
   ·rintro ⟨h1,h2,h3,h4,h5⟩
    have hs:=List.pairwise_cons.1 h4
    exact ⟨fun x hx=>h1 x (List.mem_cons_of_mem _ hx),fun x hx=>h2 x (List.mem_cons_of_mem _ hx),fun x hx=>h3 x (List.mem_cons_of_mem _ hx),hs.2,fun q hq=>by injection hq with hq; subst hq; exact hs.1⟩
  ·rw [if_neg h0]
   constructor
   ·intro hc; exact absurd hc h0
   ·rintro ⟨h1,h2,h3,h4,h5⟩
    exact absurd (purB_zero.2 ⟨h1 p (List.mem_cons_self ..),h2 p (List.mem_cons_self ..),h3 p (List.mem_cons_self ..),fun q hq=>h5 q hq p (List.mem_cons_self ..)⟩) h0
theorem rightB_iff {l:List PurseD} (h:∀ p∈l,p.n < 18446744073709551616):rightB l=true↔RightP l:=by
 unfold rightB
 rw [Bool.and_eq_true,decide_eq_true_eq,decide_eq_true_eq,wrongL_zero h]
 constructor
 ·rintro ⟨h0,h1,h2,h3,h4,_⟩
  exact ⟨h0,h1,h2,fun p hp=>⟨h3 p hp,h p hp⟩,h4⟩
 ·intro r
  exact ⟨r.len,r.wo,r.wd,fun p hp=>(r.pos p hp).1,r.srt,fun q hq=>by cases hq⟩
set_option maxHeartbeats 4000000
theorem right_A (l:List PurseD):PureD Tryd.prog 7 [.i (pusI l)] (boolV (rightB l)):=by
 unfold rightB
 by_cases h:l.length≤60
 ·have hw:=rwrong_A l h
  have g1:decide ((l.length:Int)≤60)=true:=decide_eq_true (by omega)
  rw [decide_eq_true h,Bool.true_and]
  have g2:decide ((wrongL none l:Int)=0)=decide (wrongL none l=0):=by
   by_cases e:wrongL none l=0
   ·rw [decide_eq_true e,decide_eq_true (by omega)]
   ·rw [decide_eq_false e,decide_eq_false (by omega)]
  generalize decide (wrongL none l=0)=R at *
  generalize wrongL none l=w at *
  simp only [stC,intV,nilI,pusI] at hw
  refine callD_W 12 Tryd.func7 rfl rfl rfl (fun _ _=>rfl) ?_
  (repeat (first | (simp -implicitDefEqProofs only [ev,mixed,Nat.reduceLT,Nat.reduceAdd,Nat.reduceMul,reduceIte,Nat.reduceEqDiff,reduceCtorEq,Nat.reducePow,Nat.reduceLeDiff,Int.reduceLE,Int.reduceLT,Int.reduceToNat,Int.reduceEq,Nat.reduceBEq,itsOf,gdA,byteI,opid,lenQ,ixQ,ldH,readAt,readCells,asCell,faQ,exQ,fldQ,partA,buildQ,slQ,stH,bslH,appH,dcells,convI,elemsOf,D.one,nilS,fillD,convN,cvH,tyRight0,pusI,g1]) | (with_reducible refine ⟨?_,?_⟩; (· first | (obtain ⟨rfl⟩:=‹Hq _ _›; with_reducible refine chk_ok ?_; kernel_rfl) | kernel_rfl)) | (with_reducible intro ops hops)))
  (first | refine Call_flat [] [] (hw) (by simp [cvAs,cvA,cvRL,cvR,cvBox,cv1,cvL,cv0,bI,byteI,intD,sD,pusI,wD,elemsOf,upd]) rfl ?_ | refine CallF_flat [] [] [] (hw) (fun G _=>by simp [cvAs,cvA,cvRL,cvR,cvBox,cv1,cvL,cv0,bI,byteI,intD,sD,pusI,wD,elemsOf,upd]) rfl ?_)
  (repeat (first | (simp -implicitDefEqProofs only [ev,mixed,Nat.reduceLT,Nat.reduceAdd,Nat.reduceMul,reduceIte,Nat.reduceEqDiff,reduceCtorEq,Nat.reducePow,Nat.reduceLeDiff,Int.reduceLE,Int.reduceLT,Int.reduceToNat,Int.reduceEq,Nat.reduceBEq,itsOf,gdA,byteI,opid,lenQ,ixQ,ldH,readAt,readCells,asCell,faQ,exQ,fldQ,partA,buildQ,slQ,stH,bslH,appH,dcells,convI,elemsOf,D.one,nilS,fillD,convN,cvH,tyRight0,pusI,intD,g2]) | (with_reducible refine ⟨?_,?_⟩; (· first | (obtain ⟨rfl⟩:=‹Hq _ _›; with_reducible refine chk_ok ?_; kernel_rfl) | kernel_rfl)) | (with_reducible intro ops hops)))
  refine fin_ret [] rfl ?_
  simp [cv,cv1,cv0,upd,boolV]
 ·have g1:decide ((l.length:Int)≤60)=false:=decide_eq_false (by omega)
  rw [decide_eq_false h,Bool.false_and]
  refine callD_W 12 Tryd.func7 rfl rfl rfl (fun _ _=>rfl) ?_
  (repeat (first | (simp -implicitDefEqProofs only [ev,mixed,Nat.reduceLT,Nat.reduceAdd,Nat.reduceMul,reduceIte,Nat.reduceEqDiff,reduceCtorEq,Nat.reducePow,Nat.reduceLeDiff,Int.reduceLE,Int.reduceLT,Int.reduceToNat,Int.reduceEq,Nat.reduceBEq,itsOf,gdA,byteI,opid,lenQ,ixQ,ldH,readAt,readCells,asCell,faQ,exQ,fldQ,partA,buildQ,slQ,stH,bslH,appH,dcells,convI,elemsOf,D.one,nilS,fillD,convN,cvH,tyRight0,pusI,g1]) | (with_reducible refine ⟨?_,?_⟩; (· first | (obtain ⟨rfl⟩:=‹Hq _ _›; with_reducible refine chk_ok ?_; kernel_rfl) | kernel_rfl)) | (with_reducible intro ops hops)))
  refine fin_ret [] rfl ?_
  simp [cv,cv1,cv0,upd,boolV]
def samePs:List PurseD→List PurseD→Bool
 | [],[]=>true
 | a :: x,b :: y=>(decide (a.o=b.o) && (decide (a.d=b.d) && decide (a.n=b.n))) && samePs x y
 | _,_=>false
theorem samePs_iff:∀ {x y:List PurseD},samePs x y=true↔x=y
 | [],[]=>by simp [samePs]
 | [],_ :: _=>by simp [samePs]
 | _ :: _,[]=>by simp [samePs]
 | a :: x,b :: y=>by
  obtain ⟨a1,a2,a3⟩:=a
  obtain ⟨b1,b2,b3⟩:=b
  simp [samePs,samePs_iff,and_assoc]
theorem samePs_len:∀ {x y:List PurseD},samePs x y=true→x.length=y.length:=fun h=>by rw [samePs_iff.1 h]
theorem samePs_drop:∀ {x y:List PurseD} {k:Nat} (h:k < x.length) (h':k < y.length),samePs (x.drop k) (y.drop k)=((decide (x[k].o=y[k].o) && (decide (x[k].d=y[k].d) && decide (x[k].n=y[k].n))) && samePs (x.drop (k+1)) (y.drop (k+1))):=by
 intro x y k h h'
 rw [List.drop_eq_getElem_cons h,List.drop_eq_getElem_cons h',samePs]
theorem sameP_A (x y:List PurseD) (hx:x.length≤1048576):PureD Tryd.prog 10 [.i (pusI x),.i (pusI y)] (boolV (samePs x y)):=by
 generalize hq:samePs x y=q
 by_cases hl:x.length=y.length
 rotate_left
 ·have g1:decide ((x.length:Int)=(y.length:Int))=false:=decide_eq_false (by omega)
  have:q=false:=by
   cases q
   ·rfl
   ·exact absurd (samePs_len hq) hl
  subst this
  refine callD_W 26 Tryd.func10 rfl rfl rfl (fun _ _=>rfl) ?_
  (repeat (first | (simp -implicitDefEqProofs only [ev,mixed,Nat.reduceLT,Nat.reduceAdd,Nat.reduceMul,reduceIte,Nat.reduceEqDiff,reduceCtorEq,Nat.reducePow,Nat.reduceLeDiff,Int.reduceLE,Int.reduceLT,Int.reduceToNat,Int.reduceEq,Nat.reduceBEq,itsOf,gdA,byteI,opid,lenQ,ixQ,ldH,readAt,readCells,asCell,faQ,exQ,fldQ,partA,buildQ,slQ,stH,bslH,appH,dcells,convI,elemsOf,D.one,nilS,fillD,convN,cvH,tyRight1,pusI,g1]) | (with_reducible refine ⟨?_,?_⟩; (· first | (obtain ⟨rfl⟩:=‹Hq _ _›; with_reducible refine chk_ok ?_; kernel_rfl) | kernel_rfl)) | (with_reducible intro ops hops)))
  refine fin_ret [] rfl ?_
  simp [cv,cv1,cv0,upd,boolV]
 have g1:decide ((x.length:Int)=(y.length:Int))=true:=decide_eq_true (by omega)
 refine callD_W 26 Tryd.func10 rfl rfl rfl (fun _ _=>rfl) ?_
 (repeat (first | (simp -implicitDefEqProofs only [ev,mixed,Nat.reduceLT,Nat.reduceAdd,Nat.reduceMul,reduceIte,Nat.reduceEqDiff,reduceCtorEq,Nat.reducePow,Nat.reduceLeDiff,Int.reduceLE,Int.reduceLT,Int.reduceToNat,Int.reduceEq,Nat.reduceBEq,itsOf,gdA,byteI,opid,lenQ,ixQ,ldH,readAt,readCells,asCell,faQ,exQ,fldQ,partA,buildQ,slQ,stH,bslH,appH,dcells,convI,elemsOf,D.one,nilS,fillD,convN,cvH,tyRight1,pusI,g1]) | (with_reducible refine ⟨?_,?_⟩; (· first | (obtain ⟨rfl⟩:=‹Hq _ _›; with_reducible refine chk_ok ?_; kernel_rfl) | kernel_rfl)) | (with_reducible intro ops hops)))
 refine W_loopI (ι:=Nat) (fun k=>k≤x.length∧samePs (x.drop k) (y.drop k)=q)
  (fun k=>stOf [(0,.i (pusI x)),(1,.i (pusI y)),(12,intD x.length),(13,intD k)] []) (fun k=>x.length - k) 0 ⟨by simp,by simpa using hq⟩ ?_ ?_
 ·refine le_stOf _ _ [] [] ?_ ?_ rfl rfl
  ·simp [cv,cv1,cv0,upd,lk,srcOf,intD,pusI]
  ·simp
 ·rintro k ⟨hk,hq'⟩
  rw [stOf_eq]
  clear hq
  by_cases h2:k < x.length
  ·have h3:k < y.length:=by omega
   have g2:decide ((k:Int) < (x.length:Int))=true:=decide_eq_true (by omega)
   rw [samePs_drop h2 h3] at hq'
   have x1:(x.map encPu)[k]?=some (encPu x[k]):=by rw [List.getElem?_map,List.getElem?_eq_getElem h2]; rfl
   have y1:(y.map encPu)[k]?=some (encPu y[k]):=by rw [List.getElem?_map,List.getElem?_eq_getElem h3]; rfl
   have w1:IntKind.i64.wrap ((k:Int)+1)=((k+1:Nat):Int):=by rw [wrap64 (by omega) (by omega)]; omega
   generalize x[k]=a at *
   generalize y[k]=b at *
   have e1:=beqS a.o b.o
   have e2:=beqS a.d b.d
   have e3:decide ((a.n:Int)=(b.n:Int))=decide (a.n=b.n):=by
    by_cases e:a.n=b.n
    ·rw [decide_eq_true e,decide_eq_true (by omega)]
    ·rw [decide_eq_false e,decide_eq_false (by omega)]
   simp only [encPu] at x1 y1
   generalize decide (a.o=b.o)=d1 at *
   generalize decide (a.d=b.d)=d2 at *
   generalize decide (a.n=b.n)=d3 at *
   cases hd:(d1 && (d2 && d3))
   ·rw [hd,Bool.false_and] at hq'
    subst hq'
    (repeat (first | (simp -implicitDefEqProofs only [ev,mixed,Nat.reduceLT,Nat.reduceAdd,Nat.reduceMul,reduceIte,Nat.reduceEqDiff,reduceCtorEq,Nat.reducePow,Nat.reduceLeDiff,Int.reduceLE,Int.reduceLT,Int.reduceToNat,Int.reduceEq,Nat.reduceBEq,itsOf,gdA,byteI,opid,lenQ,ixQ,ldH,readAt,readCells,asCell,faQ,exQ,fldQ,partA,buildQ,slQ,stH,bslH,appH,dcells,convI,elemsOf,D.one,nilS,fillD,convN,cvH,tyRight1,intD,pusI,g2,x1,y1,e1,e2,e3,Bool.and_true,hd]) | (with_reducible refine ⟨?_,?_⟩; (· first | (obtain ⟨rfl⟩:=‹Hq _ _›; with_reducible refine chk_ok ?_; kernel_rfl) | kernel_rfl)) | (with_reducible intro ops hops)))
    refine fin_ret [] rfl ?_
    simp [cv,cv1,cv0,upd,boolV]
   ·rw [hd,Bool.true_and] at hq'
    (repeat (first | (simp -implicitDefEqProofs only [ev,mixed,Nat.reduceLT,Nat.reduceAdd,Nat.reduceMul,reduceIte,Nat.reduceEqDiff,reduceCtorEq,Nat.reducePow,Nat.reduceLeDiff,Int.reduceLE,Int.reduceLT,Int.reduceToNat,Int.reduceEq,Nat.reduceBEq,itsOf,gdA,byteI,opid,lenQ,ixQ,ldH,readAt,readCells,asCell,faQ,exQ,fldQ,partA,buildQ,slQ,stH,bslH,appH,dcells,convI,elemsOf,D.one,nilS,fillD,convN,cvH,tyRight1,intD,pusI,g2,x1,y1,e1,e2,e3,Bool.and_true,hd,w1]) | (with_reducible refine ⟨?_,?_⟩; (· first | (obtain ⟨rfl⟩:=‹Hq _ _›; with_reducible refine chk_ok ?_; kernel_rfl) | kernel_rfl)) | (with_reducible intro ops hops)))
    refine ⟨k+1,⟨h2,hq'⟩,le_stOf _ _ [] [] ?_ ?_ rfl rfl,by simp; omega⟩
    ·simp [cv,cvL,cv1,cv0,upd,lk,srcOf,intD,pusI]
    ·simp
  ·have g2:decide ((k:Int) < (x.length:Int))=false:=decide_eq_false (by omega)
   rw [List.drop_eq_nil_of_le (by omega),List.drop_eq_nil_of_le (by omega)] at hq'
   simp only [samePs] at hq'
   subst hq'
   (repeat (first | (simp -implicitDefEqProofs only [ev,mixed,Nat.reduceLT,Nat.reduceAdd,Nat.reduceMul,reduceIte,Nat.reduceEqDiff,reduceCtorEq,Nat.reducePow,Nat.reduceLeDiff,Int.reduceLE,Int.reduceLT,Int.reduceToNat,Int.reduceEq,Nat.reduceBEq,itsOf,gdA,byteI,opid,lenQ,ixQ,ldH,readAt,readCells,asCell,faQ,exQ,fldQ,partA,buildQ,slQ,stH,bslH,appH,dcells,convI,elemsOf,D.one,nilS,fillD,convN,cvH,tyRight1,intD,g2]) | (with_reducible refine ⟨?_,?_⟩; (· first | (obtain ⟨rfl⟩:=‹Hq _ _›; with_reducible refine chk_ok ?_; kernel_rfl) | kernel_rfl)) | (with_reducible intro ops hops)))
   refine fin_ret [] rfl ?_
   simp [cv,cv1,cv0,upd,boolV]
def sAnn:ByteArray:=⟨#[97,110,110]⟩
def sBob:ByteArray:=⟨#[98,111,98]⟩
def sGold:ByteArray:=⟨#[103,111,108,100]⟩
theorem right_nilP:RightP []:=⟨by simp,by simp,by simp,by simp,List.Pairwise.nil⟩
theorem amt_nil (o d:ByteArray):amtP [] o d=0:=rfl
theorem alive_A:PureD Tryd.prog 5 [] (boolV true):=by
 have m1:=mint_A [] right_nilP sAnn sGold 5 (by decide)
 have hr1:=mint_right right_nilP sAnn sGold 5
 have he1:(mintP [] sAnn sGold 5).2=0:=by decide
 obtain ⟨a1,_,_⟩:=mint_ok right_nilP he1
 have m2:=move_A (mintP [] sAnn sGold 5).1 hr1 sAnn sBob sGold 2 (by decide)
 have hr2:=move_right hr1 sAnn sBob sGold 2
 have he2:(moveP (mintP [] sAnn sGold 5).1 sAnn sBob sGold 2).2=0:=by decide
 have hl2:(moveP (mintP [] sAnn sGold 5).1 sAnn sBob sGold 2).1.length=2:=by decide
 have m3:=amount_A _ sBob sGold (by have:=hr2.len; omega) hr2.srt
 have m4:=amount_A _ sAnn sGold (by have:=hr2.len; omega) hr2.srt
 have v3:amtP (moveP (mintP [] sAnn sGold 5).1 sAnn sBob sGold 2).1 sBob sGold=2:=by decide
 have v4:amtP (moveP (mintP [] sAnn sGold 5).1 sAnn sBob sGold 2).1 sAnn sGold=3:=by decide
 rw [v3] at m3
 rw [v4] at m4
 rw [he2] at m2
 rw [he1] at m1
 generalize (mintP [] sAnn sGold 5).1=l1 at *
 generalize (moveP l1 sAnn sBob sGold 2).1=l2 at *
 simp only [sD,sAnn,sBob,sGold,pusI,List.map_nil,wD,intD] at m1 m2 m3 m4
 refine callD_W 35 Tryd.func5 rfl rfl rfl (fun _ _=>rfl) ?_
 (repeat (first | (simp -implicitDefEqProofs only [ev,mixed,Nat.reduceLT,Nat.reduceAdd,Nat.reduceMul,reduceIte,Nat.reduceEqDiff,reduceCtorEq,Nat.reducePow,Nat.reduceLeDiff,Int.reduceLE,Int.reduceLT,Int.reduceToNat,Int.reduceEq,Nat.reduceBEq,itsOf,gdA,byteI,opid,lenQ,ixQ,ldH,readAt,readCells,asCell,faQ,exQ,fldQ,partA,buildQ,slQ,stH,bslH,appH,dcells,convI,elemsOf,D.one,nilS,fillD,convN,cvH,tyRight2]) | (with_reducible refine ⟨?_,?_⟩; (· first | (obtain ⟨rfl⟩:=‹Hq _ _›; with_reducible refine chk_ok ?_; kernel_rfl) | kernel_rfl)) | (with_reducible intro ops hops)))
 (first | refine Call_frz [] (m1) (by simp [cvAs,cvA,cvRL,cvR,cvBox,cv1,cvL,cv0,bI,byteI,intD,sD,pusI,wD,elemsOf,upd]) ?_ | refine CallF_frz [] [] (m1) (fun G _=>by simp [cvAs,cvA,cvRL,cvR,cvBox,cv1,cvL,cv0,bI,byteI,intD,sD,pusI,wD,elemsOf,upd]) (by simp) ?_)
 (repeat (first | (simp -implicitDefEqProofs only [ev,mixed,Nat.reduceLT,Nat.reduceAdd,Nat.reduceMul,reduceIte,Nat.reduceEqDiff,reduceCtorEq,Nat.reducePow,Nat.reduceLeDiff,Int.reduceLE,Int.reduceLT,Int.reduceToNat,Int.reduceEq,Nat.reduceBEq,itsOf,gdA,byteI,opid,lenQ,ixQ,ldH,readAt,readCells,asCell,faQ,exQ,fldQ,partA,buildQ,slQ,stH,bslH,appH,dcells,convI,elemsOf,D.one,nilS,fillD,convN,cvH,tyRight2,intD,pusI,Int.natCast_zero]) | (with_reducible refine ⟨?_,?_⟩; (· first | (obtain ⟨rfl⟩:=‹Hq _ _›; with_reducible refine chk_ok ?_; kernel_rfl) | kernel_rfl)) | (with_reducible intro ops hops)))
 (first | refine Call_frz [] (m2) (by simp [cvAs,cvA,cvRL,cvR,cvBox,cv1,cvL,cv0,bI,byteI,intD,sD,pusI,wD,elemsOf,upd]) ?_ | refine CallF_frz [] [] (m2) (fun G _=>by simp [cvAs,cvA,cvRL,cvR,cvBox,cv1,cvL,cv0,bI,byteI,intD,sD,pusI,wD,elemsOf,upd]) (by simp) ?_)
 (repeat (first | (simp -implicitDefEqProofs only [ev,mixed,Nat.reduceLT,Nat.reduceAdd,Nat.reduceMul,reduceIte,Nat.reduceEqDiff,reduceCtorEq,Nat.reducePow,Nat.reduceLeDiff,Int.reduceLE,Int.reduceLT,Int.reduceToNat,Int.reduceEq,Nat.reduceBEq,itsOf,gdA,byteI,opid,lenQ,ixQ,ldH,readAt,readCells,asCell,faQ,exQ,fldQ,partA,buildQ,slQ,stH,bslH,appH,dcells,convI,elemsOf,D.one,nilS,fillD,convN,cvH,tyRight2,intD,pusI,hl2]) | (with_reducible refine ⟨?_,?_⟩; (· first | (obtain ⟨rfl⟩:=‹Hq _ _›; with_reducible refine chk_ok ?_; kernel_rfl) | kernel_rfl)) | (with_reducible intro ops hops)))
 (first | refine Call_frz [] (m3) (by simp [cvAs,cvA,cvRL,cvR,cvBox,cv1,cvL,cv0,bI,byteI,intD,sD,pusI,wD,elemsOf,upd]) ?_ | refine CallF_frz [] [] (m3) (fun G _=>by simp [cvAs,cvA,cvRL,cvR,cvBox,cv1,cvL,cv0,bI,byteI,intD,sD,pusI,wD,elemsOf,upd]) (by simp) ?_)
 (repeat (first | (simp -implicitDefEqProofs only [ev,mixed,Nat.reduceLT,Nat.reduceAdd,Nat.reduceMul,reduceIte,Nat.reduceEqDiff,reduceCtorEq,Nat.reducePow,Nat.reduceLeDiff,Int.reduceLE,Int.reduceLT,Int.reduceToNat,Int.reduceEq,Nat.reduceBEq,itsOf,gdA,byteI,opid,lenQ,ixQ,ldH,readAt,readCells,asCell,faQ,exQ,fldQ,partA,buildQ,slQ,stH,bslH,appH,dcells,convI,elemsOf,D.one,nilS,fillD,convN,cvH,tyRight2,wD]) | (with_reducible refine ⟨?_,?_⟩; (· first | (obtain ⟨rfl⟩:=‹Hq _ _›; with_reducible refine chk_ok ?_; kernel_rfl) | kernel_rfl)) | (with_reducible intro ops hops)))
 (first | refine Call_frz [] (m4) (by simp [cvAs,cvA,cvRL,cvR,cvBox,cv1,cvL,cv0,bI,byteI,intD,sD,pusI,wD,elemsOf,upd]) ?_ | refine CallF_frz [] [] (m4) (fun G _=>by simp [cvAs,cvA,cvRL,cvR,cvBox,cv1,cvL,cv0,bI,byteI,intD,sD,pusI,wD,elemsOf,upd]) (by simp) ?_)
 (repeat (first | (simp -implicitDefEqProofs only [ev,mixed,Nat.reduceLT,Nat.reduceAdd,Nat.reduceMul,reduceIte,Nat.reduceEqDiff,reduceCtorEq,Nat.reducePow,Nat.reduceLeDiff,Int.reduceLE,Int.reduceLT,Int.reduceToNat,Int.reduceEq,Nat.reduceBEq,itsOf,gdA,byteI,opid,lenQ,ixQ,ldH,readAt,readCells,asCell,faQ,exQ,fldQ,partA,buildQ,slQ,stH,bslH,appH,dcells,convI,elemsOf,D.one,nilS,fillD,convN,cvH,tyRight2,wD]) | (with_reducible refine ⟨?_,?_⟩; (· first | (obtain ⟨rfl⟩:=‹Hq _ _›; with_reducible refine chk_ok ?_; kernel_rfl) | kernel_rfl)) | (with_reducible intro ops hops)))
 refine fin_ret [] rfl ?_
 simp [cv,cv1,cv0,upd,boolV]
end Go.Proofs.YtckjpabekmhnhaaDoor
