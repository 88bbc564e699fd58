/- Merged texts: ProofA, ProofB, ProofC, ProofT, R1Same, GapA, GapB. -/
import Derived.Test.YtkodnlkgblkfdaaGBook
import Derived.Test.YtkodnlkgblkfdaaAbs4
import Derived.Test.YtkodnlkgblkfdaaTy
import Derived.Test.YtkodnlkgblkfdaaGWk
set_option linter.all false
namespace Go.Proofs.Ytkodnlkgblkfdaa
open Go Go.Abs Go.RowKit Go.Proofs.Ytkodnlkgblkfdaa.Ty
structure ProofD where
 i:Int
 n:Int
 k:List UInt8
 v:List UInt8
 path:List (List UInt8)
def proofD (p:ProofD):D:=.agg [intD p.i,intD p.n,.i (bI p.k),.i (bI p.v),.i (bbI p.path)]
def pathF (l:List PairD) (i:Nat):List (List UInt8) :=
 if h:l.length≤1 then []
 else if i < splitF l.length then pathF (l.take (splitF l.length)) i++[treeF (l.drop (splitF l.length))]
 else pathF (l.drop (splitF l.length)) (i - splitF l.length)++[treeF (l.take (splitF l.length))]
termination_by l.length
decreasing_by
 all_goals
  have:=splitF_lt (n:=l.length) (by omega)
  simp only [List.length_take,List.length_drop]
  omega
theorem pathF_one {l:List PairD} (i:Nat) (h:l.length≤1):pathF l i=[]:=by rw [pathF,dif_pos h]
theorem pathF_lo {l:List PairD} {i:Nat} (h:2≤l.length) (hi:i < splitF l.length):pathF l i=pathF (l.take (splitF l.length)) i++[treeF (l.drop (splitF l.length))]:=by
 rw [pathF,dif_neg (by omega),if_pos hi]
theorem pathF_hi {l:List PairD} {i:Nat} (h:2≤l.length) (hi:¬ i < splitF l.length):pathF l i=pathF (l.drop (splitF l.length)) (i - splitF l.length)++[treeF (l.take (splitF l.length))]:=by
 rw [pathF,dif_neg (by omega),if_neg hi]
theorem pathF_len:∀ (n:Nat) (l:List PairD) (i:Nat),l.length=n→(pathF l i).length≤n:=by
 intro n
 induction n using Nat.strongRecOn with
 | _ n ih =>
  intro l i hn
  by_cases h:l.length≤1
  ·rw [pathF_one i h]; simp
  ·have hs:=splitF_lt (n:=l.length) (by omega)
   by_cases hi:i < splitF l.length
   ·rw [pathF_lo (by omega) hi]
    have:=ih (l.take (splitF l.length)).length (by simp; omega) _ i rfl
    simp at this ⊢; omega
   ·rw [pathF_hi (by omega) hi]
    have:=ih (l.drop (splitF l.length)).length (by simp; omega) _ (i - splitF l.length) rfl
    simp at this ⊢; omega
def bbE (b:List UInt8):List I:=[bI b]
set_option maxHeartbeats 2000000
end Go.Proofs.Ytkodnlkgblkfdaa
set_option linter.all false
namespace Go.Proofs.Ytkodnlkgblkfdaa
open Go Go.Abs Go.RowKit Go.Proofs.Ytkodnlkgblkfdaa.Ty
theorem fin_ct {P:Program} {fn:Func} {sl:Nat→D} {H:Nat→Ob} {t:TypeId} {p i:Tmp} {k:Nat} {cs:List D} {r:D} (F:List Nat) (h:fn.results=#[.cell p t,.tmp i]) (ha:aggOf P t=some true) (hs:szOf P t=some k) (hr:readAt H (sl p) k=some cs) (hv:cv H F (fun _=>none) (.tup [.agg cs,sl i]) r):Fin P fn noH r noH .ret ⟨sl,H⟩ :=
 ⟨_,by simp [resA,h,resOne,ha,hs,hr],ler_pure F hv⟩
def atF (l:List PairD) (i:Nat) (h:i < l.length):ProofD:=⟨i,l.length,l[i].k,l[i].v,pathF l i⟩
set_option maxHeartbeats 2000000
def zeroP:ProofD:=⟨0,0,[],[],[]⟩
def showF (l:List PairD) (key:List UInt8):ProofD × Nat :=
 if (wrongF l).1=0 then (if h:placeF l key < l.length then (if l[placeF l key].k=key then (atF l (placeF l key) h,0) else (zeroP,6)) else (zeroP,6)) else (zeroP,(wrongF l).1)
end Go.Proofs.Ytkodnlkgblkfdaa
set_option linter.all false
namespace Go.Proofs.Ytkodnlkgblkfdaa
open Go Go.Abs Go.RowKit Go.Proofs.Ytkodnlkgblkfdaa.Ty
def formI (p:ProofD):List I:=[.s (.int .i64 p.i),.s (.int .i64 p.n),bI p.k,bI p.v,bbI p.path]
def formG (p:ProofD):Bool:=decide (p.n < 1) || decide (200 < p.n) || decide (p.i < 0) || decide (p.n≤p.i) || decide (60 < p.k.length) || decide (200 < p.v.length) || decide (40 < p.path.length)
def formF (p:ProofD):Bool:=!formG p && p.path.all fun d=>decide (d.length=32)
theorem formF_no {p:ProofD} (h:formG p=true):formF p=false:=by simp [formF,h]
theorem all_drop {l:List (List UInt8)} {i:Nat} (h:i < l.length):(l.drop i).all (fun d=>decide (d.length=32))=(decide (l[i].length=32) && (l.drop (i+1)).all fun d=>decide (d.length=32)):=by
 rw [List.drop_eq_getElem_cons h]; rfl
set_option maxHeartbeats 4000000
end Go.Proofs.Ytkodnlkgblkfdaa
set_option linter.all false
namespace Go.Proofs.Ytkodnlkgblkfdaa
open Go Go.Abs Go.RowKit Go.Proofs.Ytkodnlkgblkfdaa.Ty
def foldR (leaf:List UInt8):Nat→Nat→List (List UInt8)→List UInt8 × Bool
 | _,n,[]=>if n=1 then (leaf,true) else ([],false)
 | i,n,d :: r=>if n=1 then (leaf,false) else if i < splitF n then (nodeF (foldR leaf i (splitF n) r).1 d,(foldR leaf i (splitF n) r).2)
   else (nodeF d (foldR leaf (i - splitF n) (n - splitF n) r).1,(foldR leaf (i - splitF n) (n - splitF n) r).2)
theorem foldR_len (leaf:List UInt8) (h:leaf.length≤32):∀ (r:List (List UInt8)) (i n:Nat),(foldR leaf i n r).1.length≤32:=by
 intro r
 induction r with
 | nil=>intro i n; simp only [foldR]; split <;> simp [h]
 | cons d r ih =>
  intro i n; simp only [foldR]; split
  ·exact h
  ·split <;> simp only [nodeF] <;> exact Nat.le_of_eq (sha_length _)
set_option maxHeartbeats 4000000
def treeOf (p:ProofD):List UInt8 × Bool:=foldR (leafF p.k p.v) p.i.toNat p.n.toNat p.path.reverse
def shownF (root:List UInt8) (p:ProofD):Bool:=formF p && (treeOf p).2 && decide (topF p.n.toNat (treeOf p).1=root)
theorem formF_yes {p:ProofD} (h:formF p=true):1≤p.n∧p.n≤200∧0≤p.i∧p.i < p.n∧p.k.length≤60∧p.v.length≤200∧p.path.length≤40∧∀ d∈p.path,d.length=32:=by
 simp [formF,formG] at h
 exact ⟨by omega,by omega,by omega,by omega,by omega,by omega,by omega,h.2⟩
end Go.Proofs.Ytkodnlkgblkfdaa
set_option linter.all false
namespace Go.Proofs.Ytkodnlkgblkfdaa
open Go Go.Abs Go.RowKit Go.Proofs.Ytkodnlkgblkfdaa.Ty
theorem tyR1Same0:(type_of% @Ty.T3)∧(type_of% @Ty.T5)∧(type_of% @Ty.T25):=⟨@Ty.T3,@Ty.T5,@Ty.T25⟩
set_option maxHeartbeats 1000000
theorem same_A (x y:List UInt8) (hx:x.length≤1099511627776):PureD Try.prog 21 [.i (bI x),.i (bI y)] (.i (.s (.bool (decide (x=y))))):=by
 refine callD_W 26 Try.func21 rfl rfl rfl (fun _ _=>rfl) ?_
 (repeat (first | (simp -implicitDefEqProofs only [ev,mixed,Nat.reduceLT,Nat.reduceAdd,Nat.reduceMul,reduceIte,Nat.reduceEqDiff,reduceCtorEq,Nat.reducePow,Nat.reduceLeDiff,Int.reduceLE,Int.reduceLT,Int.reduceToNat,Int.reduceEq,Nat.reduceBEq,itsOf,gdA,byteI,opid,lenQ,ixQ,ldH,readAt,readCells,asCell,faQ,exQ,fldQ,partA,buildQ,slQ,stH,bslH,appH,dcells,convI,elemsOf,D.one,nilS,fillD,convN,cvH,tyR1Same0,bI]) | (with_reducible refine ⟨?_,?_⟩; (· first | (obtain ⟨rfl⟩:=‹Hq _ _›; with_reducible refine chk_ok ?_; kernel_rfl) | kernel_rfl)) | (with_reducible intro ops hops)))
 refine Wc_split (fun h=>?_) (fun h=>?_)
 ·(repeat (first | (simp -implicitDefEqProofs only [ev,mixed,Nat.reduceLT,Nat.reduceAdd,Nat.reduceMul,reduceIte,Nat.reduceEqDiff,reduceCtorEq,Nat.reducePow,Nat.reduceLeDiff,Int.reduceLE,Int.reduceLT,Int.reduceToNat,Int.reduceEq,Nat.reduceBEq,itsOf,gdA,byteI,opid,lenQ,ixQ,ldH,readAt,readCells,asCell,faQ,exQ,fldQ,partA,buildQ,slQ,stH,bslH,appH,dcells,convI,elemsOf,D.one,nilS,fillD,convN,cvH,tyR1Same0,bI]) | (with_reducible refine ⟨?_,?_⟩; (· first | (obtain ⟨rfl⟩:=‹Hq _ _›; with_reducible refine chk_ok ?_; kernel_rfl) | kernel_rfl)) | (with_reducible intro ops hops)))
  refine fin_ret [] rfl ?_
  have:x≠y:=by intro e; subst e; simp at h
  simp [cv,cv1,cv0,upd,this]
 ·have hl:x.length=y.length:=by simp at h; omega
  clear h
  (repeat (first | (simp -implicitDefEqProofs only [ev,mixed,Nat.reduceLT,Nat.reduceAdd,Nat.reduceMul,reduceIte,Nat.reduceEqDiff,reduceCtorEq,Nat.reducePow,Nat.reduceLeDiff,Int.reduceLE,Int.reduceLT,Int.reduceToNat,Int.reduceEq,Nat.reduceBEq,itsOf,gdA,byteI,opid,lenQ,ixQ,ldH,readAt,readCells,asCell,faQ,exQ,fldQ,partA,buildQ,slQ,stH,bslH,appH,dcells,convI,elemsOf,D.one,nilS,fillD,convN,cvH,tyR1Same0,bI]) | (with_reducible refine ⟨?_,?_⟩; (· first | (obtain ⟨rfl⟩:=‹Hq _ _›; with_reducible refine chk_ok ?_; kernel_rfl) | kernel_rfl)) | (with_reducible intro ops hops)))
  refine W_loop (ι:={ k:Nat // k≤x.length∧x.take k=y.take k }) (fun k=>stOf [(0,.i (.sl (x.map byteI))),(1,.i (.sl (y.map byteI))),(12,.i (.s (.int .i64 x.length))),(13,.i (.s (.int .i64 (k.1:Nat))))] []) (fun k=>x.length - k.1) ⟨0,by simp⟩ ?_ ?_
  ·refine le_stOf _ _ [] [] ?_ ?_ rfl rfl
   ·simp [cv,cv1,cv0,upd,lk]
   ·simp
  ·rintro ⟨k,hk,ht⟩
   rw [stOf_eq]
   (repeat (first | (simp -implicitDefEqProofs only [ev,mixed,Nat.reduceLT,Nat.reduceAdd,Nat.reduceMul,reduceIte,Nat.reduceEqDiff,reduceCtorEq,Nat.reducePow,Nat.reduceLeDiff,Int.reduceLE,Int.reduceLT,Int.reduceToNat,Int.reduceEq,Nat.reduceBEq,itsOf,gdA,byteI,opid,lenQ,ixQ,ldH,readAt,readCells,asCell,faQ,exQ,fldQ,partA,buildQ,slQ,stH,bslH,appH,dcells,convI,elemsOf,D.one,nilS,fillD,convN,cvH,tyR1Same0]) | (with_reducible refine ⟨?_,?_⟩; (· first | (obtain ⟨rfl⟩:=‹Hq _ _›; with_reducible refine chk_ok ?_; kernel_rfl) | kernel_rfl)) | (with_reducible intro ops hops)))
   refine Wc_split (fun h=>?_) (fun h=>?_)
   ·have hlt:k < x.length:=by simp at h; omega
    clear h
    have e1:(x.map byteI)[k]?=some [.s (.int .u8 (x[k].toNat:Int))]:=by simp [hlt,byteI]
    have e2:(y.map byteI)[k]?=some [.s (.int .u8 ((y[k]'(by omega)).toNat:Int))]:=by simp [show k < y.length by omega,byteI]
    (repeat (first | (simp -implicitDefEqProofs only [ev,mixed,Nat.reduceLT,Nat.reduceAdd,Nat.reduceMul,reduceIte,Nat.reduceEqDiff,reduceCtorEq,Nat.reducePow,Nat.reduceLeDiff,Int.reduceLE,Int.reduceLT,Int.reduceToNat,Int.reduceEq,Nat.reduceBEq,itsOf,gdA,byteI,opid,lenQ,ixQ,ldH,readAt,readCells,asCell,faQ,exQ,fldQ,partA,buildQ,slQ,stH,bslH,appH,dcells,convI,elemsOf,D.one,nilS,fillD,convN,cvH,tyR1Same0,e1,e2]) | (with_reducible refine ⟨?_,?_⟩; (· first | (obtain ⟨rfl⟩:=‹Hq _ _›; with_reducible refine chk_ok ?_; kernel_rfl) | kernel_rfl)) | (with_reducible intro ops hops)))
    refine Wc_split (fun h=>?_) (fun h=>?_)
    ·(repeat (first | (simp -implicitDefEqProofs only [ev,mixed,Nat.reduceLT,Nat.reduceAdd,Nat.reduceMul,reduceIte,Nat.reduceEqDiff,reduceCtorEq,Nat.reducePow,Nat.reduceLeDiff,Int.reduceLE,Int.reduceLT,Int.reduceToNat,Int.reduceEq,Nat.reduceBEq,itsOf,gdA,byteI,opid,lenQ,ixQ,ldH,readAt,readCells,asCell,faQ,exQ,fldQ,partA,buildQ,slQ,stH,bslH,appH,dcells,convI,elemsOf,D.one,nilS,fillD,convN,cvH,tyR1Same0]) | (with_reducible refine ⟨?_,?_⟩; (· first | (obtain ⟨rfl⟩:=‹Hq _ _›; with_reducible refine chk_ok ?_; kernel_rfl) | kernel_rfl)) | (with_reducible intro ops hops)))
     refine fin_ret [] rfl ?_
     have:x≠y:=by intro e; subst e; simp at h
     simp [cv,cv1,cv0,upd,this]
    ·have hb:x[k]=y[k]:=UInt8.toNat_inj.1 (by simp at h; omega)
     clear h
     have hw:IntKind.i64.wrap ((k:Int)+1)=((k+1:Nat):Int):=by rw [wrap64 (by omega) (by omega)]; omega
     (repeat (first | (simp -implicitDefEqProofs only [ev,mixed,Nat.reduceLT,Nat.reduceAdd,Nat.reduceMul,reduceIte,Nat.reduceEqDiff,reduceCtorEq,Nat.reducePow,Nat.reduceLeDiff,Int.reduceLE,Int.reduceLT,Int.reduceToNat,Int.reduceEq,Nat.reduceBEq,itsOf,gdA,byteI,opid,lenQ,ixQ,ldH,readAt,readCells,asCell,faQ,exQ,fldQ,partA,buildQ,slQ,stH,bslH,appH,dcells,convI,elemsOf,D.one,nilS,fillD,convN,cvH,tyR1Same0,hw]) | (with_reducible refine ⟨?_,?_⟩; (· first | (obtain ⟨rfl⟩:=‹Hq _ _›; with_reducible refine chk_ok ?_; kernel_rfl) | kernel_rfl)) | (with_reducible intro ops hops)))
     refine ⟨⟨k+1,hlt,?_⟩,le_stOf _ _ [] [] ?_ ?_ rfl rfl,?_⟩
     ·rw [List.take_succ_eq_append_getElem hlt,List.take_succ_eq_append_getElem (by omega),ht,hb]
     ·simp [cv,cv1,cv0,upd,lk]
     ·simp
     ·simp; omega
   ·have hk':k=x.length:=by simp at h; omega
    subst hk'
    (repeat (first | (simp -implicitDefEqProofs only [ev,mixed,Nat.reduceLT,Nat.reduceAdd,Nat.reduceMul,reduceIte,Nat.reduceEqDiff,reduceCtorEq,Nat.reducePow,Nat.reduceLeDiff,Int.reduceLE,Int.reduceLT,Int.reduceToNat,Int.reduceEq,Nat.reduceBEq,itsOf,gdA,byteI,opid,lenQ,ixQ,ldH,readAt,readCells,asCell,faQ,exQ,fldQ,partA,buildQ,slQ,stH,bslH,appH,dcells,convI,elemsOf,D.one,nilS,fillD,convN,cvH,tyR1Same0]) | (with_reducible refine ⟨?_,?_⟩; (· first | (obtain ⟨rfl⟩:=‹Hq _ _›; with_reducible refine chk_ok ?_; kernel_rfl) | kernel_rfl)) | (with_reducible intro ops hops)))
    refine fin_ret [] rfl ?_
    have:x=y:=by rw [List.take_length,hl,List.take_length] at ht; exact ht
    simp [cv,cv1,cv0,upd,this]
end Go.Proofs.Ytkodnlkgblkfdaa
set_option linter.all false
namespace Go.Proofs.Ytkodnlkgblkfdaa
open Go Go.Abs Go.RowKit Go.Proofs.Ytkodnlkgblkfdaa.Ty
def getF (l:List PairD) (key:List UInt8):List UInt8 × Bool :=
 if h:placeF l key < l.length then (if l[placeF l key].k=key then (l[placeF l key].v,true) else ([],false)) else ([],false)
structure GapD where
 hl:Bool
 hr:Bool
 left:ProofD
 right:ProofD
def gapD (g:GapD):D:=.agg [boolD g.hl,boolD g.hr,intD g.left.i,intD g.left.n,.i (bI g.left.k),.i (bI g.left.v),.i (bbI g.left.path),intD g.right.i,intD g.right.n,.i (bI g.right.k),.i (bI g.right.v),.i (bbI g.right.path)]
def zeroG:GapD:=⟨false,false,zeroP,zeroP⟩
def atZ (l:List PairD) (b:Bool) (i:Nat):ProofD:=if h:b=true∧i < l.length then atF l i h.2 else zeroP
def gapF (l:List PairD) (key:List UInt8):GapD × Nat :=
 if (wrongF l).1=0 then (if thereF l key then (zeroG,7) else (⟨decide (0 < placeF l key),decide (placeF l key < l.length),atZ l (decide (0 < placeF l key)) (placeF l key - 1),atZ l (decide (placeF l key < l.length)) (placeF l key)⟩,0)) else (zeroG,(wrongF l).1)
set_option maxHeartbeats 4000000
end Go.Proofs.Ytkodnlkgblkfdaa
set_option linter.all false
namespace Go.Proofs.Ytkodnlkgblkfdaa
open Go Go.Abs Go.RowKit Go.Proofs.Ytkodnlkgblkfdaa.Ty
def absentF (root key:List UInt8) (g:GapD):Bool :=
 match g.hl,g.hr with
 | false,false=>decide (topF 0 []=root)
 | true,false=>shownF root g.left && decide (Lib.compareBytes g.left.k key < 0) && decide (g.left.i=g.left.n - 1)
 | false,true=>shownF root g.right && decide (Lib.compareBytes key g.right.k < 0) && decide (g.right.i=0)
 | true,true=>shownF root g.left && decide (Lib.compareBytes g.left.k key < 0) && (shownF root g.right && decide (Lib.compareBytes key g.right.k < 0)) && (decide (g.left.n=g.right.n) && decide (g.left.i+1=g.right.i))
theorem shownF_form {r:List UInt8} {p:ProofD} (h:shownF r p=true):formF p=true:=by
 unfold shownF at h; simp only [Bool.and_eq_true] at h; exact h.1.1
attribute [local simp,local go_sem] proofD gapD bbI
set_option maxHeartbeats 4000000
set_option maxRecDepth 20000
end Go.Proofs.Ytkodnlkgblkfdaa
