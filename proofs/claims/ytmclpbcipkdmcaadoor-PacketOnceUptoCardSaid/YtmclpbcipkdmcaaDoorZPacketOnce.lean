/- The statement on PacketOnce, with the last texts of its proof: for every input of bounded bulk the law answers true and leaves its arguments as they were. -/
import Derived.Test.YtmclpbcipkdmcaaDoorFind
import Derived.Test.YtmclpbcipkdmcaaDoorShaD
import Derived.Test.YtmclpbcipkdmcaaDoorCmpO
import Derived.Test.YtmclpbcipkdmcaaDoorAbs4
import Derived.Test.YtmclpbcipkdmcaaDoorTy
import Derived.Test.YtmclpbcipkdmcaaDoorWq
import Derived.Test.YtmclpbcipkdmcaaDoorClL
import Derived.Shelf.Small.Bits
import Derived.Shelf.Strconv.Itoa0
import Derived.Shelf.Strconv.Itoa1
import Derived.Shelf.LaysM
import Derived.Shelf.Strconv.Itoa2
import Derived.Shelf.Strconv.Itoa3
import Derived.Shelf.Strconv.Itoa4
import Derived.Test.YtmclpbcipkdmcaaDoorRow2
import Derived.Test.YtmclpbcipkdmcaaDoorStP
import Derived.Lib.ItoaLen
import Derived.Test.YtmclpbcipkdmcaaDoorWWrite
import Derived.Test.YtmclpbcipkdmcaaDoorWireL
import Derived.Test.YtmclpbcipkdmcaaDoorMkP
import Derived.Test.YtmclpbcipkdmcaaDoorStS
import Derived.Test.YtmclpbcipkdmcaaDoorClA
import Derived.Test.YtmclpbcipkdmcaaDoorClnKn
import Derived.Test.YtmclpbcipkdmcaaDoorShaS
import Derived.Test.YtmclpbcipkdmcaaDoorSt1
import Derived.Test.YtmclpbcipkdmcaaDoorClB
import Derived.Test.YtmclpbcipkdmcaaDoorTie
import Derived.WalkKit
import Derived.ProofKit
import Derived.OpenShut
import Derived.Deep.DeepHandedRow
import Derived.Lib.LaidTab
import Derived.Stop.LaidErr
import Derived.Test.YtmclpbcipkdmcaaDoorCards
/- book.Wrong, Leaf, Node, Top, Split, Tree, Root: by value. -/
set_option linter.all false
namespace Go.Proofs.YtmclpbcipkdmcaaDoor
open Go Go.Abs Go.RowKit Go.Proofs.YtmclpbcipkdmcaaDoor.Ty
theorem tyBookA0 : (type_of% @Ty.T3) ∧ (type_of% @Ty.T5) ∧ (type_of% @Ty.T29) ∧ (type_of% @Ty.T117) := ⟨@Ty.T3, @Ty.T5, @Ty.T29, @Ty.T117⟩
theorem tyBookA1 : (type_of% @Ty.T3) ∧ (type_of% @Ty.T5) ∧ (type_of% @Ty.T29) ∧ (type_of% @Ty.T39) ∧ (type_of% @Ty.T59) ∧ (type_of% @Ty.T65) ∧ (type_of% @Ty.T117) := ⟨@Ty.T3, @Ty.T5, @Ty.T29, @Ty.T39, @Ty.T59, @Ty.T65, @Ty.T117⟩

def fltD (e i : Nat) : D := .agg [intD e, intD i]
def bigP (p : PairD) : Bool := decide (60 < p.k.length) || decide (200 < p.v.length)
def wrongGo (l : List PairD) (i : Nat) : Nat × Nat :=
  if h : i < l.length then
    if bigP l[i] then (4, i)
    else if 0 < i ∧ 0 ≤ Lib.compareBytes (l[i - 1]'(by omega)).k l[i].k then (2, i)
    else wrongGo l (i + 1)
  else (0, 0)
termination_by l.length - i
def wrongF (l : List PairD) : Nat × Nat := if 200 < l.length then (5, 0) else wrongGo l 0

set_option maxHeartbeats 2000000
theorem pair_A (p : PairD) : PureD Tryd.prog 76 [prD p] (intD (if bigP p then 4 else 0)) := by
  unfold bigP
  refine callD_W 13 Tryd.func76 rfl rfl rfl (fun _ _ => rfl) ?_
  cases g1 : decide ((60 : Int) < (p.k.length : Int))
  · have h1 : decide (60 < p.k.length) = false := by simp at g1 ⊢; omega
    (repeat (first | (simp -implicitDefEqProofs only [ev, mixed, Nat.reduceLT, Nat.reduceAdd, Nat.reduceMul, reduceIte, Nat.reduceEqDiff, reduceCtorEq, Nat.reducePow, Nat.reduceLeDiff, Int.reduceLE, Int.reduceLT, Int.reduceToNat, Int.reduceEq, Nat.reduceBEq, itsOf, gdA, byteI, opid, lenQ, ixQ, ldH, readAt, readCells, asCell, faQ, exQ, fldQ, partA, buildQ, slQ, stH, bslH, appH, dcells, convI, elemsOf, D.one, nilS, fillD, convN, cvH, tyBookA0, prD, bI, g1]) | (with_reducible refine ⟨?_, ?_⟩; (· first | (obtain ⟨rfl⟩ := ‹Hq _ _›; with_reducible refine chk_ok ?_; kernel_rfl) | kernel_rfl)) | (with_reducible intro ops hops)))
    refine Wc_split (fun h => ?_) (fun h => ?_)
    · have h2 : decide (200 < p.v.length) = true := by simp at h ⊢; omega
      (repeat (first | (simp -implicitDefEqProofs only [ev, mixed, Nat.reduceLT, Nat.reduceAdd, Nat.reduceMul, reduceIte, Nat.reduceEqDiff, reduceCtorEq, Nat.reducePow, Nat.reduceLeDiff, Int.reduceLE, Int.reduceLT, Int.reduceToNat, Int.reduceEq, Nat.reduceBEq, itsOf, gdA, byteI, opid, lenQ, ixQ, ldH, readAt, readCells, asCell, faQ, exQ, fldQ, partA, buildQ, slQ, stH, bslH, appH, dcells, convI, elemsOf, D.one, nilS, fillD, convN, cvH, tyBookA0]) | (with_reducible refine ⟨?_, ?_⟩; (· first | (obtain ⟨rfl⟩ := ‹Hq _ _›; with_reducible refine chk_ok ?_; kernel_rfl) | kernel_rfl)) | (with_reducible intro ops hops)))
      refine fin_ret [] rfl ?_
      simp [cv, cv1, cv0, upd, intD, h1, h2]
    · have h2 : decide (200 < p.v.length) = false := by simp at h ⊢; omega
      (repeat (first | (simp -implicitDefEqProofs only [ev, mixed, Nat.reduceLT, Nat.reduceAdd, Nat.reduceMul, reduceIte, Nat.reduceEqDiff, reduceCtorEq, Nat.reducePow, Nat.reduceLeDiff, Int.reduceLE, Int.reduceLT, Int.reduceToNat, Int.reduceEq, Nat.reduceBEq, itsOf, gdA, byteI, opid, lenQ, ixQ, ldH, readAt, readCells, asCell, faQ, exQ, fldQ, partA, buildQ, slQ, stH, bslH, appH, dcells, convI, elemsOf, D.one, nilS, fillD, convN, cvH, tyBookA0]) | (with_reducible refine ⟨?_, ?_⟩; (· first | (obtain ⟨rfl⟩ := ‹Hq _ _›; with_reducible refine chk_ok ?_; kernel_rfl) | kernel_rfl)) | (with_reducible intro ops hops)))
      refine fin_ret [] rfl ?_
      simp [cv, cv1, cv0, upd, intD, h1, h2]
  · have h1 : decide (60 < p.k.length) = true := by simp at g1 ⊢; omega
    (repeat (first | (simp -implicitDefEqProofs only [ev, mixed, Nat.reduceLT, Nat.reduceAdd, Nat.reduceMul, reduceIte, Nat.reduceEqDiff, reduceCtorEq, Nat.reducePow, Nat.reduceLeDiff, Int.reduceLE, Int.reduceLT, Int.reduceToNat, Int.reduceEq, Nat.reduceBEq, itsOf, gdA, byteI, opid, lenQ, ixQ, ldH, readAt, readCells, asCell, faQ, exQ, fldQ, partA, buildQ, slQ, stH, bslH, appH, dcells, convI, elemsOf, D.one, nilS, fillD, convN, cvH, tyBookA0, prD, bI, g1]) | (with_reducible refine ⟨?_, ?_⟩; (· first | (obtain ⟨rfl⟩ := ‹Hq _ _›; with_reducible refine chk_ok ?_; kernel_rfl) | kernel_rfl)) | (with_reducible intro ops hops)))
    refine fin_ret [] rfl ?_
    simp [cv, cv1, cv0, upd, intD, h1]

theorem wrong_A (l : List PairD) (hl : l.length ≤ 1048576) : PureD Tryd.prog 34 [.i (psI l)] (fltD (wrongF l).1 (wrongF l).2) := by
  refine callD_W 42 Tryd.func34 rfl rfl rfl (fun _ _ => rfl) ?_
  (repeat (first | (simp -implicitDefEqProofs only [ev, mixed, Nat.reduceLT, Nat.reduceAdd, Nat.reduceMul, reduceIte, Nat.reduceEqDiff, reduceCtorEq, Nat.reducePow, Nat.reduceLeDiff, Int.reduceLE, Int.reduceLT, Int.reduceToNat, Int.reduceEq, Nat.reduceBEq, itsOf, gdA, byteI, opid, lenQ, ixQ, ldH, readAt, readCells, asCell, faQ, exQ, fldQ, partA, buildQ, slQ, stH, bslH, appH, dcells, convI, elemsOf, D.one, nilS, fillD, convN, cvH, tyBookA1, psI]) | (with_reducible refine ⟨?_, ?_⟩; (· first | (obtain ⟨rfl⟩ := ‹Hq _ _›; with_reducible refine chk_ok ?_; kernel_rfl) | kernel_rfl)) | (with_reducible intro ops hops)))
  refine Wc_split (fun h => ?_) (fun h => ?_)
  · have h1 : 200 < l.length := by simp at h; omega
    clear h
    (repeat (first | (simp -implicitDefEqProofs only [ev, mixed, Nat.reduceLT, Nat.reduceAdd, Nat.reduceMul, reduceIte, Nat.reduceEqDiff, reduceCtorEq, Nat.reducePow, Nat.reduceLeDiff, Int.reduceLE, Int.reduceLT, Int.reduceToNat, Int.reduceEq, Nat.reduceBEq, itsOf, gdA, byteI, opid, lenQ, ixQ, ldH, readAt, readCells, asCell, faQ, exQ, fldQ, partA, buildQ, slQ, stH, bslH, appH, dcells, convI, elemsOf, D.one, nilS, fillD, convN, cvH, tyBookA1]) | (with_reducible refine ⟨?_, ?_⟩; (· first | (obtain ⟨rfl⟩ := ‹Hq _ _›; with_reducible refine chk_ok ?_; kernel_rfl) | kernel_rfl)) | (with_reducible intro ops hops)))
    refine fin_c [] rfl ag65 sz65 (by simp [upd, readAt, readCells]; rfl) ?_
    simp [cv, cv1, cvL, cv0, upd, wrongF, h1, fltD, intD]
  · have h1 : ¬ 200 < l.length := by simp at h; omega
    clear h
    have hw : wrongF l = wrongGo l 0 := by rw [wrongF, if_neg h1]
    generalize wrongF l = R at hw
    (repeat (first | (simp -implicitDefEqProofs only [ev, mixed, Nat.reduceLT, Nat.reduceAdd, Nat.reduceMul, reduceIte, Nat.reduceEqDiff, reduceCtorEq, Nat.reducePow, Nat.reduceLeDiff, Int.reduceLE, Int.reduceLT, Int.reduceToNat, Int.reduceEq, Nat.reduceBEq, itsOf, gdA, byteI, opid, lenQ, ixQ, ldH, readAt, readCells, asCell, faQ, exQ, fldQ, partA, buildQ, slQ, stH, bslH, appH, dcells, convI, elemsOf, D.one, nilS, fillD, convN, cvH, tyBookA1]) | (with_reducible refine ⟨?_, ?_⟩; (· first | (obtain ⟨rfl⟩ := ‹Hq _ _›; with_reducible refine chk_ok ?_; kernel_rfl) | kernel_rfl)) | (with_reducible intro ops hops)))
    refine W_loopI (ι := Nat) (fun i => i ≤ l.length ∧ R = wrongGo l i)
      (fun i => stOf [(0, .i (.sl (l.map encPr))), (2, .pt 100 0 0 0), (10, .i (.sl (l.map encPr))), (11, intD l.length), (12, intD i)] [(100, .box [intD 0, intD 0])]) (fun i => l.length - i) 0 ⟨Nat.zero_le _, hw⟩ ?_ ?_
    · refine le_stOf _ _ [] [(100, 1000)] ?_ ?_ rfl rfl
      · simp [cv, cvL, cv1, cv0, upd, lk, srcOf, intD]
      · simp [objOk, srcOf, lk, cvO, cvL, cv0, frz, upd, D.one, intD, hO]
    · rintro i ⟨hi, hR⟩
      rw [stOf_eq]
      (repeat (first | (simp -implicitDefEqProofs only [ev, mixed, Nat.reduceLT, Nat.reduceAdd, Nat.reduceMul, reduceIte, Nat.reduceEqDiff, reduceCtorEq, Nat.reducePow, Nat.reduceLeDiff, Int.reduceLE, Int.reduceLT, Int.reduceToNat, Int.reduceEq, Nat.reduceBEq, itsOf, gdA, byteI, opid, lenQ, ixQ, ldH, readAt, readCells, asCell, faQ, exQ, fldQ, partA, buildQ, slQ, stH, bslH, appH, dcells, convI, elemsOf, D.one, nilS, fillD, convN, cvH, tyBookA1, intD]) | (with_reducible refine ⟨?_, ?_⟩; (· first | (obtain ⟨rfl⟩ := ‹Hq _ _›; with_reducible refine chk_ok ?_; kernel_rfl) | kernel_rfl)) | (with_reducible intro ops hops)))
      refine Wc_split (fun h => ?_) (fun h => ?_)
      · have h2 : i < l.length := by simp at h; omega
        clear h
        rw [wrongGo, dif_pos h2] at hR
        have e1 : (l.map encPr)[i]? = some [bI l[i].k, bI l[i].v] := by rw [List.getElem?_map, List.getElem?_eq_getElem h2]; rfl
        have w1 : IntKind.i64.wrap ((i : Int) + 1) = ((i + 1 : Nat) : Int) := by rw [wrap64 (by omega) (by omega)]; omega
        have hpr := pair_A l[i]
        cases i with
        | zero =>
          have w0 : IntKind.i64.wrap 1 = 1 := by decide
          generalize l[0] = p at *
          (repeat (first | (simp -implicitDefEqProofs only [ev, mixed, Nat.reduceLT, Nat.reduceAdd, Nat.reduceMul, reduceIte, Nat.reduceEqDiff, reduceCtorEq, Nat.reducePow, Nat.reduceLeDiff, Int.reduceLE, Int.reduceLT, Int.reduceToNat, Int.reduceEq, Nat.reduceBEq, itsOf, gdA, byteI, opid, lenQ, ixQ, ldH, readAt, readCells, asCell, faQ, exQ, fldQ, partA, buildQ, slQ, stH, bslH, appH, dcells, convI, elemsOf, D.one, nilS, fillD, convN, cvH, tyBookA1, e1]) | (with_reducible refine ⟨?_, ?_⟩; (· first | (obtain ⟨rfl⟩ := ‹Hq _ _›; with_reducible refine chk_ok ?_; kernel_rfl) | kernel_rfl)) | (with_reducible intro ops hops)))
          (first | refine Call_flat [] [] (hpr) (by simp [cvAs, cvA, cvRL, cvR, cvBox, cv1, cvL, cv0, bI, byteI, encPr, prD, psI, intD, fltD, elemsOf, upd]) rfl ?_ | refine CallF_flat [] [] [] (hpr) (fun G _ => by simp [cvAs, cvA, cvRL, cvR, cvBox, cv1, cvL, cv0, bI, byteI, encPr, prD, psI, intD, fltD, elemsOf, upd]) rfl ?_)
          cases hb : bigP p
          · simp only [hb, Bool.false_eq_true, if_false, Nat.lt_irrefl, false_and] at hR
            (repeat (first | (simp -implicitDefEqProofs only [ev, mixed, Nat.reduceLT, Nat.reduceAdd, Nat.reduceMul, reduceIte, Nat.reduceEqDiff, reduceCtorEq, Nat.reducePow, Nat.reduceLeDiff, Int.reduceLE, Int.reduceLT, Int.reduceToNat, Int.reduceEq, Nat.reduceBEq, itsOf, gdA, byteI, opid, lenQ, ixQ, ldH, readAt, readCells, asCell, faQ, exQ, fldQ, partA, buildQ, slQ, stH, bslH, appH, dcells, convI, elemsOf, D.one, nilS, fillD, convN, cvH, tyBookA1, intD, w1]) | (with_reducible refine ⟨?_, ?_⟩; (· first | (obtain ⟨rfl⟩ := ‹Hq _ _›; with_reducible refine chk_ok ?_; kernel_rfl) | kernel_rfl)) | (with_reducible intro ops hops)))
            refine ⟨0 + 1, ⟨h2, hR⟩, le_stOf _ _ [] [(100, 100)] ?_ ?_ rfl rfl, by simp; omega⟩
            · simp [cv, cvL, cv1, cv0, upd, lk, srcOf, intD, w0]
            · simp [objOk, srcOf, lk, cvO, cvL, cv0, frz, upd, D.one, intD, hO]
          · simp only [hb, if_true] at hR
            (repeat (first | (simp -implicitDefEqProofs only [ev, mixed, Nat.reduceLT, Nat.reduceAdd, Nat.reduceMul, reduceIte, Nat.reduceEqDiff, reduceCtorEq, Nat.reducePow, Nat.reduceLeDiff, Int.reduceLE, Int.reduceLT, Int.reduceToNat, Int.reduceEq, Nat.reduceBEq, itsOf, gdA, byteI, opid, lenQ, ixQ, ldH, readAt, readCells, asCell, faQ, exQ, fldQ, partA, buildQ, slQ, stH, bslH, appH, dcells, convI, elemsOf, D.one, nilS, fillD, convN, cvH, tyBookA1, intD]) | (with_reducible refine ⟨?_, ?_⟩; (· first | (obtain ⟨rfl⟩ := ‹Hq _ _›; with_reducible refine chk_ok ?_; kernel_rfl) | kernel_rfl)) | (with_reducible intro ops hops)))
            refine fin_c [] rfl ag65 sz65 (by simp [upd, readAt, readCells]; rfl) ?_
            simp [cv, cv1, cvL, cv0, upd, hR, fltD, intD]
        | succ i =>
          have h3 : i < l.length := by omega
          have e2 : (l.map encPr)[i]? = some [bI l[i].k, bI l[i].v] := by rw [List.getElem?_map, List.getElem?_eq_getElem h3]; rfl
          have w2 : IntKind.i64.wrap (((i + 1 : Nat) : Int) - 1) = (i : Int) := by rw [wrap64 (by omega) (by omega)]; omega
          have g1 : decide ((0 : Int) < ((i + 1 : Nat) : Int)) = true := decide_eq_true (by omega)
          have hR' : R = if bigP l[i + 1] then (4, i + 1) else if 0 ≤ Lib.compareBytes l[i].k l[i + 1].k then (2, i + 1) else wrongGo l (i + 1 + 1) := by
            rw [hR]; simp
          clear hR
          generalize l[i + 1] = p at *
          generalize l[i] = q at *
          (repeat (first | (simp -implicitDefEqProofs only [ev, mixed, Nat.reduceLT, Nat.reduceAdd, Nat.reduceMul, reduceIte, Nat.reduceEqDiff, reduceCtorEq, Nat.reducePow, Nat.reduceLeDiff, Int.reduceLE, Int.reduceLT, Int.reduceToNat, Int.reduceEq, Nat.reduceBEq, itsOf, gdA, byteI, opid, lenQ, ixQ, ldH, readAt, readCells, asCell, faQ, exQ, fldQ, partA, buildQ, slQ, stH, bslH, appH, dcells, convI, elemsOf, D.one, nilS, fillD, convN, cvH, tyBookA1, e1]) | (with_reducible refine ⟨?_, ?_⟩; (· first | (obtain ⟨rfl⟩ := ‹Hq _ _›; with_reducible refine chk_ok ?_; kernel_rfl) | kernel_rfl)) | (with_reducible intro ops hops)))
          (first | refine Call_flat [] [] (hpr) (by simp [cvAs, cvA, cvRL, cvR, cvBox, cv1, cvL, cv0, bI, byteI, encPr, prD, psI, intD, fltD, elemsOf, upd]) rfl ?_ | refine CallF_flat [] [] [] (hpr) (fun G _ => by simp [cvAs, cvA, cvRL, cvR, cvBox, cv1, cvL, cv0, bI, byteI, encPr, prD, psI, intD, fltD, elemsOf, upd]) rfl ?_)
          cases hb : bigP p
          · simp only [hb, Bool.false_eq_true, if_false] at hR'
            (repeat (first | (simp -implicitDefEqProofs only [ev, mixed, Nat.reduceLT, Nat.reduceAdd, Nat.reduceMul, reduceIte, Nat.reduceEqDiff, reduceCtorEq, Nat.reducePow, Nat.reduceLeDiff, Int.reduceLE, Int.reduceLT, Int.reduceToNat, Int.reduceEq, Nat.reduceBEq, itsOf, gdA, byteI, opid, lenQ, ixQ, ldH, readAt, readCells, asCell, faQ, exQ, fldQ, partA, buildQ, slQ, stH, bslH, appH, dcells, convI, elemsOf, D.one, nilS, fillD, convN, cvH, tyBookA1, intD, g1, w2, e2, bI]) | (with_reducible refine ⟨?_, ?_⟩; (· first | (obtain ⟨rfl⟩ := ‹Hq _ _›; with_reducible refine chk_ok ?_; kernel_rfl) | kernel_rfl)) | (with_reducible intro ops hops)))
            (first | refine Call_flat [] [] (cmp_A q.k p.k) (by simp [cvAs, cvA, cvRL, cvR, cvBox, cv1, cvL, cv0, bI, byteI, encPr, prD, psI, intD, fltD, elemsOf, upd]) rfl ?_ | refine CallF_flat [] [] [] (cmp_A q.k p.k) (fun G _ => by simp [cvAs, cvA, cvRL, cvR, cvBox, cv1, cvL, cv0, bI, byteI, encPr, prD, psI, intD, fltD, elemsOf, upd]) rfl ?_)
            (repeat (first | (simp -implicitDefEqProofs only [ev, mixed, Nat.reduceLT, Nat.reduceAdd, Nat.reduceMul, reduceIte, Nat.reduceEqDiff, reduceCtorEq, Nat.reducePow, Nat.reduceLeDiff, Int.reduceLE, Int.reduceLT, Int.reduceToNat, Int.reduceEq, Nat.reduceBEq, itsOf, gdA, byteI, opid, lenQ, ixQ, ldH, readAt, readCells, asCell, faQ, exQ, fldQ, partA, buildQ, slQ, stH, bslH, appH, dcells, convI, elemsOf, D.one, nilS, fillD, convN, cvH, tyBookA1]) | (with_reducible refine ⟨?_, ?_⟩; (· first | (obtain ⟨rfl⟩ := ‹Hq _ _›; with_reducible refine chk_ok ?_; kernel_rfl) | kernel_rfl)) | (with_reducible intro ops hops)))
            refine Wc_split (fun h => ?_) (fun h => ?_)
            · have h4 : 0 ≤ Lib.compareBytes q.k p.k := by simpa using h
              rw [if_pos h4] at hR'
              (repeat (first | (simp -implicitDefEqProofs only [ev, mixed, Nat.reduceLT, Nat.reduceAdd, Nat.reduceMul, reduceIte, Nat.reduceEqDiff, reduceCtorEq, Nat.reducePow, Nat.reduceLeDiff, Int.reduceLE, Int.reduceLT, Int.reduceToNat, Int.reduceEq, Nat.reduceBEq, itsOf, gdA, byteI, opid, lenQ, ixQ, ldH, readAt, readCells, asCell, faQ, exQ, fldQ, partA, buildQ, slQ, stH, bslH, appH, dcells, convI, elemsOf, D.one, nilS, fillD, convN, cvH, tyBookA1]) | (with_reducible refine ⟨?_, ?_⟩; (· first | (obtain ⟨rfl⟩ := ‹Hq _ _›; with_reducible refine chk_ok ?_; kernel_rfl) | kernel_rfl)) | (with_reducible intro ops hops)))
              refine fin_c [] rfl ag65 sz65 (by simp [upd, readAt, readCells]; rfl) ?_
              simp [cv, cv1, cvL, cv0, upd, hR', fltD, intD]
            · have h4 : ¬ 0 ≤ Lib.compareBytes q.k p.k := by simpa using h
              rw [if_neg h4] at hR'
              (repeat (first | (simp -implicitDefEqProofs only [ev, mixed, Nat.reduceLT, Nat.reduceAdd, Nat.reduceMul, reduceIte, Nat.reduceEqDiff, reduceCtorEq, Nat.reducePow, Nat.reduceLeDiff, Int.reduceLE, Int.reduceLT, Int.reduceToNat, Int.reduceEq, Nat.reduceBEq, itsOf, gdA, byteI, opid, lenQ, ixQ, ldH, readAt, readCells, asCell, faQ, exQ, fldQ, partA, buildQ, slQ, stH, bslH, appH, dcells, convI, elemsOf, D.one, nilS, fillD, convN, cvH, tyBookA1, w1]) | (with_reducible refine ⟨?_, ?_⟩; (· first | (obtain ⟨rfl⟩ := ‹Hq _ _›; with_reducible refine chk_ok ?_; kernel_rfl) | kernel_rfl)) | (with_reducible intro ops hops)))
              refine ⟨i + 1 + 1, ⟨h2, hR'⟩, le_stOf _ _ [] [(100, 100)] ?_ ?_ rfl rfl, by simp; omega⟩
              · simp [cv, cvL, cv1, cv0, upd, lk, srcOf, intD]
              · simp [objOk, srcOf, lk, cvO, cvL, cv0, frz, upd, D.one, intD, hO]
          · simp only [hb, if_true] at hR'
            (repeat (first | (simp -implicitDefEqProofs only [ev, mixed, Nat.reduceLT, Nat.reduceAdd, Nat.reduceMul, reduceIte, Nat.reduceEqDiff, reduceCtorEq, Nat.reducePow, Nat.reduceLeDiff, Int.reduceLE, Int.reduceLT, Int.reduceToNat, Int.reduceEq, Nat.reduceBEq, itsOf, gdA, byteI, opid, lenQ, ixQ, ldH, readAt, readCells, asCell, faQ, exQ, fldQ, partA, buildQ, slQ, stH, bslH, appH, dcells, convI, elemsOf, D.one, nilS, fillD, convN, cvH, tyBookA1, intD]) | (with_reducible refine ⟨?_, ?_⟩; (· first | (obtain ⟨rfl⟩ := ‹Hq _ _›; with_reducible refine chk_ok ?_; kernel_rfl) | kernel_rfl)) | (with_reducible intro ops hops)))
            refine fin_c [] rfl ag65 sz65 (by simp [upd, readAt, readCells]; rfl) ?_
            simp [cv, cv1, cvL, cv0, upd, hR', fltD, intD]
      · have h2 : ¬ i < l.length := by simp at h; omega
        clear h
        rw [wrongGo, dif_neg h2] at hR
        (repeat (first | (simp -implicitDefEqProofs only [ev, mixed, Nat.reduceLT, Nat.reduceAdd, Nat.reduceMul, reduceIte, Nat.reduceEqDiff, reduceCtorEq, Nat.reducePow, Nat.reduceLeDiff, Int.reduceLE, Int.reduceLT, Int.reduceToNat, Int.reduceEq, Nat.reduceBEq, itsOf, gdA, byteI, opid, lenQ, ixQ, ldH, readAt, readCells, asCell, faQ, exQ, fldQ, partA, buildQ, slQ, stH, bslH, appH, dcells, convI, elemsOf, D.one, nilS, fillD, convN, cvH, tyBookA1]) | (with_reducible refine ⟨?_, ?_⟩; (· first | (obtain ⟨rfl⟩ := ‹Hq _ _›; with_reducible refine chk_ok ?_; kernel_rfl) | kernel_rfl)) | (with_reducible intro ops hops)))
        refine fin_c [] rfl ag65 sz65 (by simp [upd, readAt, readCells]; rfl) ?_
        simp [cv, cv1, cvL, cv0, upd, hR, fltD, intD]
end Go.Proofs.YtmclpbcipkdmcaaDoor
/- book.Leaf, Node, Top, Split, Tree, Root: by value. -/
set_option linter.all false
namespace Go.Proofs.YtmclpbcipkdmcaaDoor
open Go Go.Abs Go.RowKit Go.Proofs.YtmclpbcipkdmcaaDoor.Ty
theorem tyBookB0 : (type_of% @Ty.T3) ∧ (type_of% @Ty.T4) ∧ (type_of% @Ty.T5) ∧ (type_of% @Ty.T29) := ⟨@Ty.T3, @Ty.T4, @Ty.T5, @Ty.T29⟩
theorem tyBookB1 : (type_of% @Ty.T1) ∧ (type_of% @Ty.T3) ∧ (type_of% @Ty.T4) ∧ (type_of% @Ty.T5) ∧ (type_of% @Ty.T29) ∧ (type_of% @Ty.T30) := ⟨@Ty.T1, @Ty.T3, @Ty.T4, @Ty.T5, @Ty.T29, @Ty.T30⟩
theorem tyBookB2 : (type_of% @Ty.T1) ∧ (type_of% @Ty.T3) ∧ (type_of% @Ty.T5) ∧ (type_of% @Ty.T29) ∧ (type_of% @Ty.T30) := ⟨@Ty.T1, @Ty.T3, @Ty.T5, @Ty.T29, @Ty.T30⟩
theorem tyBookB3 : (type_of% @Ty.T1) ∧ (type_of% @Ty.T3) ∧ (type_of% @Ty.T5) ∧ (type_of% @Ty.T29) ∧ (type_of% @Ty.T30) := ⟨@Ty.T1, @Ty.T3, @Ty.T5, @Ty.T29, @Ty.T30⟩
theorem tyBookB4 : (type_of% @Ty.T3) := @Ty.T3

def four (n : Nat) : List UInt8 := [byteOf n 16777216, byteOf n 65536, byteOf n 256, byteOf n 1]
def leafF (k v : List UInt8) : List UInt8 := sha (0 :: (four k.length ++ (k ++ v)))
def nodeF (a b : List UInt8) : List UInt8 := sha (1 :: (a ++ b))
def topF (n : Nat) (t : List UInt8) : List UInt8 := sha (2 :: (four n ++ t))
def splitF (n : Nat) : Nat := 2 ^ Nat.log2 (n - 1)
theorem splitF_lt {n : Nat} (h : 2 ≤ n) : 0 < splitF n ∧ splitF n < n := by
  have := Nat.log2_self_le (n := n - 1) (by omega)
  have h2 : 0 < 2 ^ Nat.log2 (n - 1) := Nat.pow_pos (by decide)
  simp only [splitF]; omega
theorem splitF_le {n : Nat} : n ≤ 2 * splitF n := by
  have := Nat.lt_log2_self (n := n - 1)
  rw [Nat.pow_succ] at this
  simp only [splitF]; omega
def treeF (l : List PairD) : List UInt8 :=
  match l with
  | [] => []
  | [p] => leafF p.k p.v
  | p :: q :: r => nodeF (treeF ((p :: q :: r).take (splitF (p :: q :: r).length))) (treeF ((p :: q :: r).drop (splitF (p :: q :: r).length)))
termination_by l.length
decreasing_by
  all_goals
    have := splitF_lt (n := (p :: q :: r).length) (by simp)
    simp only [List.length_take, List.length_drop]
    omega
theorem treeF_one (p : PairD) : treeF [p] = leafF p.k p.v := by rw [treeF]
theorem treeF_two {l : List PairD} (h : 2 ≤ l.length) : treeF l = nodeF (treeF (l.take (splitF l.length))) (treeF (l.drop (splitF l.length))) := by
  match l, h with
  | p :: q :: r, _ => conv => lhs; rw [treeF]
theorem treeF_len (l : List PairD) (h : l ≠ []) : (treeF l).length = 32 := by
  match l, h with
  | [p], _ => rw [treeF_one]; exact sha_length _
  | p :: q :: r, _ => rw [treeF_two (by simp)]; exact sha_length _
def rootF (l : List PairD) : List UInt8 := topF l.length (treeF l)

theorem byte24 (n d k : Nat) (hd : d = 2 ^ k) (hk : k < 64) : IntKind.u8.wrap ((n : Int).fdiv (2 ^ min k (IntKind.bits .i64))) = ((byteOf n d).toNat : Int) := by
  have hm : min k (IntKind.bits .i64) = k := by simp [IntKind.bits]; omega
  rw [hm, Int.fdiv_eq_ediv_of_nonneg _ (by exact_mod_cast Nat.zero_le _), IntKind.wrap_u8]
  have : (n : Int) / 2 ^ k = ((n / 2 ^ k : Nat) : Int) := by rw [Int.natCast_ediv, Int.natCast_pow]; rfl
  rw [this, byteOf, hd]
  generalize n / 2 ^ k = x
  rw [UInt8.toNat_ofNat']; omega
theorem byte1 (n : Nat) : IntKind.u8.wrap (n : Int) = ((byteOf n 1).toNat : Int) := by
  rw [IntKind.wrap_u8, byteOf, Nat.div_one, UInt8.toNat_ofNat']; omega
set_option maxHeartbeats 2000000
theorem four_A (n : Nat) : PureD Tryd.prog 151 [intD n] (.i (bI (four n))) := by
  have b1 := byte24 n 16777216 24 (by decide) (by decide)
  have b2 := byte24 n 65536 16 (by decide) (by decide)
  have b3 := byte24 n 256 8 (by decide) (by decide)
  have b4 := byte1 n
  simp only [four]
  generalize byteOf n 16777216 = c1 at *
  generalize byteOf n 65536 = c2 at *
  generalize byteOf n 256 = c3 at *
  generalize byteOf n 1 = c4 at *
  refine callD_W 15 Tryd.func151 rfl rfl rfl (fun _ _ => rfl) ?_
  (repeat (first | (simp -implicitDefEqProofs only [ev, mixed, Nat.reduceLT, Nat.reduceAdd, Nat.reduceMul, reduceIte, Nat.reduceEqDiff, reduceCtorEq, Nat.reducePow, Nat.reduceLeDiff, Int.reduceLE, Int.reduceLT, Int.reduceToNat, Int.reduceEq, Nat.reduceBEq, itsOf, gdA, byteI, opid, lenQ, ixQ, ldH, readAt, readCells, asCell, faQ, exQ, fldQ, partA, buildQ, slQ, stH, bslH, appH, dcells, convI, elemsOf, D.one, nilS, fillD, convN, cvH, tyBookB0, intD, b1, b2, b3, b4]) | (with_reducible refine ⟨?_, ?_⟩; (· first | (obtain ⟨rfl⟩ := ‹Hq _ _›; with_reducible refine chk_ok ?_; kernel_rfl) | kernel_rfl)) | (with_reducible intro ops hops)))
  refine fin_ret [1267] rfl ?_
  simp [cv, cv1, cv0, upd, elemsOf, bI, byteI]

theorem leaf_A (k v : List UInt8) (hk : k.length ≤ 1048576) (hv : v.length ≤ 1048576) : PureD Tryd.prog 137 [.i (bI k), .i (bI v)] (.i (bI (leafF k v))) := by
  have hp := parts_D [[0], four k.length, k, v] (by simp) (by intro b hb; simp at hb; rcases hb with rfl | rfl | rfl | rfl; simp; (simp [four]); omega; omega)
  have hf : [[0], four k.length, k, v].flatten = 0 :: (four k.length ++ (k ++ v)) := by simp
  rw [hf] at hp
  rw [show sha (0 :: (four k.length ++ (k ++ v))) = leafF k v from rfl] at hp
  generalize leafF k v = R at *
  refine callD_W 13 Tryd.func137 rfl rfl rfl (fun _ _ => rfl) ?_
  (repeat (first | (simp -implicitDefEqProofs only [ev, mixed, Nat.reduceLT, Nat.reduceAdd, Nat.reduceMul, reduceIte, Nat.reduceEqDiff, reduceCtorEq, Nat.reducePow, Nat.reduceLeDiff, Int.reduceLE, Int.reduceLT, Int.reduceToNat, Int.reduceEq, Nat.reduceBEq, itsOf, gdA, byteI, opid, lenQ, ixQ, ldH, readAt, readCells, asCell, faQ, exQ, fldQ, partA, buildQ, slQ, stH, bslH, appH, dcells, convI, elemsOf, D.one, nilS, fillD, convN, cvH, tyBookB1, bI]) | (with_reducible refine ⟨?_, ?_⟩; (· first | (obtain ⟨rfl⟩ := ‹Hq _ _›; with_reducible refine chk_ok ?_; kernel_rfl) | kernel_rfl)) | (with_reducible intro ops hops)))
  (first | refine Call_frz [] (four_A k.length) (by simp [cvAs, cvA, cvRL, cvR, cvBox, cv1, cvL, cv0, bI, byteI, bbI, intD, elemsOf, upd]) ?_ | refine CallF_frz [] [] (four_A k.length) (fun G _ => by simp [cvAs, cvA, cvRL, cvR, cvBox, cv1, cvL, cv0, bI, byteI, bbI, intD, elemsOf, upd]) (by simp) ?_)
  (repeat (first | (simp -implicitDefEqProofs only [ev, mixed, Nat.reduceLT, Nat.reduceAdd, Nat.reduceMul, reduceIte, Nat.reduceEqDiff, reduceCtorEq, Nat.reducePow, Nat.reduceLeDiff, Int.reduceLE, Int.reduceLT, Int.reduceToNat, Int.reduceEq, Nat.reduceBEq, itsOf, gdA, byteI, opid, lenQ, ixQ, ldH, readAt, readCells, asCell, faQ, exQ, fldQ, partA, buildQ, slQ, stH, bslH, appH, dcells, convI, elemsOf, D.one, nilS, fillD, convN, cvH, tyBookB1, bI]) | (with_reducible refine ⟨?_, ?_⟩; (· first | (obtain ⟨rfl⟩ := ‹Hq _ _›; with_reducible refine chk_ok ?_; kernel_rfl) | kernel_rfl)) | (with_reducible intro ops hops)))
  (first | refine Call_frz [1262] (hp) (by simp [cvAs, cvA, cvRL, cvR, cvBox, cv1, cvL, cv0, bI, byteI, bbI, intD, elemsOf, upd, frz, bbI]) ?_ | refine CallF_frz [1262] [1262] (hp) (fun G hG => by (have hG1262 := hG 1262 (by simp); simp [cvAs, cvA, cvRL, cvR, cvBox, cv1, cvL, cv0, bI, byteI, bbI, intD, elemsOf, upd, frz, bbI, hG1262])) (by simp) ?_)
  (repeat (first | (simp -implicitDefEqProofs only [ev, mixed, Nat.reduceLT, Nat.reduceAdd, Nat.reduceMul, reduceIte, Nat.reduceEqDiff, reduceCtorEq, Nat.reducePow, Nat.reduceLeDiff, Int.reduceLE, Int.reduceLT, Int.reduceToNat, Int.reduceEq, Nat.reduceBEq, itsOf, gdA, byteI, opid, lenQ, ixQ, ldH, readAt, readCells, asCell, faQ, exQ, fldQ, partA, buildQ, slQ, stH, bslH, appH, dcells, convI, elemsOf, D.one, nilS, fillD, convN, cvH, tyBookB1, bI]) | (with_reducible refine ⟨?_, ?_⟩; (· first | (obtain ⟨rfl⟩ := ‹Hq _ _›; with_reducible refine chk_ok ?_; kernel_rfl) | kernel_rfl)) | (with_reducible intro ops hops)))
  refine fin_ret [] rfl ?_
  simp [cv, cv1, cv0, upd]

theorem node_A (a b : List UInt8) (ha : a.length ≤ 1048576) (hb : b.length ≤ 1048576) : PureD Tryd.prog 150 [.i (bI a), .i (bI b)] (.i (bI (nodeF a b))) := by
  have hp := parts_D [[1], a, b] (by simp) (by intro x hx; simp at hx; rcases hx with rfl | rfl | rfl; simp; omega; omega)
  have hf : [[1], a, b].flatten = 1 :: (a ++ b) := by simp
  rw [hf] at hp
  rw [show sha (1 :: (a ++ b)) = nodeF a b from rfl] at hp
  generalize nodeF a b = R at *
  refine callD_W 10 Tryd.func150 rfl rfl rfl (fun _ _ => rfl) ?_
  (repeat (first | (simp -implicitDefEqProofs only [ev, mixed, Nat.reduceLT, Nat.reduceAdd, Nat.reduceMul, reduceIte, Nat.reduceEqDiff, reduceCtorEq, Nat.reducePow, Nat.reduceLeDiff, Int.reduceLE, Int.reduceLT, Int.reduceToNat, Int.reduceEq, Nat.reduceBEq, itsOf, gdA, byteI, opid, lenQ, ixQ, ldH, readAt, readCells, asCell, faQ, exQ, fldQ, partA, buildQ, slQ, stH, bslH, appH, dcells, convI, elemsOf, D.one, nilS, fillD, convN, cvH, tyBookB2, bI]) | (with_reducible refine ⟨?_, ?_⟩; (· first | (obtain ⟨rfl⟩ := ‹Hq _ _›; with_reducible refine chk_ok ?_; kernel_rfl) | kernel_rfl)) | (with_reducible intro ops hops)))
  (first | refine Call_frz [1259] (hp) (by simp [cvAs, cvA, cvRL, cvR, cvBox, cv1, cvL, cv0, bI, byteI, bbI, intD, elemsOf, upd, frz, bbI]) ?_ | refine CallF_frz [1259] [1259] (hp) (fun G hG => by (have hG1259 := hG 1259 (by simp); simp [cvAs, cvA, cvRL, cvR, cvBox, cv1, cvL, cv0, bI, byteI, bbI, intD, elemsOf, upd, frz, bbI, hG1259])) (by simp) ?_)
  (repeat (first | (simp -implicitDefEqProofs only [ev, mixed, Nat.reduceLT, Nat.reduceAdd, Nat.reduceMul, reduceIte, Nat.reduceEqDiff, reduceCtorEq, Nat.reducePow, Nat.reduceLeDiff, Int.reduceLE, Int.reduceLT, Int.reduceToNat, Int.reduceEq, Nat.reduceBEq, itsOf, gdA, byteI, opid, lenQ, ixQ, ldH, readAt, readCells, asCell, faQ, exQ, fldQ, partA, buildQ, slQ, stH, bslH, appH, dcells, convI, elemsOf, D.one, nilS, fillD, convN, cvH, tyBookB2, bI]) | (with_reducible refine ⟨?_, ?_⟩; (· first | (obtain ⟨rfl⟩ := ‹Hq _ _›; with_reducible refine chk_ok ?_; kernel_rfl) | kernel_rfl)) | (with_reducible intro ops hops)))
  refine fin_ret [] rfl ?_
  simp [cv, cv1, cv0, upd]

theorem top_A (n : Nat) (t : List UInt8) (ht : t.length ≤ 1048576) : PureD Tryd.prog 138 [intD n, .i (bI t)] (.i (bI (topF n t))) := by
  have hp := parts_D [[2], four n, t] (by simp) (by intro x hx; simp at hx; rcases hx with rfl | rfl | rfl; simp; (simp [four]); omega)
  have hf : [[2], four n, t].flatten = 2 :: (four n ++ t) := by simp
  rw [hf] at hp
  rw [show sha (2 :: (four n ++ t)) = topF n t from rfl] at hp
  generalize topF n t = R at *
  refine callD_W 11 Tryd.func138 rfl rfl rfl (fun _ _ => rfl) ?_
  (repeat (first | (simp -implicitDefEqProofs only [ev, mixed, Nat.reduceLT, Nat.reduceAdd, Nat.reduceMul, reduceIte, Nat.reduceEqDiff, reduceCtorEq, Nat.reducePow, Nat.reduceLeDiff, Int.reduceLE, Int.reduceLT, Int.reduceToNat, Int.reduceEq, Nat.reduceBEq, itsOf, gdA, byteI, opid, lenQ, ixQ, ldH, readAt, readCells, asCell, faQ, exQ, fldQ, partA, buildQ, slQ, stH, bslH, appH, dcells, convI, elemsOf, D.one, nilS, fillD, convN, cvH, tyBookB3, bI, intD]) | (with_reducible refine ⟨?_, ?_⟩; (· first | (obtain ⟨rfl⟩ := ‹Hq _ _›; with_reducible refine chk_ok ?_; kernel_rfl) | kernel_rfl)) | (with_reducible intro ops hops)))
  (first | refine Call_frz [] (four_A n) (by simp [cvAs, cvA, cvRL, cvR, cvBox, cv1, cvL, cv0, bI, byteI, bbI, intD, elemsOf, upd]) ?_ | refine CallF_frz [] [] (four_A n) (fun G _ => by simp [cvAs, cvA, cvRL, cvR, cvBox, cv1, cvL, cv0, bI, byteI, bbI, intD, elemsOf, upd]) (by simp) ?_)
  (repeat (first | (simp -implicitDefEqProofs only [ev, mixed, Nat.reduceLT, Nat.reduceAdd, Nat.reduceMul, reduceIte, Nat.reduceEqDiff, reduceCtorEq, Nat.reducePow, Nat.reduceLeDiff, Int.reduceLE, Int.reduceLT, Int.reduceToNat, Int.reduceEq, Nat.reduceBEq, itsOf, gdA, byteI, opid, lenQ, ixQ, ldH, readAt, readCells, asCell, faQ, exQ, fldQ, partA, buildQ, slQ, stH, bslH, appH, dcells, convI, elemsOf, D.one, nilS, fillD, convN, cvH, tyBookB3, bI]) | (with_reducible refine ⟨?_, ?_⟩; (· first | (obtain ⟨rfl⟩ := ‹Hq _ _›; with_reducible refine chk_ok ?_; kernel_rfl) | kernel_rfl)) | (with_reducible intro ops hops)))
  (first | refine Call_frz [1260] (hp) (by simp [cvAs, cvA, cvRL, cvR, cvBox, cv1, cvL, cv0, bI, byteI, bbI, intD, elemsOf, upd, frz, bbI]) ?_ | refine CallF_frz [1260] [1260] (hp) (fun G hG => by (have hG1260 := hG 1260 (by simp); simp [cvAs, cvA, cvRL, cvR, cvBox, cv1, cvL, cv0, bI, byteI, bbI, intD, elemsOf, upd, frz, bbI, hG1260])) (by simp) ?_)
  (repeat (first | (simp -implicitDefEqProofs only [ev, mixed, Nat.reduceLT, Nat.reduceAdd, Nat.reduceMul, reduceIte, Nat.reduceEqDiff, reduceCtorEq, Nat.reducePow, Nat.reduceLeDiff, Int.reduceLE, Int.reduceLT, Int.reduceToNat, Int.reduceEq, Nat.reduceBEq, itsOf, gdA, byteI, opid, lenQ, ixQ, ldH, readAt, readCells, asCell, faQ, exQ, fldQ, partA, buildQ, slQ, stH, bslH, appH, dcells, convI, elemsOf, D.one, nilS, fillD, convN, cvH, tyBookB3, bI]) | (with_reducible refine ⟨?_, ?_⟩; (· first | (obtain ⟨rfl⟩ := ‹Hq _ _›; with_reducible refine chk_ok ?_; kernel_rfl) | kernel_rfl)) | (with_reducible intro ops hops)))
  refine fin_ret [] rfl ?_
  simp [cv, cv1, cv0, upd]

theorem pow2_split {n i : Nat} (h1 : 2 ^ i = 1 ∨ 2 ^ i < n) (h2 : n ≤ 2 * 2 ^ i) (hn : 1 ≤ n) : 2 ^ i = splitF n := by
  unfold splitF
  congr 1
  have hle : i ≤ Nat.log2 (n - 1) ∨ n - 1 = 0 := by
    by_cases h0 : n - 1 = 0
    · exact .inr h0
    · refine .inl ((Nat.le_log2 h0).2 ?_)
      rcases h1 with h1 | h1 <;> omega
  have hge : n - 1 = 0 ∨ Nat.log2 (n - 1) < i + 1 := by
    by_cases h0 : n - 1 = 0
    · exact .inl h0
    · refine .inr ((Nat.log2_lt h0).2 ?_)
      rw [Nat.pow_succ]; omega
  rcases hle with hle | hle
  · rcases hge with hge | hge
    · rw [hge] at hle ⊢; simp at hle ⊢; omega
    · omega
  · rw [hle]
    have : n = 1 := by omega
    subst this
    simp
    rcases h1 with h1 | h1
    · cases i with
      | zero => rfl
      | succ i => rw [Nat.pow_succ] at h1; omega
    · have : 0 < 2 ^ i := Nat.pow_pos (by decide); omega
theorem split_A (n : Nat) (h0 : 1 ≤ n) (hn : n ≤ 1048576) : PureD Tryd.prog 149 [intD n] (intD (splitF n)) := by
  refine callD_W 11 Tryd.func149 rfl rfl rfl (fun _ _ => rfl) ?_
  (repeat (first | (simp -implicitDefEqProofs only [ev, mixed, Nat.reduceLT, Nat.reduceAdd, Nat.reduceMul, reduceIte, Nat.reduceEqDiff, reduceCtorEq, Nat.reducePow, Nat.reduceLeDiff, Int.reduceLE, Int.reduceLT, Int.reduceToNat, Int.reduceEq, Nat.reduceBEq, itsOf, gdA, byteI, opid, lenQ, ixQ, ldH, readAt, readCells, asCell, faQ, exQ, fldQ, partA, buildQ, slQ, stH, bslH, appH, dcells, convI, elemsOf, D.one, nilS, fillD, convN, cvH, tyBookB4, intD]) | (with_reducible refine ⟨?_, ?_⟩; (· first | (obtain ⟨rfl⟩ := ‹Hq _ _›; with_reducible refine chk_ok ?_; kernel_rfl) | kernel_rfl)) | (with_reducible intro ops hops)))
  refine W_loopI (ι := Nat) (fun i => 2 ^ i = 1 ∨ 2 ^ i < n)
    (fun i => stOf [(0, intD n), (3, intD (2 ^ i : Nat))] []) (fun i => n - 2 ^ i) 0 (.inl rfl) ?_ ?_
  · refine le_stOf _ _ [] [] ?_ ?_ rfl rfl
    · simp [cv, cv1, cv0, upd, lk, srcOf, intD]
    · simp
  · rintro i hi
    rw [stOf_eq]
    have hp : 0 < 2 ^ i := Nat.pow_pos (by decide)
    have hs : 2 ^ (i + 1) = 2 * 2 ^ i := by rw [Nat.pow_succ]; omega
    have hfin := pow2_split hi
    have w1 : IntKind.i64.wrap (2 * ((2 ^ i : Nat) : Int)) = ((2 ^ (i + 1) : Nat) : Int) := by rw [hs, wrap64 (by omega) (by omega)]; omega
    have w2 : IntKind.i64.wrap (((2 ^ i : Nat) : Int) * 2) = ((2 ^ (i + 1) : Nat) : Int) := by rw [hs, wrap64 (by omega) (by omega)]; omega
    generalize hx : 2 ^ i = x at *
    generalize hy : 2 ^ (i + 1) = y at *
    (repeat (first | (simp -implicitDefEqProofs only [ev, mixed, Nat.reduceLT, Nat.reduceAdd, Nat.reduceMul, reduceIte, Nat.reduceEqDiff, reduceCtorEq, Nat.reducePow, Nat.reduceLeDiff, Int.reduceLE, Int.reduceLT, Int.reduceToNat, Int.reduceEq, Nat.reduceBEq, itsOf, gdA, byteI, opid, lenQ, ixQ, ldH, readAt, readCells, asCell, faQ, exQ, fldQ, partA, buildQ, slQ, stH, bslH, appH, dcells, convI, elemsOf, D.one, nilS, fillD, convN, cvH, tyBookB4, intD, w1]) | (with_reducible refine ⟨?_, ?_⟩; (· first | (obtain ⟨rfl⟩ := ‹Hq _ _›; with_reducible refine chk_ok ?_; kernel_rfl) | kernel_rfl)) | (with_reducible intro ops hops)))
    refine Wc_split (fun h => ?_) (fun h => ?_)
    · have h1 : y < n := by simp at h; omega
      clear h
      (repeat (first | (simp -implicitDefEqProofs only [ev, mixed, Nat.reduceLT, Nat.reduceAdd, Nat.reduceMul, reduceIte, Nat.reduceEqDiff, reduceCtorEq, Nat.reducePow, Nat.reduceLeDiff, Int.reduceLE, Int.reduceLT, Int.reduceToNat, Int.reduceEq, Nat.reduceBEq, itsOf, gdA, byteI, opid, lenQ, ixQ, ldH, readAt, readCells, asCell, faQ, exQ, fldQ, partA, buildQ, slQ, stH, bslH, appH, dcells, convI, elemsOf, D.one, nilS, fillD, convN, cvH, tyBookB4, w2]) | (with_reducible refine ⟨?_, ?_⟩; (· first | (obtain ⟨rfl⟩ := ‹Hq _ _›; with_reducible refine chk_ok ?_; kernel_rfl) | kernel_rfl)) | (with_reducible intro ops hops)))
      refine ⟨i + 1, by show 2 ^ (i + 1) = 1 ∨ 2 ^ (i + 1) < n; rw [hy]; exact .inr h1, le_stOf _ _ [] [] ?_ ?_ rfl rfl, by simp only [hx, hy]; omega⟩
      · simp only [hy]; simp [cv, cv1, cv0, upd, lk, srcOf, intD]
      · simp
    · have h1 : n ≤ 2 * x := by simp at h; omega
      clear h
      (repeat (first | (simp -implicitDefEqProofs only [ev, mixed, Nat.reduceLT, Nat.reduceAdd, Nat.reduceMul, reduceIte, Nat.reduceEqDiff, reduceCtorEq, Nat.reducePow, Nat.reduceLeDiff, Int.reduceLE, Int.reduceLT, Int.reduceToNat, Int.reduceEq, Nat.reduceBEq, itsOf, gdA, byteI, opid, lenQ, ixQ, ldH, readAt, readCells, asCell, faQ, exQ, fldQ, partA, buildQ, slQ, stH, bslH, appH, dcells, convI, elemsOf, D.one, nilS, fillD, convN, cvH, tyBookB4]) | (with_reducible refine ⟨?_, ?_⟩; (· first | (obtain ⟨rfl⟩ := ‹Hq _ _›; with_reducible refine chk_ok ?_; kernel_rfl) | kernel_rfl)) | (with_reducible intro ops hops)))
      refine fin_ret [] rfl ?_
      simp [cv, cv1, cv0, upd, intD, hfin h1 h0]

end Go.Proofs.YtmclpbcipkdmcaaDoor
/- The order of keys, and what a right book is: plain laws. -/
set_option linter.all false
namespace Go.Proofs.YtmclpbcipkdmcaaDoor
open Go Go.Abs

/-- A right book. -/
structure Right (l : List PairD) : Prop where
  len : l.length ≤ 200
  big : ∀ p ∈ l, p.k.length ≤ 60 ∧ p.v.length ≤ 200
  ord : ∀ i j (hi : i < l.length) (hj : j < l.length), i < j → Lib.compareBytes l[i].k l[j].k < 0
theorem bigP_no {p : PairD} (h : bigP p = false) : p.k.length ≤ 60 ∧ p.v.length ≤ 200 := by
  simp [bigP] at h; omega
theorem wrongGo_ok (l : List PairD) : ∀ (d i : Nat), l.length - i = d → (wrongGo l i).1 = 0 → ∀ a (ha : a < l.length), i ≤ a → bigP l[a] = false ∧ (∀ h : 0 < a, Lib.compareBytes (l[a - 1]'(by omega)).k l[a].k < 0) := by
  intro d
  induction d with
  | zero => intro i hd _ a ha hia; omega
  | succ d ih =>
    intro i hd hw a ha hia
    rw [wrongGo, dif_pos (by omega)] at hw
    split at hw
    · cases hw
    · rename_i hb
      split at hw
      · cases hw
      · rename_i hc
        by_cases hai : a = i
        · subst hai
          refine ⟨by simpa using hb, fun h => ?_⟩
          have : ¬ 0 ≤ Lib.compareBytes (l[a - 1]'(by omega)).k l[a].k := fun h' => hc ⟨h, h'⟩
          omega
        · exact ih (i + 1) (by omega) hw a ha (by omega)
theorem right_of {l : List PairD} (h : (wrongF l).1 = 0) : Right l := by
  unfold wrongF at h
  split at h
  · cases h
  · rename_i hl
    have hw := wrongGo_ok l _ 0 rfl h
    refine ⟨by omega, fun p hp => ?_, ?_⟩
    · obtain ⟨a, ha, rfl⟩ := List.getElem_of_mem hp
      exact bigP_no (hw a ha (Nat.zero_le _)).1
    · intro i j
      induction j with
      | zero => intro _ _ h; omega
      | succ j ih =>
        intro hi hj hij
        have h1 := (hw (j + 1) hj (Nat.zero_le _)).2 (by omega)
        simp only [Nat.add_sub_cancel] at h1
        by_cases hc : i = j
        · subst hc; exact h1
        · exact cmp_trans _ _ _ (ih hi (by omega) (by omega)) h1
theorem wrongGo_right {l : List PairD} (h : Right l) : ∀ (d i : Nat), l.length - i = d → wrongGo l i = (0, 0) := by
  intro d
  induction d with
  | zero => intro i hd; rw [wrongGo, dif_neg (by omega)]
  | succ d ih =>
    intro i hd
    have hi : i < l.length := by omega
    rw [wrongGo, dif_pos hi]
    have hb := h.big _ (List.getElem_mem hi)
    rw [if_neg (by simp [bigP]; omega), if_neg, ih (i + 1) (by omega)]
    rintro ⟨h1, h2⟩
    have := h.ord (i - 1) i (by omega) hi (by omega)
    omega
theorem wrong_right {l : List PairD} (h : Right l) : wrongF l = (0, 0) := by
  rw [wrongF, if_neg (by have := h.len; omega)]; exact wrongGo_right h _ 0 rfl
theorem wrong_zero {l : List PairD} (h : (wrongF l).1 = 0) : wrongF l = (0, 0) := wrong_right (right_of h)

/-- Where a key stands, or would. -/
def placeF (l : List PairD) (key : List UInt8) : Nat := (l.takeWhile fun p => decide (Lib.compareBytes p.k key < 0)).length
def thereF (l : List PairD) (key : List UInt8) : Bool := if h : placeF l key < l.length then decide (l[placeF l key].k = key) else false
theorem placeF_le (l : List PairD) (key : List UInt8) : placeF l key ≤ l.length := (List.takeWhile_sublist _).length_le
theorem placeF_lo (key : List UInt8) : ∀ (l : List PairD) (a : Nat) (ha : a < l.length), a < placeF l key → Lib.compareBytes l[a].k key < 0
  | [], a, ha, _ => by simp at ha
  | p :: t, a, ha, h => by
    unfold placeF at h
    rw [List.takeWhile_cons] at h
    split at h
    · rename_i hp
      cases a with
      | zero => simpa using hp
      | succ a => exact placeF_lo key t a (by simpa using ha) (by simpa [placeF] using h)
    · simp at h
theorem placeF_at (key : List UInt8) : ∀ (l : List PairD) (h : placeF l key < l.length), ¬ Lib.compareBytes l[placeF l key].k key < 0
  | [], h => by simp at h
  | p :: t, h => by
    unfold placeF at h
    simp only [placeF]
    by_cases hp : decide (Lib.compareBytes p.k key < 0) = true
    · have e : (List.takeWhile (fun p => decide (Lib.compareBytes p.k key < 0)) (p :: t)).length = placeF t key + 1 := by
        rw [List.takeWhile_cons, if_pos hp]; rfl
      simp only [e] at h ⊢
      have := placeF_at key t (by simpa using h)
      simpa using this
    · have e : (List.takeWhile (fun p => decide (Lib.compareBytes p.k key < 0)) (p :: t)).length = 0 := by
        rw [List.takeWhile_cons, if_neg hp]; rfl
      simp only [e]
      simpa using hp
theorem placeF_iff {l : List PairD} (h : Right l) (key : List UInt8) : ∀ a (ha : a < l.length), Lib.compareBytes l[a].k key < 0 ↔ a < placeF l key := by
  intro a ha
  refine ⟨fun h1 => ?_, placeF_lo key l a ha⟩
  apply Decidable.byContradiction
  intro hc
  have hp : placeF l key < l.length := by omega
  have h2 := placeF_at key l hp
  by_cases he : a = placeF l key
  · subst he; exact h2 h1
  · exact h2 (cmp_trans _ _ _ (h.ord _ a hp ha (by omega)) h1)
end Go.Proofs.YtmclpbcipkdmcaaDoor
/- book.Find, Root: by value. -/
set_option linter.all false
namespace Go.Proofs.YtmclpbcipkdmcaaDoor
open Go Go.Abs Go.RowKit Go.Proofs.YtmclpbcipkdmcaaDoor.Ty

set_option maxHeartbeats 2000000
def rootR (l : List PairD) : List UInt8 := if (wrongF l).1 = 0 then rootF l else []
end Go.Proofs.YtmclpbcipkdmcaaDoor
/- proof.path, at: by value. -/
set_option linter.all false
namespace Go.Proofs.YtmclpbcipkdmcaaDoor
open Go Go.Abs Go.RowKit Go.Proofs.YtmclpbcipkdmcaaDoor.Ty

structure ProofD where
  i : Int
  n : Int
  k : List UInt8
  v : List UInt8
  path : List (List UInt8)
def proofD (p : ProofD) : D := .agg [intD p.i, intD p.n, .i (bI p.k), .i (bI p.v), .i (bbI p.path)]
def pathF (l : List PairD) (i : Nat) : List (List UInt8) :=
  if h : l.length ≤ 1 then []
  else if i < splitF l.length then pathF (l.take (splitF l.length)) i ++ [treeF (l.drop (splitF l.length))]
  else pathF (l.drop (splitF l.length)) (i - splitF l.length) ++ [treeF (l.take (splitF l.length))]
termination_by l.length
decreasing_by
  all_goals
    have := splitF_lt (n := l.length) (by omega)
    simp only [List.length_take, List.length_drop]
    omega
theorem pathF_one {l : List PairD} (i : Nat) (h : l.length ≤ 1) : pathF l i = [] := by rw [pathF, dif_pos h]
theorem pathF_lo {l : List PairD} {i : Nat} (h : 2 ≤ l.length) (hi : i < splitF l.length) : pathF l i = pathF (l.take (splitF l.length)) i ++ [treeF (l.drop (splitF l.length))] := by
  rw [pathF, dif_neg (by omega), if_pos hi]
theorem pathF_hi {l : List PairD} {i : Nat} (h : 2 ≤ l.length) (hi : ¬ i < splitF l.length) : pathF l i = pathF (l.drop (splitF l.length)) (i - splitF l.length) ++ [treeF (l.take (splitF l.length))] := by
  rw [pathF, dif_neg (by omega), if_neg hi]
theorem pathF_len : ∀ (n : Nat) (l : List PairD) (i : Nat), l.length = n → (pathF l i).length ≤ n := by
  intro n
  induction n using Nat.strongRecOn with
  | _ n ih =>
    intro l i hn
    by_cases h : l.length ≤ 1
    · rw [pathF_one i h]; simp
    · have hs := splitF_lt (n := l.length) (by omega)
      by_cases hi : i < splitF l.length
      · rw [pathF_lo (by omega) hi]
        have := ih (l.take (splitF l.length)).length (by simp; omega) _ i rfl
        simp at this ⊢; omega
      · rw [pathF_hi (by omega) hi]
        have := ih (l.drop (splitF l.length)).length (by simp; omega) _ (i - splitF l.length) rfl
        simp at this ⊢; omega

def bbE (b : List UInt8) : List I := [bI b]
set_option maxHeartbeats 2000000
end Go.Proofs.YtmclpbcipkdmcaaDoor
/- proof.at, Show: by value. -/
set_option linter.all false
namespace Go.Proofs.YtmclpbcipkdmcaaDoor
open Go Go.Abs Go.RowKit Go.Proofs.YtmclpbcipkdmcaaDoor.Ty

theorem fin_ct {P : Program} {fn : Func} {sl : Nat → D} {H : Nat → Ob} {t : TypeId} {p i : Tmp} {k : Nat} {cs : List D} {r : D} (F : List Nat) (h : fn.results = #[.cell p t, .tmp i]) (ha : aggOf P t = some true) (hs : szOf P t = some k) (hr : readAt H (sl p) k = some cs) (hv : cv H F (fun _ => none) (.tup [.agg cs, sl i]) r) : Fin P fn noH r noH .ret ⟨sl, H⟩ :=
  ⟨_, by simp [resA, h, resOne, ha, hs, hr], ler_pure F hv⟩
def atF (l : List PairD) (i : Nat) (h : i < l.length) : ProofD := ⟨i, l.length, l[i].k, l[i].v, pathF l i⟩
set_option maxHeartbeats 2000000
def zeroP : ProofD := ⟨0, 0, [], [], []⟩
def showF (l : List PairD) (key : List UInt8) : ProofD × Nat :=
  if (wrongF l).1 = 0 then (if h : placeF l key < l.length then (if l[placeF l key].k = key then (atF l (placeF l key) h, 0) else (zeroP, 6)) else (zeroP, 6)) else (zeroP, (wrongF l).1)
end Go.Proofs.YtmclpbcipkdmcaaDoor
/- proof.form, tree, Shown: by value. -/
set_option linter.all false
namespace Go.Proofs.YtmclpbcipkdmcaaDoor
open Go Go.Abs Go.RowKit Go.Proofs.YtmclpbcipkdmcaaDoor.Ty
theorem tyProofC0 : (type_of% @Ty.T3) ∧ (type_of% @Ty.T5) ∧ (type_of% @Ty.T29) ∧ (type_of% @Ty.T30) ∧ (type_of% @Ty.T32) := ⟨@Ty.T3, @Ty.T5, @Ty.T29, @Ty.T30, @Ty.T32⟩

def formI (p : ProofD) : List I := [.s (.int .i64 p.i), .s (.int .i64 p.n), bI p.k, bI p.v, bbI p.path]
def formG (p : ProofD) : Bool := decide (p.n < 1) || decide (200 < p.n) || decide (p.i < 0) || decide (p.n ≤ p.i) || decide (60 < p.k.length) || decide (200 < p.v.length) || decide (40 < p.path.length)
def formF (p : ProofD) : Bool := !formG p && p.path.all fun d => decide (d.length = 32)
theorem formF_no {p : ProofD} (h : formG p = true) : formF p = false := by simp [formF, h]
theorem all_drop {l : List (List UInt8)} {i : Nat} (h : i < l.length) : (l.drop i).all (fun d => decide (d.length = 32)) = (decide (l[i].length = 32) && (l.drop (i + 1)).all fun d => decide (d.length = 32)) := by
  rw [List.drop_eq_getElem_cons h]; rfl
set_option maxHeartbeats 4000000
theorem form_A (p : ProofD) : PureD Tryd.prog 135 [.rp (formI p) 0] (boolD (formF p)) := by
  have hN := formF_no (p := p)
  unfold formG at hN
  obtain ⟨i, n, k, v, q⟩ := p
  have hl : (q.map fun b => [bI b]).length = q.length := by simp
  have e0 : ∀ j (h : j < q.length), (q.map fun b => [bI b])[j]? = some [bI q[j]] := fun j h => by rw [List.getElem?_map, List.getElem?_eq_getElem h]; rfl
  cases g1 : decide (n < 1)
  case true =>
    rw [hN (by simp [g1])]
    refine callD_W 72 Tryd.func135 rfl rfl rfl (fun _ _ => rfl) ?_
    (repeat (first | (simp -implicitDefEqProofs only [ev, mixed, Nat.reduceLT, Nat.reduceAdd, Nat.reduceMul, reduceIte, Nat.reduceEqDiff, reduceCtorEq, Nat.reducePow, Nat.reduceLeDiff, Int.reduceLE, Int.reduceLT, Int.reduceToNat, Int.reduceEq, Nat.reduceBEq, itsOf, gdA, byteI, opid, lenQ, ixQ, ldH, readAt, readCells, asCell, faQ, exQ, fldQ, partA, buildQ, slQ, stH, bslH, appH, dcells, convI, elemsOf, D.one, nilS, fillD, convN, cvH, tyProofC0, formI, g1]) | (with_reducible refine ⟨?_, ?_⟩; (· first | (obtain ⟨rfl⟩ := ‹Hq _ _›; with_reducible refine chk_ok ?_; kernel_rfl) | kernel_rfl)) | (with_reducible intro ops hops)))
    refine fin_ret [] rfl ?_
    simp [cv, cv1, cv0, upd, boolD]
  cases g2 : decide ((200 : Int) < n)
  case true =>
    rw [hN (by simp [g2])]
    refine callD_W 72 Tryd.func135 rfl rfl rfl (fun _ _ => rfl) ?_
    (repeat (first | (simp -implicitDefEqProofs only [ev, mixed, Nat.reduceLT, Nat.reduceAdd, Nat.reduceMul, reduceIte, Nat.reduceEqDiff, reduceCtorEq, Nat.reducePow, Nat.reduceLeDiff, Int.reduceLE, Int.reduceLT, Int.reduceToNat, Int.reduceEq, Nat.reduceBEq, itsOf, gdA, byteI, opid, lenQ, ixQ, ldH, readAt, readCells, asCell, faQ, exQ, fldQ, partA, buildQ, slQ, stH, bslH, appH, dcells, convI, elemsOf, D.one, nilS, fillD, convN, cvH, tyProofC0, formI, g1, g2]) | (with_reducible refine ⟨?_, ?_⟩; (· first | (obtain ⟨rfl⟩ := ‹Hq _ _›; with_reducible refine chk_ok ?_; kernel_rfl) | kernel_rfl)) | (with_reducible intro ops hops)))
    refine fin_ret [] rfl ?_
    simp [cv, cv1, cv0, upd, boolD]
  cases g3 : decide (i < 0)
  case true =>
    rw [hN (by simp [g3])]
    refine callD_W 72 Tryd.func135 rfl rfl rfl (fun _ _ => rfl) ?_
    (repeat (first | (simp -implicitDefEqProofs only [ev, mixed, Nat.reduceLT, Nat.reduceAdd, Nat.reduceMul, reduceIte, Nat.reduceEqDiff, reduceCtorEq, Nat.reducePow, Nat.reduceLeDiff, Int.reduceLE, Int.reduceLT, Int.reduceToNat, Int.reduceEq, Nat.reduceBEq, itsOf, gdA, byteI, opid, lenQ, ixQ, ldH, readAt, readCells, asCell, faQ, exQ, fldQ, partA, buildQ, slQ, stH, bslH, appH, dcells, convI, elemsOf, D.one, nilS, fillD, convN, cvH, tyProofC0, formI, g1, g2, g3]) | (with_reducible refine ⟨?_, ?_⟩; (· first | (obtain ⟨rfl⟩ := ‹Hq _ _›; with_reducible refine chk_ok ?_; kernel_rfl) | kernel_rfl)) | (with_reducible intro ops hops)))
    refine fin_ret [] rfl ?_
    simp [cv, cv1, cv0, upd, boolD]
  cases g4 : decide (n ≤ i)
  case true =>
    rw [hN (by simp [g4])]
    refine callD_W 72 Tryd.func135 rfl rfl rfl (fun _ _ => rfl) ?_
    (repeat (first | (simp -implicitDefEqProofs only [ev, mixed, Nat.reduceLT, Nat.reduceAdd, Nat.reduceMul, reduceIte, Nat.reduceEqDiff, reduceCtorEq, Nat.reducePow, Nat.reduceLeDiff, Int.reduceLE, Int.reduceLT, Int.reduceToNat, Int.reduceEq, Nat.reduceBEq, itsOf, gdA, byteI, opid, lenQ, ixQ, ldH, readAt, readCells, asCell, faQ, exQ, fldQ, partA, buildQ, slQ, stH, bslH, appH, dcells, convI, elemsOf, D.one, nilS, fillD, convN, cvH, tyProofC0, formI, g1, g2, g3, g4]) | (with_reducible refine ⟨?_, ?_⟩; (· first | (obtain ⟨rfl⟩ := ‹Hq _ _›; with_reducible refine chk_ok ?_; kernel_rfl) | kernel_rfl)) | (with_reducible intro ops hops)))
    refine fin_ret [] rfl ?_
    simp [cv, cv1, cv0, upd, boolD]
  cases g5 : decide ((60 : Int) < (k.length : Int))
  case true =>
    rw [hN (by simp at g5; simp; omega)]
    refine callD_W 72 Tryd.func135 rfl rfl rfl (fun _ _ => rfl) ?_
    (repeat (first | (simp -implicitDefEqProofs only [ev, mixed, Nat.reduceLT, Nat.reduceAdd, Nat.reduceMul, reduceIte, Nat.reduceEqDiff, reduceCtorEq, Nat.reducePow, Nat.reduceLeDiff, Int.reduceLE, Int.reduceLT, Int.reduceToNat, Int.reduceEq, Nat.reduceBEq, itsOf, gdA, byteI, opid, lenQ, ixQ, ldH, readAt, readCells, asCell, faQ, exQ, fldQ, partA, buildQ, slQ, stH, bslH, appH, dcells, convI, elemsOf, D.one, nilS, fillD, convN, cvH, tyProofC0, formI, g1, g2, g3, g4, g5, bI]) | (with_reducible refine ⟨?_, ?_⟩; (· first | (obtain ⟨rfl⟩ := ‹Hq _ _›; with_reducible refine chk_ok ?_; kernel_rfl) | kernel_rfl)) | (with_reducible intro ops hops)))
    refine fin_ret [] rfl ?_
    simp [cv, cv1, cv0, upd, boolD]
  cases g6 : decide ((200 : Int) < (v.length : Int))
  case true =>
    rw [hN (by simp at g6; simp; omega)]
    refine callD_W 72 Tryd.func135 rfl rfl rfl (fun _ _ => rfl) ?_
    (repeat (first | (simp -implicitDefEqProofs only [ev, mixed, Nat.reduceLT, Nat.reduceAdd, Nat.reduceMul, reduceIte, Nat.reduceEqDiff, reduceCtorEq, Nat.reducePow, Nat.reduceLeDiff, Int.reduceLE, Int.reduceLT, Int.reduceToNat, Int.reduceEq, Nat.reduceBEq, itsOf, gdA, byteI, opid, lenQ, ixQ, ldH, readAt, readCells, asCell, faQ, exQ, fldQ, partA, buildQ, slQ, stH, bslH, appH, dcells, convI, elemsOf, D.one, nilS, fillD, convN, cvH, tyProofC0, formI, g1, g2, g3, g4, g5, g6, bI]) | (with_reducible refine ⟨?_, ?_⟩; (· first | (obtain ⟨rfl⟩ := ‹Hq _ _›; with_reducible refine chk_ok ?_; kernel_rfl) | kernel_rfl)) | (with_reducible intro ops hops)))
    refine fin_ret [] rfl ?_
    simp [cv, cv1, cv0, upd, boolD]
  cases g7 : decide ((40 : Int) < (q.length : Int))
  case true =>
    rw [hN (by simp at g7; simp; omega)]
    refine callD_W 72 Tryd.func135 rfl rfl rfl (fun _ _ => rfl) ?_
    (repeat (first | (simp -implicitDefEqProofs only [ev, mixed, Nat.reduceLT, Nat.reduceAdd, Nat.reduceMul, reduceIte, Nat.reduceEqDiff, reduceCtorEq, Nat.reducePow, Nat.reduceLeDiff, Int.reduceLE, Int.reduceLT, Int.reduceToNat, Int.reduceEq, Nat.reduceBEq, itsOf, gdA, byteI, opid, lenQ, ixQ, ldH, readAt, readCells, asCell, faQ, exQ, fldQ, partA, buildQ, slQ, stH, bslH, appH, dcells, convI, elemsOf, D.one, nilS, fillD, convN, cvH, tyProofC0, formI, g1, g2, g3, g4, g5, g6, g7, bI, bbI, hl]) | (with_reducible refine ⟨?_, ?_⟩; (· first | (obtain ⟨rfl⟩ := ‹Hq _ _›; with_reducible refine chk_ok ?_; kernel_rfl) | kernel_rfl)) | (with_reducible intro ops hops)))
    refine fin_ret [] rfl ?_
    simp [cv, cv1, cv0, upd, boolD]
  have hF : formF ⟨i, n, k, v, q⟩ = (q.drop 0).all fun d => decide (d.length = 32) := by
    have b5 : decide (60 < k.length) = false := by simp at g5 ⊢; omega
    have b6 : decide (200 < v.length) = false := by simp at g6 ⊢; omega
    have b7 : decide (40 < q.length) = false := by simp at g7 ⊢; omega
    simp [formF, formG, g1, g2, g3, g4, b5, b6, b7]
  have hq : q.length ≤ 40 := by simp at g7; omega
  generalize formF ⟨i, n, k, v, q⟩ = R at hF
  clear hN
  refine callD_W 72 Tryd.func135 rfl rfl rfl (fun _ _ => rfl) ?_
  (repeat (first | (simp -implicitDefEqProofs only [ev, mixed, Nat.reduceLT, Nat.reduceAdd, Nat.reduceMul, reduceIte, Nat.reduceEqDiff, reduceCtorEq, Nat.reducePow, Nat.reduceLeDiff, Int.reduceLE, Int.reduceLT, Int.reduceToNat, Int.reduceEq, Nat.reduceBEq, itsOf, gdA, byteI, opid, lenQ, ixQ, ldH, readAt, readCells, asCell, faQ, exQ, fldQ, partA, buildQ, slQ, stH, bslH, appH, dcells, convI, elemsOf, D.one, nilS, fillD, convN, cvH, tyProofC0, formI, g1, g2, g3, g4, g5, g6, g7, bI, bbI, hl]) | (with_reducible refine ⟨?_, ?_⟩; (· first | (obtain ⟨rfl⟩ := ‹Hq _ _›; with_reducible refine chk_ok ?_; kernel_rfl) | kernel_rfl)) | (with_reducible intro ops hops)))
  refine W_loopI (ι := Nat) (fun j => j ≤ q.length ∧ R = (q.drop j).all fun d => decide (d.length = 32))
    (fun j => stOf [(62, .i (bbI q)), (63, intD q.length), (64, intD j)] []) (fun j => q.length - j) 0 ⟨Nat.zero_le _, hF⟩ ?_ ?_
  · refine le_stOf _ _ [] [] ?_ ?_ rfl rfl
    · simp [cv, cvL, cv1, cv0, upd, lk, srcOf, intD, bbI, bI]
    · simp
  · rintro j ⟨hj, hR⟩
    rw [stOf_eq]
    (repeat (first | (simp -implicitDefEqProofs only [ev, mixed, Nat.reduceLT, Nat.reduceAdd, Nat.reduceMul, reduceIte, Nat.reduceEqDiff, reduceCtorEq, Nat.reducePow, Nat.reduceLeDiff, Int.reduceLE, Int.reduceLT, Int.reduceToNat, Int.reduceEq, Nat.reduceBEq, itsOf, gdA, byteI, opid, lenQ, ixQ, ldH, readAt, readCells, asCell, faQ, exQ, fldQ, partA, buildQ, slQ, stH, bslH, appH, dcells, convI, elemsOf, D.one, nilS, fillD, convN, cvH, tyProofC0, intD]) | (with_reducible refine ⟨?_, ?_⟩; (· first | (obtain ⟨rfl⟩ := ‹Hq _ _›; with_reducible refine chk_ok ?_; kernel_rfl) | kernel_rfl)) | (with_reducible intro ops hops)))
    refine Wc_split (fun h => ?_) (fun h => ?_)
    · have h2 : j < q.length := by simp at h; omega
      clear h
      have e1 := e0 j h2
      simp only [bI] at e1
      rw [all_drop h2] at hR
      have w1 : IntKind.i64.wrap ((j : Int) + 1) = ((j + 1 : Nat) : Int) := by rw [wrap64 (by omega) (by omega)]; omega
      generalize q[j] = d at *
      (repeat (first | (simp -implicitDefEqProofs only [ev, mixed, Nat.reduceLT, Nat.reduceAdd, Nat.reduceMul, reduceIte, Nat.reduceEqDiff, reduceCtorEq, Nat.reducePow, Nat.reduceLeDiff, Int.reduceLE, Int.reduceLT, Int.reduceToNat, Int.reduceEq, Nat.reduceBEq, itsOf, gdA, byteI, opid, lenQ, ixQ, ldH, readAt, readCells, asCell, faQ, exQ, fldQ, partA, buildQ, slQ, stH, bslH, appH, dcells, convI, elemsOf, D.one, nilS, fillD, convN, cvH, tyProofC0, bbI, e1, bI]) | (with_reducible refine ⟨?_, ?_⟩; (· first | (obtain ⟨rfl⟩ := ‹Hq _ _›; with_reducible refine chk_ok ?_; kernel_rfl) | kernel_rfl)) | (with_reducible intro ops hops)))
      refine Wc_split (fun h => ?_) (fun h => ?_)
      · have h3 : d.length ≠ 32 := by simp at h; omega
        simp only [h3, decide_false, Bool.false_and] at hR
        (repeat (first | (simp -implicitDefEqProofs only [ev, mixed, Nat.reduceLT, Nat.reduceAdd, Nat.reduceMul, reduceIte, Nat.reduceEqDiff, reduceCtorEq, Nat.reducePow, Nat.reduceLeDiff, Int.reduceLE, Int.reduceLT, Int.reduceToNat, Int.reduceEq, Nat.reduceBEq, itsOf, gdA, byteI, opid, lenQ, ixQ, ldH, readAt, readCells, asCell, faQ, exQ, fldQ, partA, buildQ, slQ, stH, bslH, appH, dcells, convI, elemsOf, D.one, nilS, fillD, convN, cvH, tyProofC0]) | (with_reducible refine ⟨?_, ?_⟩; (· first | (obtain ⟨rfl⟩ := ‹Hq _ _›; with_reducible refine chk_ok ?_; kernel_rfl) | kernel_rfl)) | (with_reducible intro ops hops)))
        refine fin_ret [] rfl ?_
        simp [cv, cv1, cv0, upd, hR, boolD]
      · have h3 : d.length = 32 := by simp at h; omega
        simp only [h3, decide_true, Bool.true_and] at hR
        (repeat (first | (simp -implicitDefEqProofs only [ev, mixed, Nat.reduceLT, Nat.reduceAdd, Nat.reduceMul, reduceIte, Nat.reduceEqDiff, reduceCtorEq, Nat.reducePow, Nat.reduceLeDiff, Int.reduceLE, Int.reduceLT, Int.reduceToNat, Int.reduceEq, Nat.reduceBEq, itsOf, gdA, byteI, opid, lenQ, ixQ, ldH, readAt, readCells, asCell, faQ, exQ, fldQ, partA, buildQ, slQ, stH, bslH, appH, dcells, convI, elemsOf, D.one, nilS, fillD, convN, cvH, tyProofC0, w1]) | (with_reducible refine ⟨?_, ?_⟩; (· first | (obtain ⟨rfl⟩ := ‹Hq _ _›; with_reducible refine chk_ok ?_; kernel_rfl) | kernel_rfl)) | (with_reducible intro ops hops)))
        refine ⟨j + 1, ⟨h2, hR⟩, le_stOf _ _ [] [] ?_ ?_ rfl rfl, by simp; omega⟩
        · simp [cv, cvL, cv1, cv0, upd, lk, srcOf, intD, bbI, bI]
        · simp
    · have h2 : ¬ j < q.length := by simp at h; omega
      clear h
      rw [List.drop_eq_nil_of_le (by omega)] at hR
      (repeat (first | (simp -implicitDefEqProofs only [ev, mixed, Nat.reduceLT, Nat.reduceAdd, Nat.reduceMul, reduceIte, Nat.reduceEqDiff, reduceCtorEq, Nat.reducePow, Nat.reduceLeDiff, Int.reduceLE, Int.reduceLT, Int.reduceToNat, Int.reduceEq, Nat.reduceBEq, itsOf, gdA, byteI, opid, lenQ, ixQ, ldH, readAt, readCells, asCell, faQ, exQ, fldQ, partA, buildQ, slQ, stH, bslH, appH, dcells, convI, elemsOf, D.one, nilS, fillD, convN, cvH, tyProofC0]) | (with_reducible refine ⟨?_, ?_⟩; (· first | (obtain ⟨rfl⟩ := ‹Hq _ _›; with_reducible refine chk_ok ?_; kernel_rfl) | kernel_rfl)) | (with_reducible intro ops hops)))
      refine fin_ret [] rfl ?_
      simp [cv, cv1, cv0, upd, hR, boolD]
end Go.Proofs.YtmclpbcipkdmcaaDoor
/- proof.tree, Shown: by value. -/
set_option linter.all false
namespace Go.Proofs.YtmclpbcipkdmcaaDoor
open Go Go.Abs Go.RowKit Go.Proofs.YtmclpbcipkdmcaaDoor.Ty
theorem tyProofT0 : (type_of% @Ty.T3) ∧ (type_of% @Ty.T5) ∧ (type_of% @Ty.T29) ∧ (type_of% @Ty.T30) := ⟨@Ty.T3, @Ty.T5, @Ty.T29, @Ty.T30⟩
theorem tyProofT1 : (type_of% @Ty.T3) ∧ (type_of% @Ty.T4) ∧ (type_of% @Ty.T5) ∧ (type_of% @Ty.T29) ∧ (type_of% @Ty.T30) ∧ (type_of% @Ty.T32) ∧ (type_of% @Ty.T194) := ⟨@Ty.T3, @Ty.T4, @Ty.T5, @Ty.T29, @Ty.T30, @Ty.T32, @Ty.T194⟩

def foldR (leaf : List UInt8) : Nat → Nat → List (List UInt8) → List UInt8 × Bool
  | _, n, [] => if n = 1 then (leaf, true) else ([], false)
  | i, n, d :: r => if n = 1 then (leaf, false) else if i < splitF n then (nodeF (foldR leaf i (splitF n) r).1 d, (foldR leaf i (splitF n) r).2)
      else (nodeF d (foldR leaf (i - splitF n) (n - splitF n) r).1, (foldR leaf (i - splitF n) (n - splitF n) r).2)
theorem foldR_len (leaf : List UInt8) (h : leaf.length ≤ 32) : ∀ (r : List (List UInt8)) (i n : Nat), (foldR leaf i n r).1.length ≤ 32 := by
  intro r
  induction r with
  | nil => intro i n; simp only [foldR]; split <;> simp [h]
  | cons d r ih =>
    intro i n; simp only [foldR]; split
    · exact h
    · split <;> simp only [nodeF] <;> exact Nat.le_of_eq (sha_length _)
set_option maxHeartbeats 4000000
theorem ptree_A (leaf : List UInt8) (hlf : leaf.length ≤ 32) : ∀ (r : List (List UInt8)) (i n : Nat), (∀ d ∈ r, d.length = 32) → r.length ≤ 1048576 → i ≤ 1048576 → 1 ≤ n → n ≤ 1048576 →
    PureD Tryd.prog 136 [.i (bI leaf), intD i, intD n, .i (bbI r.reverse)] (.tup [.i (bI (foldR leaf i n r).1), boolD (foldR leaf i n r).2]) := by
  intro r
  induction r with
  | nil =>
    intro i n _ _ _ h1 h2
    by_cases hn : n = 1
    · subst hn
      simp only [foldR, if_true]
      refine callD_W 71 Tryd.func136 rfl rfl rfl (fun _ _ => rfl) ?_
      (repeat (first | (simp -implicitDefEqProofs only [ev, mixed, Nat.reduceLT, Nat.reduceAdd, Nat.reduceMul, reduceIte, Nat.reduceEqDiff, reduceCtorEq, Nat.reducePow, Nat.reduceLeDiff, Int.reduceLE, Int.reduceLT, Int.reduceToNat, Int.reduceEq, Nat.reduceBEq, itsOf, gdA, byteI, opid, lenQ, ixQ, ldH, readAt, readCells, asCell, faQ, exQ, fldQ, partA, buildQ, slQ, stH, bslH, appH, dcells, convI, elemsOf, D.one, nilS, fillD, convN, cvH, tyProofT0, intD, bI, bbI, List.reverse_nil, List.map_nil]) | (with_reducible refine ⟨?_, ?_⟩; (· first | (obtain ⟨rfl⟩ := ‹Hq _ _›; with_reducible refine chk_ok ?_; kernel_rfl) | kernel_rfl)) | (with_reducible intro ops hops)))
      refine fin_tt [] rfl ?_
      simp [cv, cvT, cv1, cv0, upd, intD, boolD, bI]
    · simp only [foldR, hn, if_false]
      have g1 : decide ((n : Int) = 1) = false := by simp; omega
      refine callD_W 71 Tryd.func136 rfl rfl rfl (fun _ _ => rfl) ?_
      (repeat (first | (simp -implicitDefEqProofs only [ev, mixed, Nat.reduceLT, Nat.reduceAdd, Nat.reduceMul, reduceIte, Nat.reduceEqDiff, reduceCtorEq, Nat.reducePow, Nat.reduceLeDiff, Int.reduceLE, Int.reduceLT, Int.reduceToNat, Int.reduceEq, Nat.reduceBEq, itsOf, gdA, byteI, opid, lenQ, ixQ, ldH, readAt, readCells, asCell, faQ, exQ, fldQ, partA, buildQ, slQ, stH, bslH, appH, dcells, convI, elemsOf, D.one, nilS, fillD, convN, cvH, tyProofT0, intD, bI, bbI, List.reverse_nil, List.map_nil, g1]) | (with_reducible refine ⟨?_, ?_⟩; (· first | (obtain ⟨rfl⟩ := ‹Hq _ _›; with_reducible refine chk_ok ?_; kernel_rfl) | kernel_rfl)) | (with_reducible intro ops hops)))
      refine fin_tt [] rfl ?_
      simp [cv, cvT, cv1, cv0, upd, intD, boolD, bI]
  | cons d r ih =>
    intro i n hd hr hi h1 h2
    have hd0 : d.length = 32 := hd d (by simp)
    simp only [List.length_cons] at hr
    have L1 : ((d :: r).reverse.map fun b => [bI b]).length = r.length + 1 := by simp
    have L2 : ((d :: r).reverse.map fun b => [bI b])[r.length]? = some [bI d] := by simp
    have L3 : ((d :: r).reverse.map fun b => [bI b]).take r.length = r.reverse.map fun b => [bI b] := by simp
    have L4 : uni 1 ((d :: r).reverse.map fun b => [bI b]) = true := by simp [uni]
    have hq : bbI (d :: r).reverse = .sl ((d :: r).reverse.map fun b => [bI b]) := rfl
    rw [hq]
    generalize ((d :: r).reverse.map fun b => [bI b]) = L at *
    clear hq
    by_cases hn : n = 1
    · subst hn
      simp only [foldR, if_true]
      have g1 : decide (((r.length + 1 : Nat) : Int) = 0) = false := by simp; omega
      refine callD_W 71 Tryd.func136 rfl rfl rfl (fun _ _ => rfl) ?_
      (repeat (first | (simp -implicitDefEqProofs only [ev, mixed, Nat.reduceLT, Nat.reduceAdd, Nat.reduceMul, reduceIte, Nat.reduceEqDiff, reduceCtorEq, Nat.reducePow, Nat.reduceLeDiff, Int.reduceLE, Int.reduceLT, Int.reduceToNat, Int.reduceEq, Nat.reduceBEq, itsOf, gdA, byteI, opid, lenQ, ixQ, ldH, readAt, readCells, asCell, faQ, exQ, fldQ, partA, buildQ, slQ, stH, bslH, appH, dcells, convI, elemsOf, D.one, nilS, fillD, convN, cvH, tyProofT0, intD, L1, g1]) | (with_reducible refine ⟨?_, ?_⟩; (· first | (obtain ⟨rfl⟩ := ‹Hq _ _›; with_reducible refine chk_ok ?_; kernel_rfl) | kernel_rfl)) | (with_reducible intro ops hops)))
      refine fin_tt [] rfl ?_
      simp [cv, cvT, cv1, cv0, upd, intD, boolD, bI]
    · have hs := splitF_lt (n := n) (by omega)
      have hsp := split_A n h1 h2
      have i1 := ih i (splitF n) (fun d hd' => hd d (by simp [hd'])) (by omega) hi (by omega) (by omega)
      have i2 := ih (i - splitF n) (n - splitF n) (fun d hd' => hd d (by simp [hd'])) (by omega) (by omega) (by omega) (by omega)
      have n1 := foldR_len leaf hlf r i (splitF n)
      have n2 := foldR_len leaf hlf r (i - splitF n) (n - splitF n)
      have g1 : decide ((n : Int) = 1) = false := by simp; omega
      have g2 : decide (((r.length + 1 : Nat) : Int) = 0) = false := by simp; omega
      have g4 : ((r.length : Int) ≤ ((r.length + 1 : Nat) : Int)) = True := eq_true (by omega)
      have w1 : IntKind.i64.wrap (((r.length + 1 : Nat) : Int) - 1) = (r.length : Int) := by rw [wrap64 (by omega) (by omega)]; omega
      have hc1 : i < splitF n → foldR leaf i n (d :: r) = (nodeF (foldR leaf i (splitF n) r).1 d, (foldR leaf i (splitF n) r).2) := fun h => by simp only [foldR, if_neg hn, if_pos h]
      have hc2 : ¬ i < splitF n → foldR leaf i n (d :: r) = (nodeF d (foldR leaf (i - splitF n) (n - splitF n) r).1, (foldR leaf (i - splitF n) (n - splitF n) r).2) := fun h => by simp only [foldR, if_neg hn, if_neg h]
      clear hd
      generalize splitF n = k at *
      simp only [bbI] at i1 i2
      rw [← L3] at i1 i2
      by_cases hc : i < k
      · have g3 : decide ((i : Int) < (k : Int)) = true := by simp; omega
        rw [hc1 hc]
        clear i2 hc1 hc2
        generalize foldR leaf i k r = T at *
        have hnd := node_A T.1 d (by omega) (by omega)
        generalize nodeF T.1 d = R at *
        refine callD_W 71 Tryd.func136 rfl rfl rfl (fun _ _ => rfl) ?_
        (repeat (first | (simp -implicitDefEqProofs only [ev, mixed, Nat.reduceLT, Nat.reduceAdd, Nat.reduceMul, reduceIte, Nat.reduceEqDiff, reduceCtorEq, Nat.reducePow, Nat.reduceLeDiff, Int.reduceLE, Int.reduceLT, Int.reduceToNat, Int.reduceEq, Nat.reduceBEq, itsOf, gdA, byteI, opid, lenQ, ixQ, ldH, readAt, readCells, asCell, faQ, exQ, fldQ, partA, buildQ, slQ, stH, bslH, appH, dcells, convI, elemsOf, D.one, nilS, fillD, convN, cvH, tyProofT0, intD, L1, g1, g2, w1]) | (with_reducible refine ⟨?_, ?_⟩; (· first | (obtain ⟨rfl⟩ := ‹Hq _ _›; with_reducible refine chk_ok ?_; kernel_rfl) | kernel_rfl)) | (with_reducible intro ops hops)))
        (first | refine Call_flat [] [] (hsp) (by simp [cvAs, cvA, cvRL, cvR, cvBox, cv1, cvL, cv0, bI, byteI, bbI, intD, boolD, proofD, elemsOf, upd]) rfl ?_ | refine CallF_flat [] [] [] (hsp) (fun G _ => by simp [cvAs, cvA, cvRL, cvR, cvBox, cv1, cvL, cv0, bI, byteI, bbI, intD, boolD, proofD, elemsOf, upd]) rfl ?_)
        (repeat (first | (simp -implicitDefEqProofs only [ev, mixed, Nat.reduceLT, Nat.reduceAdd, Nat.reduceMul, reduceIte, Nat.reduceEqDiff, reduceCtorEq, Nat.reducePow, Nat.reduceLeDiff, Int.reduceLE, Int.reduceLT, Int.reduceToNat, Int.reduceEq, Nat.reduceBEq, itsOf, gdA, byteI, opid, lenQ, ixQ, ldH, readAt, readCells, asCell, faQ, exQ, fldQ, partA, buildQ, slQ, stH, bslH, appH, dcells, convI, elemsOf, D.one, nilS, fillD, convN, cvH, tyProofT0, intD, g3, L1, L4, g4]) | (with_reducible refine ⟨?_, ?_⟩; (· first | (obtain ⟨rfl⟩ := ‹Hq _ _›; with_reducible refine chk_ok ?_; kernel_rfl) | kernel_rfl)) | (with_reducible intro ops hops)))
        (first | refine Call_frz [] (i1) (by simp [cvAs, cvA, cvRL, cvR, cvBox, cv1, cvL, cv0, bI, byteI, bbI, intD, boolD, proofD, elemsOf, upd]) ?_ | refine CallF_frz [] [] (i1) (fun G _ => by simp [cvAs, cvA, cvRL, cvR, cvBox, cv1, cvL, cv0, bI, byteI, bbI, intD, boolD, proofD, elemsOf, upd]) (by simp) ?_)
        (repeat (first | (simp -implicitDefEqProofs only [ev, mixed, Nat.reduceLT, Nat.reduceAdd, Nat.reduceMul, reduceIte, Nat.reduceEqDiff, reduceCtorEq, Nat.reducePow, Nat.reduceLeDiff, Int.reduceLE, Int.reduceLT, Int.reduceToNat, Int.reduceEq, Nat.reduceBEq, itsOf, gdA, byteI, opid, lenQ, ixQ, ldH, readAt, readCells, asCell, faQ, exQ, fldQ, partA, buildQ, slQ, stH, bslH, appH, dcells, convI, elemsOf, D.one, nilS, fillD, convN, cvH, tyProofT0, boolD, L2]) | (with_reducible refine ⟨?_, ?_⟩; (· first | (obtain ⟨rfl⟩ := ‹Hq _ _›; with_reducible refine chk_ok ?_; kernel_rfl) | kernel_rfl)) | (with_reducible intro ops hops)))
        (first | refine Call_frz [] (hnd) (by simp [cvAs, cvA, cvRL, cvR, cvBox, cv1, cvL, cv0, bI, byteI, bbI, intD, boolD, proofD, elemsOf, upd]) ?_ | refine CallF_frz [] [] (hnd) (fun G _ => by simp [cvAs, cvA, cvRL, cvR, cvBox, cv1, cvL, cv0, bI, byteI, bbI, intD, boolD, proofD, elemsOf, upd]) (by simp) ?_)
        (repeat (first | (simp -implicitDefEqProofs only [ev, mixed, Nat.reduceLT, Nat.reduceAdd, Nat.reduceMul, reduceIte, Nat.reduceEqDiff, reduceCtorEq, Nat.reducePow, Nat.reduceLeDiff, Int.reduceLE, Int.reduceLT, Int.reduceToNat, Int.reduceEq, Nat.reduceBEq, itsOf, gdA, byteI, opid, lenQ, ixQ, ldH, readAt, readCells, asCell, faQ, exQ, fldQ, partA, buildQ, slQ, stH, bslH, appH, dcells, convI, elemsOf, D.one, nilS, fillD, convN, cvH, tyProofT0, bI]) | (with_reducible refine ⟨?_, ?_⟩; (· first | (obtain ⟨rfl⟩ := ‹Hq _ _›; with_reducible refine chk_ok ?_; kernel_rfl) | kernel_rfl)) | (with_reducible intro ops hops)))
        refine fin_tt [] rfl ?_
        simp [cv, cvT, cv1, cv0, upd, intD, boolD, bI]
      · have g3 : decide ((i : Int) < (k : Int)) = false := by simp; omega
        have w2 : IntKind.i64.wrap ((i : Int) - (k : Int)) = ((i - k : Nat) : Int) := by rw [wrap64 (by omega) (by omega)]; omega
        have w3 : IntKind.i64.wrap ((n : Int) - (k : Int)) = ((n - k : Nat) : Int) := by rw [wrap64 (by omega) (by omega)]; omega
        rw [hc2 hc]
        clear i1 hc1 hc2
        generalize foldR leaf (i - k) (n - k) r = T at *
        have hnd := node_A d T.1 (by omega) (by omega)
        generalize nodeF d T.1 = R at *
        refine callD_W 71 Tryd.func136 rfl rfl rfl (fun _ _ => rfl) ?_
        (repeat (first | (simp -implicitDefEqProofs only [ev, mixed, Nat.reduceLT, Nat.reduceAdd, Nat.reduceMul, reduceIte, Nat.reduceEqDiff, reduceCtorEq, Nat.reducePow, Nat.reduceLeDiff, Int.reduceLE, Int.reduceLT, Int.reduceToNat, Int.reduceEq, Nat.reduceBEq, itsOf, gdA, byteI, opid, lenQ, ixQ, ldH, readAt, readCells, asCell, faQ, exQ, fldQ, partA, buildQ, slQ, stH, bslH, appH, dcells, convI, elemsOf, D.one, nilS, fillD, convN, cvH, tyProofT0, intD, L1, g1, g2, w1]) | (with_reducible refine ⟨?_, ?_⟩; (· first | (obtain ⟨rfl⟩ := ‹Hq _ _›; with_reducible refine chk_ok ?_; kernel_rfl) | kernel_rfl)) | (with_reducible intro ops hops)))
        (first | refine Call_flat [] [] (hsp) (by simp [cvAs, cvA, cvRL, cvR, cvBox, cv1, cvL, cv0, bI, byteI, bbI, intD, boolD, proofD, elemsOf, upd]) rfl ?_ | refine CallF_flat [] [] [] (hsp) (fun G _ => by simp [cvAs, cvA, cvRL, cvR, cvBox, cv1, cvL, cv0, bI, byteI, bbI, intD, boolD, proofD, elemsOf, upd]) rfl ?_)
        (repeat (first | (simp -implicitDefEqProofs only [ev, mixed, Nat.reduceLT, Nat.reduceAdd, Nat.reduceMul, reduceIte, Nat.reduceEqDiff, reduceCtorEq, Nat.reducePow, Nat.reduceLeDiff, Int.reduceLE, Int.reduceLT, Int.reduceToNat, Int.reduceEq, Nat.reduceBEq, itsOf, gdA, byteI, opid, lenQ, ixQ, ldH, readAt, readCells, asCell, faQ, exQ, fldQ, partA, buildQ, slQ, stH, bslH, appH, dcells, convI, elemsOf, D.one, nilS, fillD, convN, cvH, tyProofT0, intD, g3, L1, L4, g4, w2, w3]) | (with_reducible refine ⟨?_, ?_⟩; (· first | (obtain ⟨rfl⟩ := ‹Hq _ _›; with_reducible refine chk_ok ?_; kernel_rfl) | kernel_rfl)) | (with_reducible intro ops hops)))
        (first | refine Call_frz [] (i2) (by simp [cvAs, cvA, cvRL, cvR, cvBox, cv1, cvL, cv0, bI, byteI, bbI, intD, boolD, proofD, elemsOf, upd]) ?_ | refine CallF_frz [] [] (i2) (fun G _ => by simp [cvAs, cvA, cvRL, cvR, cvBox, cv1, cvL, cv0, bI, byteI, bbI, intD, boolD, proofD, elemsOf, upd]) (by simp) ?_)
        (repeat (first | (simp -implicitDefEqProofs only [ev, mixed, Nat.reduceLT, Nat.reduceAdd, Nat.reduceMul, reduceIte, Nat.reduceEqDiff, reduceCtorEq, Nat.reducePow, Nat.reduceLeDiff, Int.reduceLE, Int.reduceLT, Int.reduceToNat, Int.reduceEq, Nat.reduceBEq, itsOf, gdA, byteI, opid, lenQ, ixQ, ldH, readAt, readCells, asCell, faQ, exQ, fldQ, partA, buildQ, slQ, stH, bslH, appH, dcells, convI, elemsOf, D.one, nilS, fillD, convN, cvH, tyProofT0, boolD, L2]) | (with_reducible refine ⟨?_, ?_⟩; (· first | (obtain ⟨rfl⟩ := ‹Hq _ _›; with_reducible refine chk_ok ?_; kernel_rfl) | kernel_rfl)) | (with_reducible intro ops hops)))
        (first | refine Call_frz [] (hnd) (by simp [cvAs, cvA, cvRL, cvR, cvBox, cv1, cvL, cv0, bI, byteI, bbI, intD, boolD, proofD, elemsOf, upd]) ?_ | refine CallF_frz [] [] (hnd) (fun G _ => by simp [cvAs, cvA, cvRL, cvR, cvBox, cv1, cvL, cv0, bI, byteI, bbI, intD, boolD, proofD, elemsOf, upd]) (by simp) ?_)
        (repeat (first | (simp -implicitDefEqProofs only [ev, mixed, Nat.reduceLT, Nat.reduceAdd, Nat.reduceMul, reduceIte, Nat.reduceEqDiff, reduceCtorEq, Nat.reducePow, Nat.reduceLeDiff, Int.reduceLE, Int.reduceLT, Int.reduceToNat, Int.reduceEq, Nat.reduceBEq, itsOf, gdA, byteI, opid, lenQ, ixQ, ldH, readAt, readCells, asCell, faQ, exQ, fldQ, partA, buildQ, slQ, stH, bslH, appH, dcells, convI, elemsOf, D.one, nilS, fillD, convN, cvH, tyProofT0, bI]) | (with_reducible refine ⟨?_, ?_⟩; (· first | (obtain ⟨rfl⟩ := ‹Hq _ _›; with_reducible refine chk_ok ?_; kernel_rfl) | kernel_rfl)) | (with_reducible intro ops hops)))
        refine fin_tt [] rfl ?_
        simp [cv, cvT, cv1, cv0, upd, intD, boolD, bI]

def treeOf (p : ProofD) : List UInt8 × Bool := foldR (leafF p.k p.v) p.i.toNat p.n.toNat p.path.reverse
def shownF (root : List UInt8) (p : ProofD) : Bool := formF p && (treeOf p).2 && decide (topF p.n.toNat (treeOf p).1 = root)
theorem formF_yes {p : ProofD} (h : formF p = true) : 1 ≤ p.n ∧ p.n ≤ 200 ∧ 0 ≤ p.i ∧ p.i < p.n ∧ p.k.length ≤ 60 ∧ p.v.length ≤ 200 ∧ p.path.length ≤ 40 ∧ ∀ d ∈ p.path, d.length = 32 := by
  simp [formF, formG] at h
  exact ⟨by omega, by omega, by omega, by omega, by omega, by omega, by omega, h.2⟩
theorem shown_A (root : List UInt8) (p : ProofD) : PureD Tryd.prog 114 [.i (bI root), proofD p] (boolD (shownF root p)) := by
  have hfm := form_A p
  unfold shownF treeOf
  cases hf : formF p
  · rw [hf] at hfm
    simp only [Bool.false_and]
    refine callD_W 33 Tryd.func114 rfl rfl rfl (fun _ _ => rfl) ?_
    (repeat (first | (simp -implicitDefEqProofs only [ev, mixed, Nat.reduceLT, Nat.reduceAdd, Nat.reduceMul, reduceIte, Nat.reduceEqDiff, reduceCtorEq, Nat.reducePow, Nat.reduceLeDiff, Int.reduceLE, Int.reduceLT, Int.reduceToNat, Int.reduceEq, Nat.reduceBEq, itsOf, gdA, byteI, opid, lenQ, ixQ, ldH, readAt, readCells, asCell, faQ, exQ, fldQ, partA, buildQ, slQ, stH, bslH, appH, dcells, convI, elemsOf, D.one, nilS, fillD, convN, cvH, tyProofT1, proofD, intD]) | (with_reducible refine ⟨?_, ?_⟩; (· first | (obtain ⟨rfl⟩ := ‹Hq _ _›; with_reducible refine chk_ok ?_; kernel_rfl) | kernel_rfl)) | (with_reducible intro ops hops)))
    refine Call_flat [] [1000] hfm ⟨.inr ⟨1000, _, _, rfl, .inl ⟨by simp, rfl, _, by simp [upd]; rfl, by simp [formI, cvBox, cv0]⟩⟩, trivial⟩ rfl ?_
    (repeat (first | (simp -implicitDefEqProofs only [ev, mixed, Nat.reduceLT, Nat.reduceAdd, Nat.reduceMul, reduceIte, Nat.reduceEqDiff, reduceCtorEq, Nat.reducePow, Nat.reduceLeDiff, Int.reduceLE, Int.reduceLT, Int.reduceToNat, Int.reduceEq, Nat.reduceBEq, itsOf, gdA, byteI, opid, lenQ, ixQ, ldH, readAt, readCells, asCell, faQ, exQ, fldQ, partA, buildQ, slQ, stH, bslH, appH, dcells, convI, elemsOf, D.one, nilS, fillD, convN, cvH, tyProofT1, boolD]) | (with_reducible refine ⟨?_, ?_⟩; (· first | (obtain ⟨rfl⟩ := ‹Hq _ _›; with_reducible refine chk_ok ?_; kernel_rfl) | kernel_rfl)) | (with_reducible intro ops hops)))
    refine fin_ret [] rfl ?_
    simp [cv, cv1, cv0, upd, boolD]
  · rw [hf] at hfm
    simp only [Bool.true_and]
    obtain ⟨a1, a2, a3, a4, a5, a6, a7, a8⟩ := formF_yes hf
    clear hf
    have hl := leaf_A p.k p.v (by omega) (by omega)
    have hlen : (leafF p.k p.v).length = 32 := sha_length _
    generalize leafF p.k p.v = F at *
    have ht := ptree_A F (by omega) p.path.reverse p.i.toNat p.n.toNat (fun d hd => a8 d (by simpa using hd)) (by simp; omega) (by omega) (by omega) (by omega)
    have hT := foldR_len F (by omega) p.path.reverse p.i.toNat p.n.toNat
    rw [List.reverse_reverse, Int.toNat_of_nonneg a3, Int.toNat_of_nonneg (by omega)] at ht
    generalize foldR F p.i.toNat p.n.toNat p.path.reverse = T at *
    have htp := top_A p.n.toNat T.1 (by omega)
    rw [Int.toNat_of_nonneg (by omega)] at htp
    generalize topF p.n.toNat T.1 = R at *
    clear a1 a2 a3 a4 a5 a6 a7 a8
    obtain ⟨i, n, k, v, q⟩ := p
    obtain ⟨t, ok⟩ := T
    simp only at *
    refine callD_W 33 Tryd.func114 rfl rfl rfl (fun _ _ => rfl) ?_
    (repeat (first | (simp -implicitDefEqProofs only [ev, mixed, Nat.reduceLT, Nat.reduceAdd, Nat.reduceMul, reduceIte, Nat.reduceEqDiff, reduceCtorEq, Nat.reducePow, Nat.reduceLeDiff, Int.reduceLE, Int.reduceLT, Int.reduceToNat, Int.reduceEq, Nat.reduceBEq, itsOf, gdA, byteI, opid, lenQ, ixQ, ldH, readAt, readCells, asCell, faQ, exQ, fldQ, partA, buildQ, slQ, stH, bslH, appH, dcells, convI, elemsOf, D.one, nilS, fillD, convN, cvH, tyProofT1, proofD, intD]) | (with_reducible refine ⟨?_, ?_⟩; (· first | (obtain ⟨rfl⟩ := ‹Hq _ _›; with_reducible refine chk_ok ?_; kernel_rfl) | kernel_rfl)) | (with_reducible intro ops hops)))
    refine Call_flat [] [1000] hfm ⟨.inr ⟨1000, _, _, rfl, .inl ⟨by simp, rfl, _, by simp [upd]; rfl, by simp [formI, cvBox, cv0]⟩⟩, trivial⟩ rfl ?_
    (repeat (first | (simp -implicitDefEqProofs only [ev, mixed, Nat.reduceLT, Nat.reduceAdd, Nat.reduceMul, reduceIte, Nat.reduceEqDiff, reduceCtorEq, Nat.reducePow, Nat.reduceLeDiff, Int.reduceLE, Int.reduceLT, Int.reduceToNat, Int.reduceEq, Nat.reduceBEq, itsOf, gdA, byteI, opid, lenQ, ixQ, ldH, readAt, readCells, asCell, faQ, exQ, fldQ, partA, buildQ, slQ, stH, bslH, appH, dcells, convI, elemsOf, D.one, nilS, fillD, convN, cvH, tyProofT1, boolD]) | (with_reducible refine ⟨?_, ?_⟩; (· first | (obtain ⟨rfl⟩ := ‹Hq _ _›; with_reducible refine chk_ok ?_; kernel_rfl) | kernel_rfl)) | (with_reducible intro ops hops)))
    (first | refine Call_frz [] (hl) (by simp [cvAs, cvA, cvRL, cvR, cvBox, cv1, cvL, cv0, bI, byteI, bbI, intD, boolD, proofD, elemsOf, upd]) ?_ | refine CallF_frz [] [] (hl) (fun G _ => by simp [cvAs, cvA, cvRL, cvR, cvBox, cv1, cvL, cv0, bI, byteI, bbI, intD, boolD, proofD, elemsOf, upd]) (by simp) ?_)
    (repeat (first | (simp -implicitDefEqProofs only [ev, mixed, Nat.reduceLT, Nat.reduceAdd, Nat.reduceMul, reduceIte, Nat.reduceEqDiff, reduceCtorEq, Nat.reducePow, Nat.reduceLeDiff, Int.reduceLE, Int.reduceLT, Int.reduceToNat, Int.reduceEq, Nat.reduceBEq, itsOf, gdA, byteI, opid, lenQ, ixQ, ldH, readAt, readCells, asCell, faQ, exQ, fldQ, partA, buildQ, slQ, stH, bslH, appH, dcells, convI, elemsOf, D.one, nilS, fillD, convN, cvH, tyProofT1]) | (with_reducible refine ⟨?_, ?_⟩; (· first | (obtain ⟨rfl⟩ := ‹Hq _ _›; with_reducible refine chk_ok ?_; kernel_rfl) | kernel_rfl)) | (with_reducible intro ops hops)))
    (first | refine Call_frz [] (ht) (by simp [cvAs, cvA, cvRL, cvR, cvBox, cv1, cvL, cv0, bI, byteI, bbI, intD, boolD, proofD, elemsOf, upd]) ?_ | refine CallF_frz [] [] (ht) (fun G _ => by simp [cvAs, cvA, cvRL, cvR, cvBox, cv1, cvL, cv0, bI, byteI, bbI, intD, boolD, proofD, elemsOf, upd]) (by simp) ?_)
    cases ok
    · (repeat (first | (simp -implicitDefEqProofs only [ev, mixed, Nat.reduceLT, Nat.reduceAdd, Nat.reduceMul, reduceIte, Nat.reduceEqDiff, reduceCtorEq, Nat.reducePow, Nat.reduceLeDiff, Int.reduceLE, Int.reduceLT, Int.reduceToNat, Int.reduceEq, Nat.reduceBEq, itsOf, gdA, byteI, opid, lenQ, ixQ, ldH, readAt, readCells, asCell, faQ, exQ, fldQ, partA, buildQ, slQ, stH, bslH, appH, dcells, convI, elemsOf, D.one, nilS, fillD, convN, cvH, tyProofT1, boolD]) | (with_reducible refine ⟨?_, ?_⟩; (· first | (obtain ⟨rfl⟩ := ‹Hq _ _›; with_reducible refine chk_ok ?_; kernel_rfl) | kernel_rfl)) | (with_reducible intro ops hops)))
      refine fin_ret [] rfl ?_
      simp [cv, cv1, cv0, upd, boolD]
    · (repeat (first | (simp -implicitDefEqProofs only [ev, mixed, Nat.reduceLT, Nat.reduceAdd, Nat.reduceMul, reduceIte, Nat.reduceEqDiff, reduceCtorEq, Nat.reducePow, Nat.reduceLeDiff, Int.reduceLE, Int.reduceLT, Int.reduceToNat, Int.reduceEq, Nat.reduceBEq, itsOf, gdA, byteI, opid, lenQ, ixQ, ldH, readAt, readCells, asCell, faQ, exQ, fldQ, partA, buildQ, slQ, stH, bslH, appH, dcells, convI, elemsOf, D.one, nilS, fillD, convN, cvH, tyProofT1, boolD]) | (with_reducible refine ⟨?_, ?_⟩; (· first | (obtain ⟨rfl⟩ := ‹Hq _ _›; with_reducible refine chk_ok ?_; kernel_rfl) | kernel_rfl)) | (with_reducible intro ops hops)))
      (first | refine Call_frz [] (htp) (by simp [cvAs, cvA, cvRL, cvR, cvBox, cv1, cvL, cv0, bI, byteI, bbI, intD, boolD, proofD, elemsOf, upd]) ?_ | refine CallF_frz [] [] (htp) (fun G _ => by simp [cvAs, cvA, cvRL, cvR, cvBox, cv1, cvL, cv0, bI, byteI, bbI, intD, boolD, proofD, elemsOf, upd]) (by simp) ?_)
      (repeat (first | (simp -implicitDefEqProofs only [ev, mixed, Nat.reduceLT, Nat.reduceAdd, Nat.reduceMul, reduceIte, Nat.reduceEqDiff, reduceCtorEq, Nat.reducePow, Nat.reduceLeDiff, Int.reduceLE, Int.reduceLT, Int.reduceToNat, Int.reduceEq, Nat.reduceBEq, itsOf, gdA, byteI, opid, lenQ, ixQ, ldH, readAt, readCells, asCell, faQ, exQ, fldQ, partA, buildQ, slQ, stH, bslH, appH, dcells, convI, elemsOf, D.one, nilS, fillD, convN, cvH, tyProofT1]) | (with_reducible refine ⟨?_, ?_⟩; (· first | (obtain ⟨rfl⟩ := ‹Hq _ _›; with_reducible refine chk_ok ?_; kernel_rfl) | kernel_rfl)) | (with_reducible intro ops hops)))
      (first | refine Call_flat [] [] (equal_A R root) (by simp [cvAs, cvA, cvRL, cvR, cvBox, cv1, cvL, cv0, bI, byteI, bbI, intD, boolD, proofD, elemsOf, upd]) rfl ?_ | refine CallF_flat [] [] [] (equal_A R root) (fun G _ => by simp [cvAs, cvA, cvRL, cvR, cvBox, cv1, cvL, cv0, bI, byteI, bbI, intD, boolD, proofD, elemsOf, upd]) rfl ?_)
      (repeat (first | (simp -implicitDefEqProofs only [ev, mixed, Nat.reduceLT, Nat.reduceAdd, Nat.reduceMul, reduceIte, Nat.reduceEqDiff, reduceCtorEq, Nat.reducePow, Nat.reduceLeDiff, Int.reduceLE, Int.reduceLT, Int.reduceToNat, Int.reduceEq, Nat.reduceBEq, itsOf, gdA, byteI, opid, lenQ, ixQ, ldH, readAt, readCells, asCell, faQ, exQ, fldQ, partA, buildQ, slQ, stH, bslH, appH, dcells, convI, elemsOf, D.one, nilS, fillD, convN, cvH, tyProofT1]) | (with_reducible refine ⟨?_, ?_⟩; (· first | (obtain ⟨rfl⟩ := ‹Hq _ _›; with_reducible refine chk_ok ?_; kernel_rfl) | kernel_rfl)) | (with_reducible intro ops hops)))
      refine fin_ret [] rfl ?_
      simp [cv, cv1, cv0, upd, boolD]
end Go.Proofs.YtmclpbcipkdmcaaDoor
/- The contract of landref1.Same, by the abstract walk. -/
set_option linter.all false
namespace Go.Proofs.YtmclpbcipkdmcaaDoor
open Go Go.Abs Go.RowKit Go.Proofs.YtmclpbcipkdmcaaDoor.Ty
theorem tyR1Same0 : (type_of% @Ty.T3) ∧ (type_of% @Ty.T5) ∧ (type_of% @Ty.T29) := ⟨@Ty.T3, @Ty.T5, @Ty.T29⟩

set_option maxHeartbeats 1000000
theorem same_A (x y : List UInt8) (hx : x.length ≤ 1099511627776) : PureD Tryd.prog 75 [.i (bI x), .i (bI y)] (.i (.s (.bool (decide (x = y))))) := by
  refine callD_W 26 Tryd.func75 rfl rfl rfl (fun _ _ => rfl) ?_
  (repeat (first | (simp -implicitDefEqProofs only [ev, mixed, Nat.reduceLT, Nat.reduceAdd, Nat.reduceMul, reduceIte, Nat.reduceEqDiff, reduceCtorEq, Nat.reducePow, Nat.reduceLeDiff, Int.reduceLE, Int.reduceLT, Int.reduceToNat, Int.reduceEq, Nat.reduceBEq, itsOf, gdA, byteI, opid, lenQ, ixQ, ldH, readAt, readCells, asCell, faQ, exQ, fldQ, partA, buildQ, slQ, stH, bslH, appH, dcells, convI, elemsOf, D.one, nilS, fillD, convN, cvH, tyR1Same0, bI]) | (with_reducible refine ⟨?_, ?_⟩; (· first | (obtain ⟨rfl⟩ := ‹Hq _ _›; with_reducible refine chk_ok ?_; kernel_rfl) | kernel_rfl)) | (with_reducible intro ops hops)))
  refine Wc_split (fun h => ?_) (fun h => ?_)
  · (repeat (first | (simp -implicitDefEqProofs only [ev, mixed, Nat.reduceLT, Nat.reduceAdd, Nat.reduceMul, reduceIte, Nat.reduceEqDiff, reduceCtorEq, Nat.reducePow, Nat.reduceLeDiff, Int.reduceLE, Int.reduceLT, Int.reduceToNat, Int.reduceEq, Nat.reduceBEq, itsOf, gdA, byteI, opid, lenQ, ixQ, ldH, readAt, readCells, asCell, faQ, exQ, fldQ, partA, buildQ, slQ, stH, bslH, appH, dcells, convI, elemsOf, D.one, nilS, fillD, convN, cvH, tyR1Same0, bI]) | (with_reducible refine ⟨?_, ?_⟩; (· first | (obtain ⟨rfl⟩ := ‹Hq _ _›; with_reducible refine chk_ok ?_; kernel_rfl) | kernel_rfl)) | (with_reducible intro ops hops)))
    refine fin_ret [] rfl ?_
    have : x ≠ y := by intro e; subst e; simp at h
    simp [cv, cv1, cv0, upd, this]
  · have hl : x.length = y.length := by simp at h; omega
    clear h
    (repeat (first | (simp -implicitDefEqProofs only [ev, mixed, Nat.reduceLT, Nat.reduceAdd, Nat.reduceMul, reduceIte, Nat.reduceEqDiff, reduceCtorEq, Nat.reducePow, Nat.reduceLeDiff, Int.reduceLE, Int.reduceLT, Int.reduceToNat, Int.reduceEq, Nat.reduceBEq, itsOf, gdA, byteI, opid, lenQ, ixQ, ldH, readAt, readCells, asCell, faQ, exQ, fldQ, partA, buildQ, slQ, stH, bslH, appH, dcells, convI, elemsOf, D.one, nilS, fillD, convN, cvH, tyR1Same0, bI]) | (with_reducible refine ⟨?_, ?_⟩; (· first | (obtain ⟨rfl⟩ := ‹Hq _ _›; with_reducible refine chk_ok ?_; kernel_rfl) | kernel_rfl)) | (with_reducible intro ops hops)))
    refine W_loop (ι := { k : Nat // k ≤ x.length ∧ x.take k = y.take k }) (fun k => stOf [(0, .i (.sl (x.map byteI))), (1, .i (.sl (y.map byteI))), (12, .i (.s (.int .i64 x.length))), (13, .i (.s (.int .i64 (k.1 : Nat))))] []) (fun k => x.length - k.1) ⟨0, by simp⟩ ?_ ?_
    · refine le_stOf _ _ [] [] ?_ ?_ rfl rfl
      · simp [cv, cv1, cv0, upd, lk]
      · simp
    · rintro ⟨k, hk, ht⟩
      rw [stOf_eq]
      (repeat (first | (simp -implicitDefEqProofs only [ev, mixed, Nat.reduceLT, Nat.reduceAdd, Nat.reduceMul, reduceIte, Nat.reduceEqDiff, reduceCtorEq, Nat.reducePow, Nat.reduceLeDiff, Int.reduceLE, Int.reduceLT, Int.reduceToNat, Int.reduceEq, Nat.reduceBEq, itsOf, gdA, byteI, opid, lenQ, ixQ, ldH, readAt, readCells, asCell, faQ, exQ, fldQ, partA, buildQ, slQ, stH, bslH, appH, dcells, convI, elemsOf, D.one, nilS, fillD, convN, cvH, tyR1Same0]) | (with_reducible refine ⟨?_, ?_⟩; (· first | (obtain ⟨rfl⟩ := ‹Hq _ _›; with_reducible refine chk_ok ?_; kernel_rfl) | kernel_rfl)) | (with_reducible intro ops hops)))
      refine Wc_split (fun h => ?_) (fun h => ?_)
      · have hlt : k < x.length := by simp at h; omega
        clear h
        have e1 : (x.map byteI)[k]? = some [.s (.int .u8 (x[k].toNat : Int))] := by simp [hlt, byteI]
        have e2 : (y.map byteI)[k]? = some [.s (.int .u8 ((y[k]'(by omega)).toNat : Int))] := by simp [show k < y.length by omega, byteI]
        (repeat (first | (simp -implicitDefEqProofs only [ev, mixed, Nat.reduceLT, Nat.reduceAdd, Nat.reduceMul, reduceIte, Nat.reduceEqDiff, reduceCtorEq, Nat.reducePow, Nat.reduceLeDiff, Int.reduceLE, Int.reduceLT, Int.reduceToNat, Int.reduceEq, Nat.reduceBEq, itsOf, gdA, byteI, opid, lenQ, ixQ, ldH, readAt, readCells, asCell, faQ, exQ, fldQ, partA, buildQ, slQ, stH, bslH, appH, dcells, convI, elemsOf, D.one, nilS, fillD, convN, cvH, tyR1Same0, e1, e2]) | (with_reducible refine ⟨?_, ?_⟩; (· first | (obtain ⟨rfl⟩ := ‹Hq _ _›; with_reducible refine chk_ok ?_; kernel_rfl) | kernel_rfl)) | (with_reducible intro ops hops)))
        refine Wc_split (fun h => ?_) (fun h => ?_)
        · (repeat (first | (simp -implicitDefEqProofs only [ev, mixed, Nat.reduceLT, Nat.reduceAdd, Nat.reduceMul, reduceIte, Nat.reduceEqDiff, reduceCtorEq, Nat.reducePow, Nat.reduceLeDiff, Int.reduceLE, Int.reduceLT, Int.reduceToNat, Int.reduceEq, Nat.reduceBEq, itsOf, gdA, byteI, opid, lenQ, ixQ, ldH, readAt, readCells, asCell, faQ, exQ, fldQ, partA, buildQ, slQ, stH, bslH, appH, dcells, convI, elemsOf, D.one, nilS, fillD, convN, cvH, tyR1Same0]) | (with_reducible refine ⟨?_, ?_⟩; (· first | (obtain ⟨rfl⟩ := ‹Hq _ _›; with_reducible refine chk_ok ?_; kernel_rfl) | kernel_rfl)) | (with_reducible intro ops hops)))
          refine fin_ret [] rfl ?_
          have : x ≠ y := by intro e; subst e; simp at h
          simp [cv, cv1, cv0, upd, this]
        · have hb : x[k] = y[k] := UInt8.toNat_inj.1 (by simp at h; omega)
          clear h
          have hw : IntKind.i64.wrap ((k : Int) + 1) = ((k + 1 : Nat) : Int) := by rw [wrap64 (by omega) (by omega)]; omega
          (repeat (first | (simp -implicitDefEqProofs only [ev, mixed, Nat.reduceLT, Nat.reduceAdd, Nat.reduceMul, reduceIte, Nat.reduceEqDiff, reduceCtorEq, Nat.reducePow, Nat.reduceLeDiff, Int.reduceLE, Int.reduceLT, Int.reduceToNat, Int.reduceEq, Nat.reduceBEq, itsOf, gdA, byteI, opid, lenQ, ixQ, ldH, readAt, readCells, asCell, faQ, exQ, fldQ, partA, buildQ, slQ, stH, bslH, appH, dcells, convI, elemsOf, D.one, nilS, fillD, convN, cvH, tyR1Same0, hw]) | (with_reducible refine ⟨?_, ?_⟩; (· first | (obtain ⟨rfl⟩ := ‹Hq _ _›; with_reducible refine chk_ok ?_; kernel_rfl) | kernel_rfl)) | (with_reducible intro ops hops)))
          refine ⟨⟨k + 1, hlt, ?_⟩, le_stOf _ _ [] [] ?_ ?_ rfl rfl, ?_⟩
          · rw [List.take_succ_eq_append_getElem hlt, List.take_succ_eq_append_getElem (by omega), ht, hb]
          · simp [cv, cv1, cv0, upd, lk]
          · simp
          · simp; omega
      · have hk' : k = x.length := by simp at h; omega
        subst hk'
        (repeat (first | (simp -implicitDefEqProofs only [ev, mixed, Nat.reduceLT, Nat.reduceAdd, Nat.reduceMul, reduceIte, Nat.reduceEqDiff, reduceCtorEq, Nat.reducePow, Nat.reduceLeDiff, Int.reduceLE, Int.reduceLT, Int.reduceToNat, Int.reduceEq, Nat.reduceBEq, itsOf, gdA, byteI, opid, lenQ, ixQ, ldH, readAt, readCells, asCell, faQ, exQ, fldQ, partA, buildQ, slQ, stH, bslH, appH, dcells, convI, elemsOf, D.one, nilS, fillD, convN, cvH, tyR1Same0]) | (with_reducible refine ⟨?_, ?_⟩; (· first | (obtain ⟨rfl⟩ := ‹Hq _ _›; with_reducible refine chk_ok ?_; kernel_rfl) | kernel_rfl)) | (with_reducible intro ops hops)))
        refine fin_ret [] rfl ?_
        have : x = y := by rw [List.take_length, hl, List.take_length] at ht; exact ht
        simp [cv, cv1, cv0, upd, this]
end Go.Proofs.YtmclpbcipkdmcaaDoor
/- book.Get, proof.ShowGap, Absent: by value. -/
set_option linter.all false
namespace Go.Proofs.YtmclpbcipkdmcaaDoor
open Go Go.Abs Go.RowKit Go.Proofs.YtmclpbcipkdmcaaDoor.Ty

def getF (l : List PairD) (key : List UInt8) : List UInt8 × Bool :=
  if h : placeF l key < l.length then (if l[placeF l key].k = key then (l[placeF l key].v, true) else ([], false)) else ([], false)
structure GapD where
  hl : Bool
  hr : Bool
  left : ProofD
  right : ProofD
def gapD (g : GapD) : D := .agg [boolD g.hl, boolD g.hr, intD g.left.i, intD g.left.n, .i (bI g.left.k), .i (bI g.left.v), .i (bbI g.left.path), intD g.right.i, intD g.right.n, .i (bI g.right.k), .i (bI g.right.v), .i (bbI g.right.path)]
def zeroG : GapD := ⟨false, false, zeroP, zeroP⟩
def atZ (l : List PairD) (b : Bool) (i : Nat) : ProofD := if h : b = true ∧ i < l.length then atF l i h.2 else zeroP
def gapF (l : List PairD) (key : List UInt8) : GapD × Nat :=
  if (wrongF l).1 = 0 then (if thereF l key then (zeroG, 7) else (⟨decide (0 < placeF l key), decide (placeF l key < l.length), atZ l (decide (0 < placeF l key)) (placeF l key - 1), atZ l (decide (placeF l key < l.length)) (placeF l key)⟩, 0)) else (zeroG, (wrongF l).1)
set_option maxHeartbeats 4000000
end Go.Proofs.YtmclpbcipkdmcaaDoor
/- proof.Absent: by value. -/
set_option linter.all false
namespace Go.Proofs.YtmclpbcipkdmcaaDoor
open Go Go.Abs Go.RowKit Go.Proofs.YtmclpbcipkdmcaaDoor.Ty

def absentF (root key : List UInt8) (g : GapD) : Bool :=
  match g.hl, g.hr with
  | false, false => decide (topF 0 [] = root)
  | true, false => shownF root g.left && decide (Lib.compareBytes g.left.k key < 0) && decide (g.left.i = g.left.n - 1)
  | false, true => shownF root g.right && decide (Lib.compareBytes key g.right.k < 0) && decide (g.right.i = 0)
  | true, true => shownF root g.left && decide (Lib.compareBytes g.left.k key < 0) && (shownF root g.right && decide (Lib.compareBytes key g.right.k < 0)) && (decide (g.left.n = g.right.n) && decide (g.left.i + 1 = g.right.i))
theorem shownF_form {r : List UInt8} {p : ProofD} (h : shownF r p = true) : formF p = true := by
  unfold shownF at h; simp only [Bool.and_eq_true] at h; exact h.1.1
attribute [local simp, local go_sem] proofD gapD bbI
set_option maxHeartbeats 4000000
set_option maxRecDepth 20000
theorem absent_A (root key : List UInt8) (g : GapD) : PureD Tryd.prog 117 [.i (bI root), .i (bI key), gapD g] (boolD (absentF root key g)) := by
  refine hide_r fun R hR => ?_
  obtain ⟨hl, hr, ⟨li, ln, lk, lv, lp⟩, ⟨ri, rn, rk, rv, rp⟩⟩ := g
  have c1 := shown_A root ⟨li, ln, lk, lv, lp⟩
  have c2 := shown_A root ⟨ri, rn, rk, rv, rp⟩
  have c3 := cmp_A lk key
  have c4 := cmp_A key rk
  have c5 := top_A 0 [] (by simp)
  have c6 := equal_A (topF 0 []) root
  have fL : shownF root ⟨li, ln, lk, lv, lp⟩ = true → 1 ≤ ln ∧ ln ≤ 200 ∧ 0 ≤ li ∧ li < ln := fun h => by
    obtain ⟨a1, a2, a3, a4, _⟩ := formF_yes (shownF_form h)
    exact ⟨a1, a2, a3, a4⟩
  cases hl <;> cases hr <;> simp only [absentF] at hR
  · clear c1 c2 fL
    generalize topF 0 [] = T at *
    refine callD_W 89 Tryd.func117 rfl rfl rfl (fun _ _ => rfl) ?_
    exact wkl trivial
  · clear c1 fL
    generalize shownF root ⟨ri, rn, rk, rv, rp⟩ = S at *
    generalize Lib.compareBytes key rk = C at *
    cases S <;> by_cases q : C < 0 <;> simp only [q, decide_true, decide_false, Bool.true_and, Bool.false_and, Bool.and_false, Bool.and_true] at hR
    all_goals
      refine callD_W 89 Tryd.func117 rfl rfl rfl (fun _ _ => rfl) ?_
      exact wkl trivial
  · clear c2
    generalize shownF root ⟨li, ln, lk, lv, lp⟩ = S at *
    generalize Lib.compareBytes lk key = C at *
    cases S <;> by_cases q : C < 0 <;> simp only [q, decide_true, decide_false, Bool.true_and, Bool.false_and, Bool.and_false, Bool.and_true] at hR
    all_goals
      try (have fL := fL rfl)
      refine callD_W 89 Tryd.func117 rfl rfl rfl (fun _ _ => rfl) ?_
      exact wkl trivial
  · generalize shownF root ⟨li, ln, lk, lv, lp⟩ = S at *
    generalize shownF root ⟨ri, rn, rk, rv, rp⟩ = S' at *
    generalize Lib.compareBytes lk key = C at *
    generalize Lib.compareBytes key rk = C' at *
    cases S
    · simp only [Bool.false_and] at hR
      refine callD_W 89 Tryd.func117 rfl rfl rfl (fun _ _ => rfl) ?_
      exact wkl trivial
    · have fL := fL rfl
      by_cases q : C < 0
      · cases S' <;> by_cases q' : C' < 0 <;> simp only [q, q', decide_true, decide_false, Bool.true_and, Bool.false_and, Bool.and_false, Bool.and_true] at hR
        all_goals
          refine callD_W 89 Tryd.func117 rfl rfl rfl (fun _ _ => rfl) ?_
          exact wkl trivial
      · simp only [q, decide_false, Bool.and_false, Bool.false_and] at hR
        refine callD_W 89 Tryd.func117 rfl rfl rfl (fun _ _ => rfl) ?_
        exact wkl trivial
end Go.Proofs.YtmclpbcipkdmcaaDoor
/- client.Member, Missing: by value. -/
set_option linter.all false
namespace Go.Proofs.YtmclpbcipkdmcaaDoor
open Go Go.Abs Go.RowKit Go.Proofs.YtmclpbcipkdmcaaDoor.Ty
attribute [simp, go_sem] proofD gapD bbI

def memberE (c : ClientD) (now h : Int) (key val : List UInt8) (p : ProofD) : Int :=
  if askedE c now = 0 then
    (match atC c h with
    | none => 6
    | some k => if activeC c now = true then (if p.k = key ∧ p.v = val ∧ shownF k.root p = true then 0 else 9) else 11)
  else askedE c now
def missingE (c : ClientD) (now h : Int) (key : List UInt8) (g : GapD) : Int :=
  if askedE c now = 0 then
    (match atC c h with
    | none => 6
    | some k => if activeC c now = true then (if absentF k.root key g = true then 0 else 9) else 11)
  else askedE c now
theorem last_mem {c : ClientD} (h : 1 ≤ c.known.length) : lastC c ∈ c.known := by
  unfold lastC
  rw [List.getLastD_eq_getLast?, List.getLast?_eq_getElem?, List.getElem?_eq_getElem (by omega)]
  exact List.getElem_mem _
theorem act_A {c : ClientD} {now : Int} (ok : ClOk c) (hn : 0 ≤ now ∧ now ≤ 1000000000000) : PureD Tryd.prog 89 [clientD c, intD now] (boolD (activeC c now)) := by
  have hl := ok.len
  have hk := (ok.k _ (last_mem hl.1)).t
  exact cactive_A c now (by omega) (by omega) (by omega) (by omega)
set_option maxHeartbeats 4000000
set_option maxRecDepth 20000
theorem cmember_A (c : ClientD) (now h : Int) (key val : List UInt8) (p : ProofD) (hl : c.known.length ≤ 1048576) :
    PureD Tryd.prog 84 [clientD c, intD now, intD h, .i (bI key), .i (bI val), proofD p] (intD (memberE c now h key val p)) := by
  refine hide_r fun R hR => ?_
  have c1 := casked_A c now hl
  unfold memberE at hR
  by_cases h1 : askedE c now = 0
  · obtain ⟨ok, hn, hfz⟩ := asked_zero.1 h1
    rw [if_pos h1] at hR
    rw [h1] at c1
    have c2 := cat_A c h ok.sm
    have c3 := act_A ok hn
    have c4 := equal_A p.k key
    have c5 := equal_A p.v val
    unfold atR at c2
    clear h1 ok hn hfz hl
    cases h2 : atC c h with
    | none =>
      rw [h2] at c2 hR
      simp only [zeroK] at c2
      clear h2
      refine callD_W 55 Tryd.func84 rfl rfl rfl (fun _ _ => rfl) ?_
      exact wkl trivial
    | some k =>
      rw [h2] at c2 hR
      simp only at c2 hR
      have c6 := shown_A k.root p
      clear h2
      generalize activeC c now = A at *
      generalize shownF k.root p = B at *
      by_cases m1 : p.k = key <;> by_cases m2 : p.v = val <;> simp only [m1, m2, true_and, false_and, decide_true, decide_false, if_false] at hR c4 c5
      all_goals
        refine callD_W 55 Tryd.func84 rfl rfl rfl (fun _ _ => rfl) ?_
        exact wkl trivial
  · rw [if_neg h1] at hR
    generalize askedE c now = W at *
    refine callD_W 55 Tryd.func84 rfl rfl rfl (fun _ _ => rfl) ?_
    exact wkl trivial
theorem cmissing_A (c : ClientD) (now h : Int) (key : List UInt8) (g : GapD) (hl : c.known.length ≤ 1048576) :
    PureD Tryd.prog 88 [clientD c, intD now, intD h, .i (bI key), gapD g] (intD (missingE c now h key g)) := by
  refine hide_r fun R hR => ?_
  have c1 := casked_A c now hl
  unfold missingE at hR
  by_cases h1 : askedE c now = 0
  · obtain ⟨ok, hn, hfz⟩ := asked_zero.1 h1
    rw [if_pos h1] at hR
    rw [h1] at c1
    have c2 := cat_A c h ok.sm
    have c3 := act_A ok hn
    unfold atR at c2
    clear h1 ok hn hfz hl
    cases h2 : atC c h with
    | none =>
      rw [h2] at c2 hR
      simp only [zeroK] at c2
      clear h2
      refine callD_W 40 Tryd.func88 rfl rfl rfl (fun _ _ => rfl) ?_
      exact wkl trivial
    | some k =>
      rw [h2] at c2 hR
      simp only at c2 hR
      have c6 := absent_A k.root key g
      clear h2
      generalize activeC c now = A at *
      generalize absentF k.root key g = B at *
      refine callD_W 40 Tryd.func88 rfl rfl rfl (fun _ _ => rfl) ?_
      exact wkl trivial
  · rw [if_neg h1] at hR
    generalize askedE c now = W at *
    refine callD_W 40 Tryd.func88 rfl rfl rfl (fun _ _ => rfl) ?_
    exact wkl trivial
end Go.Proofs.YtmclpbcipkdmcaaDoor
/- strconv.Itoa: by value. -/
set_option linter.all false
namespace Go.Proofs
section
open Go.Shelf
def Tryd.laysM171_ren : Go.Shelf.Ren := ⟨fun | 171 => 93 | 243 => 118 | 246 => 142 | 283 => 153 | 284 => 154 | 285 => 155 | 286 => 156 | 129 => 128 | 317 => 162 | 318 => 163 | 319 => 164 | 320 => 165 | 337 => 166 | 338 => 167 | n => n, fun | 3 => 3 | 9 => 9 | 2 => 2 | 4 => 4 | 171 => 213 | 0 => 0 | 53 => 107 | 37 => 29 | 5 => 5 | 173 => 215 | 212 => 226 | 51 => 186 | 20 => 20 | 213 => 227 | 46 => 155 | 232 => 228 | 233 => 229 | n => n, fun | 17 => 1 | 18 => 2 | 19 => 3 | n => n⟩
theorem Tryd.laysM171 : Go.Proofs.LaysM.n171 Tryd.prog Tryd.laysM171_ren := {
  mixed := by kernel_rfl
  f129 := Tryd.func128.trans (congrArg some (by kernel_rfl))
  f171 := Tryd.func93.trans (congrArg some (by kernel_rfl))
  f243 := Tryd.func118.trans (congrArg some (by kernel_rfl))
  f246 := Tryd.func142.trans (congrArg some (by kernel_rfl))
  f283 := Tryd.func153.trans (congrArg some (by kernel_rfl))
  f284 := Tryd.func154.trans (congrArg some (by kernel_rfl))
  f285 := Tryd.func155.trans (congrArg some (by kernel_rfl))
  f286 := Tryd.func156.trans (congrArg some (by kernel_rfl))
  f317 := Tryd.func162.trans (congrArg some (by kernel_rfl))
  f318 := Tryd.func163.trans (congrArg some (by kernel_rfl))
  f319 := Tryd.func164.trans (congrArg some (by kernel_rfl))
  f320 := Tryd.func165.trans (congrArg some (by kernel_rfl))
  f337 := Tryd.func166.trans (congrArg some (by kernel_rfl))
  f338 := Tryd.func167.trans (congrArg some (by kernel_rfl))
  t0 := Tryd.underlying0
  a0 := Tryd.isAgg0
  z0 := Tryd.sizeOf0
  v0 := Tryd.zeroValue0
  t2 := Tryd.underlying2
  a2 := Tryd.isAgg2
  z2 := Tryd.sizeOf2
  v2 := Tryd.zeroValue2
  t3 := Tryd.underlying3
  a3 := Tryd.isAgg3
  z3 := Tryd.sizeOf3
  v3 := Tryd.zeroValue3
  t4 := Tryd.underlying4
  a4 := Tryd.isAgg4
  z4 := Tryd.sizeOf4
  v4 := Tryd.zeroValue4
  t5 := Tryd.underlying5
  a5 := Tryd.isAgg5
  z5 := Tryd.sizeOf5
  v5 := Tryd.zeroValue5
  t9 := Tryd.underlying9
  a9 := Tryd.isAgg9
  z9 := Tryd.sizeOf9
  v9 := Tryd.zeroValue9
  t20 := Tryd.underlying20
  a20 := Tryd.isAgg20
  z20 := Tryd.sizeOf20
  v20 := Tryd.zeroValue20
  t37 := Tryd.underlying29
  a37 := Tryd.isAgg29
  z37 := Tryd.sizeOf29
  v37 := Tryd.zeroValue29
  t46 := Tryd.underlying155
  a46 := Tryd.isAgg155
  z46 := Tryd.sizeOf155
  v46 := Tryd.zeroValue155
  t51 := Tryd.underlying186
  a51 := Tryd.isAgg186
  z51 := Tryd.sizeOf186
  v51 := Tryd.zeroValue186
  t53 := Tryd.underlying107
  a53 := Tryd.isAgg107
  z53 := Tryd.sizeOf107
  v53 := Tryd.zeroValue107
  t171 := Tryd.underlying213
  a171 := Tryd.isAgg213
  z171 := Tryd.sizeOf213
  v171 := Tryd.zeroValue213
  t173 := Tryd.underlying215
  a173 := Tryd.isAgg215
  z173 := Tryd.sizeOf215
  v173 := Tryd.zeroValue215
  t212 := Tryd.underlying226
  a212 := Tryd.isAgg226
  z212 := Tryd.sizeOf226
  v212 := Tryd.zeroValue226
  t213 := Tryd.underlying227
  a213 := Tryd.isAgg227
  z213 := Tryd.sizeOf227
  t232 := Tryd.underlying228
  a232 := Tryd.isAgg228
  z232 := Tryd.sizeOf228
  v232 := Tryd.zeroValue228
  t233 := Tryd.underlying229
  a233 := Tryd.isAgg229
  z233 := Tryd.sizeOf229
  v233 := Tryd.zeroValue229
  g17 := by kernel_rfl
  g18 := by kernel_rfl
  g19 := by kernel_rfl
  i0 := by kernel_rfl
  i2 := by kernel_rfl
  i3 := by kernel_rfl
  i4 := by kernel_rfl
  i5 := by kernel_rfl
  i9 := by kernel_rfl
  i20 := by kernel_rfl
  i37 := by kernel_rfl
  i46 := by kernel_rfl
  i51 := by kernel_rfl
  i53 := by kernel_rfl
  i171 := by kernel_rfl
  i173 := by kernel_rfl
  i212 := by kernel_rfl
  i232 := by kernel_rfl
  i233 := by kernel_rfl
  m17 := by kernel_rfl
  m18 := by kernel_rfl
  m19 := by kernel_rfl }
open Go.RowKit Go.Sort Go.Lib in
theorem Tryd.strconv_Itoa (n : Int) (h0 : -9223372036854775808 ≤ n) (h1 : n ≤ 9223372036854775807) (w : World) (htab : Lib.TabIs Tryd.prog w "internal/strconv.uint64pow10" .u64 Lib.pow10Tab) :
    Calls Tryd.prog 93 #[.int .i64 n] w fun e w' => e = .returned (.string ⟨(Lib.itoa n).toArray⟩) ∧ ∃ k os, w' = grow (w.drewN k) os := Any.strconv_Itoa Tryd.laysM171 n h0 h1 w htab

end
end Go.Proofs

namespace Go.Proofs.YtmclpbcipkdmcaaDoor
open Go Go.Abs Go.RowKit
theorem itoa_A (n : Int) (h0 : -9223372036854775808 ≤ n) (h1 : n ≤ 9223372036854775807) : PureD Tryd.prog 93 [intD n] (.i (.s (.string ⟨(Lib.itoa n).toArray⟩))) := by
  refine ⟨Enters_of Tryd.func93 (by kernel_rfl) (by kernel_rfl), fun K0 T K vs hr hrd => ?_⟩
  obtain ⟨hs, hg⟩ := hrd
  have hv : vs = #[.int .i64 n] := by
    have h2 := conc_ok (hg 0 _ rfl) (v' := .int .i64 n) rfl
    apply Array.ext
    · simpa using hs
    · intro j hj1 hj2
      have : j = 0 := by simp at hj2; exact hj2
      subst this
      rw [getD_lt hj1] at h2
      simpa using h2
  subst hv
  have ht : Lib.TabIs Tryd.prog K.w "internal/strconv.uint64pow10" .u64 Lib.pow10Tab := hr.var (q := ("internal/strconv.uint64pow10", (Go.Lib.pow10Tab.map fun z => Value.int .u64 z).toArray)) (by simp [gvars])
  refine (Tryd.strconv_Itoa n h0 h1 K.w ht).mono ?_
  rintro e w' ⟨rfl, k, os, rfl⟩
  have hsz : K.w.heap.size ≤ (Go.Sort.grow (K.w.drewN k) os).heap.size := by show _ ≤ (K.w.heap ++ os).size; simp
  obtain ⟨g1, g2⟩ := hr.grow (w' := Go.Sort.grow (K.w.drewN k) os) (S' := K.S) rfl rfl rfl hsz (fun j hj => by show (K.w.heap ++ os)[j]? = _; rw [Array.getElem?_append_left hj]) (fun _ h => h) (fun _ h => .inl h) (fun b hb => Nat.lt_of_lt_of_le (hr.sB b hb) hsz)
  exact ⟨_, _, rfl, rfl, g1, g2, .i (.s _ rfl)⟩
end Go.Proofs.YtmclpbcipkdmcaaDoor
/- state.ConnKey, ChanKey, NextKey, MarkKey, ConnBytes, ChanBytes, NextBytes: by value. -/
set_option linter.all false
namespace Go.Proofs.YtmclpbcipkdmcaaDoor
open Go Go.Abs Go.RowKit Go.Proofs.YtmclpbcipkdmcaaDoor.Ty

theorem add_strB {P : Program} {t : TypeId} {x y : Operand} (a b : List UInt8) (h : a.length ≤ 100 ∧ b.length ≤ 100) : binQ P .add t x y (some (.string ⟨a.toArray⟩)) (some (.string ⟨b.toArray⟩)) = some (.i (.s (.string ⟨(a ++ b).toArray⟩))) := by
  rw [bq_add_str (by simp only [ByteArray.size, List.size_toArray]; omega)]
  congr 5
theorem strI_mk (l : List UInt8) : strI ⟨l.toArray⟩ = bI l := rfl
def keyC (i : Int) : List UInt8 := [99, 111, 110, 110, 47] ++ Lib.itoa i
def keyH (i : Int) : List UInt8 := [99, 104, 97, 110, 47] ++ Lib.itoa i
def keyN (i : Int) : List UInt8 := [110, 101, 120, 116, 47] ++ Lib.itoa i
def keyM (w : List UInt8) (ch seq : Int) : List UInt8 := w ++ [47] ++ Lib.itoa ch ++ [47] ++ Lib.itoa seq
def Num6 (n : Int) : Prop := -9223372036854775808 ≤ n ∧ n ≤ 9223372036854775807
theorem ito_len {n : Int} (h : Num6 n) : (Lib.itoa n).length ≤ 21 := Lib.itoa_length_le n h.1 h.2
set_option maxHeartbeats 4000000
theorem ckey_A (i : Int) (h : Num6 i) : PureD Tryd.prog 64 [intD i] (.i (bI (keyC i))) := by
  refine hide_r fun R hR => ?_
  have c1 := itoa_A i h.1 h.2
  have hl := ito_len h
  unfold keyC at hR
  generalize Lib.itoa i = L at *
  have s1 := fun P t x y => @add_strB P t x y [99, 111, 110, 110, 47] L (by simp; omega)
  have s2 : ([99, 111, 110, 110, 47] ++ L).length ≤ 140737488355328 := by simp; omega
  have s3 := strI_mk ([99, 111, 110, 110, 47] ++ L)
  generalize [99, 111, 110, 110, 47] ++ L = K at *
  refine callD_W 7 Tryd.func64 rfl rfl rfl (fun _ _ => rfl) ?_
  exact wkl trivial
theorem hkey_A (i : Int) (h : Num6 i) : PureD Tryd.prog 66 [intD i] (.i (bI (keyH i))) := by
  refine hide_r fun R hR => ?_
  have c1 := itoa_A i h.1 h.2
  have hl := ito_len h
  unfold keyH at hR
  generalize Lib.itoa i = L at *
  have s1 := fun P t x y => @add_strB P t x y [99, 104, 97, 110, 47] L (by simp; omega)
  have s2 : ([99, 104, 97, 110, 47] ++ L).length ≤ 140737488355328 := by simp; omega
  have s3 := strI_mk ([99, 104, 97, 110, 47] ++ L)
  generalize [99, 104, 97, 110, 47] ++ L = K at *
  refine callD_W 7 Tryd.func66 rfl rfl rfl (fun _ _ => rfl) ?_
  exact wkl trivial
theorem nkey_A (i : Int) (h : Num6 i) : PureD Tryd.prog 68 [intD i] (.i (bI (keyN i))) := by
  refine hide_r fun R hR => ?_
  have c1 := itoa_A i h.1 h.2
  have hl := ito_len h
  unfold keyN at hR
  generalize Lib.itoa i = L at *
  have s1 := fun P t x y => @add_strB P t x y [110, 101, 120, 116, 47] L (by simp; omega)
  have s2 : ([110, 101, 120, 116, 47] ++ L).length ≤ 140737488355328 := by simp; omega
  have s3 := strI_mk ([110, 101, 120, 116, 47] ++ L)
  generalize [110, 101, 120, 116, 47] ++ L = K at *
  refine callD_W 7 Tryd.func68 rfl rfl rfl (fun _ _ => rfl) ?_
  exact wkl trivial
theorem mkey_A (w : List UInt8) (ch seq : Int) (hw : w.length ≤ 10) (h1 : Num6 ch) (h2 : Num6 seq) : PureD Tryd.prog 70 [.i (.s (.string ⟨w.toArray⟩)), intD ch, intD seq] (.i (bI (keyM w ch seq))) := by
  refine hide_r fun R hR => ?_
  have c1 := itoa_A ch h1.1 h1.2
  have c2 := itoa_A seq h2.1 h2.2
  have hl := ito_len h1
  have hl2 := ito_len h2
  unfold keyM at hR
  generalize Lib.itoa ch = L at *
  generalize Lib.itoa seq = M at *
  have s1 := fun P t x y => @add_strB P t x y w [47] (by simp; omega)
  have s2 := fun P t x y => @add_strB P t x y (w ++ [47]) L (by simp; omega)
  have s3 := fun P t x y => @add_strB P t x y (w ++ [47] ++ L) [47] (by simp; omega)
  have s4 := fun P t x y => @add_strB P t x y (w ++ [47] ++ L ++ [47]) M (by simp; omega)
  have s5 : (w ++ [47] ++ L ++ [47] ++ M).length ≤ 140737488355328 := by simp; omega
  have s6 := strI_mk (w ++ [47] ++ L ++ [47] ++ M)
  generalize w ++ [47] ++ L ++ [47] ++ M = K4 at *
  generalize w ++ [47] ++ L ++ [47] = K3 at *
  generalize w ++ [47] ++ L = K2 at *
  generalize w ++ [47] = K1 at *
  refine callD_W 17 Tryd.func70 rfl rfl rfl (fun _ _ => rfl) ?_
  exact wkl trivial
theorem sn_A (x : Int) : PureD Tryd.prog 95 [intD x] (.agg [.i (.s (.int .i64 1)), .i (.s (.int .u64 (u64 x))), .i (.sl [])]) := by
  refine hide_r fun R hR => ?_
  have w1 := wrap_u x
  refine callD_W 6 Tryd.func95 rfl rfl rfl (fun _ _ => rfl) ?_
  exact wkl trivial
theorem spieces_A (l : List PieceD) (hl : l.length ≤ 1048576) (hb : ∀ p ∈ l, p.b.length ≤ 1048576) (hn : n64s l) : PureD Tryd.prog 94 [.i (.sl (l.map encP))] (.i (bI (writeF l).1)) := by
  refine hide_r fun R hR => ?_
  have c1 := write_A l hl hb hn
  simp only [faultD] at c1
  generalize writeF l = W at *
  refine callD_W 11 Tryd.func94 rfl rfl rfl (fun _ _ => rfl) ?_
  exact wkl trivial
def valCn (c : ConnD) : List UInt8 := (writeF [numP (u64 c.st), numP (u64 c.cl), numP (u64 c.oc), numP (u64 (c.on + 1))]).1
def valCh (c : ChanD) : List UInt8 := (writeF [numP (u64 c.st), numP (u64 (if c.ord = true then 1 else 0)), numP (u64 c.cn), numP (u64 (c.oc + 1))]).1
def valN (x : Int) : List UInt8 := (writeF [numP (u64 x)]).1
theorem nums_64 {l : List Nat} (h : ∀ n ∈ l, n < 18446744073709551616) : n64s (l.map numP) := fun p hp => by
  obtain ⟨n, hn, rfl⟩ := List.mem_map.1 hp
  exact h n hn
theorem nums_b (l : List Nat) : ∀ p ∈ l.map numP, p.b.length ≤ 1048576 := fun p hp => by
  obtain ⟨n, hn, rfl⟩ := List.mem_map.1 hp
  simp [numP]
theorem connb_A (c : ConnD) (h : -1 ≤ c.on ∧ c.on ≤ 1000000000000) : PureD Tryd.prog 65 [connD c] (.i (bI (valCn c))) := by
  refine hide_r fun R hR => ?_
  have c1 := sn_A c.st
  have c2 := sn_A c.cl
  have c3 := sn_A c.oc
  have c4 := sn_A (c.on + 1)
  have w1 : IntKind.i64.wrap (c.on + 1) = c.on + 1 := wrap64 (by omega) (by omega)
  have c5 := spieces_A ([u64 c.st, u64 c.cl, u64 c.oc, u64 (c.on + 1)].map numP) (by simp) (nums_b _) (nums_64 (by simp [u64_lt]))
  unfold valCn at hR
  simp only [List.map_cons, List.map_nil] at c5
  generalize writeF [numP (u64 c.st), numP (u64 c.cl), numP (u64 c.oc), numP (u64 (c.on + 1))] = W at *
  generalize u64 c.st = a1 at *
  generalize u64 c.cl = a2 at *
  generalize u64 c.oc = a3 at *
  generalize u64 (c.on + 1) = a4 at *
  simp only [encP, numP, bI, List.map_nil] at c5
  refine callD_W 18 Tryd.func65 rfl rfl rfl (fun _ _ => rfl) ?_
  exact wkl trivial
theorem chanb_A (c : ChanD) (h : -1 ≤ c.oc ∧ c.oc ≤ 1000000000000) : PureD Tryd.prog 67 [chanD c] (.i (bI (valCh c))) := by
  refine hide_r fun R hR => ?_
  unfold valCh at hR
  have c1 := sn_A c.st
  have c2 := sn_A (if c.ord = true then 1 else 0)
  have c3 := sn_A c.cn
  have c4 := sn_A (c.oc + 1)
  have w1 : IntKind.i64.wrap (c.oc + 1) = c.oc + 1 := wrap64 (by omega) (by omega)
  have c5 := spieces_A ([u64 c.st, u64 (if c.ord = true then 1 else 0), u64 c.cn, u64 (c.oc + 1)].map numP) (by simp) (nums_b _) (nums_64 (by simp [u64_lt]))
  simp only [List.map_cons, List.map_nil] at c5
  generalize writeF [numP (u64 c.st), numP (u64 (if c.ord = true then 1 else 0)), numP (u64 c.cn), numP (u64 (c.oc + 1))] = W at *
  generalize u64 c.st = a1 at *
  generalize u64 c.cn = a2 at *
  generalize u64 (if c.ord = true then 1 else 0) = a3 at *
  generalize u64 (c.oc + 1) = a4 at *
  simp only [encP, numP, bI, List.map_nil] at c5
  cases ho : c.ord
  all_goals
    simp only [ho, Bool.false_eq_true, if_true, if_false] at c2
    refine callD_W 20 Tryd.func67 rfl rfl rfl (fun _ _ => rfl) ?_
    exact wkl trivial
theorem nextb_A (x : Int) : PureD Tryd.prog 69 [intD x] (.i (bI (valN x))) := by
  refine hide_r fun R hR => ?_
  have c1 := sn_A x
  have c5 := spieces_A ([u64 x].map numP) (by simp) (nums_b _) (nums_64 (by simp [u64_lt]))
  unfold valN at hR
  simp only [List.map_cons, List.map_nil] at c5
  generalize writeF [numP (u64 x)] = W at *
  generalize u64 x = a1 at *
  simp only [encP, numP, bI, List.map_nil] at c5
  refine callD_W 7 Tryd.func69 rfl rfl rfl (fun _ _ => rfl) ?_
  exact wkl trivial
end Go.Proofs.YtmclpbcipkdmcaaDoor
/- Connections: what a step comes to. No program is in sight. -/
set_option linter.all false
namespace Go.Proofs.YtmclpbcipkdmcaaDoor
open Go Go.Abs

structure ShownD where
  h : Int
  p : ProofD
  g : GapD
def shD (w : ShownD) : D := .agg [.i (.s (.int .i64 w.h)), .i (.s (.int .i64 w.p.i)), .i (.s (.int .i64 w.p.n)), .i (bI w.p.k), .i (bI w.p.v), .i (bbI w.p.path), .i (.s (.bool w.g.hl)), .i (.s (.bool w.g.hr)),
  .i (.s (.int .i64 w.g.left.i)), .i (.s (.int .i64 w.g.left.n)), .i (bI w.g.left.k), .i (bI w.g.left.v), .i (bbI w.g.left.path), .i (.s (.int .i64 w.g.right.i)), .i (.s (.int .i64 w.g.right.n)), .i (bI w.g.right.k), .i (bI w.g.right.v), .i (bbI w.g.right.path)]
attribute [simp, go_sem] shD
def clAt (s : StateD) (c : Int) : ClientD := s.cls.getD c.toNat zeroC
def overE (s : StateD) (c : Int) : Int := if c < 0 ∨ (s.cls.length : Int) ≤ c then 6 else if activeC (clAt s c) s.t = true then 0 else 12
def zeroCn : ConnD := ⟨0, 0, 0, 0⟩
attribute [simp, go_sem] zeroCn
def cnAt (s : StateD) (i : Int) : ConnD := s.cns.getD i.toNat zeroCn
def shownE (s : StateD) (c «at» : Int) (en : ConnD) (w : ShownD) : Int := memberE (clAt s c) s.t w.h (keyC «at») (valCn en) w.p
abbrev StR := StateD × Int × Int
def addCn (s : StateD) (c : ConnD) : StR := if (s.cns.length : Int) = 8 then (zeroSt, 0, 5) else ({ s with cns := s.cns ++ [c] }, s.cns.length, 0)
def initCn (s : StateD) (c other : Int) : StR :=
  if wrongS s = 0 then (if overE s c = 0 then (if other < 0 ∨ 1000000000000 < other then (zeroSt, 0, 3) else addCn s ⟨1, c, other, -1⟩) else (zeroSt, 0, overE s c)) else (zeroSt, 0, wrongS s)
def tryCn (s : StateD) (c other oc : Int) (w : ShownD) : StR :=
  if wrongS s = 0 then (if overE s c = 0 then (if other < 0 ∨ 1000000000000 < other ∨ oc < 0 ∨ 1000000000000 < oc then (zeroSt, 0, 3) else
    if shownE s c oc ⟨1, other, c, -1⟩ w = 0 then addCn s ⟨2, c, other, oc⟩ else (zeroSt, 0, shownE s c oc ⟨1, other, c, -1⟩ w)) else (zeroSt, 0, overE s c)) else (zeroSt, 0, wrongS s)
def endCn (s : StateD) (i want : Int) : ConnD × Int :=
  if wrongS s = 0 then (if i < 0 ∨ (s.cns.length : Int) ≤ i then (zeroCn, 6) else if (cnAt s i).st = want then (cnAt s i, overE s (cnAt s i).cl) else (zeroCn, 12)) else (zeroCn, wrongS s)
def openCn (s : StateD) (i oc : Int) : StateD := { s with cns := s.cns.set i.toNat { cnAt s i with st := 3, on := oc } }
def ackCn (s : StateD) (i oc : Int) (w : ShownD) : StateD × Int :=
  if (endCn s i 1).2 = 0 then (if oc < 0 ∨ 1000000000000 < oc then (zeroSt, 3) else
    if shownE s (cnAt s i).cl oc ⟨2, (cnAt s i).oc, (cnAt s i).cl, i⟩ w = 0 then (openCn s i oc, 0) else (zeroSt, shownE s (cnAt s i).cl oc ⟨2, (cnAt s i).oc, (cnAt s i).cl, i⟩ w)) else (zeroSt, (endCn s i 1).2)
def confCn (s : StateD) (i : Int) (w : ShownD) : StateD × Int :=
  if (endCn s i 2).2 = 0 then (if (cnAt s i).on < 0 then (zeroSt, 8) else
    if shownE s (cnAt s i).cl (cnAt s i).on ⟨3, (cnAt s i).oc, (cnAt s i).cl, i⟩ w = 0 then (openCn s i (cnAt s i).on, 0) else (zeroSt, shownE s (cnAt s i).cl (cnAt s i).on ⟨3, (cnAt s i).oc, (cnAt s i).cl, i⟩ w)) else (zeroSt, (endCn s i 2).2)
/-- a connection that stands so -/
theorem endCn_zero {s : StateD} {i want : Int} : (endCn s i want).2 = 0 ↔ StOk s ∧ (0 ≤ i ∧ i < (s.cns.length : Int)) ∧ (cnAt s i).st = want ∧ overE s (cnAt s i).cl = 0 := by
  unfold endCn
  rw [← wrongS_zero]
  constructor
  · intro h
    split at h
    · split at h
      · cases h
      · split at h
        · exact ⟨by assumption, by omega, by assumption, h⟩
        · cases h
    · exact absurd h ‹_›
  · rintro ⟨a, b, c, d⟩
    rw [if_pos a, if_neg (by omega), if_pos c]; exact d
theorem endCn_fst {s : StateD} {i want : Int} (h : (endCn s i want).2 = 0) : endCn s i want = (cnAt s i, 0) := by
  obtain ⟨a, b, c, d⟩ := endCn_zero.1 h
  unfold endCn
  rw [if_pos (wrongS_zero.2 a), if_neg (by omega), if_pos c, d]
theorem overE_zero {s : StateD} {c : Int} : overE s c = 0 ↔ (0 ≤ c ∧ c < (s.cls.length : Int)) ∧ activeC (clAt s c) s.t = true := by
  unfold overE
  constructor
  · intro h
    split at h
    · cases h
    · split at h
      · exact ⟨by omega, by assumption⟩
      · cases h
  · rintro ⟨a, b⟩
    rw [if_neg (by omega), if_pos b]
theorem cnAt_mem {s : StateD} {i : Int} (h : 0 ≤ i ∧ i < (s.cns.length : Int)) : cnAt s i = s.cns[i.toNat]'(by omega) ∧ cnAt s i ∈ s.cns := by
  have e : cnAt s i = s.cns[i.toNat]'(by omega) := by
    unfold cnAt
    rw [List.getD_eq_getElem?_getD, List.getElem?_eq_getElem (by omega)]; rfl
  exact ⟨e, by rw [e]; exact List.getElem_mem _⟩
theorem clAt_mem {s : StateD} {i : Int} (h : 0 ≤ i ∧ i < (s.cls.length : Int)) : clAt s i = s.cls[i.toNat]'(by omega) ∧ clAt s i ∈ s.cls := by
  have e : clAt s i = s.cls[i.toNat]'(by omega) := by
    unfold clAt
    rw [List.getD_eq_getElem?_getD, List.getElem?_eq_getElem (by omega)]; rfl
  exact ⟨e, by rw [e]; exact List.getElem_mem _⟩
end Go.Proofs.YtmclpbcipkdmcaaDoor
/- Channels: what a step comes to. No program is in sight. -/
set_option linter.all false
namespace Go.Proofs.YtmclpbcipkdmcaaDoor
open Go Go.Abs

def zeroCh : ChanD := ⟨0, false, 0, 0, 0, 0, 0⟩
attribute [simp, go_sem] zeroCh
def chAt (s : StateD) (i : Int) : ChanD := s.chs.getD i.toNat zeroCh
def overCh (s : StateD) (i : Int) : ConnD × Int :=
  if i < 0 ∨ (s.cns.length : Int) ≤ i then (zeroCn, 6)
  else if (cnAt s i).st = 3 then
    (if (cnAt s i).on < 0 then (zeroCn, 8)
    else if (s.cls.length : Int) ≤ (cnAt s i).cl then (zeroCn, 6)
    else if activeC (clAt s (cnAt s i).cl) s.t = true then (cnAt s i, 0) else (zeroCn, 12))
  else (zeroCn, 12)
def shownHE (s : StateD) (c : ConnD) («at» : Int) (en : ChanD) (w : ShownD) : Int := memberE (clAt s c.cl) s.t w.h (keyH «at») (valCh en) w.p
def addCh (s : StateD) (c : ChanD) : StR := if (s.chs.length : Int) = 8 then (zeroSt, 0, 5) else ({ s with chs := s.chs ++ [{ c with snd := 1, rcv := 1, ack := 1 }] }, s.chs.length, 0)
def initCh (s : StateD) (i : Int) (o : Bool) : StR :=
  if wrongS s = 0 then (if (overCh s i).2 = 0 then addCh s ⟨1, o, i, -1, 0, 0, 0⟩ else (zeroSt, 0, (overCh s i).2)) else (zeroSt, 0, wrongS s)
def tryCh (s : StateD) (i : Int) (o : Bool) (other : Int) (w : ShownD) : StR :=
  if wrongS s = 0 then (if (overCh s i).2 = 0 then (if other < 0 ∨ 1000000000000 < other then (zeroSt, 0, 3) else
    if shownHE s (cnAt s i) other ⟨1, o, (cnAt s i).on, -1, 0, 0, 0⟩ w = 0 then addCh s ⟨2, o, i, other, 0, 0, 0⟩ else (zeroSt, 0, shownHE s (cnAt s i) other ⟨1, o, (cnAt s i).on, -1, 0, 0, 0⟩ w)) else (zeroSt, 0, (overCh s i).2)) else (zeroSt, 0, wrongS s)
def endCh (s : StateD) (i want : Int) : ChanD × ConnD × Int :=
  if wrongS s = 0 then (if i < 0 ∨ (s.chs.length : Int) ≤ i then (zeroCh, zeroCn, 6) else if (chAt s i).st = want then (chAt s i, (overCh s (chAt s i).cn).1, (overCh s (chAt s i).cn).2) else (zeroCh, zeroCn, 12)) else (zeroCh, zeroCn, wrongS s)
def nowCh (s : StateD) (i how other : Int) : StateD := { s with chs := s.chs.set i.toNat { chAt s i with st := how, oc := other } }
def ackCh (s : StateD) (i other : Int) (w : ShownD) : StateD × Int :=
  if (endCh s i 1).2.2 = 0 then (if other < 0 ∨ 1000000000000 < other then (zeroSt, 3) else
    if shownHE s (endCh s i 1).2.1 other ⟨2, (chAt s i).ord, (endCh s i 1).2.1.on, i, 0, 0, 0⟩ w = 0 then (nowCh s i 3 other, 0) else (zeroSt, shownHE s (endCh s i 1).2.1 other ⟨2, (chAt s i).ord, (endCh s i 1).2.1.on, i, 0, 0, 0⟩ w)) else (zeroSt, (endCh s i 1).2.2)
/-- confirm (want 2, say 3, become 3), closed (want 3, say 4, become 4) -/
def confCh (want say : Int) (s : StateD) (i : Int) (w : ShownD) : StateD × Int :=
  if (endCh s i want).2.2 = 0 then (if (chAt s i).oc < 0 then (zeroSt, 8) else
    if shownHE s (endCh s i want).2.1 (chAt s i).oc ⟨say, (chAt s i).ord, (endCh s i want).2.1.on, i, 0, 0, 0⟩ w = 0 then (nowCh s i say (chAt s i).oc, 0) else (zeroSt, shownHE s (endCh s i want).2.1 (chAt s i).oc ⟨say, (chAt s i).ord, (endCh s i want).2.1.on, i, 0, 0, 0⟩ w)) else (zeroSt, (endCh s i want).2.2)
def closeCh (s : StateD) (i : Int) : StateD × Int := if (endCh s i 3).2.2 = 0 then (nowCh s i 4 (chAt s i).oc, 0) else (zeroSt, (endCh s i 3).2.2)
theorem overCh_zero {s : StateD} {i : Int} : (overCh s i).2 = 0 ↔ (0 ≤ i ∧ i < (s.cns.length : Int)) ∧ (cnAt s i).st = 3 ∧ 0 ≤ (cnAt s i).on ∧ (cnAt s i).cl < (s.cls.length : Int) ∧ activeC (clAt s (cnAt s i).cl) s.t = true := by
  unfold overCh
  constructor
  · intro h
    split at h
    · cases h
    · split at h
      · split at h
        · cases h
        · split at h
          · cases h
          · split at h
            · exact ⟨by omega, by assumption, by omega, by omega, by assumption⟩
            · cases h
      · cases h
  · rintro ⟨a, b, c, d, e⟩
    rw [if_neg (by omega), if_pos b, if_neg (by omega), if_neg (by omega), if_pos e]
theorem overCh_fst {s : StateD} {i : Int} (h : (overCh s i).2 = 0) : overCh s i = (cnAt s i, 0) := by
  obtain ⟨a, b, c, d, e⟩ := overCh_zero.1 h
  unfold overCh
  rw [if_neg (by omega), if_pos b, if_neg (by omega), if_neg (by omega), if_pos e]
theorem endCh_zero {s : StateD} {i want : Int} : (endCh s i want).2.2 = 0 ↔ StOk s ∧ (0 ≤ i ∧ i < (s.chs.length : Int)) ∧ (chAt s i).st = want ∧ (overCh s (chAt s i).cn).2 = 0 := by
  unfold endCh
  rw [← wrongS_zero]
  constructor
  · intro h
    split at h
    · split at h
      · cases h
      · split at h
        · exact ⟨by assumption, by omega, by assumption, h⟩
        · cases h
    · exact absurd h ‹_›
  · rintro ⟨a, b, c, d⟩
    rw [if_pos a, if_neg (by omega), if_pos c]; exact d
theorem endCh_fst {s : StateD} {i want : Int} (h : (endCh s i want).2.2 = 0) : endCh s i want = (chAt s i, cnAt s (chAt s i).cn, 0) := by
  obtain ⟨a, b, c, d⟩ := endCh_zero.1 h
  unfold endCh
  rw [if_pos (wrongS_zero.2 a), if_neg (by omega), if_pos c, overCh_fst d]
theorem chAt_mem {s : StateD} {i : Int} (h : 0 ≤ i ∧ i < (s.chs.length : Int)) : chAt s i = s.chs[i.toNat]'(by omega) ∧ chAt s i ∈ s.chs := by
  have e : chAt s i = s.chs[i.toNat]'(by omega) := by
    unfold chAt
    rw [List.getD_eq_getElem?_getD, List.getElem?_eq_getElem (by omega)]; rfl
  exact ⟨e, by rw [e]; exact List.getElem_mem _⟩
end Go.Proofs.YtmclpbcipkdmcaaDoor
/- state.Wrong: by value. -/
set_option linter.all false
namespace Go.Proofs.YtmclpbcipkdmcaaDoor
open Go Go.Abs Go.RowKit Go.Proofs.YtmclpbcipkdmcaaDoor.Ty

set_option maxHeartbeats 8000000
set_option maxRecDepth 20000
theorem snum_A (n least : Int) : PureD Tryd.prog 91 [intD n, intD least] (boolD (nm n least)) := by
  refine hide_r fun R hR => ?_
  unfold nm at hR
  by_cases h1 : least ≤ n <;> by_cases h2 : n ≤ 1000000000000 <;> simp [h1, h2] at hR
  all_goals
    refine callD_W 12 Tryd.func91 rfl rfl rfl (fun _ _ => rfl) ?_
    exact wkl trivial
theorem sconn_A (c : ConnD) : PureD Tryd.prog 51 [.rp (encCn c) 0] (intD (cnE c)) := by
  refine hide_r fun R hR => ?_
  have c1 := snum_A c.cl 0
  have c2 := snum_A c.oc 0
  have c3 := snum_A c.on (-1)
  unfold cnE at hR
  refine callD_W 39 Tryd.func51 rfl rfl rfl (fun _ _ => rfl) ?_
  exact wkl trivial
theorem schan_A (c : ChanD) : PureD Tryd.prog 52 [.rp (encCh c) 0] (intD (chE c)) := by
  refine hide_r fun R hR => ?_
  have c1 := snum_A c.cn 0
  have c2 := snum_A c.oc (-1)
  have c3 := snum_A c.snd 1
  have c4 := snum_A c.rcv 1
  have c5 := snum_A c.ack 1
  unfold chE at hR
  refine callD_W 55 Tryd.func52 rfl rfl rfl (fun _ _ => rfl) ?_
  exact wkl trivial
theorem sorder_A (m : MarkD) (ch seq : Int) : PureD Tryd.prog 92 [markD m, intD ch, intD seq] (intD (orderW m ch seq)) := by
  refine hide_r fun R hR => ?_
  unfold orderW at hR
  refine callD_W 19 Tryd.func92 rfl rfl rfl (fun _ _ => rfl) ?_
  exact wkl trivial
theorem smarks_A (l : List MarkD) (hl : l.length ≤ 1048576) : PureD Tryd.prog 53 [.i (.sl (l.map encM))] (intD (mksE none l)) := by
  refine hide_r fun R hR => ?_
  refine callD_W 45 Tryd.func53 rfl rfl rfl (fun _ _ => rfl) ?_
  refine wkl ?_
  clear hR; intro hR
  have hR' : Hr (intD (mksE (preA l 0) (l.drop 0))) R := hR
  clear hR
  refine W_loopR (ι := Nat) (fun i => i ≤ l.length ∧ Hr (intD (mksE (preA l i) (l.drop i))) R)
    (fun i => stOf [(0, .i (.sl (l.map encM))), (5, .i (.sl (l.map encM))), (6, intD l.length), (7, intD i)] []) (fun i => l.length - i) 0 ⟨Nat.zero_le _, hR'⟩ ?_ ?_
  · exact le_ok [] []
  · rintro i ⟨hi, hR⟩ RL hL
    clear hR'
    rw [stOf_eq]
    by_cases h : i < l.length
    · have e1 := get_lt (f := encM) h
      rw [List.drop_eq_getElem_cons h, mksE] at hR
      have hnx : preA l (i + 1) = some l[i] := by simp [preA, h]
      rw [← hnx] at hR
      have c1 := snum_A l[i].ch 0
      have c2 := snum_A l[i].seq 1
      have b1 := fun σ' (hq : Hr _ R) => bk [] [] (hL (i + 1) σ' ⟨h, hq⟩)
      clear hL
      cases i with
      | zero =>
        have hp : preA l 0 = none := rfl
        rw [hp] at hR
        simp only [Option.any_none, Bool.false_eq_true, if_false] at hR
        clear hp hnx
        generalize hv0 : l[0] = v at *
        exact wkl trivial
      | succ j =>
        have hj : j < l.length := by omega
        have hp : preA l (j + 1) = some l[j] := by simp [preA, hj]
        have e2 := get_lt (f := encM) hj
        rw [hp] at hR
        simp only [Option.any_some, decide_eq_true_eq] at hR
        have hg0 : (0 : Int) < ((j + 1 : Nat) : Int) := by omega
        have w0 : IntKind.i64.wrap (((j + 1 : Nat) : Int) - 1) = (j : Int) := by rw [wrap64 (by omega) (by omega)]; omega
        have n0 : (((j + 1 : Nat) : Int)).toNat = j + 1 := by omega
        have c3 := sorder_A l[j] l[j + 1].ch l[j + 1].seq
        clear hnx hp
        generalize hv0 : l[j + 1] = v at *
        generalize hq0 : l[j] = q at *
        exact wkl trivial
    · rw [List.drop_eq_nil_of_le (by omega), mksE] at hR
      exact wkl trivial
theorem spurses_A (l : List PurseD) (hl : l.length ≤ 1048576) : PureD Tryd.prog 54 [.i (pusI l)] (intD (pusE none l)) := by
  refine hide_r fun R hR => ?_
  refine callD_W 76 Tryd.func54 rfl rfl rfl (fun _ _ => rfl) ?_
  refine wkl ?_
  clear hR; intro hR
  have hR' : Hr (intD (pusE (preA l 0) (l.drop 0))) R := hR
  clear hR
  refine W_loopR (ι := Nat) (fun i => i ≤ l.length ∧ Hr (intD (pusE (preA l i) (l.drop i))) R)
    (fun i => stOf [(0, .i (pusI l)), (5, .i (pusI l)), (6, intD l.length), (7, intD i)] []) (fun i => l.length - i) 0 ⟨Nat.zero_le _, hR'⟩ ?_ ?_
  · exact le_ok [] []
  · rintro i ⟨hi, hR⟩ RL hL
    clear hR'
    rw [stOf_eq]
    by_cases h : i < l.length
    · have e1 := get_lt (f := encPu) h
      rw [List.drop_eq_getElem_cons h, pusE] at hR
      have hnx : preA l (i + 1) = some l[i] := by simp [preA, h]
      rw [← hnx] at hR
      have b1 := fun σ' (hq : Hr _ R) => bk [] [] (hL (i + 1) σ' ⟨h, hq⟩)
      clear hL
      cases i with
      | zero =>
        have hp : preA l 0 = none := rfl
        rw [hp] at hR
        simp only [Option.any_none, Bool.false_eq_true, if_false] at hR
        clear hp hnx
        generalize hv0 : l[0] = v at *
        exact wkl trivial
      | succ j =>
        have hj : j < l.length := by omega
        have hp : preA l (j + 1) = some l[j] := by simp [preA, hj]
        have e2 := get_lt (f := encPu) hj
        rw [hp] at hR
        simp only [Option.any_some, decide_eq_true_eq] at hR
        have hg0 : (0 : Int) < ((j + 1 : Nat) : Int) := by omega
        have w0 : IntKind.i64.wrap (((j + 1 : Nat) : Int) - 1) = (j : Int) := by rw [wrap64 (by omega) (by omega)]; omega
        have n0 : (((j + 1 : Nat) : Int)).toNat = j + 1 := by omega
        clear hnx hp
        generalize hv0 : l[j + 1] = v at *
        generalize hq0 : l[j] = q at *
        by_cases hqo : q.o = v.o
        · have h0 : cmpS v.o v.o = 0 := cmpS_zero.2 rfl
          simp only [hqo, h0, Int.lt_irrefl, true_and, false_or] at hR
          exact wkl trivial
        · have hqb : (q.o == v.o) = false := by rw [beqS'']; exact hqo
          simp only [hqo, false_and, or_false] at hR
          exact wkl trivial
    · rw [List.drop_eq_nil_of_le (by omega), pusE] at hR
      exact wkl trivial
end Go.Proofs.YtmclpbcipkdmcaaDoor
/- Lists over lists: plain. -/
set_option linter.all false
namespace Go.Proofs.YtmclpbcipkdmcaaDoor
open Go Go.Abs Go.RowKit
theorem over_at {a b E : List (List I)} {off : Nat} (h : off = a.length) : over (a ++ b) off E = a ++ (E ++ b.drop E.length) := by
  subst h
  unfold over
  have hd : List.drop (a.length + E.length) (a ++ b) = b.drop E.length := by
    rw [List.drop_append, List.drop_eq_nil_of_le (Nat.le_add_right _ _), List.nil_append, Nat.add_sub_cancel_left]
  rw [List.take_left, List.append_assoc, hd]
theorem ins_shift {es : List (List I)} {p : List I} {i : Nat} (hlt : i < es.length) : over (over es (i + 1) (es.drop i)) i [p] = es.take i ++ p :: es.drop i := by
  have hd : (es.drop (i + 1)).drop (es.drop i).length = [] := List.drop_eq_nil_of_le (by simp; omega)
  have h1 : over es (i + 1) (es.drop i) = es.take (i + 1) ++ (es.drop i ++ []) := by
    have := over_at (a := es.take (i + 1)) (b := es.drop (i + 1)) (E := es.drop i) (off := i + 1) (by simp; omega)
    rw [List.take_append_drop, hd] at this
    exact this
  rw [h1, List.append_nil, List.take_succ_eq_append_getElem hlt, List.append_assoc, over_at (by simp; omega)]
  simp
theorem ins_grow {es R : List (List I)} {p : List I} {i : Nat} (hlt : i < es.length) (hR : R.length = es.length + 1 - i) : over (over (es.take i ++ R) i [p]) (i + 1) (es.drop i) = es.take i ++ p :: es.drop i := by
  rw [over_at (by simp; omega)]
  have h1 : es.take i ++ ([p] ++ R.drop [p].length) = (es.take i ++ [p]) ++ R.drop 1 := by simp
  have hd : (R.drop 1).drop (es.drop i).length = [] := List.drop_eq_nil_of_le (by simp only [List.length_drop]; omega)
  rw [h1, over_at (by simp; omega), hd]
  simp
theorem over_len {es E : List (List I)} {off : Nat} (h : off + E.length ≤ es.length) : (over es off E).length = es.length := by
  simp [over]; omega
theorem uN {n : Nat} {es : List (List I)} (h : ∀ e ∈ es, e.length = n) : uni n es = true := by
  simp only [uni, List.all_eq_true, beq_iff_eq]; exact h
theorem del_over {es R : List (List I)} {i : Nat} (hlt : i < es.length) : (over (over es i (es.drop (i + 1))) (es.length - 1) R).take (es.length - 1) = es.take i ++ es.drop (i + 1) := by
  have h1 : over es i (es.drop (i + 1)) = (es.take i ++ es.drop (i + 1)) ++ (es.drop i).drop (es.drop (i + 1)).length := by
    have := over_at (a := es.take i) (b := es.drop i) (E := es.drop (i + 1)) (off := i) (by simp; omega)
    rw [List.take_append_drop] at this
    rw [this, List.append_assoc]
  have hl : (es.take i ++ es.drop (i + 1)).length = es.length - 1 := by simp; omega
  rw [h1, over_at hl.symm, ← hl, List.take_left]
end Go.Proofs.YtmclpbcipkdmcaaDoor
/- slices.Insert at api.Mark: contract over own slices. -/
set_option linter.all false
namespace Go.Proofs.YtmclpbcipkdmcaaDoor
open Go Go.Abs Go.RowKit Go.Proofs.YtmclpbcipkdmcaaDoor.Ty
theorem tyInsMk0 : (type_of% @Ty.T3) ∧ (type_of% @Ty.T4) ∧ (type_of% @Ty.T5) ∧ (type_of% @Ty.T25) ∧ (type_of% @Ty.T29) ∧ (type_of% @Ty.T79) := ⟨@Ty.T3, @Ty.T4, @Ty.T5, @Ty.T25, @Ty.T29, @Ty.T79⟩

theorem overlaps_Mk {G : Nat → Ob} {o o2 off off2 len len2 cap : Nat} {es es2 : List (List I)} (ho : G o = .arr 3 es) (ho2 : G o2 = .arr 3 es2) (hne : o ≠ o2) (h1 : 0 < len) (h2 : 0 < len2) :
    DirD Tryd.prog 129 [.os o2 3 off2 len2, .oc o 3 off len cap] G (boolD false) G := by
  intro K0 T K vs hr hrd
  obtain ⟨hs, hg⟩ := hrd
  have e : vs = #[vs.getD 0 undef, vs.getD 1 undef] := by
    apply Array.ext
    · simpa using hs
    · intro i h1 h2
      simp at hs
      have : i = 0 ∨ i = 1 := by omega
      rcases this with rfl | rfl <;> simp [Array.getD, hs]
  have hrun := overlaps_run (P := Tryd.prog) (t := 25) (tR := 4) (s := 3) Tryd.underlying25 (sz_run (by kernel_rfl)) hr (hg 0 _ rfl) (hg 1 _ rfl) ho ho2 hne h1 h2
  rw [e]
  refine ⟨.bool false, K, ?_, Ext.refl K, hr, .i (.s _ rfl)⟩
  rw [run_callFunc_extern Tryd.func129 (by kernel_rfl) (by kernel_rfl) (by kernel_rfl) (e := Extern.SlicesOverlaps.overlaps #[25, 25] #[4]) (by kernel_rfl), hrun]
  rfl

set_option maxHeartbeats 4000000
theorem insert_Mk (es : List (List I)) (p : List I) (i : Nat) (hi : i ≤ es.length) (hl : es.length ≤ 1048576) (hu : ∀ e ∈ es, e.length = 3) (hp : p.length = 3) :
    CallD Tryd.prog 106 [.os 0 3 0 es.length, intD i, .os 2 3 0 1] (hF [(0, .arr 3 es), (2, .arr 3 [p])]) (.os 1 3 0 (es.length + 1))
      (hOf (hF [(0, .arr 3 es), (2, .arr 3 [p])]) [(1, .arr 3 (es.take i ++ p :: es.drop i))]) := by
  have hu2 := uN hu
  by_cases hin : i = es.length
  · subst hin
    have e3 : es.length + 1 ≤ 140737488355328 := by omega
    have e4 : (es.length + 1) * 40 ≤ 140737488355328 := by omega
    refine callD_W 95 Tryd.func106 rfl rfl rfl (fun o ho => by simp [hF, lk, show o ≠ 0 by omega, show o ≠ 1 by omega, show o ≠ 2 by omega, show o ≠ 3 by omega, show o ≠ 4 by omega, show o ≠ 5 by omega]) ?_
    (repeat (first | (simp -implicitDefEqProofs only [ev, mixed, Nat.reduceLT, Nat.reduceAdd, Nat.reduceMul, reduceIte, Nat.reduceEqDiff, reduceCtorEq, Nat.reducePow, Nat.reduceLeDiff, Int.reduceLE, Int.reduceLT, Int.reduceToNat, Int.reduceEq, Nat.reduceBEq, itsOf, gdA, byteI, opid, lenQ, ixQ, ldH, readAt, readCells, asCell, faQ, exQ, fldQ, partA, buildQ, slQ, stH, bslH, appH, dcells, convI, elemsOf, D.one, nilS, fillD, convN, cvH, tyInsMk0, intD, e3, e4, hp, hu2, Int.le_refl, Nat.sub_self]) | (with_reducible refine ⟨?_, ?_⟩; (· first | (obtain ⟨rfl⟩ := ‹Hq _ _›; with_reducible refine chk_ok ?_; kernel_rfl) | kernel_rfl)) | (with_reducible intro ops hops)))
    refine fin_retD [(1, .arr 3 (es ++ [p]))] [] [(1, 2794)] rfl ?_ ?_ rfl ?_ rfl
    · simp [cv, cv1, cv0, upd, srcR, hF, lk]
    · simp [objOk, srcR, lk, cvO, frz, upd, hF]
    · simp [hF, lk]
  · have hlt : i < es.length := by omega
    refine oc_case (by omega) fun c hc => ?_
    have g1 : decide ((i : Int) = (es.length : Int)) = false := decide_eq_false (by omega)
    have w1 : IntKind.i64.wrap ((es.length : Int) + 1) = ((es.length + 1 : Nat) : Int) := by rw [wrap64 (by omega) (by omega)]; omega
    have w2 : IntKind.i64.wrap ((i : Int) + 1) = ((i + 1 : Nat) : Int) := by rw [wrap64 (by omega) (by omega)]; omega
    have l1 : (i ≤ es.length) = True := eq_true (by omega)
    have l2 : (es.length ≤ c) = True := eq_true (by omega)
    have l3 : (i ≤ es.length + 1) = True := eq_true (by omega)
    have l6 : (i ≤ c) = True := eq_true (by omega)
    have l4 : (i + 1 ≤ es.length + 1) = True := eq_true (by omega)
    have m2 : i + (es.length - i) = es.length := by omega
    have m4 : min 1 (es.length + 1 - i) = 1 := by omega
    have l7 : (es.length - i ≤ es.length + 1 - i) = True := eq_true (by omega)
    have l8 : (i + 1 ≤ es.length) = True := eq_true (by omega)
    have tk : (es.drop i).take (es.length - i) = es.drop i := List.take_of_length_le (by simp)
    have hu3 : uni 3 (es.drop i) = true := uN fun e he => hu e (List.mem_of_mem_drop he)
    by_cases hroom : es.length + 1 ≤ c
    · have g2 : decide ((c : Int) < ((es.length + 1 : Nat) : Int)) = false := decide_eq_false (by omega)
      have l5 : (es.length + 1 ≤ c) = True := eq_true (by omega)
      have m1 : min (es.length + 1 - i) (es.length + 1 - (i + 1)) = es.length - i := by omega
      have l9 : (i ≤ (over es (i + 1) (es.drop i)).length) = True := eq_true (by unfold over; simp; omega)
      have hos := ins_shift (p := p) hlt
      refine callD_W 95 Tryd.func106 rfl rfl rfl (fun o ho => by simp [hF, lk, show o ≠ 0 by omega, show o ≠ 1 by omega, show o ≠ 2 by omega, show o ≠ 3 by omega, show o ≠ 4 by omega, show o ≠ 5 by omega]) ?_
      (repeat (first | (simp -implicitDefEqProofs only [ev, mixed, Nat.reduceLT, Nat.reduceAdd, Nat.reduceMul, reduceIte, Nat.reduceEqDiff, reduceCtorEq, Nat.reducePow, Nat.reduceLeDiff, Int.reduceLE, Int.reduceLT, Int.reduceToNat, Int.reduceEq, Nat.reduceBEq, itsOf, gdA, byteI, opid, lenQ, ixQ, ldH, readAt, readCells, asCell, faQ, exQ, fldQ, partA, buildQ, slQ, stH, bslH, appH, dcells, convI, elemsOf, D.one, nilS, fillD, convN, cvH, tyInsMk0, intD, slX, capX, lenX, g1, g2, w1, w2, l1, l2, l3, l4, l5, true_or, Nat.sub_zero, Nat.zero_le, l6, hp, hu2]) | (with_reducible refine ⟨?_, ?_⟩; (· first | (obtain ⟨rfl⟩ := ‹Hq _ _›; with_reducible refine chk_ok ?_; kernel_rfl) | kernel_rfl)) | (with_reducible intro ops hops)))
      refine ⟨_, _, .inr (overlaps_Mk (len := es.length + 1 - (i + 1)) (len2 := 1) (by simp [hF, lk]; rfl) (by simp [hF, lk]; rfl) (by decide) (by omega) (by omega)), ?_⟩
      (repeat (first | (simp -implicitDefEqProofs only [ev, mixed, Nat.reduceLT, Nat.reduceAdd, Nat.reduceMul, reduceIte, Nat.reduceEqDiff, reduceCtorEq, Nat.reducePow, Nat.reduceLeDiff, Int.reduceLE, Int.reduceLT, Int.reduceToNat, Int.reduceEq, Nat.reduceBEq, itsOf, gdA, byteI, opid, lenQ, ixQ, ldH, readAt, readCells, asCell, faQ, exQ, fldQ, partA, buildQ, slQ, stH, bslH, appH, dcells, convI, elemsOf, D.one, nilS, fillD, convN, cvH, tyInsMk0, boolD, intD, slX, capX, lenX, cpX, dstX, lenS, srcX, w1, w2, l1, l2, l3, l4, l5, true_or, Nat.sub_zero, Nat.zero_le, l6, hp, hu2, m1, m2, m4, l7, l8, l9, tk, hu3]) | (with_reducible refine ⟨?_, ?_⟩; (· first | (obtain ⟨rfl⟩ := ‹Hq _ _›; with_reducible refine chk_ok ?_; kernel_rfl) | kernel_rfl)) | (with_reducible intro ops hops)))
      have hos2 : (over (over es (i + 1) (es.drop i)) i [p]).take (es.length + 1) = es.take i ++ p :: es.drop i := by rw [hos]; exact List.take_of_length_le (by simp; omega)
      rw [← hos2]
      exact fin_oc (o := 0) (cap := c) rfl (by simp [upd]) (by simp [upd, hF, lk]) (by simp [upd, hF, lk]) (by simp [hF, lk]) (by simp [hF, lk])
    · have g2 : decide ((c : Int) < ((es.length + 1 : Nat) : Int)) = true := decide_eq_true (by omega)
      have l5 : (c < es.length + 1) = True := eq_true (by omega)
      have s1 : i + (es.length + 1 - i) = es.length + 1 := by omega
      have e3 : es.length + 1 ≤ 140737488355328 := by omega
      have e4 : (es.length + 1) * 40 ≤ 140737488355328 := by omega
      have m1 : min (es.length - i) (es.length + 1 - (i + 1)) = es.length - i := by omega
      have L1 : ((i : Int) ≤ ((es.length + 1 : Nat) : Int)) = True := eq_true (by omega)
      have L2 : (((i + 1 : Nat) : Int) ≤ ((es.length + 1 : Nat) : Int)) = True := eq_true (by omega)
      have hti : (es.take i).length = i := by simp; omega
      have l9 : (i + 1 ≤ (over (es.take i ++ List.replicate (es.length + 1 - i) [I.s (.int .i64 0), I.s (.int .i64 0), I.sl []]) i [p]).length) = True := eq_true (by rw [over_len (by simp; omega)]; simp; omega)
      have hos := ins_grow (es := es) (R := List.replicate (es.length + 1 - i) [I.s (.int .i64 0), I.s (.int .i64 0), I.sl []]) (p := p) hlt (by simp)
      have w3 : IntKind.i64.wrap (((es.length + 1 : Nat) : Int) - (i : Int)) = ((es.length + 1 - i : Nat) : Int) := by rw [wrap64 (by omega) (by omega)]; omega
      refine callD_W 95 Tryd.func106 rfl rfl rfl (fun o ho => by simp [hF, lk, show o ≠ 0 by omega, show o ≠ 1 by omega, show o ≠ 2 by omega, show o ≠ 3 by omega, show o ≠ 4 by omega, show o ≠ 5 by omega]) ?_
      (repeat (first | (simp -implicitDefEqProofs only [ev, mixed, Nat.reduceLT, Nat.reduceAdd, Nat.reduceMul, reduceIte, Nat.reduceEqDiff, reduceCtorEq, Nat.reducePow, Nat.reduceLeDiff, Int.reduceLE, Int.reduceLT, Int.reduceToNat, Int.reduceEq, Nat.reduceBEq, itsOf, gdA, byteI, opid, lenQ, ixQ, ldH, readAt, readCells, asCell, faQ, exQ, fldQ, partA, buildQ, slQ, stH, bslH, appH, dcells, convI, elemsOf, D.one, nilS, fillD, convN, cvH, tyInsMk0, intD, slX, capX, lenX, apX, cpX, dstX, lenS, srcX, g1, g2, w1, w2, w3, l1, l2, l3, l4, l5, true_or, Nat.sub_zero, Nat.zero_le, l6, hp, hu2, s1, e3, e4, L1, L2, m4, m1, m2, hti, l7, l8, l9, tk, hu3]) | (with_reducible refine ⟨?_, ?_⟩; (· first | (obtain ⟨rfl⟩ := ‹Hq _ _›; with_reducible refine chk_ok ?_; kernel_rfl) | kernel_rfl)) | (with_reducible intro ops hops)))
      refine fin_retD [(1, .arr 3 (es.take i ++ p :: es.drop i))] [] [(1, 3312)] rfl ?_ ?_ rfl ?_ rfl
      · simp [cv, cv1, cv0, upd, srcR, hF, lk]
      · simp [objOk, srcR, lk, cvO, frz, upd, hF, hos]
      · simp [hF, lk]
end Go.Proofs.YtmclpbcipkdmcaaDoor
/- slices.Delete at api.Mark: contract over an own slice. -/
set_option linter.all false
namespace Go.Proofs.YtmclpbcipkdmcaaDoor
open Go Go.Abs Go.RowKit Go.Proofs.YtmclpbcipkdmcaaDoor.Ty
theorem tyDelMk0 : (type_of% @Ty.T3) ∧ (type_of% @Ty.T5) ∧ (type_of% @Ty.T25) ∧ (type_of% @Ty.T29) ∧ (type_of% @Ty.T79) := ⟨@Ty.T3, @Ty.T5, @Ty.T25, @Ty.T29, @Ty.T79⟩

set_option maxHeartbeats 4000000
theorem delete_Mk (es : List (List I)) (i : Nat) (hi : i < es.length) (hl : es.length ≤ 1048576) (hu : ∀ e ∈ es, e.length = 3) :
    CallD Tryd.prog 116 [.os 0 3 0 es.length, intD i, intD (i + 1 : Nat)] (hF [(0, .arr 3 es)]) (.os 1 3 0 (es.length - 1))
      (hOf (hF [(0, .arr 3 es)]) [(1, .arr 3 (es.take i ++ es.drop (i + 1)))]) := by
  have hu2 := uN hu
  have hu3 : uni 3 (es.drop (i + 1)) = true := uN fun e he => hu e (List.mem_of_mem_drop he)
  refine oc_case (by omega) fun c hc => ?_
  have g1 : decide ((i : Int) = ((i + 1 : Nat) : Int)) = false := decide_eq_false (by omega)
  have l1 : (i ≤ i + 1) = True := eq_true (by omega)
  have l2 : (i + 1 ≤ es.length) = True := eq_true (by omega)
  have l3 : (es.length ≤ c) = True := eq_true (by omega)
  have l4 : (i ≤ c) = True := eq_true (by omega)
  have l5 : (i ≤ es.length) = True := eq_true (by omega)
  have l6 : (es.length - 1 ≤ es.length) = True := eq_true (by omega)
  have l7 : (es.length - 1 ≤ c) = True := eq_true (by omega)
  have m1 : i + (es.length - (i + 1)) = es.length - 1 := by omega
  have m2 : i + 1 + (es.length - (i + 1)) = es.length := by omega
  have tk : (es.drop (i + 1)).take (es.length - (i + 1)) = es.drop (i + 1) := List.take_of_length_le (by simp)
  have l8 : (es.length - 1 ≤ (over es i (es.drop (i + 1))).length) = True := eq_true (by unfold over; simp; omega)
  refine callD_W 33 Tryd.func116 rfl rfl rfl (fun o ho => by simp [hF, lk, show o ≠ 0 by omega, show o ≠ 1 by omega, show o ≠ 2 by omega, show o ≠ 3 by omega, show o ≠ 4 by omega, show o ≠ 5 by omega]) ?_
  (repeat (first | (simp -implicitDefEqProofs only [ev, mixed, Nat.reduceLT, Nat.reduceAdd, Nat.reduceMul, reduceIte, Nat.reduceEqDiff, reduceCtorEq, Nat.reducePow, Nat.reduceLeDiff, Int.reduceLE, Int.reduceLT, Int.reduceToNat, Int.reduceEq, Nat.reduceBEq, itsOf, gdA, byteI, opid, lenQ, ixQ, ldH, readAt, readCells, asCell, faQ, exQ, fldQ, partA, buildQ, slQ, stH, bslH, appH, dcells, convI, elemsOf, D.one, nilS, fillD, convN, cvH, tyDelMk0, intD, slX, capX, lenX, apX, clX, cpX, dstX, lenS, srcX, g1, l1, l2, l3, l4, l5, l6, l7, l8, m1, m2, tk, hu2, hu3, or_true, true_or, Nat.sub_zero, Nat.zero_le]) | (with_reducible refine ⟨?_, ?_⟩; (· first | (obtain ⟨rfl⟩ := ‹Hq _ _›; with_reducible refine chk_ok ?_; kernel_rfl) | kernel_rfl)) | (with_reducible intro ops hops)))
  have hos := del_over (R := List.replicate (es.length - (es.length - 1)) [I.s (.int .i64 0), I.s (.int .i64 0), I.sl []]) hi
  rw [← hos]
  exact fin_oc (o := 0) (cap := c) rfl (by simp [upd]) (by simp [upd, hF, lk]) (by simp [upd, hF, lk]) (by simp [hF, lk]) (by simp [hF, lk])
end Go.Proofs.YtmclpbcipkdmcaaDoor
/- state.Find, Put, Drop. -/
set_option linter.all false
namespace Go.Abs
open Go Go.RowKit
/-- A slice of the caller's goes over to another number. -/
theorem ler_moveS {H0 H : Nat → Ob} {o id sz len m : Nat} {es : List (List I)} (hl : 0 < len) (ho : H o = .arr sz es) (hf : H id = .fresh) : LER H0 (.os o sz 0 len) H (.os id sz 0 len) (upd (upd H o .dead) id (.arr sz (es.take m))) := by
  intro K0 E0 T K v hE h0 hr hv
  cases hv with
  | os0 => omega
  | os _ _ _ _ b off' cap q1 q2 q3 q4 q5 =>
    exact ler_move ho hf K0 E0 T K _ hE h0 hr (.oc o sz 0 len cap b off' q1 q2 q3 q4 q5)
theorem fin_os {P : Program} {sl : Nat → D} {H : Nat → Ob} {fn : Func} {i : Tmp} {H0 : Nat → Ob} {o sz len : Nat} {es : List (List I)} (h : fn.results = #[.tmp i]) (hl : 0 < len) (hv : sl i = .os o sz 0 len) (ho : H o = .arr sz es) (hf : H 900 = .fresh) (h1 : H0 1 = .fresh) (h9 : H0 900 = .fresh) :
    Fin P fn H0 (.os 1 sz 0 len) (hOf H0 [(1, .arr sz (es.take len))]) .ret ⟨sl, H⟩ := by
  refine ⟨_, resA_tmp h, ?_⟩
  show LER H0 (sl i) H _ _
  rw [hv]
  refine (ler_moveS (id := 900) (m := len) hl ho hf).trans (ler_of [(1, .arr sz (es.take len))] [] [(1, 900)] ?_ ?_ rfl ?_ rfl)
  · simp [cv, cv1, cv0, srcR, h1, lk]
  · simp [objOk, srcR, h1, lk, cvO, frz, upd]
  · simp [h9]
end Go.Abs
namespace Go.Proofs.YtmclpbcipkdmcaaDoor
open Go Go.Abs Go.RowKit Go.Proofs.YtmclpbcipkdmcaaDoor.Ty

abbrev placeM (l : List MarkD) (ch seq : Int) : Nat := KL.place mk cmpM l (ch, seq)
abbrev getM (l : List MarkD) (ch seq : Int) : Option MarkD := KL.get mk cmpM l (ch, seq)
abbrev putM (l : List MarkD) (m : MarkD) : List MarkD := KL.put mk cmpM l (m.ch, m.seq) (some m)
abbrev dropM (l : List MarkD) (ch seq : Int) : List MarkD := KL.put mk cmpM l (ch, seq) none
set_option maxHeartbeats 8000000
set_option maxRecDepth 20000
theorem mcmp_A (m : MarkD) (ch seq : Int) : PureD Tryd.prog 110 [markD m, intD seq, .rp [.s (.int .i64 ch)] 0] (intD (orderW m ch seq)) := by
  refine hide_r fun R hR => ?_
  have c1 := sorder_A m ch seq
  generalize orderW m ch seq = W at *
  refine callD_W 10 Tryd.func110 rfl rfl rfl (fun _ _ => rfl) ?_
  exact wkl trivial
theorem msearch_A (l : List MarkD) (ch seq : Int) (p : Nat) (hl : l.length ≤ 1048576) (hp : p ≤ l.length) (hm : ∀ a (ha : a < l.length), orderW l[a] ch seq < 0 ↔ a < p) :
    PureD Tryd.prog 109 [.i (.sl (l.map encM)), intD seq, .fn 110 [.rp [.s (.int .i64 ch)] 0]]
      (.tup [intD p, boolD (if ha : p < l.length then decide (orderW l[p] ch seq = 0) else false)]) := by
  refine hide_r fun R hR => ?_
  refine callD_W 49 Tryd.func109 rfl rfl rfl (fun _ _ => rfl) ?_
  refine wkl ?_
  clear hR; intro hR
  refine W_loopR (ι := Nat × Nat) (fun q => q.1 ≤ p ∧ p ≤ q.2 ∧ q.2 ≤ l.length)
    (fun q => stOf [(0, .i (.sl (l.map encM))), (1, intD seq), (2, .fn 110 [.rp [.s (.int .i64 ch)] 0]), (8, intD l.length), (9, intD q.1), (10, intD q.2)] []) (fun q => q.2 - q.1) (0, l.length) ⟨Nat.zero_le _, hp, Nat.le_refl _⟩ ?_ ?_
  · exact le_ok [] []
  · rintro ⟨i, j⟩ ⟨h1, h2, h3⟩ RL hL
    simp only at h1 h2 h3
    rw [stOf_eq]
    by_cases hij : i < j
    · have hml : (i + j) / 2 < l.length := by omega
      have s0 := get_lt (f := encM) hml
      have hmm := hm _ hml
      have c1 := mcmp_A l[(i + j) / 2] ch seq
      have w1 : IntKind.i64.wrap ((i : Int) + (j : Int)) = ((i + j : Nat) : Int) := by rw [wrap64 (by omega) (by omega)]; omega
      have w2 : IntKind.u64.wrap ((i + j : Nat) : Int) = ((i + j : Nat) : Int) := by rw [IntKind.wrap_u64]; omega
      have w3 : ((i + j : Nat) : Int).fdiv (2 ^ min 1 64) = (((i + j) / 2 : Nat) : Int) := by
        rw [show min 1 64 = 1 from rfl, Int.fdiv_eq_ediv_of_nonneg _ (by decide)]; omega
      have w4 : IntKind.i64.wrap (((i + j) / 2 : Nat) : Int) = (((i + j) / 2 : Nat) : Int) := by rw [wrap64 (by omega) (by omega)]
      have hmid1 : i ≤ (i + j) / 2 := by omega
      have hmid2 : (i + j) / 2 < j := by omega
      generalize l[(i + j) / 2] = q at *
      generalize orderW q ch seq = W at *
      by_cases hq : W < 0
      · have b1 := fun σ' => bk [] [] (hL ((i + j) / 2 + 1, j) σ' ⟨hmm.1 hq, h2, h3⟩)
        clear hL
        simp only at b1
        generalize (i + j) / 2 = m at *
        clear hm hmm hR
        exact wkl trivial
      · have b1 := fun σ' => bk [] [] (hL (i, (i + j) / 2) σ' ⟨h1, by have := fun e => hq (hmm.2 e); omega, by omega⟩)
        clear hL
        simp only at b1
        generalize (i + j) / 2 = m at *
        clear hm hmm hR
        exact wkl trivial
    · have hi : i = p := by omega
      subst hi
      clear hL hm
      by_cases hlt : i < l.length
      · have s0 := get_lt (f := encM) hlt
        have c1 := mcmp_A l[i] ch seq
        rw [dif_pos hlt] at hR
        generalize l[i] = q at *
        generalize orderW q ch seq = W at *
        exact wkl trivial
      · rw [dif_neg hlt] at hR
        exact wkl trivial
theorem mplace_case {l : List MarkD} (hk : MksOk l) {ch seq : Int} (h1 : N12 (-1) ch) (h2 : N12 0 seq) : (if h : placeM l ch seq < l.length then decide (orderW l[placeM l ch seq] ch seq = 0) else false) = (getM l ch seq).isSome := by
  unfold getM placeM
  rw [KL.get_place cmpM_ok hk.srt]
  by_cases h : KL.place mk cmpM l (ch, seq) < l.length
  · rw [dif_pos h, dif_pos h, orderW_eq (hk.all _ (List.getElem_mem h)) h1 h2]
    by_cases h2 : cmpM (mk l[KL.place mk cmpM l (ch, seq)]) (ch, seq) = 0
    · rw [if_pos h2, decide_eq_true h2]; rfl
    · rw [if_neg h2, decide_eq_false h2]; rfl
  · rw [dif_neg h, dif_neg h]; rfl
theorem mfind_A (l : List MarkD) (ch seq : Int) (hl : l.length ≤ 1048576) (hk : MksOk l) (h1 : N12 (-1) ch) (h2 : N12 0 seq) :
    PureD Tryd.prog 83 [.i (.sl (l.map encM)), intD ch, intD seq] (.tup [intD (placeM l ch seq), boolD (getM l ch seq).isSome]) := by
  have c1 := msearch_A l ch seq (placeM l ch seq) hl (KL.place_le cmpM_ok l _) (fun a ha => by rw [orderW_eq (hk.all _ (List.getElem_mem ha)) h1 h2]; exact KL.place_iff cmpM_ok hk.srt (ch, seq) a ha)
  rw [mplace_case hk h1 h2] at c1
  refine hide_r fun R hR => ?_
  generalize placeM l ch seq = p at *
  generalize (getM l ch seq).isSome = b at *
  clear hk h1 h2
  refine callD_W 14 Tryd.func83 rfl rfl rfl (fun _ _ => rfl) ?_
  exact wkl trivial
theorem uM (l : List MarkD) : ∀ e ∈ l.map encM, e.length = 3 := by simp [encM]
theorem putM_len {l : List MarkD} (hk : MksOk l) (m : MarkD) : (putM l m).length = if (getM l m.ch m.seq).isSome then l.length else l.length + 1 := by
  unfold putM
  cases hg : getM l m.ch m.seq with
  | none =>
    rw [KL.put_miss cmpM_ok hk.srt hg]
    have := KL.place_le (κ := mk) cmpM_ok l (m.ch, m.seq)
    simp; omega
  | some u =>
    rw [KL.put_hit cmpM_ok hk.srt hg]
    obtain ⟨hp, _⟩ := KL.place_lt cmpM_ok hk.srt hg
    have hp2 : KL.place mk cmpM l (m.ch, m.seq) < l.length := hp
    simp; omega
theorem mput_D (l : List MarkD) (m : MarkD) (hl : l.length ≤ 1000) (hk : MksOk l) (hm : MkOk m) :
    CallD Tryd.prog 81 [.os 0 3 0 l.length, markD m] (hF [(0, .arr 3 (l.map encM))]) (.os 1 3 0 (putM l m).length) (hOf (hF [(0, .arr 3 (l.map encM))]) [(1, .arr 3 ((putM l m).map encM))]) := by
  refine hide_c fun R R' hR hR' => ?_
  have c1 := mfind_A l m.ch m.seq (by omega) hk (by have := hm.ch; unfold N12 at *; omega) (by have := hm.seq; unfold N12 at *; omega)
  have hlen := putM_len hk m
  cases hg : getM l m.ch m.seq with
  | none =>
    rw [hg] at c1 hlen
    have hle := KL.place_le (κ := mk) cmpM_ok l (m.ch, m.seq)
    have e2 := insert_Mk (l.map encM) (encM m) (placeM l m.ch m.seq) (by simpa using hle) (by simp; omega) (uM l) rfl
    have he : (l.map encM).take (placeM l m.ch m.seq) ++ encM m :: (l.map encM).drop (placeM l m.ch m.seq) = (putM l m).map encM := by
      unfold putM; rw [KL.put_miss cmpM_ok hk.srt hg]; simp
    rw [he, List.length_map, ← show (putM l m).length = l.length + 1 from hlen] at e2
    have d1 : SrcIs [] [(1, 901)] := ⟨trivial⟩
    simp only [Option.isSome_none, Bool.false_eq_true, if_false] at c1 hlen
    rw [hlen] at hR
    simp only [encM, bI, intD] at e2
    clear he hk hm hg
    generalize placeM l m.ch m.seq = p at *
    generalize putM l m = L at *
    obtain ⟨rfl⟩ := hR
    obtain ⟨rfl⟩ := hR'
    refine callD_W 27 Tryd.func81 rfl rfl rfl (fun o ho => by simp [hF, lk, show o ≠ 0 by omega, show o ≠ 1 by omega, show o ≠ 2 by omega, show o ≠ 3 by omega, show o ≠ 4 by omega, show o ≠ 5 by omega]) ?_
    exact wkl trivial
  | some u =>
    rw [hg] at c1 hlen
    obtain ⟨hp, hv⟩ := KL.place_lt cmpM_ok hk.srt hg
    have he : (l.map encM).set (placeM l m.ch m.seq) (encM m) = (putM l m).map encM := by
      unfold putM; rw [KL.put_hit cmpM_ok hk.srt hg, ← List.map_set, List.set_eq_take_append_cons_drop, if_pos hp]
    have s0 := get_lt (f := encM) hp
    simp only [Option.isSome_some, if_true] at c1 hlen
    have hl0 : 0 < l.length := by omega
    have hp' : placeM l m.ch m.seq < l.length := hp
    clear hk hm hg hv
    generalize l[KL.place mk cmpM l (m.ch, m.seq)] = q at *
    clear hp
    rw [← he, show (l.map encM).set (placeM l m.ch m.seq) (encM m) = ((l.map encM).set (placeM l m.ch m.seq) (encM m)).take l.length from (List.take_of_length_le (by simp)).symm] at hR'
    rw [hlen] at hR
    clear hlen he
    generalize placeM l m.ch m.seq = p at *
    obtain ⟨rfl⟩ := hR
    obtain ⟨rfl⟩ := hR'
    refine callD_W 27 Tryd.func81 rfl rfl rfl (fun o ho => by simp [hF, lk, show o ≠ 0 by omega, show o ≠ 1 by omega, show o ≠ 2 by omega, show o ≠ 3 by omega, show o ≠ 4 by omega, show o ≠ 5 by omega]) ?_
    refine wkl ?_
    exact fin_os (o := 0) rfl hl0 (by simp [upd]) (by simp [upd]) (by simp [upd, hF, lk]) (by simp [hF, lk]) (by simp [hF, lk])
end Go.Proofs.YtmclpbcipkdmcaaDoor
/- Packets: what a step comes to. No program is in sight. -/
set_option linter.all false
namespace Go.Proofs.YtmclpbcipkdmcaaDoor
open Go Go.Abs

structure PackD where
  fr : Int
  de : Int
  seq : Int
  data : List UInt8
  tout : Int
def encPk (p : PackD) : List I := [.s (.int .i64 p.fr), .s (.int .i64 p.de), .s (.int .i64 p.seq), bI p.data, .s (.int .i64 p.tout)]
def packD (p : PackD) : D := .agg [.i (.s (.int .i64 p.fr)), .i (.s (.int .i64 p.de)), .i (.s (.int .i64 p.seq)), .i (bI p.data), .i (.s (.int .i64 p.tout))]
def zeroPk : PackD := ⟨0, 0, 0, [], 0⟩
attribute [simp, go_sem] encPk packD zeroPk
def pcsPk (p : PackD) : List PieceD := [numP (u64 p.fr), numP (u64 p.de), numP (u64 p.seq), rawB p.data, numP (u64 p.tout)]
def digPk (p : PackD) : List UInt8 := sha (writeF (pcsPk p)).1
def wrongPk (p : PackD) : Int :=
  if p.fr < 0 ∨ 1000000000000 < p.fr ∨ p.de < 0 ∨ 1000000000000 < p.de ∨ p.seq < 1 ∨ 1000000000000 < p.seq ∨ p.tout < 1 ∨ 1000000000000 < p.tout then 3 else if (150 : Int) < p.data.length then 4 else 0
structure PkOk (p : PackD) : Prop where
  fr : N12 0 p.fr
  de : N12 0 p.de
  seq : N12 1 p.seq
  tout : N12 1 p.tout
  data : p.data.length ≤ 150
theorem wrongPk_zero {p : PackD} : wrongPk p = 0 ↔ PkOk p := by
  unfold wrongPk
  constructor
  · intro h
    split at h
    · cases h
    · split at h
      · cases h
      · exact ⟨by unfold N12; omega, by unfold N12; omega, by unfold N12; omega, by unfold N12; omega, by omega⟩
  · rintro ⟨a, b, c, d, e⟩
    unfold N12 at *
    rw [if_neg (by omega), if_neg (by omega)]
def stIn (st : Int) (ws : List Int) : Bool := ws.any fun w => decide (st = w)
def endPk (s : StateD) (i : Int) (ws : List Int) : ChanD × ConnD × Int :=
  if wrongS s = 0 then (if i < 0 ∨ (s.chs.length : Int) ≤ i then (zeroCh, zeroCn, 6) else if stIn (chAt s i).st ws = true then (chAt s i, (overCh s (chAt s i).cn).1, (overCh s (chAt s i).cn).2) else (zeroCh, zeroCn, 12)) else (zeroCh, zeroCn, wrongS s)
theorem endPk_zero {s : StateD} {i : Int} {ws : List Int} : (endPk s i ws).2.2 = 0 ↔ StOk s ∧ (0 ≤ i ∧ i < (s.chs.length : Int)) ∧ stIn (chAt s i).st ws = true ∧ (overCh s (chAt s i).cn).2 = 0 := by
  unfold endPk
  rw [← wrongS_zero]
  constructor
  · intro h
    split at h
    · split at h
      · cases h
      · split at h
        · exact ⟨by assumption, by omega, by assumption, h⟩
        · cases h
    · exact absurd h ‹_›
  · rintro ⟨a, b, c, d⟩
    rw [if_pos a, if_neg (by omega), if_pos c]; exact d
theorem endPk_fst {s : StateD} {i : Int} {ws : List Int} (h : (endPk s i ws).2.2 = 0) : endPk s i ws = (chAt s i, cnAt s (chAt s i).cn, 0) := by
  obtain ⟨a, b, c, d⟩ := endPk_zero.1 h
  unfold endPk
  rw [if_pos (wrongS_zero.2 a), if_neg (by omega), if_pos c, overCh_fst d]
/-- the client that a channel goes over -/
def clOf (s : StateD) (i : Int) : ClientD := clAt s (cnAt s (chAt s i).cn).cl
def setCh (s : StateD) (i : Int) (c : ChanD) : StateD := { s with chs := s.chs.set i.toNat c }
def sendS (s : StateD) (i : Int) (p : PackD) : StateD := { s with sent := putM s.sent ⟨i, p.seq, digPk p⟩, chs := s.chs.set i.toNat { chAt s i with snd := (chAt s i).snd + 1 } }
def sendPk (s : StateD) (i : Int) (data : List UInt8) (tout : Int) : StateD × PackD × Int :=
  if (endPk s i [3]).2.2 = 0 then
    (if wrongPk ⟨i, (chAt s i).oc, (chAt s i).snd, data, tout⟩ = 0 then
      (if tout ≤ (lastC (clOf s i)).h then (zeroSt, zeroPk, 11)
      else if (s.sent.length : Int) = 50 ∨ (chAt s i).snd = 1000000000000 then (zeroSt, zeroPk, 5)
      else (sendS s i ⟨i, (chAt s i).oc, (chAt s i).snd, data, tout⟩, ⟨i, (chAt s i).oc, (chAt s i).snd, data, tout⟩, 0))
    else (zeroSt, zeroPk, wrongPk ⟨i, (chAt s i).oc, (chAt s i).snd, data, tout⟩))
  else (zeroSt, zeroPk, (endPk s i [3]).2.2)
def wSent : List UInt8 := [115, 101, 110, 116]
def wGot : List UInt8 := [103, 111, 116]
def wAck : List UInt8 := [97, 99, 107]
def recvS (s : StateD) (p : PackD) (ack : List UInt8) : StateD :=
  if (chAt s p.de).ord = true then { s with chs := s.chs.set p.de.toNat { chAt s p.de with rcv := (chAt s p.de).rcv + 1 }, acks := putM s.acks ⟨p.de, p.seq, sha ack⟩ }
  else { s with got := putM s.got ⟨p.de, p.seq, digPk p⟩, acks := putM s.acks ⟨p.de, p.seq, sha ack⟩ }
def recvPk (s : StateD) (p : PackD) (ack : List UInt8) (w : ShownD) : StateD × Int :=
  if wrongPk p = 0 then
    (if (endPk s p.de [3]).2.2 = 0 then
      (if (chAt s p.de).oc = p.fr then
        (if p.tout ≤ s.h then (zeroSt, 11)
        else if ((chAt s p.de).ord = true ∧ ¬ p.seq = (chAt s p.de).rcv) ∨ ((chAt s p.de).ord = false ∧ (getM s.got p.de p.seq).isSome = true) then (zeroSt, 12)
        else if (s.got.length : Int) = 50 ∨ (s.acks.length : Int) = 50 ∨ (150 : Int) < ack.length ∨ (chAt s p.de).rcv = 1000000000000 then (zeroSt, 5)
        else if memberE (clOf s p.de) s.t w.h (keyM wSent p.fr p.seq) (digPk p) w.p = 0 then (recvS s p ack, 0)
        else (zeroSt, memberE (clOf s p.de) s.t w.h (keyM wSent p.fr p.seq) (digPk p) w.p))
      else (zeroSt, 8))
    else (zeroSt, (endPk s p.de [3]).2.2))
  else (zeroSt, wrongPk p)
/-- what is wrong with a packet that isn't settled yet -/
def pendE (s : StateD) (p : PackD) : Int :=
  if wrongPk p = 0 then
    (if (endPk s p.fr [3, 4]).2.2 = 0 then
      (if (chAt s p.fr).oc = p.de then
        (match getM s.sent p.fr p.seq with
        | none => 6
        | some m => if m.dg = digPk p then 0 else 8)
      else 8)
    else (endPk s p.fr [3, 4]).2.2)
  else wrongPk p
def pendCh (s : StateD) (p : PackD) : ChanD := if wrongPk p = 0 then (endPk s p.fr [3, 4]).1 else zeroCh
def pendCn (s : StateD) (p : PackD) : ConnD := if wrongPk p = 0 then (endPk s p.fr [3, 4]).2.1 else zeroCn
def dropS (s : StateD) (p : PackD) (c : ChanD) : StateD := { s with sent := dropM s.sent p.fr p.seq, chs := s.chs.set p.fr.toNat c }
def dropU (s : StateD) (p : PackD) : StateD := { s with sent := dropM s.sent p.fr p.seq }
def ackPk (s : StateD) (p : PackD) (ack : List UInt8) (w : ShownD) : StateD × Int :=
  if pendE s p = 0 then
    (if (150 : Int) < ack.length then (zeroSt, 4)
    else if (chAt s p.fr).ord = true ∧ ¬ p.seq = (chAt s p.fr).ack then (zeroSt, 12)
    else if (chAt s p.fr).ord = true ∧ (chAt s p.fr).ack = 1000000000000 then (zeroSt, 5)
    else if memberE (clOf s p.fr) s.t w.h (keyM wAck p.de p.seq) (sha ack) w.p = 0 then
      (if (chAt s p.fr).ord = true then (dropS s p { chAt s p.fr with ack := (chAt s p.fr).ack + 1 }, 0) else (dropU s p, 0))
    else (zeroSt, memberE (clOf s p.fr) s.t w.h (keyM wAck p.de p.seq) (sha ack) w.p))
  else (zeroSt, pendE s p)
def latePk (s : StateD) (p : PackD) (next : Int) (w : ShownD) : StateD × Int :=
  if pendE s p = 0 then
    (if w.h < p.tout then (zeroSt, 11)
    else if (chAt s p.fr).ord = true then
      (if next < 1 ∨ p.seq < next then (zeroSt, 12)
      else if memberE (clOf s p.fr) s.t w.h (keyN p.de) (valN next) w.p = 0 then (dropS s p { chAt s p.fr with st := 4 }, 0)
      else (zeroSt, memberE (clOf s p.fr) s.t w.h (keyN p.de) (valN next) w.p))
    else if missingE (clOf s p.fr) s.t w.h (keyM wGot p.de p.seq) w.g = 0 then (dropU s p, 0)
    else (zeroSt, missingE (clOf s p.fr) s.t w.h (keyM wGot p.de p.seq) w.g))
  else (zeroSt, pendE s p)
end Go.Proofs.YtmclpbcipkdmcaaDoor
/- slices.Clone at api.Client: an own slice of what stands in a list. -/
set_option linter.all false
namespace Go.Proofs.YtmclpbcipkdmcaaDoor
open Go Go.Abs Go.RowKit Go.Proofs.YtmclpbcipkdmcaaDoor.Ty
theorem tyClnCl0 : (type_of% @Ty.T0) ∧ (type_of% @Ty.T3) ∧ (type_of% @Ty.T4) ∧ (type_of% @Ty.T5) ∧ (type_of% @Ty.T9) ∧ (type_of% @Ty.T22) ∧ (type_of% @Ty.T29) ∧ (type_of% @Ty.T94) ∧ (type_of% @Ty.T96) ∧ (type_of% @Ty.T133) := ⟨@Ty.T0, @Ty.T3, @Ty.T4, @Ty.T5, @Ty.T9, @Ty.T22, @Ty.T29, @Ty.T94, @Ty.T96, @Ty.T133⟩
set_option maxHeartbeats 4000000
theorem uni_Cl (l : List ClientD) : uni 4 (l.map encC) = true := by simp [uni, encC]
theorem clone_Cl (l : List ClientD) (hl : l.length ≤ 1048576) : CallD Tryd.prog 100 [.i (.sl (l.map encC))] noH (.os 1 4 0 l.length) (hOf noH [(1, .arr 4 (l.map encC))]) := by
  cases l with
  | nil =>
    refine call_case (Enters_of Tryd.func100 rfl rfl) fun K vs hrd => ?_
    obtain ⟨hs, hg⟩ := hrd
    obtain ⟨a, c, hv⟩ := sl_nil (hg 0 _ rfl)
    refine ⟨[.i (.s (.slice a 0 c))], ?_, hs, fun j d hd => ?_⟩
    · have hun := un22
      refine callD_W 8 Tryd.func100 rfl rfl rfl (fun _ _ => rfl) ?_
      cases a with
      | none =>
        simp -implicitDefEqProofs only [ev, mixed, Nat.reduceLT, Nat.reduceAdd, Nat.reduceMul, reduceIte, Nat.reduceEqDiff, reduceCtorEq, Nat.reducePow, Nat.reduceLeDiff, Int.reduceLE, Int.reduceLT, Int.reduceToNat, Int.reduceEq, Nat.reduceBEq, itsOf, gdA, byteI, opid, lenQ, ixQ, ldH, readAt, readCells, asCell, faQ, exQ, fldQ, partA, buildQ, slQ, stH, bslH, appH, dcells, convI, elemsOf, D.one, nilS, fillD, convN, cvH, tyClnCl0, bq_eqnil hun, Option.isNone_none]
        exact newD [] []
      | some a =>
        simp -implicitDefEqProofs only [ev, mixed, Nat.reduceLT, Nat.reduceAdd, Nat.reduceMul, reduceIte, Nat.reduceEqDiff, reduceCtorEq, Nat.reducePow, Nat.reduceLeDiff, Int.reduceLE, Int.reduceLT, Int.reduceToNat, Int.reduceEq, Nat.reduceBEq, itsOf, gdA, byteI, opid, lenQ, ixQ, ldH, readAt, readCells, asCell, faQ, exQ, fldQ, partA, buildQ, slQ, stH, bslH, appH, dcells, convI, elemsOf, D.one, nilS, fillD, convN, cvH, tyClnCl0, bq_eqnil hun, Option.isNone_some]
        exact newD [] [(1, 1770)]
    · cases j with
      | zero => simp at hd; subst hd; rw [hv]; exact .i (.s _ rfl)
      | succ j => simp at hd
  | cons p t =>
    have hu := uni_Cl t
    have e3 : t.length + 1 ≤ 140737488355328 := by simp at hl; omega
    have e4 : (t.length + 1) * 56 ≤ 140737488355328 := by simp at hl; omega
    have e5 : (encC p).length = 4 := rfl
    refine callD_W 8 Tryd.func100 rfl rfl rfl (fun _ _ => rfl) ?_
    (repeat (first | (simp -implicitDefEqProofs only [ev, mixed, Nat.reduceLT, Nat.reduceAdd, Nat.reduceMul, reduceIte, Nat.reduceEqDiff, reduceCtorEq, Nat.reducePow, Nat.reduceLeDiff, Int.reduceLE, Int.reduceLT, Int.reduceToNat, Int.reduceEq, Nat.reduceBEq, itsOf, gdA, byteI, opid, lenQ, ixQ, ldH, readAt, readCells, asCell, faQ, exQ, fldQ, partA, buildQ, slQ, stH, bslH, appH, dcells, convI, elemsOf, D.one, nilS, fillD, convN, cvH, tyClnCl0, hu, e3, e4, e5, List.map_cons, List.length_cons, List.length_map]) | (with_reducible refine ⟨?_, ?_⟩; (· first | (obtain ⟨rfl⟩ := ‹Hq _ _›; with_reducible refine chk_ok ?_; kernel_rfl) | kernel_rfl)) | (with_reducible intro ops hops)))
    exact newD [] [(1, 1770)]
end Go.Proofs.YtmclpbcipkdmcaaDoor
/- slices.Clone at api.Conn: an own slice of what stands in a list. -/
set_option linter.all false
namespace Go.Proofs.YtmclpbcipkdmcaaDoor
open Go Go.Abs Go.RowKit Go.Proofs.YtmclpbcipkdmcaaDoor.Ty
theorem tyClnCn0 : (type_of% @Ty.T0) ∧ (type_of% @Ty.T3) ∧ (type_of% @Ty.T23) ∧ (type_of% @Ty.T48) := ⟨@Ty.T0, @Ty.T3, @Ty.T23, @Ty.T48⟩
set_option maxHeartbeats 4000000
theorem uni_Cn (l : List ConnD) : uni 4 (l.map encCn) = true := by simp [uni, encCn]
theorem clone_Cn (l : List ConnD) (hl : l.length ≤ 1048576) : CallD Tryd.prog 102 [.i (.sl (l.map encCn))] noH (.os 1 4 0 l.length) (hOf noH [(1, .arr 4 (l.map encCn))]) := by
  cases l with
  | nil =>
    refine call_case (Enters_of Tryd.func102 rfl rfl) fun K vs hrd => ?_
    obtain ⟨hs, hg⟩ := hrd
    obtain ⟨a, c, hv⟩ := sl_nil (hg 0 _ rfl)
    refine ⟨[.i (.s (.slice a 0 c))], ?_, hs, fun j d hd => ?_⟩
    · have hun := un23
      refine callD_W 8 Tryd.func102 rfl rfl rfl (fun _ _ => rfl) ?_
      cases a with
      | none =>
        simp -implicitDefEqProofs only [ev, mixed, Nat.reduceLT, Nat.reduceAdd, Nat.reduceMul, reduceIte, Nat.reduceEqDiff, reduceCtorEq, Nat.reducePow, Nat.reduceLeDiff, Int.reduceLE, Int.reduceLT, Int.reduceToNat, Int.reduceEq, Nat.reduceBEq, itsOf, gdA, byteI, opid, lenQ, ixQ, ldH, readAt, readCells, asCell, faQ, exQ, fldQ, partA, buildQ, slQ, stH, bslH, appH, dcells, convI, elemsOf, D.one, nilS, fillD, convN, cvH, tyClnCn0, bq_eqnil hun, Option.isNone_none]
        exact newD [] []
      | some a =>
        simp -implicitDefEqProofs only [ev, mixed, Nat.reduceLT, Nat.reduceAdd, Nat.reduceMul, reduceIte, Nat.reduceEqDiff, reduceCtorEq, Nat.reducePow, Nat.reduceLeDiff, Int.reduceLE, Int.reduceLT, Int.reduceToNat, Int.reduceEq, Nat.reduceBEq, itsOf, gdA, byteI, opid, lenQ, ixQ, ldH, readAt, readCells, asCell, faQ, exQ, fldQ, partA, buildQ, slQ, stH, bslH, appH, dcells, convI, elemsOf, D.one, nilS, fillD, convN, cvH, tyClnCn0, bq_eqnil hun, Option.isNone_some]
        exact newD [] [(1, 1770)]
    · cases j with
      | zero => simp at hd; subst hd; rw [hv]; exact .i (.s _ rfl)
      | succ j => simp at hd
  | cons p t =>
    have hu := uni_Cn t
    have e3 : t.length + 1 ≤ 140737488355328 := by simp at hl; omega
    have e4 : (t.length + 1) * 32 ≤ 140737488355328 := by simp at hl; omega
    have e5 : (encCn p).length = 4 := rfl
    refine callD_W 8 Tryd.func102 rfl rfl rfl (fun _ _ => rfl) ?_
    (repeat (first | (simp -implicitDefEqProofs only [ev, mixed, Nat.reduceLT, Nat.reduceAdd, Nat.reduceMul, reduceIte, Nat.reduceEqDiff, reduceCtorEq, Nat.reducePow, Nat.reduceLeDiff, Int.reduceLE, Int.reduceLT, Int.reduceToNat, Int.reduceEq, Nat.reduceBEq, itsOf, gdA, byteI, opid, lenQ, ixQ, ldH, readAt, readCells, asCell, faQ, exQ, fldQ, partA, buildQ, slQ, stH, bslH, appH, dcells, convI, elemsOf, D.one, nilS, fillD, convN, cvH, tyClnCn0, hu, e3, e4, e5, List.map_cons, List.length_cons, List.length_map]) | (with_reducible refine ⟨?_, ?_⟩; (· first | (obtain ⟨rfl⟩ := ‹Hq _ _›; with_reducible refine chk_ok ?_; kernel_rfl) | kernel_rfl)) | (with_reducible intro ops hops)))
    exact newD [] [(1, 1770)]
end Go.Proofs.YtmclpbcipkdmcaaDoor
/- slices.Clone at api.Chan: an own slice of what stands in a list. -/
set_option linter.all false
namespace Go.Proofs.YtmclpbcipkdmcaaDoor
open Go Go.Abs Go.RowKit Go.Proofs.YtmclpbcipkdmcaaDoor.Ty
theorem tyClnCh0 : (type_of% @Ty.T0) ∧ (type_of% @Ty.T3) ∧ (type_of% @Ty.T4) ∧ (type_of% @Ty.T24) ∧ (type_of% @Ty.T57) := ⟨@Ty.T0, @Ty.T3, @Ty.T4, @Ty.T24, @Ty.T57⟩
set_option maxHeartbeats 4000000
theorem uni_Ch (l : List ChanD) : uni 7 (l.map encCh) = true := by simp [uni, encCh]
theorem clone_Ch (l : List ChanD) (hl : l.length ≤ 1048576) : CallD Tryd.prog 103 [.i (.sl (l.map encCh))] noH (.os 1 7 0 l.length) (hOf noH [(1, .arr 7 (l.map encCh))]) := by
  cases l with
  | nil =>
    refine call_case (Enters_of Tryd.func103 rfl rfl) fun K vs hrd => ?_
    obtain ⟨hs, hg⟩ := hrd
    obtain ⟨a, c, hv⟩ := sl_nil (hg 0 _ rfl)
    refine ⟨[.i (.s (.slice a 0 c))], ?_, hs, fun j d hd => ?_⟩
    · have hun := un24
      refine callD_W 8 Tryd.func103 rfl rfl rfl (fun _ _ => rfl) ?_
      cases a with
      | none =>
        simp -implicitDefEqProofs only [ev, mixed, Nat.reduceLT, Nat.reduceAdd, Nat.reduceMul, reduceIte, Nat.reduceEqDiff, reduceCtorEq, Nat.reducePow, Nat.reduceLeDiff, Int.reduceLE, Int.reduceLT, Int.reduceToNat, Int.reduceEq, Nat.reduceBEq, itsOf, gdA, byteI, opid, lenQ, ixQ, ldH, readAt, readCells, asCell, faQ, exQ, fldQ, partA, buildQ, slQ, stH, bslH, appH, dcells, convI, elemsOf, D.one, nilS, fillD, convN, cvH, tyClnCh0, bq_eqnil hun, Option.isNone_none]
        exact newD [] []
      | some a =>
        simp -implicitDefEqProofs only [ev, mixed, Nat.reduceLT, Nat.reduceAdd, Nat.reduceMul, reduceIte, Nat.reduceEqDiff, reduceCtorEq, Nat.reducePow, Nat.reduceLeDiff, Int.reduceLE, Int.reduceLT, Int.reduceToNat, Int.reduceEq, Nat.reduceBEq, itsOf, gdA, byteI, opid, lenQ, ixQ, ldH, readAt, readCells, asCell, faQ, exQ, fldQ, partA, buildQ, slQ, stH, bslH, appH, dcells, convI, elemsOf, D.one, nilS, fillD, convN, cvH, tyClnCh0, bq_eqnil hun, Option.isNone_some]
        exact newD [] [(1, 1770)]
    · cases j with
      | zero => simp at hd; subst hd; rw [hv]; exact .i (.s _ rfl)
      | succ j => simp at hd
  | cons p t =>
    have hu := uni_Ch t
    have e3 : t.length + 1 ≤ 140737488355328 := by simp at hl; omega
    have e4 : (t.length + 1) * 56 ≤ 140737488355328 := by simp at hl; omega
    have e5 : (encCh p).length = 7 := rfl
    refine callD_W 8 Tryd.func103 rfl rfl rfl (fun _ _ => rfl) ?_
    (repeat (first | (simp -implicitDefEqProofs only [ev, mixed, Nat.reduceLT, Nat.reduceAdd, Nat.reduceMul, reduceIte, Nat.reduceEqDiff, reduceCtorEq, Nat.reducePow, Nat.reduceLeDiff, Int.reduceLE, Int.reduceLT, Int.reduceToNat, Int.reduceEq, Nat.reduceBEq, itsOf, gdA, byteI, opid, lenQ, ixQ, ldH, readAt, readCells, asCell, faQ, exQ, fldQ, partA, buildQ, slQ, stH, bslH, appH, dcells, convI, elemsOf, D.one, nilS, fillD, convN, cvH, tyClnCh0, hu, e3, e4, e5, List.map_cons, List.length_cons, List.length_map]) | (with_reducible refine ⟨?_, ?_⟩; (· first | (obtain ⟨rfl⟩ := ‹Hq _ _›; with_reducible refine chk_ok ?_; kernel_rfl) | kernel_rfl)) | (with_reducible intro ops hops)))
    exact newD [] [(1, 1770)]
end Go.Proofs.YtmclpbcipkdmcaaDoor
/- slices.Clone at api.Mark: an own slice of what stands in a list. -/
set_option linter.all false
namespace Go.Proofs.YtmclpbcipkdmcaaDoor
open Go Go.Abs Go.RowKit Go.Proofs.YtmclpbcipkdmcaaDoor.Ty
theorem tyClnMk0 : (type_of% @Ty.T0) ∧ (type_of% @Ty.T3) ∧ (type_of% @Ty.T5) ∧ (type_of% @Ty.T25) ∧ (type_of% @Ty.T29) ∧ (type_of% @Ty.T79) := ⟨@Ty.T0, @Ty.T3, @Ty.T5, @Ty.T25, @Ty.T29, @Ty.T79⟩
set_option maxHeartbeats 4000000
theorem uni_Mk (l : List MarkD) : uni 3 (l.map encM) = true := by simp [uni, encM]
theorem clone_Mk (l : List MarkD) (hl : l.length ≤ 1048576) : CallD Tryd.prog 105 [.i (.sl (l.map encM))] noH (.os 1 3 0 l.length) (hOf noH [(1, .arr 3 (l.map encM))]) := by
  cases l with
  | nil =>
    refine call_case (Enters_of Tryd.func105 rfl rfl) fun K vs hrd => ?_
    obtain ⟨hs, hg⟩ := hrd
    obtain ⟨a, c, hv⟩ := sl_nil (hg 0 _ rfl)
    refine ⟨[.i (.s (.slice a 0 c))], ?_, hs, fun j d hd => ?_⟩
    · have hun := un25
      refine callD_W 8 Tryd.func105 rfl rfl rfl (fun _ _ => rfl) ?_
      cases a with
      | none =>
        simp -implicitDefEqProofs only [ev, mixed, Nat.reduceLT, Nat.reduceAdd, Nat.reduceMul, reduceIte, Nat.reduceEqDiff, reduceCtorEq, Nat.reducePow, Nat.reduceLeDiff, Int.reduceLE, Int.reduceLT, Int.reduceToNat, Int.reduceEq, Nat.reduceBEq, itsOf, gdA, byteI, opid, lenQ, ixQ, ldH, readAt, readCells, asCell, faQ, exQ, fldQ, partA, buildQ, slQ, stH, bslH, appH, dcells, convI, elemsOf, D.one, nilS, fillD, convN, cvH, tyClnMk0, bq_eqnil hun, Option.isNone_none]
        exact newD [] []
      | some a =>
        simp -implicitDefEqProofs only [ev, mixed, Nat.reduceLT, Nat.reduceAdd, Nat.reduceMul, reduceIte, Nat.reduceEqDiff, reduceCtorEq, Nat.reducePow, Nat.reduceLeDiff, Int.reduceLE, Int.reduceLT, Int.reduceToNat, Int.reduceEq, Nat.reduceBEq, itsOf, gdA, byteI, opid, lenQ, ixQ, ldH, readAt, readCells, asCell, faQ, exQ, fldQ, partA, buildQ, slQ, stH, bslH, appH, dcells, convI, elemsOf, D.one, nilS, fillD, convN, cvH, tyClnMk0, bq_eqnil hun, Option.isNone_some]
        exact newD [] [(1, 1770)]
    · cases j with
      | zero => simp at hd; subst hd; rw [hv]; exact .i (.s _ rfl)
      | succ j => simp at hd
  | cons p t =>
    have hu := uni_Mk t
    have e3 : t.length + 1 ≤ 140737488355328 := by simp at hl; omega
    have e4 : (t.length + 1) * 40 ≤ 140737488355328 := by simp at hl; omega
    have e5 : (encM p).length = 3 := rfl
    refine callD_W 8 Tryd.func105 rfl rfl rfl (fun _ _ => rfl) ?_
    (repeat (first | (simp -implicitDefEqProofs only [ev, mixed, Nat.reduceLT, Nat.reduceAdd, Nat.reduceMul, reduceIte, Nat.reduceEqDiff, reduceCtorEq, Nat.reducePow, Nat.reduceLeDiff, Int.reduceLE, Int.reduceLT, Int.reduceToNat, Int.reduceEq, Nat.reduceBEq, itsOf, gdA, byteI, opid, lenQ, ixQ, ldH, readAt, readCells, asCell, faQ, exQ, fldQ, partA, buildQ, slQ, stH, bslH, appH, dcells, convI, elemsOf, D.one, nilS, fillD, convN, cvH, tyClnMk0, hu, e3, e4, e5, List.map_cons, List.length_cons, List.length_map]) | (with_reducible refine ⟨?_, ?_⟩; (· first | (obtain ⟨rfl⟩ := ‹Hq _ _›; with_reducible refine chk_ok ?_; kernel_rfl) | kernel_rfl)) | (with_reducible intro ops hops)))
    exact newD [] [(1, 1770)]
end Go.Proofs.YtmclpbcipkdmcaaDoor
/- slices.Clone at api.Purse: an own slice of what stands in a list. -/
set_option linter.all false
namespace Go.Proofs.YtmclpbcipkdmcaaDoor
open Go Go.Abs Go.RowKit Go.Proofs.YtmclpbcipkdmcaaDoor.Ty
theorem tyClnPu0 : (type_of% @Ty.T0) ∧ (type_of% @Ty.T9) ∧ (type_of% @Ty.T26) ∧ (type_of% @Ty.T107) ∧ (type_of% @Ty.T109) := ⟨@Ty.T0, @Ty.T9, @Ty.T26, @Ty.T107, @Ty.T109⟩
set_option maxHeartbeats 4000000
theorem uni_Pu (l : List PurseD) : uni 3 (l.map encPu) = true := by simp [uni, encPu]
theorem clone_Pu (l : List PurseD) (hl : l.length ≤ 1048576) : CallD Tryd.prog 104 [.i (.sl (l.map encPu))] noH (.os 1 3 0 l.length) (hOf noH [(1, .arr 3 (l.map encPu))]) := by
  cases l with
  | nil =>
    refine call_case (Enters_of Tryd.func104 rfl rfl) fun K vs hrd => ?_
    obtain ⟨hs, hg⟩ := hrd
    obtain ⟨a, c, hv⟩ := sl_nil (hg 0 _ rfl)
    refine ⟨[.i (.s (.slice a 0 c))], ?_, hs, fun j d hd => ?_⟩
    · have hun := un26
      refine callD_W 8 Tryd.func104 rfl rfl rfl (fun _ _ => rfl) ?_
      cases a with
      | none =>
        simp -implicitDefEqProofs only [ev, mixed, Nat.reduceLT, Nat.reduceAdd, Nat.reduceMul, reduceIte, Nat.reduceEqDiff, reduceCtorEq, Nat.reducePow, Nat.reduceLeDiff, Int.reduceLE, Int.reduceLT, Int.reduceToNat, Int.reduceEq, Nat.reduceBEq, itsOf, gdA, byteI, opid, lenQ, ixQ, ldH, readAt, readCells, asCell, faQ, exQ, fldQ, partA, buildQ, slQ, stH, bslH, appH, dcells, convI, elemsOf, D.one, nilS, fillD, convN, cvH, tyClnPu0, bq_eqnil hun, Option.isNone_none]
        exact newD [] []
      | some a =>
        simp -implicitDefEqProofs only [ev, mixed, Nat.reduceLT, Nat.reduceAdd, Nat.reduceMul, reduceIte, Nat.reduceEqDiff, reduceCtorEq, Nat.reducePow, Nat.reduceLeDiff, Int.reduceLE, Int.reduceLT, Int.reduceToNat, Int.reduceEq, Nat.reduceBEq, itsOf, gdA, byteI, opid, lenQ, ixQ, ldH, readAt, readCells, asCell, faQ, exQ, fldQ, partA, buildQ, slQ, stH, bslH, appH, dcells, convI, elemsOf, D.one, nilS, fillD, convN, cvH, tyClnPu0, bq_eqnil hun, Option.isNone_some]
        exact newD [] [(1, 1770)]
    · cases j with
      | zero => simp at hd; subst hd; rw [hv]; exact .i (.s _ rfl)
      | succ j => simp at hd
  | cons p t =>
    have hu := uni_Pu t
    have e3 : t.length + 1 ≤ 140737488355328 := by simp at hl; omega
    have e4 : (t.length + 1) * 40 ≤ 140737488355328 := by simp at hl; omega
    have e5 : (encPu p).length = 3 := rfl
    refine callD_W 8 Tryd.func104 rfl rfl rfl (fun _ _ => rfl) ?_
    (repeat (first | (simp -implicitDefEqProofs only [ev, mixed, Nat.reduceLT, Nat.reduceAdd, Nat.reduceMul, reduceIte, Nat.reduceEqDiff, reduceCtorEq, Nat.reducePow, Nat.reduceLeDiff, Int.reduceLE, Int.reduceLT, Int.reduceToNat, Int.reduceEq, Nat.reduceBEq, itsOf, gdA, byteI, opid, lenQ, ixQ, ldH, readAt, readCells, asCell, faQ, exQ, fldQ, partA, buildQ, slQ, stH, bslH, appH, dcells, convI, elemsOf, D.one, nilS, fillD, convN, cvH, tyClnPu0, hu, e3, e4, e5, List.map_cons, List.length_cons, List.length_map]) | (with_reducible refine ⟨?_, ?_⟩; (· first | (obtain ⟨rfl⟩ := ‹Hq _ _›; with_reducible refine chk_ok ?_; kernel_rfl) | kernel_rfl)) | (with_reducible intro ops hops)))
    exact newD [] [(1, 1770)]
end Go.Proofs.YtmclpbcipkdmcaaDoor
/- Rows whose cells name own objects: what a walk asks of them. -/
set_option linter.all false
namespace Go.Abs
open Go Go.RowKit

theorem callD_ler {P : Program} {f : FuncId} {ds : List D} {H H1 H2 : Nat → Ob} {r r' : D} (h : CallD P f ds H r H1) (hl : LER H r H1 r' H2) : CallD P f ds H r' H2 := by
  refine ⟨h.1, fun K0 T K vs hr hrd => (h.2 K0 T K vs hr hrd).mono ?_⟩
  rintro e w' ⟨v, K', rfl, rfl, he, hr', hv⟩
  obtain ⟨K2, e2, x2, r2, v2⟩ := hl K0 K T K' v he (fun o ho => hr.get ho) hr' hv
  exact ⟨v, K2, rfl, e2, x2, r2, v2⟩
theorem toD_len (es : List (List I)) : (toD es).length = es.length := by simp [toD]
theorem all_toD (es : List (List I)) : oneW (toD es) = true := by
  simp only [oneW, toD, List.all_eq_true, List.mem_map]
  rintro e ⟨r, _, rfl⟩ d hd
  obtain ⟨x, _, rfl⟩ := List.mem_map.1 hd
  rfl
theorem cvL_i {H : Nat → Ob} {F : List Nat} {s : Nat → Option Nat} : ∀ (r : List I), cvL H F s (r.map .i) (r.map .i)
  | [] => trivial
  | x :: t => ⟨.inl rfl, cvL_i t⟩
theorem cvW_toD {H : Nat → Ob} {F : List Nat} {s : Nat → Option Nat} : ∀ (es : List (List I)), cvW H F s (toD es) (toD es)
  | [] => trivial
  | r :: t => ⟨cvL_i r, cvW_toD t⟩
theorem cvW_set {H : Nat → Ob} {F : List Nat} {s : Nat → Option Nat} {r r' : List D} (h : cvL H F s r r') : ∀ {es es' : List (List D)} {i : Nat}, cvW H F s es es' → cvW H F s (es.set i r) (es'.set i r')
  | [], [], i, _ => by cases i <;> trivial
  | a :: t, a' :: t', 0, hw => ⟨h, hw.2⟩
  | a :: t, a' :: t', i + 1, hw => ⟨hw.1, cvW_set h hw.2⟩
  | [], _ :: _, _, hw => hw.elim
  | _ :: _, [], _, hw => hw.elim
section
variable {α : Type} {f : α → List I} {l : List α} {i : Nat}
theorem toD_get (h : i < l.length) : (toD (l.map f))[i]? = some ((f l[i]).map .i) := by
  simp [toD, h]
theorem set_get (h : i < l.length) (row : List D) : ((toD (l.map f)).set i row)[i]? = some row := by
  rw [List.getElem?_set_self (by simpa [toD] using h)]
theorem toD_same (h : i < l.length) : (toD (l.map f)).set i ((f l[i]).map .i) = toD (l.map f) := by
  refine List.ext_getElem (by simp) fun j h1 h2 => ?_
  rw [List.getElem_set]
  split
  · rename_i e; subst e; simp [toD]
  · rfl
theorem cvW_back (h : i < l.length) {H : Nat → Ob} {F : List Nat} {s : Nat → Option Nat} (row : List D) (hr : cvL H F s row ((f l[i]).map .i)) : cvW H F s ((toD (l.map f)).set i row) (toD (l.map f)) := by
  have := cvW_set (i := i) hr (cvW_toD (H := H) (F := F) (s := s) (l.map f))
  rw [toD_same h] at this; exact this
theorem cvW_to {H : Nat → Ob} {F : List Nat} {s : Nat → Option Nat} (row row' : List D) (hr : cvL H F s row row') : cvW H F s ((toD (l.map f)).set i row) ((toD (l.map f)).set i row') := cvW_set hr (cvW_toD _)
/-- a fourth cell renumbered, and given back (rows of four: clients) -/
theorem cvW_ren4 {H : Nat → Ob} {F : List Nat} {s : Nat → Option Nat} (a b c : I) (o o' sz off n : Nat) (h : s o' = some o) :
    cvW H F s ((toD (l.map f)).set i [.i a, .i b, .i c, .os o sz off n]) ((toD (l.map f)).set i [.i a, .i b, .i c, .os o' sz off n]) :=
  cvW_to _ _ ⟨.inl rfl, .inl rfl, .inl rfl, .inl ⟨o, h, rfl⟩, trivial⟩
theorem cvW_back4 (h : i < l.length) {H : Nat → Ob} {F : List Nat} {s : Nat → Option Nat} (a b c : I) (es : List (List I)) (hl : f l[i] = [a, b, c, .sl es]) (o sz off n : Nat) (ho : F.contains o = true) (he : elemsOf H (.os o sz off n) = some es) :
    cvW H F s ((toD (l.map f)).set i [.i a, .i b, .i c, .os o sz off n]) (toD (l.map f)) :=
  cvW_back h _ (by rw [hl]; exact ⟨.inl rfl, .inl rfl, .inl rfl, .inr (.inr ⟨o, sz, off, n, es, rfl, by simpa using ho, he, rfl⟩), trivial⟩)
theorem all_set (row : List D) (h : row.all D.one = true) : oneW ((toD (l.map f)).set i row) = true := by
  unfold oneW
  rw [List.all_eq_true]
  intro e he
  rcases List.mem_or_eq_of_mem_set he with he | rfl
  · exact List.all_eq_true.1 (show ((toD (l.map f)).all fun e => e.all D.one) = true from all_toD _) e he
  · exact h
end
end Go.Abs
/- state.Own: a copy whose rows are the caller's. -/
set_option linter.all false
namespace Go.Proofs.YtmclpbcipkdmcaaDoor
open Go Go.Abs Go.RowKit Go.Proofs.YtmclpbcipkdmcaaDoor.Ty

/-- What the call has of its own behind k lists of marks. -/
def ownC (s : StateD) (k : Nat) : List D := [.i (.s (.string s.name)), .i (.s (.int .i64 s.h)), .i (.s (.int .i64 s.t)), .os 102 4 0 s.cls.length, .os 103 4 0 s.cns.length, .os 104 7 0 s.chs.length,
  if 0 < k then .os 110 3 0 s.sent.length else .i (.sl (s.sent.map encM)), if 1 < k then .os 111 3 0 s.got.length else .i (.sl (s.got.map encM)), if 2 < k then .os 112 3 0 s.acks.length else .i (.sl (s.acks.map encM)), .os 105 3 0 s.pus.length]
def ownO (s : StateD) (k : Nat) : List (Nat × Ob) := [(100, .box (ownC s k)), (101, .box ((encSt zeroSt).map .i)), (102, .arr 4 (s.cls.map encC)), (103, .arr 4 (s.cns.map encCn)), (104, .arr 7 (s.chs.map encCh)), (105, .arr 3 (s.pus.map encPu)), (106, .box [.pt 100 0 0 6, .pt 100 0 0 7, .pt 100 0 0 8]),
  (110, if 0 < k then .arr 3 (s.sent.map encM) else .dead), (111, if 1 < k then .arr 3 (s.got.map encM) else .dead), (112, if 2 < k then .arr 3 (s.acks.map encM) else .dead)]
attribute [local simp] all_toD cvW_toD
attribute [local simp, local go_sem] ownC ownO
set_option maxHeartbeats 8000000
set_option maxRecDepth 20000
theorem sown_D (s : StateD) (hs : StSm s) : CallD Tryd.prog 80 [stateD s] noH
    (.agg [.i (.s (.string s.name)), .i (.s (.int .i64 s.h)), .i (.s (.int .i64 s.t)), .os 1 4 0 s.cls.length, .os 2 4 0 s.cns.length, .os 3 7 0 s.chs.length, .os 4 3 0 s.sent.length, .os 5 3 0 s.got.length, .os 6 3 0 s.acks.length, .os 7 3 0 s.pus.length])
    (hOf noH [(1, .arr 4 (s.cls.map encC)), (2, .arr 4 (s.cns.map encCn)), (3, .arr 7 (s.chs.map encCh)), (4, .arr 3 (s.sent.map encM)), (5, .arr 3 (s.got.map encM)), (6, .arr 3 (s.acks.map encM)), (7, .arr 3 (s.pus.map encPu))]) := by
  refine hide_c fun R R' hR hR' => ?_
  have l1 := hs.cls
  have l2 := hs.cns
  have l3 := hs.chs
  have l7 := hs.pus
  have e1 := clone_Cl s.cls l1
  refine callD_W 117 Tryd.func80 rfl rfl rfl (fun _ _ => rfl) ?_
  refine wkl ?_
  clear hR; intro hR
  refine W_loopR (ι := Nat) (fun i => i ≤ s.cls.length)
    (fun i => stOf [(1, .pt 100 0 0 0), (2, .pt 101 0 0 0), (16, .os 102 4 0 s.cls.length), (17, intD s.cls.length), (18, intD i)]
      [(100, .box [.i (.s (.string s.name)), .i (.s (.int .i64 s.h)), .i (.s (.int .i64 s.t)), .os 102 4 0 s.cls.length, .i (.sl (s.cns.map encCn)), .i (.sl (s.chs.map encCh)), .i (.sl (s.sent.map encM)), .i (.sl (s.got.map encM)), .i (.sl (s.acks.map encM)), .i (.sl (s.pus.map encPu))]),
       (101, .box ((encSt zeroSt).map .i)), (102, .tab 4 (toD (s.cls.map encC)))])
    (fun i => s.cls.length - i) 0 (Nat.zero_le _) ?_ ?_
  · exact le_ok [] [(100, 1000), (101, 1001), (102, 901)]
  · rintro i hi RL hL
    rw [stOf_eq]
    by_cases h : i < s.cls.length
    · have hc := hs.cl _ (List.getElem_mem h)
      have hcl := hc.l
      have t1 := toD_get (f := encC) h
      have t2 := fun row => set_get (f := encC) h row
      have t3 := fun (H : Nat → Ob) (F : List Nat) (g : Nat → Option Nat) (o sz off n : Nat) (ho : F.contains o = true) (he : elemsOf H (.os o sz off n) = some ((s.cls[i]'h).known.map encK)) => cvW_back4 (f := encC) h (H := H) (F := F) (s := g) (.s (.string s.cls[i].c)) (.s (.int .i64 s.cls[i].trust)) (.s (.bool s.cls[i].frozen)) (s.cls[i].known.map encK) rfl o sz off n ho he
      have t4 := fun (H : Nat → Ob) (F : List Nat) (g : Nat → Option Nat) (a b d : I) (o o' sz off n : Nat) (hh : g o' = some o) => cvW_ren4 (f := encC) (l := s.cls) (i := i) (H := H) (F := F) (s := g) a b d o o' sz off n hh
      have t5 := fun row hr => all_set (f := encC) (l := s.cls) (i := i) row hr
      have e2 := clone_Kn s.cls[i].known hcl
      have hkn := hc.k
      have b1 := fun σ' => bk [103] [(100, 100), (101, 101), (102, 102)] (hL (i + 1) σ' h)
      clear hL e1 hc
      generalize s.cls[i] = c at *
      refine wkl ?_
      clear hR; intro hR
      refine W_loopR (ι := Nat) (fun j => j ≤ c.known.length)
        (fun j => stOf [(1, .pt 100 0 0 0), (2, .pt 101 0 0 0), (3, intD i), (16, .os 102 4 0 s.cls.length), (17, intD s.cls.length), (18, intD i), (36, .os 103 4 0 c.known.length), (37, intD c.known.length), (38, intD j)]
          [(100, .box [.i (.s (.string s.name)), .i (.s (.int .i64 s.h)), .i (.s (.int .i64 s.t)), .os 102 4 0 s.cls.length, .i (.sl (s.cns.map encCn)), .i (.sl (s.chs.map encCh)), .i (.sl (s.sent.map encM)), .i (.sl (s.got.map encM)), .i (.sl (s.acks.map encM)), .i (.sl (s.pus.map encPu))]),
           (101, .box ((encSt zeroSt).map .i)), (102, .tab 4 ((toD (s.cls.map encC)).set i [.i (.s (.string c.c)), .i (.s (.int .i64 c.trust)), .i (.s (.bool c.frozen)), .os 103 4 0 c.known.length])), (103, .arr 4 (c.known.map encK))])
        (fun j => c.known.length - j) 0 (Nat.zero_le _) ?_ ?_
      · exact le_ok [] [(100, 100), (101, 101), (102, 102), (103, 901)]
      · rintro j hj RL2 hL2
        rw [stOf_eq]
        by_cases h' : j < c.known.length
        · have s0 := get_lt (f := encK) h'
          have s1 := set_map (f := encK) h'
          have hk := hkn _ (List.getElem_mem h')
          have c1 := clone_A c.known[j].root (by have := hk.r; omega)
          have c2 := clone_A c.known[j].next (by have := hk.n; omega)
          have b2 := fun σ' => bk [] [(100, 100), (101, 101), (102, 102), (103, 103)] (hL2 (j + 1) σ' h')
          clear hL2 hk hkn b1 e2
          generalize c.known[j] = k at *
          simp only [encK, bI] at s0 s1
          exact wkl trivial
        · clear hL2
          exact wkl trivial
    · clear hL e1
      have e1 := clone_Cn s.cns l2
      have e2 := clone_Ch s.chs l3
      have e3 := clone_Pu s.pus l7
      have r1 := bs_pt3 (P := Tryd.prog) (t := 163) (e := 162) (by kernel_rfl) (by kernel_rfl) (by kernel_rfl)
      refine wkl ?_
      clear hR; intro hR
      refine W_loopR (ι := Nat) (fun k => k ≤ 3) (fun k => stOf [(1, .pt 100 0 0 0), (2, .pt 101 0 0 0), (84, .bs 106 0 3), (85, intD 3), (86, intD k)] (ownO s k)) (fun k => 3 - k) 0 (Nat.zero_le _) ?_ ?_
      · exact le_ok [] [(100, 100), (101, 101), (102, 102), (103, 901), (104, 902), (105, 903), (106, 4331), (110, 950), (111, 951), (112, 952)]
      · rintro k hk RL hL
        rw [stOf_eq]
        have b1 := fun σ' (h : k + 1 ≤ 3) => bk [] [(100, 100), (101, 101), (102, 102), (103, 103), (104, 104), (105, 105), (106, 106), (110, 110), (111, 111), (112, 112)] (hL (k + 1) σ' h)
        clear hL e1 e2 e3
        have l4 := hs.sent
        have l5 := hs.got
        have l6 := hs.acks
        match k, hk with
        | 0, _ =>
          have e1 := clone_Mk s.sent l4
          have b1 := fun σ' => b1 σ' (by omega)
          refine wkl ?_
          clear hR; intro hR
          refine W_loopR (ι := Nat) (fun j => j ≤ s.sent.length) (fun j => stOf [(1, .pt 100 0 0 0), (2, .pt 101 0 0 0), (8, .pt 100 0 0 6), (84, .bs 106 0 3), (85, intD 3), (86, intD 0), (98, .os 110 3 0 s.sent.length), (99, intD s.sent.length), (100, intD j)] (ownO s 1)) (fun j => s.sent.length - j) 0 (Nat.zero_le _) ?_ ?_
          · exact le_ok [] [(100, 100), (101, 101), (102, 102), (103, 103), (104, 104), (105, 105), (106, 106), (110, 901), (111, 111), (112, 112)]
          · rintro j hj RL2 hL2
            rw [stOf_eq]
            by_cases h' : j < s.sent.length
            · have s0 := get_lt (f := encM) h'
              have s1 := set_map (f := encM) h'
              have hd := hs.dg _ (.inl (List.getElem_mem h'))
              have c1 := clone_A s.sent[j].dg (by omega)
              have b2 := fun σ' => bk [] [(100, 100), (101, 101), (102, 102), (103, 103), (104, 104), (105, 105), (106, 106), (110, 110), (111, 111), (112, 112)] (hL2 (j + 1) σ' h')
              clear hL2 b1 hd e1
              generalize s.sent[j] = m at *
              simp only [encM, bI] at s0 s1
              exact wkl trivial
            · clear hL2 e1
              exact wkl trivial
        | 1, _ =>
          have e1 := clone_Mk s.got l5
          have b1 := fun σ' => b1 σ' (by omega)
          refine wkl ?_
          clear hR; intro hR
          refine W_loopR (ι := Nat) (fun j => j ≤ s.got.length) (fun j => stOf [(1, .pt 100 0 0 0), (2, .pt 101 0 0 0), (8, .pt 100 0 0 7), (84, .bs 106 0 3), (85, intD 3), (86, intD 1), (98, .os 111 3 0 s.got.length), (99, intD s.got.length), (100, intD j)] (ownO s 2)) (fun j => s.got.length - j) 0 (Nat.zero_le _) ?_ ?_
          · exact le_ok [] [(100, 100), (101, 101), (102, 102), (103, 103), (104, 104), (105, 105), (106, 106), (110, 110), (111, 901), (112, 112)]
          · rintro j hj RL2 hL2
            rw [stOf_eq]
            by_cases h' : j < s.got.length
            · have s0 := get_lt (f := encM) h'
              have s1 := set_map (f := encM) h'
              have hd := hs.dg _ (.inr (.inl (List.getElem_mem h')))
              have c1 := clone_A s.got[j].dg (by omega)
              have b2 := fun σ' => bk [] [(100, 100), (101, 101), (102, 102), (103, 103), (104, 104), (105, 105), (106, 106), (110, 110), (111, 111), (112, 112)] (hL2 (j + 1) σ' h')
              clear hL2 b1 hd e1
              generalize s.got[j] = m at *
              simp only [encM, bI] at s0 s1
              exact wkl trivial
            · clear hL2 e1
              exact wkl trivial
        | 2, _ =>
          have e1 := clone_Mk s.acks l6
          have b1 := fun σ' => b1 σ' (by omega)
          refine wkl ?_
          clear hR; intro hR
          refine W_loopR (ι := Nat) (fun j => j ≤ s.acks.length) (fun j => stOf [(1, .pt 100 0 0 0), (2, .pt 101 0 0 0), (8, .pt 100 0 0 8), (84, .bs 106 0 3), (85, intD 3), (86, intD 2), (98, .os 112 3 0 s.acks.length), (99, intD s.acks.length), (100, intD j)] (ownO s 3)) (fun j => s.acks.length - j) 0 (Nat.zero_le _) ?_ ?_
          · exact le_ok [] [(100, 100), (101, 101), (102, 102), (103, 103), (104, 104), (105, 105), (106, 106), (110, 110), (111, 111), (112, 901)]
          · rintro j hj RL2 hL2
            rw [stOf_eq]
            by_cases h' : j < s.acks.length
            · have s0 := get_lt (f := encM) h'
              have s1 := set_map (f := encM) h'
              have hd := hs.dg _ (.inr (.inr (List.getElem_mem h')))
              have c1 := clone_A s.acks[j].dg (by omega)
              have b2 := fun σ' => bk [] [(100, 100), (101, 101), (102, 102), (103, 103), (104, 104), (105, 105), (106, 106), (110, 110), (111, 111), (112, 112)] (hL2 (j + 1) σ' h')
              clear hL2 b1 hd e1
              generalize s.acks[j] = m at *
              simp only [encM, bI] at s0 s1
              exact wkl trivial
            · clear hL2 e1
              exact wkl trivial
        | 3, _ =>
          clear b1
          have d1 : SrcIs [] [(1, 102), (2, 103), (3, 104), (4, 110), (5, 111), (6, 112), (7, 105)] := ⟨trivial⟩
          obtain ⟨rfl⟩ := hR'
          exact wkl trivial
theorem sown_A (s : StateD) (hs : StSm s) : PureD Tryd.prog 80 [stateD s] (stateD s) :=
  callD_ler (sown_D s hs) (ler_pure [1, 2, 3, 4, 5, 6, 7] (by simp [hOf, lk]))
end Go.Proofs.YtmclpbcipkdmcaaDoor
/- state.Wrong: by value. -/
set_option linter.all false
namespace Go.Proofs.YtmclpbcipkdmcaaDoor
open Go Go.Abs Go.RowKit Go.Proofs.YtmclpbcipkdmcaaDoor.Ty

set_option maxHeartbeats 16000000
set_option maxRecDepth 20000
theorem fstE_lt {α : Type} {f : α → Int} {l : List α} {i : Nat} (h : i < l.length) : fstE f (l.drop i) = if f l[i] = 0 then fstE f (l.drop (i + 1)) else f l[i] := by
  rw [List.drop_eq_getElem_cons h, fstE]
theorem fstE_ge {α : Type} {f : α → Int} {l : List α} {i : Nat} (h : ¬ i < l.length) : fstE f (l.drop i) = 0 := by
  rw [List.drop_eq_nil_of_le (by omega), fstE]
def mrk (s : StateD) : Nat → Int
  | 0 => mksS s
  | 1 => if mksE none s.got = 0 then (if mksE none s.acks = 0 then pusE none s.pus else mksE none s.acks) else mksE none s.got
  | 2 => if mksE none s.acks = 0 then pusE none s.pus else mksE none s.acks
  | _ => pusE none s.pus
theorem swrong_A (s : StateD) (hs : StSm s) : PureD Tryd.prog 15 [stateD s] (intD (wrongS s)) := by
  refine hide_r fun R hR => ?_
  have c1 := hname_A s.name
  have c2 := hnum_A s.h
  have c3 := hnum_A s.t
  have l1 := hs.cls
  have l2 := hs.cns
  have l3 := hs.chs
  have l4 := hs.sent
  have l5 := hs.got
  have l6 := hs.acks
  have l7 := hs.pus
  unfold wrongS at hR
  refine callD_W 134 Tryd.func15 rfl rfl rfl (fun _ _ => rfl) ?_
  refine wkl ?_
  clear hR c1 c2 c3; intro hR
  repeat' (intro _)
  have hR' : Hr (intD (if fstE wrongC (s.cls.drop 0) = 0 then endS s else fstE wrongC (s.cls.drop 0))) R := hR
  clear hR
  refine W_loopR (ι := Nat) (fun i => i ≤ s.cls.length ∧ Hr (intD (if fstE wrongC (s.cls.drop i) = 0 then endS s else fstE wrongC (s.cls.drop i))) R)
    (fun i => stOf [(1, .pt 100 0 0 0), (71, .i (.sl (s.cls.map encC))), (72, intD s.cls.length), (73, intD i)] [(100, .box ((encSt s).map .i))]) (fun i => s.cls.length - i) 0 ⟨Nat.zero_le _, hR'⟩ ?_ ?_
  · exact le_ok [] [(100, 1000)]
  · rintro i ⟨hi, hR⟩ RL hL
    clear hR'
    rw [stOf_eq]
    by_cases h : i < s.cls.length
    · have e1 := get_lt (f := encC) h
      rw [fstE_lt h] at hR
      have b1 := fun σ' (hq : Hr _ R) => bk [] [(100, 100)] (hL (i + 1) σ' ⟨h, hq⟩)
      have c1 := cwrong_A s.cls[i] (hs.cl _ (List.getElem_mem h)).l
      clear hL hs
      generalize s.cls[i] = v at *
      by_cases hz : wrongC v = 0
      · rw [if_pos hz] at hR
        rw [hz] at c1
        exact wkl trivial
      · rw [if_neg hz, if_neg hz] at hR
        generalize wrongC v = W at *
        exact wkl trivial
    · rw [fstE_ge h, if_pos rfl] at hR
      clear hL
      unfold endS at hR
      refine wkl ?_
      clear hR; intro hR
      have hR' : Hr (intD (if fstE cnE (s.cns.drop 0) = 0 then (if fstE chE s.chs = 0 then mksS s else fstE chE s.chs) else fstE cnE (s.cns.drop 0))) R := hR
      clear hR
      refine W_loopR (ι := Nat) (fun i => i ≤ s.cns.length ∧ Hr (intD (if fstE cnE (s.cns.drop i) = 0 then (if fstE chE s.chs = 0 then mksS s else fstE chE s.chs) else fstE cnE (s.cns.drop i))) R)
        (fun i => stOf [(1, .pt 100 0 0 0), (85, intD s.cns.length), (86, intD i)] [(100, .box ((encSt s).map .i))]) (fun i => s.cns.length - i) 0 ⟨Nat.zero_le _, hR'⟩ ?_ ?_
      · exact le_ok [] [(100, 100)]
      · rintro i ⟨hi, hR⟩ RL hL
        clear hR'
        rw [stOf_eq]
        by_cases h : i < s.cns.length
        · have e1 := get_lt (f := encCn) h
          rw [fstE_lt h] at hR
          have b1 := fun σ' (hq : Hr _ R) => bk [] [(100, 100)] (hL (i + 1) σ' ⟨h, hq⟩)
          have c1 := sconn_A s.cns[i]
          clear hL hs
          generalize s.cns[i] = v at *
          by_cases hz : cnE v = 0
          · rw [if_pos hz] at hR
            rw [hz] at c1
            exact wkl trivial
          · rw [if_neg hz, if_neg hz] at hR
            generalize cnE v = W at *
            exact wkl trivial
        · rw [fstE_ge h, if_pos rfl] at hR
          clear hL
          refine wkl ?_
          clear hR; intro hR
          have hR' : Hr (intD (if fstE chE (s.chs.drop 0) = 0 then mksS s else fstE chE (s.chs.drop 0))) R := hR
          clear hR
          refine W_loopR (ι := Nat) (fun i => i ≤ s.chs.length ∧ Hr (intD (if fstE chE (s.chs.drop i) = 0 then mksS s else fstE chE (s.chs.drop i))) R)
            (fun i => stOf [(1, .pt 100 0 0 0), (100, intD s.chs.length), (101, intD i)] [(100, .box ((encSt s).map .i))]) (fun i => s.chs.length - i) 0 ⟨Nat.zero_le _, hR'⟩ ?_ ?_
          · exact le_ok [] [(100, 100)]
          · rintro i ⟨hi, hR⟩ RL hL
            clear hR'
            rw [stOf_eq]
            by_cases h : i < s.chs.length
            · have e1 := get_lt (f := encCh) h
              rw [fstE_lt h] at hR
              have b1 := fun σ' (hq : Hr _ R) => bk [] [(100, 100)] (hL (i + 1) σ' ⟨h, hq⟩)
              have c1 := schan_A s.chs[i]
              clear hL hs
              generalize s.chs[i] = v at *
              by_cases hz : chE v = 0
              · rw [if_pos hz] at hR
                rw [hz] at c1
                exact wkl trivial
              · rw [if_neg hz, if_neg hz] at hR
                generalize chE v = W at *
                exact wkl trivial
            · rw [fstE_ge h, if_pos rfl] at hR
              clear hL
              unfold mksS at hR
              refine wkl ?_
              clear hR; intro hR
              have hR' : Hr (intD (mrk s 0)) R := hR
              clear hR
              refine W_loopR (ι := Nat) (fun i => i ≤ 3 ∧ Hr (intD (mrk s i)) R)
                (fun i => stOf [(1, .pt 100 0 0 0), (119, .os 101 1 0 3), (120, intD 3), (121, intD i)] [(100, .box ((encSt s).map .i)), (101, .arr 1 [[.sl (s.sent.map encM)], [.sl (s.got.map encM)], [.sl (s.acks.map encM)]])]) (fun i => 3 - i) 0 ⟨Nat.zero_le _, hR'⟩ ?_ ?_
              · exact le_ok [] [(100, 100), (101, 8174)]
              · rintro i ⟨hi, hR⟩ RL hL
                clear hR' hs
                rw [stOf_eq]
                have b1 := fun σ' (h : i + 1 ≤ 3) (hq : Hr _ R) => bk [] [(100, 100), (101, 101)] (hL (i + 1) σ' ⟨h, hq⟩)
                clear hL
                match i, hi with
                | 0, _ =>
                  have c1 := smarks_A s.sent l4
                  have b1 := fun σ' (hq : Hr (intD (mrk s 1)) R) => b1 σ' (by omega) hq
                  simp only [mrk] at b1
                  by_cases hz : mksE none s.sent = 0
                  · simp only [mrk, mksS, hz, if_true] at hR
                    rw [hz] at c1
                    exact wkl trivial
                  · simp only [mrk, mksS, hz, if_false] at hR
                    generalize mksE none s.sent = W at *
                    exact wkl trivial
                | 1, _ =>
                  have c1 := smarks_A s.got l5
                  have b1 := fun σ' (hq : Hr (intD (mrk s 2)) R) => b1 σ' (by omega) hq
                  simp only [mrk] at b1
                  by_cases hz : mksE none s.got = 0
                  · simp only [mrk, hz, if_true] at hR
                    rw [hz] at c1
                    exact wkl trivial
                  · simp only [mrk, hz, if_false] at hR
                    generalize mksE none s.got = W at *
                    exact wkl trivial
                | 2, _ =>
                  have c1 := smarks_A s.acks l6
                  have b1 := fun σ' (hq : Hr (intD (mrk s 3)) R) => b1 σ' (by omega) hq
                  simp only [mrk] at b1
                  by_cases hz : mksE none s.acks = 0
                  · simp only [mrk, hz, if_true] at hR
                    rw [hz] at c1
                    exact wkl trivial
                  · simp only [mrk, hz, if_false] at hR
                    generalize mksE none s.acks = W at *
                    exact wkl trivial
                | 3, _ =>
                  have c1 := spurses_A s.pus l7
                  clear b1
                  simp only [mrk] at hR
                  exact wkl trivial
end Go.Proofs.YtmclpbcipkdmcaaDoor
/- conn.over, shown, add, Init, Try: by value. -/
set_option linter.all false
namespace Go.Proofs.YtmclpbcipkdmcaaDoor
open Go Go.Abs Go.RowKit Go.Proofs.YtmclpbcipkdmcaaDoor.Ty

set_option maxHeartbeats 8000000
set_option maxRecDepth 20000
theorem cover_A (s : StateD) (ok : StOk s) (c : Int) : PureD Tryd.prog 43 [.rp (encSt s) 0, intD c] (intD (overE s c)) := by
  refine hide_r fun R hR => ?_
  unfold overE at hR
  have hl := ok.lcl
  by_cases h : c < 0 ∨ (s.cls.length : Int) ≤ c
  · rw [if_pos h] at hR
    clear ok
    refine callD_W 31 Tryd.func43 rfl rfl rfl (fun _ _ => rfl) ?_
    exact wkl trivial
  · have hi : c.toNat < s.cls.length := by omega
    have s0 := get_lt (f := encC) hi
    have c1 := act_A (ok.cls _ (List.getElem_mem hi)) ok.t
    rw [if_neg h, (clAt_mem (s := s) (i := c) (by omega)).1] at hR
    clear ok
    generalize s.cls[c.toNat] = x at *
    generalize activeC x s.t = A at *
    refine callD_W 31 Tryd.func43 rfl rfl rfl (fun _ _ => rfl) ?_
    exact wkl trivial
theorem cshown_A (s : StateD) (ok : StOk s) (c : Int) (hc : 0 ≤ c ∧ c < (s.cls.length : Int)) («at» : Int) (ha : N12 0 «at») (en : ConnD) (he : N12 (-1) en.on) (w : ShownD) :
    PureD Tryd.prog 44 [.rp (encSt s) 0, intD c, intD «at», connD en, shD w] (intD (shownE s c «at» en w)) := by
  refine hide_r fun R hR => ?_
  unfold shownE at hR
  have hl := ok.lcl
  have hi : c.toNat < s.cls.length := by omega
  have s0 := get_lt (f := encC) hi
  have c1 := ckey_A «at» (by unfold N12 at ha; unfold Num6; omega)
  have c2 := connb_A en he
  have c3 := cmember_A (clAt s c) s.t w.h (keyC «at») (valCn en) w.p (by have := (ok.cls _ (clAt_mem hc).2).len; omega)
  rw [(clAt_mem hc).1] at hR c3
  clear ok ha he
  generalize s.cls[c.toNat] = x at *
  generalize keyC «at» = K at *
  generalize valCn en = V at *
  generalize memberE x s.t w.h K V w.p = M at *
  refine callD_W 31 Tryd.func44 rfl rfl rfl (fun _ _ => rfl) ?_
  exact wkl trivial
theorem addcn_A (s : StateD) (ok : StOk s) (c : ConnD) : PureD Tryd.prog 45 [stateD s, connD c] (.tup [stateD (addCn s c).1, intD (addCn s c).2.1, intD (addCn s c).2.2]) := by
  refine hide_r fun R hR => ?_
  have e1 := sown_D s ok.sm
  have hl := ok.lcn
  unfold addCn at hR
  have m1 : s.cns.map encCn ++ [encCn (c)] = (s.cns ++ [c]).map encCn := by simp
  have m2 : s.cns.length + 1 = (s.cns ++ [c]).length := by simp
  have m3 : ((s.cns ++ [c]).length : Int) - 1 = s.cns.length := by simp
  simp only [encCn] at m1
  generalize s.cns ++ [c] = L at *
  by_cases h : (s.cns.length : Int) = 8
  · rw [if_pos h] at hR
    clear ok e1
    refine callD_W 26 Tryd.func45 rfl rfl rfl (fun _ _ => rfl) ?_
    exact wkl trivial
  · rw [if_neg h] at hR
    clear ok
    refine callD_W 26 Tryd.func45 rfl rfl rfl (fun _ _ => rfl) ?_
    exact wkl trivial
theorem initcn_A (s : StateD) (hs : StSm s) (c other : Int) : PureD Tryd.prog 12 [stateD s, intD c, intD other] (.tup [stateD (initCn s c other).1, intD (initCn s c other).2.1, intD (initCn s c other).2.2]) := by
  refine hide_r fun R hR => ?_
  have c1 := swrong_A s hs
  unfold initCn at hR
  by_cases h : wrongS s = 0
  · have ok := wrongS_zero.1 h
    rw [h] at c1
    rw [if_pos h] at hR
    have c2 := cover_A s ok c
    have c3 := addcn_A s ok ⟨1, c, other, -1⟩
    generalize overE s c = E at *
    generalize addCn s ⟨1, c, other, -1⟩ = A at *
    clear ok h hs
    refine callD_W 38 Tryd.func12 rfl rfl rfl (fun _ _ => rfl) ?_
    exact wkl trivial
  · rw [if_neg h] at hR
    generalize wrongS s = W at *
    clear hs
    refine callD_W 38 Tryd.func12 rfl rfl rfl (fun _ _ => rfl) ?_
    exact wkl trivial
theorem trycn_A (s : StateD) (hs : StSm s) (c other oc : Int) (w : ShownD) : PureD Tryd.prog 11 [stateD s, intD c, intD other, intD oc, shD w] (.tup [stateD (tryCn s c other oc w).1, intD (tryCn s c other oc w).2.1, intD (tryCn s c other oc w).2.2]) := by
  refine hide_r fun R hR => ?_
  have c1 := swrong_A s hs
  unfold tryCn at hR
  by_cases h : wrongS s = 0
  · have ok := wrongS_zero.1 h
    rw [h] at c1
    rw [if_pos h] at hR
    have c2 := cover_A s ok c
    have c3 := addcn_A s ok ⟨2, c, other, oc⟩
    by_cases h2 : overE s c = 0
    · rw [if_pos h2] at hR
      rw [h2] at c2
      by_cases h3 : other < 0 ∨ 1000000000000 < other ∨ oc < 0 ∨ 1000000000000 < oc
      · rw [if_pos h3] at hR
        clear c3 ok h hs h2
        refine callD_W 65 Tryd.func11 rfl rfl rfl (fun _ _ => rfl) ?_
        exact wkl trivial
      · rw [if_neg h3] at hR
        have c4 := cshown_A s ok c (overE_zero.1 h2).1 oc (by unfold N12; omega) ⟨1, other, c, -1⟩ (by unfold N12; simp) w
        generalize shownE s c oc ⟨1, other, c, -1⟩ w = E at *
        generalize addCn s ⟨2, c, other, oc⟩ = A at *
        clear ok h hs h2
        refine callD_W 65 Tryd.func11 rfl rfl rfl (fun _ _ => rfl) ?_
        exact wkl trivial
    · rw [if_neg h2] at hR
      generalize overE s c = E at *
      clear c3 ok h hs
      refine callD_W 65 Tryd.func11 rfl rfl rfl (fun _ _ => rfl) ?_
      exact wkl trivial
  · rw [if_neg h] at hR
    generalize wrongS s = W at *
    clear hs
    refine callD_W 65 Tryd.func11 rfl rfl rfl (fun _ _ => rfl) ?_
    exact wkl trivial
end Go.Proofs.YtmclpbcipkdmcaaDoor
/- chans.Over, shown, add, Init, Try, end, now: by value. -/
set_option linter.all false
namespace Go.Proofs.YtmclpbcipkdmcaaDoor
open Go Go.Abs Go.RowKit Go.Proofs.YtmclpbcipkdmcaaDoor.Ty

set_option maxHeartbeats 8000000
set_option maxRecDepth 20000
theorem overch_A (s : StateD) (ok : StOk s) (i : Int) : PureD Tryd.prog 58 [.rp (encSt s) 0, intD i] (.tup [connD (overCh s i).1, intD (overCh s i).2]) := by
  refine hide_r fun R hR => ?_
  unfold overCh at hR
  have hl := ok.lcl
  have hl2 := ok.lcn
  by_cases h : i < 0 ∨ (s.cns.length : Int) ≤ i
  · rw [if_pos h] at hR
    clear ok
    refine callD_W 63 Tryd.func58 rfl rfl rfl (fun _ _ => rfl) ?_
    exact wkl trivial
  · rw [if_neg h] at hR
    have hi : i.toNat < s.cns.length := by omega
    have s0 := get_lt (f := encCn) hi
    have hcm := cnAt_mem (s := s) (i := i) (by omega)
    have hcl := (ok.cns _ hcm.2).cl
    rw [hcm.1] at hR hcl
    clear hcm
    generalize s.cns[i.toNat] = x at *
    by_cases h2 : (s.cls.length : Int) ≤ x.cl
    · simp only [h2, if_true] at hR
      clear ok hcl
      refine callD_W 63 Tryd.func58 rfl rfl rfl (fun _ _ => rfl) ?_
      exact wkl trivial
    · simp only [h2, if_false] at hR
      have hc0 : 0 ≤ x.cl := hcl.1
      have hj : x.cl.toNat < s.cls.length := by omega
      have s1 := get_lt (f := encC) hj
      have hm := clAt_mem (s := s) (i := x.cl) (by omega)
      have c1 := act_A (ok.cls _ hm.2) ok.t
      rw [hm.1] at hR c1
      clear ok hcl hm
      generalize s.cls[x.cl.toNat] = y at *
      generalize activeC y s.t = A at *
      refine callD_W 63 Tryd.func58 rfl rfl rfl (fun _ _ => rfl) ?_
      exact wkl trivial
theorem hshown_A (s : StateD) (ok : StOk s) (c : ConnD) (hc : 0 ≤ c.cl ∧ c.cl < (s.cls.length : Int)) («at» : Int) (ha : N12 0 «at») (en : ChanD) (he : N12 (-1) en.oc) (w : ShownD) :
    PureD Tryd.prog 60 [.rp (encSt s) 0, connD c, intD «at», chanD en, shD w] (intD (shownHE s c «at» en w)) := by
  refine hide_r fun R hR => ?_
  unfold shownHE at hR
  have hl := ok.lcl
  have hi : c.cl.toNat < s.cls.length := by omega
  have s0 := get_lt (f := encC) hi
  have c1 := hkey_A «at» (by unfold N12 at ha; unfold Num6; omega)
  have c2 := chanb_A en he
  have c3 := cmember_A (clAt s c.cl) s.t w.h (keyH «at») (valCh en) w.p (by have := (ok.cls _ (clAt_mem hc).2).len; omega)
  rw [(clAt_mem hc).1] at hR c3
  clear ok ha he
  generalize s.cls[c.cl.toNat] = x at *
  generalize keyH «at» = K at *
  generalize valCh en = V at *
  generalize memberE x s.t w.h K V w.p = M at *
  refine callD_W 32 Tryd.func60 rfl rfl rfl (fun _ _ => rfl) ?_
  exact wkl trivial
theorem addch_A (s : StateD) (ok : StOk s) (c : ChanD) : PureD Tryd.prog 59 [stateD s, chanD c] (.tup [stateD (addCh s c).1, intD (addCh s c).2.1, intD (addCh s c).2.2]) := by
  refine hide_r fun R hR => ?_
  have e1 := sown_D s ok.sm
  have hl := ok.lch
  unfold addCh at hR
  have m1 : s.chs.map encCh ++ [encCh ({ c with snd := 1, rcv := 1, ack := 1 })] = (s.chs ++ [{ c with snd := 1, rcv := 1, ack := 1 }]).map encCh := by simp
  have m2 : s.chs.length + 1 = (s.chs ++ [{ c with snd := 1, rcv := 1, ack := 1 }]).length := by simp
  have m3 : ((s.chs ++ [{ c with snd := 1, rcv := 1, ack := 1 }]).length : Int) - 1 = s.chs.length := by simp
  simp only [encCh] at m1
  generalize s.chs ++ [{ c with snd := 1, rcv := 1, ack := 1 }] = L at *
  by_cases h : (s.chs.length : Int) = 8
  · rw [if_pos h] at hR
    clear ok e1
    refine callD_W 29 Tryd.func59 rfl rfl rfl (fun _ _ => rfl) ?_
    exact wkl trivial
  · rw [if_neg h] at hR
    clear ok
    refine callD_W 29 Tryd.func59 rfl rfl rfl (fun _ _ => rfl) ?_
    exact wkl trivial
theorem initch_A (s : StateD) (hs : StSm s) (i : Int) (o : Bool) : PureD Tryd.prog 19 [stateD s, intD i, boolD o] (.tup [stateD (initCh s i o).1, intD (initCh s i o).2.1, intD (initCh s i o).2.2]) := by
  refine hide_r fun R hR => ?_
  have c1 := swrong_A s hs
  unfold initCh at hR
  by_cases h : wrongS s = 0
  · have ok := wrongS_zero.1 h
    rw [h] at c1
    rw [if_pos h] at hR
    have c2 := overch_A s ok i
    have c3 := addch_A s ok ⟨1, o, i, -1, 0, 0, 0⟩
    generalize overCh s i = E at *
    generalize addCh s ⟨1, o, i, -1, 0, 0, 0⟩ = A at *
    clear ok h hs
    refine callD_W 35 Tryd.func19 rfl rfl rfl (fun _ _ => rfl) ?_
    exact wkl trivial
  · rw [if_neg h] at hR
    generalize wrongS s = W at *
    clear hs
    refine callD_W 35 Tryd.func19 rfl rfl rfl (fun _ _ => rfl) ?_
    exact wkl trivial
theorem trych_A (s : StateD) (hs : StSm s) (i : Int) (o : Bool) (other : Int) (w : ShownD) : PureD Tryd.prog 21 [stateD s, intD i, boolD o, intD other, shD w] (.tup [stateD (tryCh s i o other w).1, intD (tryCh s i o other w).2.1, intD (tryCh s i o other w).2.2]) := by
  refine hide_r fun R hR => ?_
  have c1 := swrong_A s hs
  unfold tryCh at hR
  by_cases h : wrongS s = 0
  · have ok := wrongS_zero.1 h
    rw [h] at c1
    rw [if_pos h] at hR
    have c2 := overch_A s ok i
    have c3 := addch_A s ok ⟨2, o, i, other, 0, 0, 0⟩
    by_cases h2 : (overCh s i).2 = 0
    · obtain ⟨hi, h4, h5, h6, h7⟩ := overCh_zero.1 h2
      have hcn := ok.cns _ (cnAt_mem hi).2
      rw [if_pos h2] at hR
      rw [overCh_fst h2] at c2
      by_cases h3 : other < 0 ∨ 1000000000000 < other
      · rw [if_pos h3] at hR
        generalize cnAt s i = x at *
        clear c3 ok h hs h2 hcn h7
        refine callD_W 62 Tryd.func21 rfl rfl rfl (fun _ _ => rfl) ?_
        exact wkl trivial
      · rw [if_neg h3] at hR
        have c4 := hshown_A s ok (cnAt s i) ⟨hcn.cl.1, h6⟩ other (by unfold N12; omega) ⟨1, o, (cnAt s i).on, -1, 0, 0, 0⟩ (by unfold N12; simp) w
        generalize shownHE s (cnAt s i) other ⟨1, o, (cnAt s i).on, -1, 0, 0, 0⟩ w = E at *
        generalize addCh s ⟨2, o, i, other, 0, 0, 0⟩ = A at *
        generalize cnAt s i = x at *
        clear ok h hs h2 hcn h7
        refine callD_W 62 Tryd.func21 rfl rfl rfl (fun _ _ => rfl) ?_
        exact wkl trivial
    · rw [if_neg h2] at hR
      generalize overCh s i = E at *
      clear c3 ok h hs
      refine callD_W 62 Tryd.func21 rfl rfl rfl (fun _ _ => rfl) ?_
      exact wkl trivial
  · rw [if_neg h] at hR
    generalize wrongS s = W at *
    clear hs
    refine callD_W 62 Tryd.func21 rfl rfl rfl (fun _ _ => rfl) ?_
    exact wkl trivial
theorem endch_A (s : StateD) (hs : StSm s) (i want : Int) : PureD Tryd.prog 61 [.rp (encSt s) 0, intD i, intD want] (.tup [chanD (endCh s i want).1, connD (endCh s i want).2.1, intD (endCh s i want).2.2]) := by
  refine hide_r fun R hR => ?_
  have c1 := swrong_A s hs
  unfold endCh at hR
  by_cases h : wrongS s = 0
  · have ok := wrongS_zero.1 h
    have hl := ok.lch
    rw [h] at c1
    rw [if_pos h] at hR
    by_cases h2 : i < 0 ∨ (s.chs.length : Int) ≤ i
    · rw [if_pos h2] at hR
      clear ok h hs
      refine callD_W 58 Tryd.func61 rfl rfl rfl (fun _ _ => rfl) ?_
      exact wkl trivial
    · rw [if_neg h2] at hR
      have hi : i.toNat < s.chs.length := by omega
      have s0 := get_lt (f := encCh) hi
      have c2 := overch_A s ok (chAt s i).cn
      rw [(chAt_mem (s := s) (i := i) (by omega)).1] at hR c2
      clear ok h hs
      generalize s.chs[i.toNat] = x at *
      generalize overCh s x.cn = E at *
      refine callD_W 58 Tryd.func61 rfl rfl rfl (fun _ _ => rfl) ?_
      exact wkl trivial
  · rw [if_neg h] at hR
    generalize wrongS s = W at *
    clear hs
    refine callD_W 58 Tryd.func61 rfl rfl rfl (fun _ _ => rfl) ?_
    exact wkl trivial
theorem nowch_A (s : StateD) (ok : StOk s) (i how oc : Int) (hi : 0 ≤ i ∧ i < (s.chs.length : Int)) : PureD Tryd.prog 62 [stateD s, intD i, intD how, intD oc] (stateD (nowCh s i how oc)) := by
  refine hide_r fun R hR => ?_
  have e1 := sown_D s ok.sm
  have hl := ok.lch
  unfold nowCh at hR
  rw [(chAt_mem hi).1] at hR
  have hi' : i.toNat < s.chs.length := by omega
  have s0 := get_lt (f := encCh) hi'
  have s1 := fun x => List.getElem?_set_self (l := s.chs.map encCh) (i := i.toNat) (a := x) (by simpa using hi')
  have s2 : ∀ x y, ((s.chs.map encCh).set i.toNat x).set i.toNat y = (s.chs.map encCh).set i.toNat y := fun x y => List.set_set x
  have s3 : (s.chs.map encCh).set i.toNat (encCh { s.chs[i.toNat] with st := how, oc := oc }) = (s.chs.set i.toNat { s.chs[i.toNat] with st := how, oc := oc }).map encCh := List.map_set.symm
  have s4 : s.chs.length = (s.chs.set i.toNat { s.chs[i.toNat] with st := how, oc := oc }).length := by simp
  generalize s.chs.set i.toNat { s.chs[i.toNat] with st := how, oc := oc } = L at *
  generalize s.chs[i.toNat] = x at *
  simp only [encCh] at s3
  clear ok
  refine callD_W 25 Tryd.func62 rfl rfl rfl (fun _ _ => rfl) ?_
  exact wkl trivial
end Go.Proofs.YtmclpbcipkdmcaaDoor
/- packet.Digest, Wrong, end: by value. -/
set_option linter.all false
namespace Go.Proofs.YtmclpbcipkdmcaaDoor
open Go Go.Abs Go.RowKit Go.Proofs.YtmclpbcipkdmcaaDoor.Ty

set_option maxHeartbeats 8000000
set_option maxRecDepth 20000
theorem pkn_A (x : Int) : PureD Tryd.prog 108 [intD x] (.agg [.i (.s (.int .i64 1)), .i (.s (.int .u64 (u64 x))), .i (.sl [])]) := by
  refine hide_r fun R hR => ?_
  have w1 := wrap_u x
  refine callD_W 6 Tryd.func108 rfl rfl rfl (fun _ _ => rfl) ?_
  exact wkl trivial
theorem pkdig_A (p : PackD) (hd : p.data.length ≤ 1048576) : PureD Tryd.prog 82 [packD p] (.i (bI (digPk p))) := by
  refine hide_r fun R hR => ?_
  have c1 := pkn_A p.fr
  have c2 := pkn_A p.de
  have c3 := pkn_A p.seq
  have c4 := pkn_A p.tout
  have c5 := write_A (pcsPk p) (by simp [pcsPk]) (by intro q hq; simp only [pcsPk, numP, rawB, List.mem_cons, List.not_mem_nil, or_false] at hq; rcases hq with rfl | rfl | rfl | rfl | rfl <;> simp <;> omega)
    (by intro q hq; simp only [pcsPk, numP, rawB, List.mem_cons, List.not_mem_nil, or_false] at hq; rcases hq with rfl | rfl | rfl | rfl | rfl <;> first | exact u64_lt _ | (simp only; omega))
  have c6 := sum_D (writeF (pcsPk p)).1 (by have := writeF_len (pcsPk p); omega)
  unfold digPk at hR
  generalize writeF (pcsPk p) = W at *
  simp only [pcsPk, numP, rawB, List.map_cons, List.map_nil, encP, faultD, bI] at c5
  generalize u64 p.fr = a1 at *
  generalize u64 p.de = a2 at *
  generalize u64 p.seq = a3 at *
  generalize u64 p.tout = a4 at *
  refine callD_W 27 Tryd.func82 rfl rfl rfl (fun _ _ => rfl) ?_
  exact wkl trivial
theorem pkwrong_A (p : PackD) : PureD Tryd.prog 79 [packD p] (intD (wrongPk p)) := by
  refine hide_r fun R hR => ?_
  unfold wrongPk at hR
  refine callD_W 47 Tryd.func79 rfl rfl rfl (fun _ _ => rfl) ?_
  exact wkl trivial
def encW (w : Int) : List I := [.s (.int .i64 w)]
attribute [simp, go_sem] encW
theorem stIn_lt {st : Int} {ws : List Int} {i : Nat} (h : i < ws.length) : stIn st (ws.drop i) = (decide (st = ws[i]) || stIn st (ws.drop (i + 1))) := by
  unfold stIn; rw [List.drop_eq_getElem_cons h, List.any_cons]
theorem endpk_A (s : StateD) (hs : StSm s) (i : Int) (ws : List Int) (hw : ws.length ≤ 1000) : PureD Tryd.prog 78 [.rp (encSt s) 0, intD i, .i (.sl (ws.map encW))] (.tup [chanD (endPk s i ws).1, connD (endPk s i ws).2.1, intD (endPk s i ws).2.2]) := by
  refine hide_r fun R hR => ?_
  have c1 := swrong_A s hs
  unfold endPk at hR
  by_cases h : wrongS s = 0
  · have ok := wrongS_zero.1 h
    have hl := ok.lch
    rw [h] at c1
    rw [if_pos h] at hR
    by_cases h2 : i < 0 ∨ (s.chs.length : Int) ≤ i
    · rw [if_pos h2] at hR
      clear ok h hs
      refine callD_W 67 Tryd.func78 rfl rfl rfl (fun _ _ => rfl) ?_
      exact wkl trivial
    · rw [if_neg h2] at hR
      have hi : i.toNat < s.chs.length := by omega
      have s0 := get_lt (f := encCh) hi
      have c2 := overch_A s ok (chAt s i).cn
      rw [(chAt_mem (s := s) (i := i) (by omega)).1] at hR c2
      clear ok h hs
      generalize s.chs[i.toNat] = x at *
      generalize overCh s x.cn = E at *
      refine callD_W 67 Tryd.func78 rfl rfl rfl (fun _ _ => rfl) ?_
      refine wkl ?_
      clear hR; intro hR
      have hR' : Hr (if stIn x.st (ws.drop 0) = true then D.tup [chanD x, connD E.1, intD E.2] else D.tup [chanD zeroCh, connD zeroCn, intD 12]) R := by
        rw [List.drop_zero]
        revert hR
        split <;> exact id
      clear hR
      refine W_loopR (ι := Nat) (fun j => j ≤ ws.length ∧ Hr (if stIn x.st (ws.drop j) = true then D.tup [chanD x, connD E.1, intD E.2] else D.tup [chanD zeroCh, connD zeroCn, intD 12]) R)
        (fun j => stOf [(0, .rp (encSt s) 0), (6, .pt 101 0 0 0), (7, .pt 102 0 0 0), (8, intD 0), (10, .pt 100 0 0 0), (44, .i (.sl (ws.map encW))), (45, intD ws.length), (46, intD j)] [(100, .box ((encCh x).map .i)), (101, .box ((encCh zeroCh).map .i)), (102, .box ((encCn zeroCn).map .i))]) (fun j => ws.length - j) 0 ⟨Nat.zero_le _, hR'⟩ ?_ ?_
      · exact le_ok [] [(100, 2543), (101, 1000), (102, 1001)]
      · rintro j ⟨hj, hR⟩ RL hL
        clear hR'
        rw [stOf_eq]
        by_cases h' : j < ws.length
        · have s1 := get_lt (f := encW) h'
          rw [stIn_lt h'] at hR
          have b1 := fun σ' (hq : Hr _ R) => bk [] [(100, 100), (101, 101), (102, 102)] (hL (j + 1) σ' ⟨h', hq⟩)
          clear hL
          generalize ws[j] = w at *
          by_cases e : x.st = w
          · simp only [e, decide_true, Bool.true_or, if_true] at hR
            clear b1
            exact wkl trivial
          · simp only [e, decide_false, Bool.false_or] at hR
            exact wkl trivial
        · rw [List.drop_eq_nil_of_le (by omega)] at hR
          simp only [stIn, List.any_nil, Bool.false_eq_true, if_false] at hR
          clear hL
          exact wkl trivial
  · rw [if_neg h] at hR
    generalize wrongS s = W at *
    clear hs
    refine callD_W 67 Tryd.func78 rfl rfl rfl (fun _ _ => rfl) ?_
    exact wkl trivial
end Go.Proofs.YtmclpbcipkdmcaaDoor
/- Packets: what a step that is done leaves. No program is in sight. -/
set_option linter.all false
namespace Go.Proofs.YtmclpbcipkdmcaaDoor
open Go Go.Abs

structure ListOk (l : List MarkD) : Prop where
  ok : MksOk l
  len : l.length ≤ 50
theorem StOk.pk {s : StateD} (h : StOk s) {x : List ChanD} {a b c : List MarkD} (hl : x.length = s.chs.length) (hx : ∀ c ∈ x, ChOk c) (h1 : ListOk a) (h2 : ListOk b) (h3 : ListOk c) : StOk { s with chs := x, sent := a, got := b, acks := c } :=
  ⟨h.name, h.h, h.t, h.lcl, h.lcn, by have := h.lch; simp only; omega, h1.len, h2.len, h3.len, h.lpus, h.cls, h.cns, hx, h1.ok, h2.ok, h3.ok, h.pus⟩
theorem StOk.l1 {s : StateD} (h : StOk s) : ListOk s.sent := ⟨h.sent, h.lsent⟩
theorem StOk.l2 {s : StateD} (h : StOk s) : ListOk s.got := ⟨h.got, h.lgot⟩
theorem StOk.l3 {s : StateD} (h : StOk s) : ListOk s.acks := ⟨h.acks, h.lacks⟩
theorem put_list {l : List MarkD} (h : ListOk l) (hl : ¬ l.length = 50) {m : MarkD} (hm : MkOk m) : ListOk (putM l m) := by
  refine ⟨⟨fun x hx => ?_, KL.srt_put cmpM_ok h.ok.srt (fun x hx => by cases hx; rfl)⟩, ?_⟩
  · rcases (KL.mem_put cmpM_ok).1 hx with hx | hx
    · exact h.ok.all x hx.1
    · cases hx; exact hm
  · rw [putM_len h.ok]
    have := h.len
    split <;> omega
theorem dropM_len {l : List MarkD} (h : MksOk l) (ch seq : Int) : (dropM l ch seq).length ≤ l.length := by
  unfold dropM
  cases hg : getM l ch seq with
  | none => rw [KL.put_none cmpM_ok h.srt hg]; exact Nat.le_refl _
  | some u => rw [KL.put_del cmpM_ok h.srt hg]; simp; omega
theorem drop_list {l : List MarkD} (h : ListOk l) (ch seq : Int) : ListOk (dropM l ch seq) := by
  refine ⟨⟨fun x hx => ?_, KL.srt_put cmpM_ok h.ok.srt (fun x hx => by cases hx)⟩, ?_⟩
  · rcases (KL.mem_put cmpM_ok).1 hx with hx | hx
    · exact h.ok.all x hx.1
    · cases hx
  · have := dropM_len h.ok ch seq
    have := h.len
    omega
theorem set_chs {s : StateD} (ok : StOk s) {i : Int} {c : ChanD} (hc : ChOk c) : ∀ x ∈ s.chs.set i.toNat c, ChOk x := fun x hx => by
  rcases List.mem_or_eq_of_mem_set hx with hx | rfl
  · exact ok.chs x hx
  · exact hc
theorem get_putM {l : List MarkD} (h : MksOk l) (m : MarkD) (ch seq : Int) : getM (putM l m) ch seq = if ch = m.ch ∧ seq = m.seq then some m else getM l ch seq := by
  unfold getM putM
  have := KL.get_put (κ := mk) cmpM_ok h.srt (k := (m.ch, m.seq)) (v := some m) (fun x hx => by cases hx; rfl) (ch, seq)
  rw [this]
  by_cases e : ch = m.ch ∧ seq = m.seq
  · rw [if_pos e, if_pos (by rw [e.1, e.2])]
  · rw [if_neg e, if_neg (fun hh => e (by simp only [Prod.mk.injEq] at hh; exact hh))]
theorem get_dropM {l : List MarkD} (h : MksOk l) (ch' seq' ch seq : Int) : getM (dropM l ch' seq') ch seq = if ch = ch' ∧ seq = seq' then none else getM l ch seq := by
  unfold getM dropM
  have := KL.get_put (κ := mk) cmpM_ok h.srt (k := (ch', seq')) (v := none) (fun x hx => by cases hx) (ch, seq)
  rw [this]
  by_cases e : ch = ch' ∧ seq = seq'
  · rw [if_pos e, if_pos (by rw [e.1, e.2])]
  · rw [if_neg e, if_neg (fun hh => e (by simp only [Prod.mk.injEq] at hh; exact hh))]
/-- What a packet's step leaves: its own channel and marks may have changed, no more. -/
structure PkStep (s : StateD) (own : Int) (t : StateD) : Prop where
  ok : StOk t
  same : { t with chs := s.chs, sent := s.sent, got := s.got, acks := s.acks } = s
  len : t.chs.length = s.chs.length
  chs : ∀ i (h : i < s.chs.length) (h' : i < t.chs.length), ¬ (i : Int) = own → t.chs[i] = s.chs[i]
  sent : ∀ m ∈ s.sent, ¬ m.ch = own → getM t.sent m.ch m.seq = some m
  got : ∀ m ∈ s.got, ¬ m.ch = own → getM t.got m.ch m.seq = some m
  acks : ∀ m ∈ s.acks, ¬ m.ch = own → getM t.acks m.ch m.seq = some m
theorem get_self {l : List MarkD} (h : MksOk l) {m : MarkD} (hm : m ∈ l) : getM l m.ch m.seq = some m := (KL.get_iff cmpM_ok h.srt).2 ⟨hm, rfl⟩
theorem keep_put {l : List MarkD} (h : MksOk l) {x m : MarkD} (hm : m ∈ l) (hne : ¬ m.ch = x.ch) : getM (putM l x) m.ch m.seq = some m := by
  rw [get_putM h, if_neg (fun e => hne e.1)]; exact get_self h hm
theorem keep_drop {l : List MarkD} (h : MksOk l) {ch seq : Int} {m : MarkD} (hm : m ∈ l) (hne : ¬ m.ch = ch) : getM (dropM l ch seq) m.ch m.seq = some m := by
  rw [get_dropM h, if_neg (fun e => hne e.1)]; exact get_self h hm
theorem set_keep {l : List ChanD} {own : Int} (h0 : 0 ≤ own) {c : ChanD} (i : Nat) (h : i < l.length) (h' : i < (l.set own.toNat c).length) (hne : ¬ (i : Int) = own) : (l.set own.toNat c)[i] = l[i] := by
  rw [List.getElem_set_ne]; omega
theorem endPk_ok {s : StateD} {i : Int} {ws : List Int} (h : (endPk s i ws).2.2 = 0) : StOk s ∧ (0 ≤ i ∧ i < (s.chs.length : Int)) ∧ ChOk (chAt s i) := by
  obtain ⟨a, b, _, _⟩ := endPk_zero.1 h
  exact ⟨a, b, a.chs _ (chAt_mem b).2⟩
theorem dig_len (p : PackD) : (digPk p).length = 32 := sha_length _
theorem i12 {s : StateD} (ok : StOk s) {i : Int} (h : 0 ≤ i ∧ i < (s.chs.length : Int)) : N12 0 i := by
  have := ok.lch
  unfold N12; omega
structure SendOk (s : StateD) (i : Int) (data : List UInt8) (tout : Int) : Prop where
  en : (endPk s i [3]).2.2 = 0
  pk : PkOk ⟨i, (chAt s i).oc, (chAt s i).snd, data, tout⟩
  late : (lastC (clOf s i)).h < tout
  room : ¬ s.sent.length = 50 ∧ ¬ (chAt s i).snd = 1000000000000
theorem sendPk_zero {s : StateD} {i : Int} {data : List UInt8} {tout : Int} : (sendPk s i data tout).2.2 = 0 ↔ SendOk s i data tout := by
  unfold sendPk
  constructor
  · intro h
    split at h
    · split at h
      · split at h
        · cases h
        · split at h
          · cases h
          · exact ⟨by assumption, wrongPk_zero.1 (by assumption), by omega, by omega⟩
      · exact absurd h ‹_›
    · exact absurd h ‹_›
  · rintro ⟨a, b, c, d⟩
    rw [if_pos a, if_pos (wrongPk_zero.2 b), if_neg (by omega), if_neg (by omega)]
theorem sendPk_done {s : StateD} {i : Int} {data : List UInt8} {tout : Int} (h : SendOk s i data tout) : sendPk s i data tout = (sendS s i ⟨i, (chAt s i).oc, (chAt s i).snd, data, tout⟩, ⟨i, (chAt s i).oc, (chAt s i).snd, data, tout⟩, 0) := by
  obtain ⟨a, b, c, d⟩ := h
  unfold sendPk
  rw [if_pos a, if_pos (wrongPk_zero.2 b), if_neg (by omega), if_neg (by omega)]
theorem send_step {s : StateD} {i : Int} {data : List UInt8} {tout : Int} (h : SendOk s i data tout) : PkStep s i (sendS s i ⟨i, (chAt s i).oc, (chAt s i).snd, data, tout⟩) := by
  obtain ⟨ok, hi, hc⟩ := endPk_ok h.en
  have hk : MkOk ⟨i, (chAt s i).snd, digPk ⟨i, (chAt s i).oc, (chAt s i).snd, data, tout⟩⟩ := ⟨i12 ok hi, hc.snd, dig_len _⟩
  refine ⟨?_, rfl, by simp [sendS], fun j h1 h2 hne => set_keep hi.1 j h1 h2 hne, fun m hm hne => keep_put ok.sent hm hne, fun m hm _ => get_self ok.got hm, fun m hm _ => get_self ok.acks hm⟩
  exact ok.pk (by simp) (set_chs ok ⟨hc.st, hc.cn, hc.oc, by have := hc.snd; have := h.room; unfold N12 at *; simp only; omega, hc.rcv, hc.ack⟩) (put_list ok.l1 h.room.1 hk) ok.l2 ok.l3
structure RecvOk (s : StateD) (p : PackD) (ack : List UInt8) (w : ShownD) : Prop where
  pk : PkOk p
  en : (endPk s p.de [3]).2.2 = 0
  fit : (chAt s p.de).oc = p.fr
  time : s.h < p.tout
  new : ¬ (((chAt s p.de).ord = true ∧ ¬ p.seq = (chAt s p.de).rcv) ∨ ((chAt s p.de).ord = false ∧ (getM s.got p.de p.seq).isSome = true))
  room : ¬ s.got.length = 50 ∧ ¬ s.acks.length = 50 ∧ ack.length ≤ 150 ∧ ¬ (chAt s p.de).rcv = 1000000000000
  shown : memberE (clOf s p.de) s.t w.h (keyM wSent p.fr p.seq) (digPk p) w.p = 0
theorem recvPk_zero {s : StateD} {p : PackD} {ack : List UInt8} {w : ShownD} : (recvPk s p ack w).2 = 0 ↔ RecvOk s p ack w := by
  unfold recvPk
  constructor
  · intro h
    split at h
    · split at h
      · split at h
        · split at h
          · cases h
          · split at h
            · cases h
            · split at h
              · cases h
              · split at h
                · exact ⟨wrongPk_zero.1 (by assumption), by assumption, by assumption, by omega, by assumption, by omega, by assumption⟩
                · exact absurd h ‹_›
        · cases h
      · exact absurd h ‹_›
    · exact absurd h ‹_›
  · rintro ⟨a, b, c, d, e, f, g⟩
    rw [if_pos (wrongPk_zero.2 a), if_pos b, if_pos c, if_neg (by omega), if_neg e, if_neg (by omega), if_pos g]
theorem recvPk_done {s : StateD} {p : PackD} {ack : List UInt8} {w : ShownD} (h : RecvOk s p ack w) : recvPk s p ack w = (recvS s p ack, 0) := by
  obtain ⟨a, b, c, d, e, f, g⟩ := h
  unfold recvPk
  rw [if_pos (wrongPk_zero.2 a), if_pos b, if_pos c, if_neg (by omega), if_neg e, if_neg (by omega), if_pos g]
theorem recv_step {s : StateD} {p : PackD} {ack : List UInt8} {w : ShownD} (h : RecvOk s p ack w) : PkStep s p.de (recvS s p ack) := by
  obtain ⟨ok, hi, hc⟩ := endPk_ok h.en
  have k1 : MkOk ⟨p.de, p.seq, digPk p⟩ := ⟨h.pk.de, h.pk.seq, dig_len _⟩
  have k2 : MkOk ⟨p.de, p.seq, sha ack⟩ := ⟨h.pk.de, h.pk.seq, sha_length _⟩
  unfold recvS
  split
  · refine ⟨?_, rfl, by simp, fun j h1 h2 hne => set_keep hi.1 j h1 h2 hne, fun m hm _ => get_self ok.sent hm, fun m hm _ => get_self ok.got hm, fun m hm hne => keep_put ok.acks hm hne⟩
    exact ok.pk (by simp) (set_chs ok ⟨hc.st, hc.cn, hc.oc, hc.snd, by have := hc.rcv; have := h.room; unfold N12 at *; simp only; omega, hc.ack⟩) ok.l1 ok.l2 (put_list ok.l3 h.room.2.1 k2)
  · refine ⟨?_, rfl, rfl, fun j h1 h2 hne => rfl, fun m hm _ => get_self ok.sent hm, fun m hm hne => keep_put ok.got hm hne, fun m hm hne => keep_put ok.acks hm hne⟩
    exact ok.pk (x := s.chs) rfl ok.chs ok.l1 (put_list ok.l2 h.room.1 k1) (put_list ok.l3 h.room.2.1 k2)
structure PendOk (s : StateD) (p : PackD) : Prop where
  pk : PkOk p
  en : (endPk s p.fr [3, 4]).2.2 = 0
  fit : (chAt s p.fr).oc = p.de
  there : getM s.sent p.fr p.seq = some ⟨p.fr, p.seq, digPk p⟩
theorem pendE_zero {s : StateD} {p : PackD} : pendE s p = 0 ↔ PendOk s p := by
  unfold pendE
  constructor
  · intro h
    by_cases h1 : wrongPk p = 0
    · rw [if_pos h1] at h
      by_cases h2 : (endPk s p.fr [3, 4]).2.2 = 0
      · rw [if_pos h2] at h
        by_cases h3 : (chAt s p.fr).oc = p.de
        · rw [if_pos h3] at h
          cases hm : getM s.sent p.fr p.seq with
          | none => rw [hm] at h; cases h
          | some m =>
            rw [hm] at h
            simp only at h
            by_cases hd : m.dg = digPk p
            · refine ⟨wrongPk_zero.1 h1, h2, h3, ?_⟩
              obtain ⟨ok, _, _⟩ := endPk_ok h2
              have := ((KL.get_iff cmpM_ok ok.sent.srt).1 hm).2
              simp only [mk, Prod.mk.injEq] at this
              rw [hm]
              obtain ⟨a, b, c⟩ := m
              simp only at this hd
              rw [this.1, this.2, hd]
            · rw [if_neg hd] at h; cases h
        · rw [if_neg h3] at h; cases h
      · rw [if_neg h2] at h; exact absurd h h2
    · rw [if_neg h1] at h; exact absurd h h1
  · rintro ⟨a, b, c, d⟩
    rw [if_pos (wrongPk_zero.2 a), if_pos b, if_pos c, d]
    simp
theorem pend_gone {s : StateD} {p : PackD} (a : PkOk p) (b : (endPk s p.fr [3, 4]).2.2 = 0) (c : (chAt s p.fr).oc = p.de) (d : getM s.sent p.fr p.seq = none) : pendE s p = 6 := by
  unfold pendE
  rw [if_pos (wrongPk_zero.2 a), if_pos b, if_pos c, d]
theorem drop_step {s : StateD} {p : PackD} (h : PendOk s p) {c : ChanD} (hc : ChOk c) : PkStep s p.fr (dropS s p c) := by
  obtain ⟨ok, hi, _⟩ := endPk_ok h.en
  refine ⟨?_, rfl, by simp [dropS], fun j h1 h2 hne => set_keep hi.1 j h1 h2 hne, fun m hm hne => keep_drop ok.sent hm hne, fun m hm _ => get_self ok.got hm, fun m hm _ => get_self ok.acks hm⟩
  exact ok.pk (by simp) (set_chs ok hc) (drop_list ok.l1 _ _) ok.l2 ok.l3
theorem dropU_eq {s : StateD} {p : PackD} (h : PendOk s p) : dropU s p = dropS s p (chAt s p.fr) := by
  obtain ⟨ok, hi, _⟩ := endPk_ok h.en
  unfold dropU dropS
  have : s.chs.set p.fr.toNat (chAt s p.fr) = s.chs := by
    rw [(chAt_mem hi).1]
    exact List.set_getElem_self _
  rw [this]
theorem ackPk_zero {s : StateD} {p : PackD} {ack : List UInt8} {w : ShownD} (h : (ackPk s p ack w).2 = 0) : PendOk s p ∧ ∃ c : ChanD, ChOk c ∧ c.st = (chAt s p.fr).st ∧ c.oc = (chAt s p.fr).oc ∧ c.cn = (chAt s p.fr).cn ∧ (ackPk s p ack w).1 = dropS s p c := by
  unfold ackPk at h ⊢
  split at h
  · rename_i h1
    rw [if_pos h1]
    have hp := pendE_zero.1 h1
    obtain ⟨ok, hi, hc⟩ := endPk_ok hp.en
    refine ⟨hp, ?_⟩
    split at h
    · cases h
    · rename_i h2
      rw [if_neg h2]
      split at h
      · cases h
      · rename_i h3
        rw [if_neg h3]
        split at h
        · cases h
        · rename_i h4
          rw [if_neg h4]
          split at h
          · rename_i h5
            rw [if_pos h5]
            by_cases ho : (chAt s p.fr).ord = true
            · rw [if_pos ho]
              refine ⟨{ chAt s p.fr with ack := (chAt s p.fr).ack + 1 }, ⟨hc.st, hc.cn, hc.oc, hc.snd, hc.rcv, ?_⟩, rfl, rfl, rfl, rfl⟩
              have := hc.ack
              have : ¬ (chAt s p.fr).ack = 1000000000000 := fun e => h4 ⟨ho, e⟩
              unfold N12 at *; simp only; omega
            · rw [if_neg ho]
              exact ⟨chAt s p.fr, hc, rfl, rfl, rfl, dropU_eq hp⟩
          · exact absurd h ‹_›
  · exact absurd h ‹_›
theorem latePk_zero {s : StateD} {p : PackD} {next : Int} {w : ShownD} (h : (latePk s p next w).2 = 0) : PendOk s p ∧ ∃ c : ChanD, ChOk c ∧ (c.st = 4 ∨ c.st = (chAt s p.fr).st) ∧ c.oc = (chAt s p.fr).oc ∧ c.cn = (chAt s p.fr).cn ∧ (latePk s p next w).1 = dropS s p c := by
  unfold latePk at h ⊢
  split at h
  · rename_i h1
    rw [if_pos h1]
    have hp := pendE_zero.1 h1
    obtain ⟨ok, hi, hc⟩ := endPk_ok hp.en
    refine ⟨hp, ?_⟩
    split at h
    · cases h
    · rename_i h2
      rw [if_neg h2]
      split at h
      · rename_i ho
        rw [if_pos ho]
        split at h
        · cases h
        · rename_i h3
          rw [if_neg h3]
          split at h
          · rename_i h4
            rw [if_pos h4]
            exact ⟨{ chAt s p.fr with st := 4 }, ⟨by simp, hc.cn, hc.oc, hc.snd, hc.rcv, hc.ack⟩, .inl rfl, rfl, rfl, rfl⟩
          · exact absurd h ‹_›
      · rename_i ho
        rw [if_neg ho]
        split at h
        · rename_i h4
          rw [if_pos h4]
          exact ⟨chAt s p.fr, hc, .inr rfl, rfl, rfl, dropU_eq hp⟩
        · exact absurd h ‹_›
  · exact absurd h ‹_›
/-- the channel's own end behind a step -/
theorem end_drop {s : StateD} {p : PackD} (h : PendOk s p) {c : ChanD} (hc : ChOk c) (h1 : c.st = 3 ∨ c.st = 4) (h2 : c.oc = (chAt s p.fr).oc) (h3 : c.cn = (chAt s p.fr).cn) : pendE (dropS s p c) p = 6 := by
  obtain ⟨ok, hi, _⟩ := endPk_ok h.en
  obtain ⟨_, _, _, h4⟩ := endPk_zero.1 h.en
  have hst := (drop_step h hc).ok
  have hat : chAt (dropS s p c) p.fr = c := by
    unfold chAt dropS
    simp only
    rw [List.getD_eq_getElem?_getD, List.getElem?_set_self (by omega)]; rfl
  have hov : overCh (dropS s p c) c.cn = overCh s (chAt s p.fr).cn := by rw [h3]; rfl
  refine pend_gone h.pk (endPk_zero.2 ⟨hst, by simp [dropS]; omega, ?_, ?_⟩) (by rw [hat, h2, h.fit]) ?_
  · rw [hat]; rcases h1 with e | e <;> rw [e] <;> decide
  · rw [hat, hov]; exact h4
  · show getM (dropM s.sent p.fr p.seq) p.fr p.seq = none
    rw [get_dropM ok.sent]; simp
theorem once_recv {s : StateD} {p : PackD} {ack : List UInt8} {w : ShownD} (h : RecvOk s p ack w) : (recvPk (recvS s p ack) p ack w).2 = 12 := by
  obtain ⟨ok, hi, _⟩ := endPk_ok h.en
  obtain ⟨_, _, h3, h4⟩ := endPk_zero.1 h.en
  have hst := (recv_step h).ok
  have key : (endPk (recvS s p ack) p.de [3]).2.2 = 0 ∧ (chAt (recvS s p ack) p.de).oc = p.fr ∧ (recvS s p ack).h = s.h ∧ (((chAt (recvS s p ack) p.de).ord = true ∧ ¬ p.seq = (chAt (recvS s p ack) p.de).rcv) ∨ ((chAt (recvS s p ack) p.de).ord = false ∧ (getM (recvS s p ack).got p.de p.seq).isSome = true)) := by
    unfold recvS at hst ⊢
    by_cases ho : (chAt s p.de).ord = true
    · rw [if_pos ho] at hst ⊢
      have hat : ∀ a : List MarkD, chAt { s with chs := s.chs.set p.de.toNat { chAt s p.de with rcv := (chAt s p.de).rcv + 1 }, acks := a } p.de = { chAt s p.de with rcv := (chAt s p.de).rcv + 1 } := fun a => by
        unfold chAt
        simp only
        rw [List.getD_eq_getElem?_getD, List.getElem?_set_self (by omega)]; rfl
      have hq : p.seq = (chAt s p.de).rcv := Classical.byContradiction fun e => h.new (.inl ⟨ho, e⟩)
      refine ⟨endPk_zero.2 ⟨hst, by simp; omega, ?_, ?_⟩, ?_, rfl, .inl ?_⟩
      · rw [hat]; exact h3
      · rw [hat]; exact h4
      · rw [hat]; exact h.fit
      · rw [hat]; exact ⟨ho, by simp only; omega⟩
    · rw [if_neg ho] at hst ⊢
      have ho' : (chAt s p.de).ord = false := by simpa using ho
      refine ⟨endPk_zero.2 ⟨hst, hi, h3, h4⟩, h.fit, rfl, .inr ⟨ho', ?_⟩⟩
      show (getM (putM s.got ⟨p.de, p.seq, digPk p⟩) p.de p.seq).isSome = true
      rw [get_putM ok.got]; simp
  obtain ⟨k1, k2, k3, k4⟩ := key
  unfold recvPk
  rw [if_pos (wrongPk_zero.2 h.pk), if_pos k1, if_pos k2, if_neg (by have := h.time; omega), if_pos k4]
end Go.Proofs.YtmclpbcipkdmcaaDoor
/- packet.Send: by value. -/
set_option linter.all false
namespace Go.Proofs.YtmclpbcipkdmcaaDoor
open Go Go.Abs Go.RowKit Go.Proofs.YtmclpbcipkdmcaaDoor.Ty

set_option maxHeartbeats 16000000
set_option maxRecDepth 20000
theorem last_get {c : ClientD} (h : 1 ≤ c.known.length) : ∃ hp : c.known.length - 1 < c.known.length, lastC c = c.known[c.known.length - 1] :=
  ⟨by omega, by unfold lastC; rw [List.getLastD_eq_getLast?, List.getLast?_eq_getElem?, List.getElem?_eq_getElem (by omega)]; rfl⟩
theorem sendpk_A (s : StateD) (hs : StSm s) (i : Int) (data : List UInt8) (hd : data.length ≤ 1048576) (tout : Int) :
    PureD Tryd.prog 36 [stateD s, intD i, .i (bI data), intD tout] (.tup [stateD (sendPk s i data tout).1, packD (sendPk s i data tout).2.1, intD (sendPk s i data tout).2.2]) := by
  refine hide_r fun R hR => ?_
  have c1 := endpk_A s hs i [3] (by simp)
  simp only [List.map_cons, List.map_nil] at c1
  unfold sendPk at hR
  by_cases h : (endPk s i [3]).2.2 = 0
  · rw [if_pos h] at hR
    rw [endPk_fst h] at c1
    obtain ⟨ok, hi, hst, hov⟩ := endPk_zero.1 h
    obtain ⟨hj, h4, h5, h6, h7⟩ := overCh_zero.1 hov
    have hch := ok.chs _ (chAt_mem hi).2
    have hcn := ok.cns _ (cnAt_mem hj).2
    have c2 := clone_A data (by omega)
    have c3 := pkwrong_A ⟨i, (chAt s i).oc, (chAt s i).snd, data, tout⟩
    by_cases h2 : wrongPk ⟨i, (chAt s i).oc, (chAt s i).snd, data, tout⟩ = 0
    · rw [if_pos h2] at hR
      rw [h2] at c3
      have hcl : 0 ≤ (cnAt s (chAt s i).cn).cl ∧ (cnAt s (chAt s i).cn).cl < (s.cls.length : Int) := ⟨hcn.cl.1, h6⟩
      have hm := clAt_mem hcl
      have hcok := ok.cls _ hm.2
      have hkl := hcok.len
      have s0 := get_lt (f := encC) (l := s.cls) (i := (cnAt s (chAt s i).cn).cl.toNat) (by omega)
      rw [← hm.1] at s0
      obtain ⟨hlp, hlast⟩ := last_get hkl.1
      have s1 := get_lt (f := encK) hlp
      unfold clOf at hR
      rw [hlast] at hR
      have w1 : IntKind.i64.wrap (((clAt s (cnAt s (chAt s i).cn).cl).known.length : Int) - 1) = (((clAt s (cnAt s (chAt s i).cn).cl).known.length - 1 : Nat) : Int) := by rw [wrap64 (by omega) (by omega)]; omega
      have hlen := ok.lsent
      have hch1 := hch.snd
      have e1 := sown_D s ok.sm
      have c4 := pkdig_A ⟨i, (chAt s i).oc, (chAt s i).snd, data, tout⟩ hd
      have e2 := mput_D s.sent ⟨i, (chAt s i).snd, digPk ⟨i, (chAt s i).oc, (chAt s i).snd, data, tout⟩⟩ (by omega) ok.sent ⟨i12 ok hi, hch1, dig_len _⟩
      unfold sendS at hR
      have hi' : i.toNat < s.chs.length := by omega
      have s2 := get_lt (f := encCh) hi'
      have w2 : IntKind.i64.wrap ((chAt s i).snd + 1) = (chAt s i).snd + 1 := by unfold N12 at hch1; rw [wrap64 (by omega) (by omega)]
      have s3 : (s.chs.map encCh).set i.toNat (encCh { chAt s i with snd := (chAt s i).snd + 1 }) = (s.chs.set i.toNat { chAt s i with snd := (chAt s i).snd + 1 }).map encCh := List.map_set.symm
      have s4 : s.chs.length = (s.chs.set i.toNat { chAt s i with snd := (chAt s i).snd + 1 }).length := by simp
      rw [← (chAt_mem hi).1] at s2
      clear hs h ok hst hov hj h4 h5 h7 hch hcn h2 hm hcok hch1
      generalize s.chs.set i.toNat { chAt s i with snd := (chAt s i).snd + 1 } = L at *
      generalize digPk ⟨i, (chAt s i).oc, (chAt s i).snd, data, tout⟩ = G at *
      generalize chAt s i = x at *
      generalize cnAt s x.cn = y at *
      generalize clAt s y.cl = z at *
      generalize z.known[z.known.length - 1] = k at *
      generalize putM s.sent ⟨i, x.snd, G⟩ = M at *
      clear hlast hlp
      simp only [encCh] at s3
      simp only [markD, bI] at e2
      refine callD_W 100 Tryd.func36 rfl rfl rfl (fun _ _ => rfl) ?_
      exact wkl trivial
    · rw [if_neg h2] at hR
      generalize wrongPk ⟨i, (chAt s i).oc, (chAt s i).snd, data, tout⟩ = W at *
      clear hs h ok hst hov h4 h5 h6 h7 hch hcn
      generalize chAt s i = x at *
      generalize cnAt s x.cn = y at *
      refine callD_W 100 Tryd.func36 rfl rfl rfl (fun _ _ => rfl) ?_
      exact wkl trivial
  · rw [if_neg h] at hR
    generalize endPk s i [3] = W at *
    clear hs
    refine callD_W 100 Tryd.func36 rfl rfl rfl (fun _ _ => rfl) ?_
    exact wkl trivial
end Go.Proofs.YtmclpbcipkdmcaaDoor
/- landlaw11.one, linked, alive. -/
set_option linter.all false
namespace Go.Proofs.YtmclpbcipkdmcaaDoor
open Go Go.Abs Go.RowKit Go.Proofs.YtmclpbcipkdmcaaDoor.Ty

set_option maxHeartbeats 8000000
set_option maxRecDepth 20000
theorem one11_A : PureD Tryd.prog 99 [] (stateD st1) := by
  refine hide_r fun R hR => ?_
  have hd := d32_map
  unfold st1 at hR
  refine callD_W 10 Tryd.func99 rfl rfl rfl (fun _ _ => rfl) ?_
  exact wkl trivial
def st2 : StateD := { st1 with cns := [⟨3, 0, 0, 0⟩], chs := [⟨3, false, 0, 0, 1, 1, 1⟩] }
theorem linked11_A : PureD Tryd.prog 77 [] (stateD st2) := by
  refine hide_r fun R hR => ?_
  have c1 := one11_A
  unfold st2 at hR
  have e1 : st1.cns = [] := rfl
  generalize st1 = s at *
  refine callD_W 10 Tryd.func77 rfl rfl rfl (fun _ _ => rfl) ?_
  exact wkl trivial
theorem st2_send : ∃ G, sendPk st2 0 [120] 5 = ({ st2 with sent := [⟨0, 1, G⟩], chs := [⟨3, false, 0, 0, 2, 1, 1⟩] }, ⟨0, 0, 1, [120], 5⟩, 0) := by
  have h : SendOk st2 0 [120] 5 := ⟨by kernel_rfl, wrongPk_zero.1 (by kernel_rfl), by decide +kernel, by decide +kernel⟩
  exact ⟨digPk ⟨0, 0, 1, [120], 5⟩, sendPk_done h⟩
theorem alive11_A : PureD Tryd.prog 35 [] (boolD true) := by
  refine hide_r fun R hR => ?_
  have c1 := linked11_A
  have c2 := sendpk_A st2 ⟨by decide, by intro c hc; simp [st2, st1] at hc; subst hc; exact ⟨by decide, by intro k hk; simp at hk; subst hk; exact ⟨by decide, by decide⟩⟩, by decide, by decide, by decide, by decide, by decide, by intro m hm; simp [st2, st1] at hm, by decide⟩ 0 [120] (by decide) 5
  obtain ⟨G, hG⟩ := st2_send
  rw [hG] at c2
  simp only at c2
  have e1 : (120 : UInt8).toNat = 120 := rfl
  generalize st2 = s at *
  refine callD_W 33 Tryd.func35 rfl rfl rfl (fun _ _ => rfl) ?_
  exact wkl trivial
end Go.Proofs.YtmclpbcipkdmcaaDoor
/- packet.Recv: by value. -/
set_option linter.all false
namespace Go.Proofs.YtmclpbcipkdmcaaDoor
open Go Go.Abs Go.RowKit Go.Proofs.YtmclpbcipkdmcaaDoor.Ty

set_option maxHeartbeats 16000000
set_option maxRecDepth 20000
theorem recvpk_A (s : StateD) (hs : StSm s) (p : PackD) (hd : p.data.length ≤ 1048576) (ack : List UInt8) (ha : ack.length ≤ 1048576) (w : ShownD) :
    PureD Tryd.prog 37 [stateD s, packD p, .i (bI ack), shD w] (.tup [stateD (recvPk s p ack w).1, intD (recvPk s p ack w).2]) := by
  refine hide_r fun R hR => ?_
  have c1 := pkwrong_A p
  unfold recvPk at hR
  by_cases h0 : wrongPk p = 0
  · rw [if_pos h0] at hR
    rw [h0] at c1
    have hpk := wrongPk_zero.1 h0
    have c2 := endpk_A s hs p.de [3] (by simp)
    simp only [List.map_cons, List.map_nil] at c2
    by_cases h : (endPk s p.de [3]).2.2 = 0
    · rw [if_pos h] at hR
      rw [endPk_fst h] at c2
      obtain ⟨ok, hi, hst, hov⟩ := endPk_zero.1 h
      obtain ⟨hj, h4, h5, h6, h7⟩ := overCh_zero.1 hov
      have hch := ok.chs _ (chAt_mem hi).2
      have hcn := ok.cns _ (cnAt_mem hj).2
      have q1 := hpk.de
      have q2 := hpk.seq
      have q3 := hpk.fr
      have n1 := ok.lgot
      have n2 := ok.lacks
      have c3 := mfind_A s.got p.de p.seq (by omega) ok.got (by unfold N12 at *; omega) (by unfold N12 at *; omega)
      have hcl : 0 ≤ (cnAt s (chAt s p.de).cn).cl ∧ (cnAt s (chAt s p.de).cn).cl < (s.cls.length : Int) := ⟨hcn.cl.1, h6⟩
      have hm := clAt_mem hcl
      have hcok := ok.cls _ hm.2
      have hkl := hcok.len
      have s0 := get_lt (f := encC) (l := s.cls) (i := (cnAt s (chAt s p.de).cn).cl.toNat) (by omega)
      rw [← hm.1] at s0
      unfold clOf at hR
      have c4 := mkey_A wSent p.fr p.seq (by decide) (by unfold N12 Num6 at *; omega) (by unfold N12 Num6 at *; omega)
      have c5 := pkdig_A p hd
      have c6 := cmember_A (clAt s (cnAt s (chAt s p.de).cn).cl) s.t w.h (keyM wSent p.fr p.seq) (digPk p) w.p (by omega)
      have c7 := sum_D ack (by omega)
      have e1 := sown_D s ok.sm
      have e2 := mput_D s.acks ⟨p.de, p.seq, sha ack⟩ (by omega) ok.acks ⟨q1, q2, sha_length _⟩
      have e3 := mput_D s.got ⟨p.de, p.seq, digPk p⟩ (by omega) ok.got ⟨q1, q2, dig_len _⟩
      unfold recvS at hR
      have hi' : p.de.toNat < s.chs.length := by omega
      have s2 := get_lt (f := encCh) hi'
      have hrc := hch.rcv
      have w2 : IntKind.i64.wrap ((chAt s p.de).rcv + 1) = (chAt s p.de).rcv + 1 := by unfold N12 at hrc; rw [wrap64 (by omega) (by omega)]
      have s3 : (s.chs.map encCh).set p.de.toNat (encCh { chAt s p.de with rcv := (chAt s p.de).rcv + 1 }) = (s.chs.set p.de.toNat { chAt s p.de with rcv := (chAt s p.de).rcv + 1 }).map encCh := List.map_set.symm
      have s4 : s.chs.length = (s.chs.set p.de.toNat { chAt s p.de with rcv := (chAt s p.de).rcv + 1 }).length := by simp
      rw [← (chAt_mem hi).1] at s2
      clear hs h ok hst hov hj h4 h5 h7 hch hcn hm hcok hrc hpk h0
      generalize s.chs.set p.de.toNat { chAt s p.de with rcv := (chAt s p.de).rcv + 1 } = L at *
      generalize memberE (clAt s (cnAt s (chAt s p.de).cn).cl) s.t w.h (keyM wSent p.fr p.seq) (digPk p) w.p = E at *
      generalize keyM wSent p.fr p.seq = K at *
      generalize digPk p = G at *
      generalize sha ack = G2 at *
      generalize chAt s p.de = x at *
      generalize cnAt s x.cn = y at *
      generalize clAt s y.cl = z at *
      generalize placeM s.got p.de p.seq = pl at *
      generalize (getM s.got p.de p.seq).isSome = had at *
      generalize putM s.got ⟨p.de, p.seq, G⟩ = M at *
      generalize putM s.acks ⟨p.de, p.seq, G2⟩ = M2 at *
      simp only [encCh] at s3
      simp only [markD, bI] at e2 e3
      simp only [wSent] at c4
      cases ho : x.ord
      · simp only [ho, Bool.false_eq_true, false_and, true_and, false_or, if_false] at hR
        clear s2 s3 s4 w2
        refine callD_W 162 Tryd.func37 rfl rfl rfl (fun _ _ => rfl) ?_
        exact wkl trivial
      · simp only [ho, Bool.true_eq_false, false_and, true_and, or_false, if_true] at hR
        clear e3
        simp only [ho] at s3
        obtain ⟨fr, de, seq, data, tout⟩ := p
        simp only at *
        by_cases hq : seq = x.rcv
        · subst hq
          simp only [not_true_eq_false, if_false] at hR
          by_cases hf : x.oc = fr
          · subst hf
            simp only [if_true] at hR
            refine callD_W 162 Tryd.func37 rfl rfl rfl (fun _ _ => rfl) ?_
            exact wkl trivial
          · simp only [hf, if_false] at hR
            clear e1 e2
            refine callD_W 162 Tryd.func37 rfl rfl rfl (fun _ _ => rfl) ?_
            exact wkl trivial
        · simp only [hq, not_false_eq_true, if_true] at hR
          clear e1 e2
          refine callD_W 162 Tryd.func37 rfl rfl rfl (fun _ _ => rfl) ?_
          exact wkl trivial
    · rw [if_neg h] at hR
      generalize endPk s p.de [3] = W at *
      clear hs hpk
      refine callD_W 162 Tryd.func37 rfl rfl rfl (fun _ _ => rfl) ?_
      exact wkl trivial
  · rw [if_neg h0] at hR
    generalize wrongPk p = W at *
    clear hs
    refine callD_W 162 Tryd.func37 rfl rfl rfl (fun _ _ => rfl) ?_
    exact wkl trivial
end Go.Proofs.YtmclpbcipkdmcaaDoor
/- packet.pending, Ack, Timeout: by value. -/
set_option linter.all false
namespace Go.Proofs.YtmclpbcipkdmcaaDoor
open Go Go.Abs Go.RowKit Go.Proofs.YtmclpbcipkdmcaaDoor.Ty

set_option maxHeartbeats 16000000
set_option maxRecDepth 20000
theorem pend_A (s : StateD) (hs : StSm s) (p : PackD) (hd : p.data.length ≤ 1048576) :
    PureD Tryd.prog 86 [.rp (encSt s) 0, .rp (encPk p) 0] (.tup [chanD (pendCh s p), connD (pendCn s p), intD (pendE s p)]) := by
  refine hide_r fun R hR => ?_
  have c1 := pkwrong_A p
  unfold pendE pendCh pendCn at hR
  by_cases h0 : wrongPk p = 0
  · rw [if_pos h0, if_pos h0, if_pos h0] at hR
    rw [h0] at c1
    have hpk := wrongPk_zero.1 h0
    have c2 := endpk_A s hs p.fr [3, 4] (by simp)
    simp only [List.map_cons, List.map_nil] at c2
    by_cases h : (endPk s p.fr [3, 4]).2.2 = 0
    · rw [if_pos h, endPk_fst h] at hR
      rw [endPk_fst h] at c2
      simp only at hR c2
      obtain ⟨ok, hi, hst, hov⟩ := endPk_zero.1 h
      have q1 := hpk.fr
      have q2 := hpk.seq
      have n1 := ok.lsent
      have c3 := mfind_A s.sent p.fr p.seq (by omega) ok.sent (by unfold N12 at *; omega) (by unfold N12 at *; omega)
      have c4 := pkdig_A p hd
      cases hg : getM s.sent p.fr p.seq with
      | none =>
        rw [hg] at c3 hR
        simp only [Option.isSome_none] at c3
        clear hs h ok hst hov hpk h0 hg
        generalize chAt s p.fr = x at *
        generalize cnAt s x.cn = y at *
        generalize placeM s.sent p.fr p.seq = pl at *
        clear c4
        refine callD_W 88 Tryd.func86 rfl rfl rfl (fun _ _ => rfl) ?_
        exact wkl trivial
      | some m =>
        rw [hg] at c3 hR
        simp only [Option.isSome_some] at c3 hR
        obtain ⟨hp, hv⟩ := KL.place_lt cmpM_ok ok.sent.srt hg
        have s0 : (s.sent.map encM)[placeM s.sent p.fr p.seq]? = some (encM m) := by rw [← hv]; exact get_lt hp
        have c5 := equal_A m.dg (digPk p)
        clear hs h ok hst hov hpk h0 hg hv
        generalize chAt s p.fr = x at *
        generalize cnAt s x.cn = y at *
        have hp' : placeM s.sent p.fr p.seq < s.sent.length := hp
        clear hp
        generalize placeM s.sent p.fr p.seq = pl at *
        generalize digPk p = G at *
        by_cases hdd : m.dg = G
        · rw [decide_eq_true hdd] at c5
          rw [if_pos hdd] at hR
          clear hdd
          refine callD_W 88 Tryd.func86 rfl rfl rfl (fun _ _ => rfl) ?_
          exact wkl trivial
        · rw [decide_eq_false hdd] at c5
          rw [if_neg hdd] at hR
          clear hdd
          refine callD_W 88 Tryd.func86 rfl rfl rfl (fun _ _ => rfl) ?_
          exact wkl trivial
    · rw [if_neg h] at hR
      generalize endPk s p.fr [3, 4] = W at *
      clear hs hpk
      refine callD_W 88 Tryd.func86 rfl rfl rfl (fun _ _ => rfl) ?_
      exact wkl trivial
  · rw [if_neg h0, if_neg h0, if_neg h0] at hR
    generalize wrongPk p = W at *
    clear hs
    refine callD_W 88 Tryd.func86 rfl rfl rfl (fun _ _ => rfl) ?_
    exact wkl trivial
theorem pend_zero {s : StateD} {p : PackD} (h : PendOk s p) : pendCh s p = chAt s p.fr ∧ pendCn s p = cnAt s (chAt s p.fr).cn := by
  unfold pendCh pendCn
  rw [if_pos (wrongPk_zero.2 h.pk), if_pos (wrongPk_zero.2 h.pk), endPk_fst h.en]
  exact ⟨rfl, rfl⟩
theorem mdrop_D (l : List MarkD) (ch seq : Int) (hl : l.length ≤ 1000) (hk : MksOk l) (h1 : N12 0 ch) (h2 : N12 1 seq) {u : MarkD} (hg : getM l ch seq = some u) :
    CallD Tryd.prog 87 [.os 0 3 0 l.length, intD ch, intD seq] (hF [(0, .arr 3 (l.map encM))]) (.os 1 3 0 (dropM l ch seq).length) (hOf (hF [(0, .arr 3 (l.map encM))]) [(1, .arr 3 ((dropM l ch seq).map encM))]) := by
  refine hide_c fun R R' hR hR' => ?_
  have c1 := mfind_A l ch seq (by omega) hk (by unfold N12 at *; omega) (by unfold N12 at *; omega)
  rw [hg] at c1
  obtain ⟨hp, hv⟩ := KL.place_lt cmpM_ok hk.srt hg
  have hp' : placeM l ch seq < l.length := hp
  have e2 := delete_Mk (l.map encM) (placeM l ch seq) (by simpa using hp) (by simp; omega) (uM l)
  have he : (l.map encM).take (placeM l ch seq) ++ (l.map encM).drop (placeM l ch seq + 1) = (dropM l ch seq).map encM := by
    unfold dropM; rw [KL.put_del cmpM_ok hk.srt hg]; simp
  have hlen : (dropM l ch seq).length = l.length - 1 := by
    unfold dropM; rw [KL.put_del cmpM_ok hk.srt hg]
    simp; omega
  rw [he, List.length_map, ← hlen] at e2
  simp only [Option.isSome_some] at c1
  have d1 : SrcIs [] [(1, 901)] := ⟨trivial⟩
  have w1 : IntKind.i64.wrap ((placeM l ch seq : Int) + 1) = ((placeM l ch seq + 1 : Nat) : Int) := by rw [wrap64 (by omega) (by omega)]; omega
  clear he hk hg hv hp
  generalize placeM l ch seq = p at *
  generalize dropM l ch seq = L at *
  clear hlen
  simp only [intD] at e2
  obtain ⟨rfl⟩ := hR
  obtain ⟨rfl⟩ := hR'
  refine callD_W 23 Tryd.func87 rfl rfl rfl (fun o ho => by simp [hF, lk, show o ≠ 0 by omega, show o ≠ 1 by omega, show o ≠ 2 by omega, show o ≠ 3 by omega, show o ≠ 4 by omega, show o ≠ 5 by omega]) ?_
  exact wkl trivial
theorem ackpk_A (s : StateD) (hs : StSm s) (p : PackD) (hd : p.data.length ≤ 1048576) (ack : List UInt8) (ha : ack.length ≤ 1048576) (w : ShownD) :
    PureD Tryd.prog 38 [stateD s, packD p, .i (bI ack), shD w] (.tup [stateD (ackPk s p ack w).1, intD (ackPk s p ack w).2]) := by
  refine hide_r fun R hR => ?_
  have c1 := pend_A s hs p hd
  unfold ackPk at hR
  by_cases h : pendE s p = 0
  · rw [if_pos h] at hR
    have hp := pendE_zero.1 h
    rw [h, (pend_zero hp).1, (pend_zero hp).2] at c1
    obtain ⟨ok, hi, hst, hov⟩ := endPk_zero.1 hp.en
    obtain ⟨hj, h4, h5, h6, h7⟩ := overCh_zero.1 hov
    have hch := ok.chs _ (chAt_mem hi).2
    have hcn := ok.cns _ (cnAt_mem hj).2
    have q1 := hp.pk.de
    have q2 := hp.pk.seq
    have q3 := hp.pk.fr
    have n1 := ok.lsent
    have hcl : 0 ≤ (cnAt s (chAt s p.fr).cn).cl ∧ (cnAt s (chAt s p.fr).cn).cl < (s.cls.length : Int) := ⟨hcn.cl.1, h6⟩
    have hm := clAt_mem hcl
    have hkl := (ok.cls _ hm.2).len
    have s0 := get_lt (f := encC) (l := s.cls) (i := (cnAt s (chAt s p.fr).cn).cl.toNat) (by omega)
    rw [← hm.1] at s0
    unfold clOf at hR
    have c4 := mkey_A wAck p.de p.seq (by decide) (by unfold N12 Num6 at *; omega) (by unfold N12 Num6 at *; omega)
    have c6 := cmember_A (clAt s (cnAt s (chAt s p.fr).cn).cl) s.t w.h (keyM wAck p.de p.seq) (sha ack) w.p (by omega)
    have c7 := sum_D ack (by omega)
    have e1 := sown_D s ok.sm
    have e2 := mdrop_D s.sent p.fr p.seq (by omega) ok.sent q3 q2 hp.there
    unfold dropS dropU at hR
    have hi' : p.fr.toNat < s.chs.length := by omega
    have s2 := get_lt (f := encCh) hi'
    have hrc := hch.ack
    have w2 : IntKind.i64.wrap ((chAt s p.fr).ack + 1) = (chAt s p.fr).ack + 1 := by unfold N12 at hrc; rw [wrap64 (by omega) (by omega)]
    have s3 : (s.chs.map encCh).set p.fr.toNat (encCh { chAt s p.fr with ack := (chAt s p.fr).ack + 1 }) = (s.chs.set p.fr.toNat { chAt s p.fr with ack := (chAt s p.fr).ack + 1 }).map encCh := List.map_set.symm
    have s4 : s.chs.length = (s.chs.set p.fr.toNat { chAt s p.fr with ack := (chAt s p.fr).ack + 1 }).length := by simp
    rw [← (chAt_mem hi).1] at s2
    clear hs h ok hst hov hj h4 h5 h7 hch hcn hm hrc hp
    generalize s.chs.set p.fr.toNat { chAt s p.fr with ack := (chAt s p.fr).ack + 1 } = L at *
    generalize memberE (clAt s (cnAt s (chAt s p.fr).cn).cl) s.t w.h (keyM wAck p.de p.seq) (sha ack) w.p = E at *
    generalize keyM wAck p.de p.seq = K at *
    generalize sha ack = G2 at *
    generalize chAt s p.fr = x at *
    generalize cnAt s x.cn = y at *
    generalize clAt s y.cl = z at *
    generalize dropM s.sent p.fr p.seq = M at *
    simp only [encCh] at s3
    simp only [intD] at e2
    simp only [wAck] at c4
    obtain ⟨fr, de, seq, data, tout⟩ := p
    simp only at *
    cases ho : x.ord
    · simp only [ho, Bool.false_eq_true, false_and, if_false] at hR
      clear s2 s3 s4 w2
      refine callD_W 93 Tryd.func38 rfl rfl rfl (fun _ _ => rfl) ?_
      exact wkl trivial
    · simp only [ho, true_and, if_true] at hR
      simp only [ho] at s3
      by_cases hq : seq = x.ack
      · subst hq
        simp only [not_true_eq_false, if_false] at hR
        refine callD_W 93 Tryd.func38 rfl rfl rfl (fun _ _ => rfl) ?_
        exact wkl trivial
      · simp only [hq, not_false_eq_true, if_true] at hR
        clear e1 e2
        refine callD_W 93 Tryd.func38 rfl rfl rfl (fun _ _ => rfl) ?_
        exact wkl trivial
  · rw [if_neg h] at hR
    generalize pendE s p = W at *
    generalize pendCh s p = x at *
    generalize pendCn s p = y at *
    clear hs
    refine callD_W 93 Tryd.func38 rfl rfl rfl (fun _ _ => rfl) ?_
    exact wkl trivial
theorem latepk_A (s : StateD) (hs : StSm s) (p : PackD) (hd : p.data.length ≤ 1048576) (next : Int) (w : ShownD) :
    PureD Tryd.prog 39 [stateD s, packD p, intD next, shD w] (.tup [stateD (latePk s p next w).1, intD (latePk s p next w).2]) := by
  refine hide_r fun R hR => ?_
  have c1 := pend_A s hs p hd
  unfold latePk at hR
  by_cases h : pendE s p = 0
  · rw [if_pos h] at hR
    have hp := pendE_zero.1 h
    rw [h, (pend_zero hp).1, (pend_zero hp).2] at c1
    obtain ⟨ok, hi, hst, hov⟩ := endPk_zero.1 hp.en
    obtain ⟨hj, h4, h5, h6, h7⟩ := overCh_zero.1 hov
    have hcn := ok.cns _ (cnAt_mem hj).2
    have q1 := hp.pk.de
    have q2 := hp.pk.seq
    have q3 := hp.pk.fr
    have n1 := ok.lsent
    have hcl : 0 ≤ (cnAt s (chAt s p.fr).cn).cl ∧ (cnAt s (chAt s p.fr).cn).cl < (s.cls.length : Int) := ⟨hcn.cl.1, h6⟩
    have hm := clAt_mem hcl
    have hkl := (ok.cls _ hm.2).len
    have s0 := get_lt (f := encC) (l := s.cls) (i := (cnAt s (chAt s p.fr).cn).cl.toNat) (by omega)
    rw [← hm.1] at s0
    unfold clOf at hR
    have c2 := nkey_A p.de (by unfold N12 Num6 at *; omega)
    have c3 := nextb_A next
    have c4 := mkey_A wGot p.de p.seq (by decide) (by unfold N12 Num6 at *; omega) (by unfold N12 Num6 at *; omega)
    have c5 := cmember_A (clAt s (cnAt s (chAt s p.fr).cn).cl) s.t w.h (keyN p.de) (valN next) w.p (by omega)
    have c6 := cmissing_A (clAt s (cnAt s (chAt s p.fr).cn).cl) s.t w.h (keyM wGot p.de p.seq) w.g (by omega)
    have e1 := sown_D s ok.sm
    have e2 := mdrop_D s.sent p.fr p.seq (by omega) ok.sent q3 q2 hp.there
    unfold dropS dropU at hR
    have hi' : p.fr.toNat < s.chs.length := by omega
    have s2 := get_lt (f := encCh) hi'
    have s3 : (s.chs.map encCh).set p.fr.toNat (encCh { chAt s p.fr with st := 4 }) = (s.chs.set p.fr.toNat { chAt s p.fr with st := 4 }).map encCh := List.map_set.symm
    have s4 : s.chs.length = (s.chs.set p.fr.toNat { chAt s p.fr with st := 4 }).length := by simp
    rw [← (chAt_mem hi).1] at s2
    clear hs h ok hst hov hj h4 h5 h7 hcn hm hp
    generalize s.chs.set p.fr.toNat { chAt s p.fr with st := 4 } = L at *
    generalize memberE (clAt s (cnAt s (chAt s p.fr).cn).cl) s.t w.h (keyN p.de) (valN next) w.p = E at *
    generalize missingE (clAt s (cnAt s (chAt s p.fr).cn).cl) s.t w.h (keyM wGot p.de p.seq) w.g = E2 at *
    generalize keyM wGot p.de p.seq = K at *
    generalize keyN p.de = K2 at *
    generalize valN next = V at *
    generalize chAt s p.fr = x at *
    generalize cnAt s x.cn = y at *
    generalize clAt s y.cl = z at *
    generalize dropM s.sent p.fr p.seq = M at *
    simp only [encCh] at s3
    simp only [intD] at e2
    simp only [wGot] at c4
    cases ho : x.ord
    · simp only [ho, Bool.false_eq_true, if_false] at hR
      clear s2 s3 s4 c2 c3 c5
      refine callD_W 96 Tryd.func39 rfl rfl rfl (fun _ _ => rfl) ?_
      exact wkl trivial
    · simp only [ho, if_true] at hR
      simp only [ho] at s3
      clear c4 c6
      refine callD_W 96 Tryd.func39 rfl rfl rfl (fun _ _ => rfl) ?_
      exact wkl trivial
  · rw [if_neg h] at hR
    generalize pendE s p = W at *
    generalize pendCh s p = x at *
    generalize pendCn s p = y at *
    clear hs
    refine callD_W 96 Tryd.func39 rfl rfl rfl (fun _ _ => rfl) ?_
    exact wkl trivial
end Go.Proofs.YtmclpbcipkdmcaaDoor
/- What the rows hand in: lists of bytes. -/
set_option linter.all false
namespace Go.Proofs.YtmclpbcipkdmcaaDoor
open Go Go.Abs Go.RowKit

theorem dec_bb {e : List I} (h : HasCs [.sl [.int .u8]] e) : ∃ b : List UInt8, e = [bI b] ∧ True := by
  obtain ⟨x, _, rfl, hx, h⟩ := hasCs_cons h
  obtain rfl := hasCs_nil h
  obtain ⟨a, rfl⟩ := dec_B hx
  exact ⟨a, rfl, trivial⟩
theorem dec_BB {x : I} (h : HasC (.sl [.sl [.int .u8]]) x) : ∃ l : List (List UInt8), x = bbI l := by
  obtain ⟨l, h1, _⟩ := dec_list (fun _ he => dec_bb he) h
  exact ⟨l, h1⟩
theorem bb_small {l : List (List UInt8)} {n : Nat} (h : bkI (bbI l) ≤ n) : l.length ≤ n ∧ ∀ b ∈ l, b.length ≤ n := by
  refine ⟨Nat.le_trans (bk_len (fun b => [bI b]) l) h, fun b hb => ?_⟩
  have h1 := bk_mem (fun b => [bI b]) hb
  have h2 := bk_B b
  simp only [bkL] at h1
  unfold bbI at h
  omega
end Go.Proofs.YtmclpbcipkdmcaaDoor
/- What the rows hand in: what is known, clients. -/
set_option linter.all false
namespace Go.Proofs.YtmclpbcipkdmcaaDoor
open Go Go.Abs Go.RowKit Go.Proofs.YtmclpbcipkdmcaaDoor.Ty

theorem dec_Kn {e : List I} (h : HasCs [.int .i64, .int .i64, .sl [.int .u8], .sl [.int .u8]] e) : ∃ k : KnownD, e = encK k ∧ True := by
  obtain ⟨x1, _, rfl, h1, h⟩ := hasCs_cons h
  obtain ⟨x2, _, rfl, h2, h⟩ := hasCs_cons h
  obtain ⟨x3, _, rfl, h3, h⟩ := hasCs_cons h
  obtain ⟨x4, _, rfl, h4, h⟩ := hasCs_cons h
  obtain rfl := hasCs_nil h
  obtain ⟨a, rfl, _⟩ := dec_int h1
  obtain ⟨b, rfl, _⟩ := dec_int h2
  obtain ⟨u, rfl⟩ := dec_B h3
  obtain ⟨v, rfl⟩ := dec_B h4
  exact ⟨⟨a, b, u, v⟩, rfl, trivial⟩
theorem dec_Known {e : List I} (h : HasCs [.int .i64, .int .i64, .sl [.int .u8], .sl [.int .u8]] e) : ∃ k : KnownD, e = encK k := by
  obtain ⟨k, e, _⟩ := dec_Kn h
  exact ⟨k, e⟩
theorem dec_Client {e : List I} (h : HasCs [.str, .int .i64, .bool, .sl [.int .i64, .int .i64, .sl [.int .u8], .sl [.int .u8]]] e) : ∃ c : ClientD, e = encC c := by
  obtain ⟨x1, _, rfl, h1, h⟩ := hasCs_cons h
  obtain ⟨x2, _, rfl, h2, h⟩ := hasCs_cons h
  obtain ⟨x3, _, rfl, h3, h⟩ := hasCs_cons h
  obtain ⟨x4, _, rfl, h4, h⟩ := hasCs_cons h
  obtain rfl := hasCs_nil h
  obtain ⟨a, rfl, _⟩ := dec_str h1
  obtain ⟨b, rfl, _⟩ := dec_int h2
  obtain ⟨f, rfl⟩ := dec_bool h3
  obtain ⟨l, rfl, _⟩ := dec_list (fun _ he => dec_Kn he) h4
  exact ⟨⟨a, b, f, l⟩, rfl⟩
theorem cl_agg (c : ClientD) : D.agg ((encC c).map .i) = clientD c := rfl
theorem kn_agg (k : KnownD) : D.agg ((encK k).map .i) = knownD k := rfl
theorem kn_bk (k : KnownD) : bkL (encK k) = k.root.length + k.next.length := by
  have h1 := bk_B k.root
  have h2 := bk_B k.next
  simp only [bkL, encK, bkI, h1, h2]; omega
theorem cl_sm {c : ClientD} {n : Nat} (hb : bkL (encC c) ≤ n) (hn : n ≤ 1048576) : ClSm c ∧ c.c.size ≤ 1048576 := by
  have h1 := bk_len encK c.known
  have h2 := fun k (hk : k ∈ c.known) => bk_mem encK hk
  simp only [bkL, encC, bkI, knownI] at hb h1 h2
  refine ⟨⟨by omega, fun k hk => ?_⟩, by omega⟩
  have h3 := h2 k hk
  rw [kn_bk] at h3
  exact ⟨by omega, by omega⟩
end Go.Proofs.YtmclpbcipkdmcaaDoor
/- A proof, a gap: from the row's data. -/
set_option linter.all false
namespace Go.Proofs.YtmclpbcipkdmcaaDoor
open Go Go.Abs Go.RowKit Go.Proofs.YtmclpbcipkdmcaaDoor.Ty

theorem dec_Proof {e : List I} (h : HasCs [.int .i64, .int .i64, .sl [.int .u8], .sl [.int .u8], .sl [.sl [.int .u8]]] e) : ∃ p : ProofD, e = formI p := by
  obtain ⟨x1, _, rfl, h1, h⟩ := hasCs_cons h
  obtain ⟨x2, _, rfl, h2, h⟩ := hasCs_cons h
  obtain ⟨x3, _, rfl, h3, h⟩ := hasCs_cons h
  obtain ⟨x4, _, rfl, h4, h⟩ := hasCs_cons h
  obtain ⟨x5, _, rfl, h5, h⟩ := hasCs_cons h
  obtain rfl := hasCs_nil h
  obtain ⟨a, rfl, _⟩ := dec_int h1
  obtain ⟨b, rfl, _⟩ := dec_int h2
  obtain ⟨c, rfl⟩ := dec_B h3
  obtain ⟨d, rfl⟩ := dec_B h4
  obtain ⟨q, rfl⟩ := dec_BB h5
  exact ⟨⟨a, b, c, d, q⟩, rfl⟩
def gapI (g : GapD) : List I := .s (.bool g.hl) :: .s (.bool g.hr) :: (formI g.left ++ formI g.right)
theorem dec_Gap {e : List I} (h : HasCs [.bool, .bool, .int .i64, .int .i64, .sl [.int .u8], .sl [.int .u8], .sl [.sl [.int .u8]], .int .i64, .int .i64, .sl [.int .u8], .sl [.int .u8], .sl [.sl [.int .u8]]] e) : ∃ g : GapD, e = gapI g := by
  obtain ⟨y1, _, rfl, k1, h⟩ := hasCs_cons h
  obtain ⟨y2, _, rfl, k2, h⟩ := hasCs_cons h
  obtain ⟨x1, _, rfl, h1, h⟩ := hasCs_cons h
  obtain ⟨x2, _, rfl, h2, h⟩ := hasCs_cons h
  obtain ⟨x3, _, rfl, h3, h⟩ := hasCs_cons h
  obtain ⟨x4, _, rfl, h4, h⟩ := hasCs_cons h
  obtain ⟨x5, _, rfl, h5, h⟩ := hasCs_cons h
  obtain ⟨p, rfl⟩ := dec_Proof h
  obtain ⟨a, rfl, _⟩ := dec_int h1
  obtain ⟨b, rfl, _⟩ := dec_int h2
  obtain ⟨c, rfl⟩ := dec_B h3
  obtain ⟨d, rfl⟩ := dec_B h4
  obtain ⟨q, rfl⟩ := dec_BB h5
  obtain ⟨u, rfl⟩ := dec_bool k1
  obtain ⟨v, rfl⟩ := dec_bool k2
  exact ⟨⟨u, v, ⟨a, b, c, d, q⟩, p⟩, rfl⟩
theorem proofD_formI (p : ProofD) : D.agg ((formI p).map .i) = proofD p := rfl
theorem gapD_gapI (g : GapD) : D.agg ((gapI g).map .i) = gapD g := rfl

end Go.Proofs.YtmclpbcipkdmcaaDoor
/- What the rows hand in: states, what is shown, packets. -/
set_option linter.all false
namespace Go.Proofs.YtmclpbcipkdmcaaDoor
open Go Go.Abs Go.RowKit Go.Proofs.YtmclpbcipkdmcaaDoor.Ty

theorem dec_Cl' {e : List I} (h : HasCs [.str, .int .i64, .bool, .sl [.int .i64, .int .i64, .sl [.int .u8], .sl [.int .u8]]] e) : ∃ c : ClientD, e = encC c ∧ True := by
  obtain ⟨c, h⟩ := dec_Client h
  exact ⟨c, h, trivial⟩
theorem dec_Cn {e : List I} (h : HasCs [.int .i64, .int .i64, .int .i64, .int .i64] e) : ∃ c : ConnD, e = encCn c ∧ True := by
  obtain ⟨x1, _, rfl, h1, h⟩ := hasCs_cons h
  obtain ⟨x2, _, rfl, h2, h⟩ := hasCs_cons h
  obtain ⟨x3, _, rfl, h3, h⟩ := hasCs_cons h
  obtain ⟨x4, _, rfl, h4, h⟩ := hasCs_cons h
  obtain rfl := hasCs_nil h
  obtain ⟨a, rfl, _⟩ := dec_int h1
  obtain ⟨b, rfl, _⟩ := dec_int h2
  obtain ⟨c, rfl, _⟩ := dec_int h3
  obtain ⟨d, rfl, _⟩ := dec_int h4
  exact ⟨⟨a, b, c, d⟩, rfl, trivial⟩
theorem dec_Ch {e : List I} (h : HasCs [.int .i64, .bool, .int .i64, .int .i64, .int .i64, .int .i64, .int .i64] e) : ∃ c : ChanD, e = encCh c ∧ True := by
  obtain ⟨x1, _, rfl, h1, h⟩ := hasCs_cons h
  obtain ⟨x2, _, rfl, h2, h⟩ := hasCs_cons h
  obtain ⟨x3, _, rfl, h3, h⟩ := hasCs_cons h
  obtain ⟨x4, _, rfl, h4, h⟩ := hasCs_cons h
  obtain ⟨x5, _, rfl, h5, h⟩ := hasCs_cons h
  obtain ⟨x6, _, rfl, h6, h⟩ := hasCs_cons h
  obtain ⟨x7, _, rfl, h7, h⟩ := hasCs_cons h
  obtain rfl := hasCs_nil h
  obtain ⟨a, rfl, _⟩ := dec_int h1
  obtain ⟨b, rfl⟩ := dec_bool h2
  obtain ⟨c, rfl, _⟩ := dec_int h3
  obtain ⟨d, rfl, _⟩ := dec_int h4
  obtain ⟨f, rfl, _⟩ := dec_int h5
  obtain ⟨g, rfl, _⟩ := dec_int h6
  obtain ⟨k, rfl, _⟩ := dec_int h7
  exact ⟨⟨a, b, c, d, f, g, k⟩, rfl, trivial⟩
theorem dec_Mk {e : List I} (h : HasCs [.int .i64, .int .i64, .sl [.int .u8]] e) : ∃ c : MarkD, e = encM c ∧ True := by
  obtain ⟨x1, _, rfl, h1, h⟩ := hasCs_cons h
  obtain ⟨x2, _, rfl, h2, h⟩ := hasCs_cons h
  obtain ⟨x3, _, rfl, h3, h⟩ := hasCs_cons h
  obtain rfl := hasCs_nil h
  obtain ⟨a, rfl, _⟩ := dec_int h1
  obtain ⟨b, rfl, _⟩ := dec_int h2
  obtain ⟨c, rfl⟩ := dec_B h3
  exact ⟨⟨a, b, c⟩, rfl, trivial⟩
theorem dec_Pu' {e : List I} (h : HasCs [.str, .str, .int .u64] e) : ∃ p : PurseD, e = encPu p ∧ p.n < 18446744073709551616 := by
  obtain ⟨x, _, rfl, hx, h⟩ := hasCs_cons h
  obtain ⟨y, _, rfl, hy, h⟩ := hasCs_cons h
  obtain ⟨z, _, rfl, hz, h⟩ := hasCs_cons h
  obtain rfl := hasCs_nil h
  obtain ⟨a, rfl, _⟩ := dec_str hx
  obtain ⟨b, rfl, _⟩ := dec_str hy
  obtain ⟨c, rfl, hc⟩ := dec_u64 hz
  exact ⟨⟨a, b, c⟩, rfl, hc⟩
theorem dec_State {e : List I} (h : HasCs [.str, .int .i64, .int .i64, .sl [.str, .int .i64, .bool, .sl [.int .i64, .int .i64, .sl [.int .u8], .sl [.int .u8]]], .sl [.int .i64, .int .i64, .int .i64, .int .i64], .sl [.int .i64, .bool, .int .i64, .int .i64, .int .i64, .int .i64, .int .i64],
    .sl [.int .i64, .int .i64, .sl [.int .u8]], .sl [.int .i64, .int .i64, .sl [.int .u8]], .sl [.int .i64, .int .i64, .sl [.int .u8]], .sl [.str, .str, .int .u64]] e) : ∃ s : StateD, e = encSt s ∧ ∀ p ∈ s.pus, p.n < 18446744073709551616 := by
  obtain ⟨x0, _, rfl, h0, h⟩ := hasCs_cons h
  obtain ⟨x1, _, rfl, h1, h⟩ := hasCs_cons h
  obtain ⟨x2, _, rfl, h2, h⟩ := hasCs_cons h
  obtain ⟨x3, _, rfl, h3, h⟩ := hasCs_cons h
  obtain ⟨x4, _, rfl, h4, h⟩ := hasCs_cons h
  obtain ⟨x5, _, rfl, h5, h⟩ := hasCs_cons h
  obtain ⟨x6, _, rfl, h6, h⟩ := hasCs_cons h
  obtain ⟨x7, _, rfl, h7, h⟩ := hasCs_cons h
  obtain ⟨x8, _, rfl, h8, h⟩ := hasCs_cons h
  obtain ⟨x9, _, rfl, h9, h⟩ := hasCs_cons h
  obtain rfl := hasCs_nil h
  obtain ⟨a, rfl, _⟩ := dec_str h0
  obtain ⟨b, rfl, _⟩ := dec_int h1
  obtain ⟨c, rfl, _⟩ := dec_int h2
  obtain ⟨l3, rfl, _⟩ := dec_list (fun _ he => dec_Cl' he) h3
  obtain ⟨l4, rfl, _⟩ := dec_list (fun _ he => dec_Cn he) h4
  obtain ⟨l5, rfl, _⟩ := dec_list (fun _ he => dec_Ch he) h5
  obtain ⟨l6, rfl, _⟩ := dec_list (fun _ he => dec_Mk he) h6
  obtain ⟨l7, rfl, _⟩ := dec_list (fun _ he => dec_Mk he) h7
  obtain ⟨l8, rfl, _⟩ := dec_list (fun _ he => dec_Mk he) h8
  obtain ⟨l9, rfl, hn⟩ := dec_list (fun _ he => dec_Pu' he) h9
  exact ⟨⟨a, b, c, l3, l4, l5, l6, l7, l8, l9⟩, rfl, hn⟩
def encShI (w : ShownD) : List I := .s (.int .i64 w.h) :: (formI w.p ++ gapI w.g)
theorem dec_Shown {e : List I} (h : HasCs [.int .i64, .int .i64, .int .i64, .sl [.int .u8], .sl [.int .u8], .sl [.sl [.int .u8]], .bool, .bool, .int .i64, .int .i64, .sl [.int .u8], .sl [.int .u8], .sl [.sl [.int .u8]], .int .i64, .int .i64, .sl [.int .u8], .sl [.int .u8], .sl [.sl [.int .u8]]] e) :
    ∃ w : ShownD, e = encShI w := by
  obtain ⟨y1, _, rfl, k1, h⟩ := hasCs_cons h
  obtain ⟨x1, _, rfl, h1, h⟩ := hasCs_cons h
  obtain ⟨x2, _, rfl, h2, h⟩ := hasCs_cons h
  obtain ⟨x3, _, rfl, h3, h⟩ := hasCs_cons h
  obtain ⟨x4, _, rfl, h4, h⟩ := hasCs_cons h
  obtain ⟨x5, _, rfl, h5, h⟩ := hasCs_cons h
  obtain ⟨g, rfl⟩ := dec_Gap h
  obtain ⟨a, rfl, _⟩ := dec_int h1
  obtain ⟨b, rfl, _⟩ := dec_int h2
  obtain ⟨c, rfl⟩ := dec_B h3
  obtain ⟨d, rfl⟩ := dec_B h4
  obtain ⟨q, rfl⟩ := dec_BB h5
  obtain ⟨u, rfl, _⟩ := dec_int k1
  exact ⟨⟨u, ⟨a, b, c, d, q⟩, g⟩, rfl⟩
theorem dec_Packet {e : List I} (h : HasCs [.int .i64, .int .i64, .int .i64, .sl [.int .u8], .int .i64] e) : ∃ p : PackD, e = encPk p := by
  obtain ⟨x1, _, rfl, h1, h⟩ := hasCs_cons h
  obtain ⟨x2, _, rfl, h2, h⟩ := hasCs_cons h
  obtain ⟨x3, _, rfl, h3, h⟩ := hasCs_cons h
  obtain ⟨x4, _, rfl, h4, h⟩ := hasCs_cons h
  obtain ⟨x5, _, rfl, h5, h⟩ := hasCs_cons h
  obtain rfl := hasCs_nil h
  obtain ⟨a, rfl, _⟩ := dec_int h1
  obtain ⟨b, rfl, _⟩ := dec_int h2
  obtain ⟨c, rfl, _⟩ := dec_int h3
  obtain ⟨d, rfl⟩ := dec_B h4
  obtain ⟨f, rfl, _⟩ := dec_int h5
  exact ⟨⟨a, b, c, d, f⟩, rfl⟩
theorem st_agg (s : StateD) : D.agg ((encSt s).map .i) = stateD s := rfl
theorem sh_agg (w : ShownD) : D.agg ((encShI w).map .i) = shD w := rfl
theorem pk_agg (p : PackD) : D.agg ((encPk p).map .i) = packD p := rfl
theorem st_sm {s : StateD} {n : Nat} (hb : bkL (encSt s) ≤ n) (hn : n ≤ 1048576) : StSm s := by
  have h1 := bk_len encC s.cls
  have h2 := fun c (hc : c ∈ s.cls) => bk_mem encC hc
  have h3 := bk_len encCn s.cns
  have h4 := bk_len encCh s.chs
  have h5 := bk_len encM s.sent
  have h6 := bk_len encM s.got
  have h7 := bk_len encM s.acks
  have h8 := fun m (hm : m ∈ s.sent) => bk_mem encM hm
  have h9 := fun m (hm : m ∈ s.got) => bk_mem encM hm
  have h10 := fun m (hm : m ∈ s.acks) => bk_mem encM hm
  have h11 := bk_len encPu s.pus
  have e : bkL (encSt s) = s.name.size + (bkI (.sl (s.cls.map encC)) + (bkI (.sl (s.cns.map encCn)) + (bkI (.sl (s.chs.map encCh)) + (bkI (.sl (s.sent.map encM)) + (bkI (.sl (s.got.map encM)) + (bkI (.sl (s.acks.map encM)) + bkI (.sl (s.pus.map encPu)))))))) := by
    simp only [encSt, bkL, bkI]; omega
  rw [e] at hb
  have hm : ∀ m : MarkD, m.dg.length ≤ bkL (encM m) := fun m => by have := bk_B m.dg; simp only [encM, bkL]; omega
  refine ⟨by omega, fun c hc => (cl_sm (c := c) (n := n) (by have := h2 c hc; omega) hn).1, by omega, by omega, by omega, by omega, by omega, fun m hmm => ?_, by omega⟩
  have hk := hm m
  rcases hmm with hmm | hmm | hmm
  · have := h8 m hmm; omega
  · have := h9 m hmm; omega
  · have := h10 m hmm; omega
end Go.Proofs.YtmclpbcipkdmcaaDoor
/- The law PacketOnce: the walk. -/
set_option linter.all false
namespace Go.Proofs.YtmclpbcipkdmcaaDoor
open Go Go.Abs Go.RowKit Go.Proofs.YtmclpbcipkdmcaaDoor.Ty

theorem StSm.zero : StSm zeroSt := ⟨by simp, by simp, by simp, by simp, by simp, by simp, by simp, by simp, by simp⟩
theorem sm_of {s t : StateD} {own : Int} (h : PkStep s own t) : StSm t := h.ok.sm
theorem recv_sm (s : StateD) (p : PackD) (ack : List UInt8) (w : ShownD) : StSm (recvPk s p ack w).1 := by
  by_cases h : (recvPk s p ack w).2 = 0
  · have hr := recvPk_zero.1 h
    rw [recvPk_done hr]; exact sm_of (recv_step hr)
  · have : (recvPk s p ack w).1 = zeroSt := by
      unfold recvPk at h ⊢
      repeat' (first | (split at h) | split)
      all_goals first | rfl | exact absurd rfl h | simp_all
    rw [this]; exact StSm.zero
theorem st_34 {s : StateD} {p : PackD} (h : PendOk s p) : (chAt s p.fr).st = 3 ∨ (chAt s p.fr).st = 4 := by
  have := (endPk_zero.1 h.en).2.2.1
  simpa [stIn] using this
theorem ack_gone {s : StateD} {p : PackD} {ack : List UInt8} {w : ShownD} (h : (ackPk s p ack w).2 = 0) : StOk (ackPk s p ack w).1 ∧ pendE (ackPk s p ack w).1 p = 6 := by
  obtain ⟨hp, c, hc, h1, h2, h3, e⟩ := ackPk_zero h
  rw [e]
  exact ⟨(drop_step hp hc).ok, end_drop hp hc (by rw [h1]; exact st_34 hp) h2 h3⟩
theorem late_gone {s : StateD} {p : PackD} {next : Int} {w : ShownD} (h : (latePk s p next w).2 = 0) : StOk (latePk s p next w).1 ∧ pendE (latePk s p next w).1 p = 6 := by
  obtain ⟨hp, c, hc, h1, h2, h3, e⟩ := latePk_zero h
  rw [e]
  refine ⟨(drop_step hp hc).ok, end_drop hp hc ?_ h2 h3⟩
  rcases h1 with h1 | h1
  · exact .inr h1
  · rw [h1]; exact st_34 hp
theorem ack_no {s : StateD} {p : PackD} {ack : List UInt8} {w : ShownD} (h : ¬ (ackPk s p ack w).2 = 0) : (ackPk s p ack w).1 = zeroSt := by
  unfold ackPk at h ⊢
  repeat' (first | (split at h) | split)
  all_goals first | rfl | exact absurd rfl h | simp_all
theorem late_no {s : StateD} {p : PackD} {next : Int} {w : ShownD} (h : ¬ (latePk s p next w).2 = 0) : (latePk s p next w).1 = zeroSt := by
  unfold latePk at h ⊢
  repeat' (first | (split at h) | split)
  all_goals first | rfl | exact absurd rfl h | simp_all
theorem ack_sm (s : StateD) (p : PackD) (ack : List UInt8) (w : ShownD) : StSm (ackPk s p ack w).1 := by
  by_cases h : (ackPk s p ack w).2 = 0
  · exact (ack_gone h).1.sm
  · rw [ack_no h]; exact StSm.zero
theorem late_sm (s : StateD) (p : PackD) (next : Int) (w : ShownD) : StSm (latePk s p next w).1 := by
  by_cases h : (latePk s p next w).2 = 0
  · exact (late_gone h).1.sm
  · rw [late_no h]; exact StSm.zero
theorem ack_pend {s : StateD} {p : PackD} {ack : List UInt8} {w : ShownD} (h : pendE s p = 6) : (ackPk s p ack w).2 = 6 := by unfold ackPk; rw [if_neg (by rw [h]; decide)]; exact h
theorem late_pend {s : StateD} {p : PackD} {next : Int} {w : ShownD} (h : pendE s p = 6) : (latePk s p next w).2 = 6 := by unfold latePk; rw [if_neg (by rw [h]; decide)]; exact h
set_option maxHeartbeats 16000000
set_option maxRecDepth 20000
theorem walk_PacketOnce (y0 : List I) (s : StateD) (e0 : y0 = encSt s ∧ ∀ p ∈ s.pus, p.n < 18446744073709551616) (y1 : List I) (p : PackD) (e1 : y1 = encPk p) (y2 : I) (ack : List UInt8) (e2 : y2 = bI ack) (y3 : I) (next : Int) (e3 : y3 = .s (.int .i64 next) ∧ (Lit.int .i64 next).wf = true)
    (y4 : List I) (w : ShownD) (e4 : y4 = encShI w) (hb : bkL y0 + bkL y1 + bkI y2 + bkI y3 + bkL y4 ≤ 1048576) :
    ∃ Ds, PureD Tryd.prog 8 Ds (.i (.s (.bool true))) ∧ Ds = [.agg (y0.map .i), .agg (y1.map .i), .i y2, .i y3, .agg (y4.map .i)] := by
  obtain ⟨rfl, _⟩ := e0
  subst e1
  subst e2
  obtain ⟨rfl, _⟩ := e3
  subst e4
  refine ⟨_, ?_, rfl⟩
  rw [st_agg, pk_agg, sh_agg]
  have hs := st_sm (s := s) (n := 1048576) (by omega) (by omega)
  have k1 := bk_B ack
  have k2 := bk_B p.data
  have ha : ack.length ≤ 1048576 := by omega
  have hd : p.data.length ≤ 1048576 := by
    have : bkL (encPk p) = bkI (bI p.data) := by simp only [encPk, bkL, bkI]; omega
    omega
  clear hb k1 k2
  refine hide_r fun R hR => ?_
  have c1 := alive11_A
  have c2 := recvpk_A s hs p hd ack ha w
  have c3 := recvpk_A (recvPk s p ack w).1 (recv_sm s p ack w) p hd ack ha w
  have h1 : (recvPk s p ack w).2 = 0 → (recvPk (recvPk s p ack w).1 p ack w).2 = 12 := fun h => by
    have hr := recvPk_zero.1 h
    rw [recvPk_done hr]; exact once_recv hr
  have c4 := ackpk_A s hs p hd ack ha w
  have c5 := ackpk_A (ackPk s p ack w).1 (ack_sm s p ack w) p hd ack ha w
  have c6 := latepk_A (ackPk s p ack w).1 (ack_sm s p ack w) p hd next w
  have h2 : (ackPk s p ack w).2 = 0 → (ackPk (ackPk s p ack w).1 p ack w).2 = 6 := fun h => ack_pend (ack_gone h).2
  have h3 : (ackPk s p ack w).2 = 0 → (latePk (ackPk s p ack w).1 p next w).2 = 6 := fun h => late_pend (ack_gone h).2
  have c7 := latepk_A s hs p hd next w
  have c8 := ackpk_A (latePk s p next w).1 (late_sm s p next w) p hd ack ha w
  have c9 := latepk_A (latePk s p next w).1 (late_sm s p next w) p hd next w
  have h4 : (latePk s p next w).2 = 0 → (ackPk (latePk s p next w).1 p ack w).2 = 6 := fun h => ack_pend (late_gone h).2
  have h5 : (latePk s p next w).2 = 0 → (latePk (latePk s p next w).1 p next w).2 = 6 := fun h => late_pend (late_gone h).2
  generalize recvPk s p ack w = A at *
  generalize ackPk s p ack w = B at *
  generalize latePk s p next w = C at *
  generalize recvPk A.1 p ack w = A1 at *
  generalize ackPk B.1 p ack w = B1 at *
  generalize latePk B.1 p next w = B2 at *
  generalize ackPk C.1 p ack w = C1 at *
  generalize latePk C.1 p next w = C2 at *
  clear hs ha hd
  refine callD_W 117 Tryd.func8 rfl rfl rfl (fun _ _ => rfl) ?_
  exact wkl trivial
end Go.Proofs.YtmclpbcipkdmcaaDoor
/- A row that lists package variables: what its list gives, and a world for the witness. -/
set_option linter.all false
namespace Go.Proofs.YtmclpbcipkdmcaaDoor.Door
open Go Go.ChangeShapes Go.WideShapes Go.ChangeAt Go.RowKit Go.Abs

theorem gv {W : World} {rest : List (String × DataW Unit)} (h : laidMet Tryd.prog (("internal/strconv.uint64pow10", Rows.laid_internal_strconv_uint64pow10) :: rest) W) : ∀ q ∈ gvars, W.var? Tryd.prog q.1 = some q.2 := by
  intro q hq
  simp only [gvars, List.mem_singleton] at hq
  subst hq
  exact Lib.tabIs_of_head (rest := rest) (zs := Lib.pow10Tab) (k := .u64) (g := 1) (by kernel_rfl) (by kernel_rfl) Tryd.underlying226 Tryd.underlying107 (by kernel_rfl) (by kernel_rfl) h
def cellsD : DataW Unit → Array Value
  | .agg l => (l.map fun d => match d with | .lit (.int k z) => Value.int k z | _ => undef).toArray
  | _ => #[]
noncomputable def setG (n : String) (d : DataW Unit) (h : Array Obj) : Array Obj :=
  match (Tryd.prog).globalNamed n with
  | some g => h.modify g fun | .cells _ t f => .cells (cellsD d) t f | o => o
  | none => h
noncomputable def world (os : Os) (l : List (String × DataW Unit)) : World :=
  { World.holding Tryd.prog os ⟨#[], #[], []⟩ with heap := l.foldl (fun h p => setG p.1 p.2 h) (World.holding Tryd.prog os ⟨#[], #[], []⟩).heap }
end Go.Proofs.YtmclpbcipkdmcaaDoor.Door
/- The statement on landlaw11.PacketOnce: for every input of bounded bulk it answers true and leaves its arguments as they were. -/
set_option linter.all false
namespace Go.Proofs.YtmclpbcipkdmcaaDoor.packetOnce
open Go.ChangeShapes Go.WideShapes Go.ChangeAt Go.RowKit Go.Abs
set_option linter.unusedVariables false
set_option maxRecDepth 100000 in
theorem contract (H : Type) (enc : TypeId × Value → H) (W : World) (base : Nat) (args : Array Value) (ds gs : List (DataW H)) (before : List MemPlace)
    (hval : ∀ (j : Nat) t v, Tryd.f8.params[j]? = some t → args[j]? = some v → Value.okWide Tryd.prog W .any base t v)
    (hW : DataW.Whole enc Tryd.prog Tryd.f8.params.toList Rows.packetOnceSpec.vars false W args.toList ds gs before) (hk : Rows.uptoSmall H (ds ++ gs) = true) (hL : laidMetH Tryd.prog Rows.packetOnceUptoRow.laid W) :
    Calls Tryd.prog 8 args W fun e W' => ∃ v, e = .returned v ∧ Rows.packetOnceSpec.post enc Tryd.prog Tryd.f8 false true false false W args v W' := by
  have hW' := hW
  obtain ⟨p, q, hA0, hV, rfl, hfz, hnd⟩ := hW'
  have hA : DataW.TrodAll enc Tryd.prog W 0 (fun _ => true) true Tryd.f8.params.toList args.toList ds p := hA0
  have hA1 := hA
  rw [Tryd.params8] at hA hval
  obtain ⟨v0, vs0, d0, ds0, p0, q0, hargs, rfl, rfl, h0, r0⟩ := trodAll_cons hA
  obtain ⟨v1, vs1, d1, ds1, p1, q1, rfl, rfl, rfl, h1, r1⟩ := trodAll_cons r0
  obtain ⟨v2, vs2, d2, ds2, p2, q2, rfl, rfl, rfl, h2, r2⟩ := trodAll_cons r1
  obtain ⟨v3, vs3, d3, ds3, p3, q3, rfl, rfl, rfl, h3, r3⟩ := trodAll_cons r2
  obtain ⟨v4, vs4, d4, ds4, p4, q4, rfl, rfl, rfl, h4, r4⟩ := trodAll_cons r3
  obtain ⟨rfl, rfl, rfl⟩ := trodAll_nil r4
  obtain rfl : args = #[v0, v1, v2, v3, v4] := by cases args; simp_all
  obtain ⟨rfl, rfl⟩ := trodVars_none hV
  have hb : Rows.uptoBulkAll (H := H) [d0, d1, d2, d3, d4] ≤ 1048576 := by have := of_decide_eq_true hk; simpa using this
  simp only [Rows.uptoBulkAll] at hb
  obtain ⟨y0, c0, w0, b0⟩ := open_ag R2.bulk Ty.sh28 Tryd.underlying28 (hval 0 28 v0 rfl rfl) h0
  obtain ⟨x0, e0⟩ := dec_State c0
  obtain ⟨y1, c1, w1, b1⟩ := open_ag R2.bulk Ty.sh69 Tryd.underlying69 (hval 1 69 v1 rfl rfl) h1
  obtain ⟨x1, e1⟩ := dec_Packet c1
  obtain ⟨y2, c2, w2, b2⟩ := open_sl R2.bulk Ty.sh29 Tryd.underlying29 (hval 2 29 v2 rfl rfl) h2
  obtain ⟨x2, e2⟩ := dec_B c2
  obtain ⟨y3, c3, w3, b3⟩ := open_in R2.bulk Ty.sh3 Tryd.underlying3 (hval 3 3 v3 rfl rfl) h3
  obtain ⟨x3, e3⟩ := dec_int c3
  obtain ⟨y4, c4, w4, b4⟩ := open_ag R2.bulk Ty.sh36 Tryd.underlying36 (hval 4 36 v4 rfl rfl) h4
  obtain ⟨x4, e4⟩ := dec_Shown c4
  have hy0 := e0
  have hy1 := e1
  have hy2 := e2
  have hy3 := e3
  have hy4 := e4
  simp only [List.append_nil] at hW
  obtain ⟨Ds, hp, hs⟩ := walk_PacketOnce y0 x0 e0 y1 x1 e1 y2 x2 e2 y3 x3 e3 y4 x4 e4 (by omega)
  subst hs
  refine (pure_calls hp rfl (fun j d hd => ?_) (Door.gv (laidMet.tail (laidMet.tail hL)))).mono fun e W' ⟨he, bel⟩ => ?_
  · rcases j with _ | _ | _ | _ | _ | j <;> simp at hd <;> subst hd <;> assumption
  · subst he
    exact ⟨_, rfl, _, _, _, [], _, [], hW, trodAll_mk1 (shut_bool Tryd.underlying4 _), R2.trodAll_below hA1 bel (by rw [Tryd.params8]; decide +kernel), rfl, bel.frame _, fun h => by cases h⟩

theorem reads (os : Os) {H : Type} (enc : TypeId × Value → H) : ∃ places, DataW.whole enc Tryd.prog ((Door.world os Rows.packetOnceUptoRow.laid).forCall (fun _ _ => 0) ⟨#[], #[.agg #[.string ⟨#[]⟩, .int .i64 0, .int .i64 0, .slice none 0 0, .slice none 0 0, .slice none 0 0, .slice none 0 0, .slice none 0 0, .slice none 0 0, .slice none 0 0], .agg #[.int .i64 0, .int .i64 0, .int .i64 0, .slice none 0 0, .int .i64 0], .slice none 0 0, .int .i64 0, .agg #[.int .i64 0, .int .i64 0, .int .i64 0, .slice none 0 0, .slice none 0 0, .slice none 0 0, .bool false, .bool false, .int .i64 0, .int .i64 0, .slice none 0 0, .slice none 0 0, .slice none 0 0, .int .i64 0, .int .i64 0, .slice none 0 0, .slice none 0 0, .slice none 0 0]], []⟩).memory Tryd.f8.params.toList Rows.packetOnceSpec.vars false (#[.agg #[.string ⟨#[]⟩, .int .i64 0, .int .i64 0, .slice none 0 0, .slice none 0 0, .slice none 0 0, .slice none 0 0, .slice none 0 0, .slice none 0 0, .slice none 0 0], .agg #[.int .i64 0, .int .i64 0, .int .i64 0, .slice none 0 0, .int .i64 0], .slice none 0 0, .int .i64 0, .agg #[.int .i64 0, .int .i64 0, .int .i64 0, .slice none 0 0, .slice none 0 0, .slice none 0 0, .bool false, .bool false, .int .i64 0, .int .i64 0, .slice none 0 0, .slice none 0 0, .slice none 0 0, .int .i64 0, .int .i64 0, .slice none 0 0, .slice none 0 0, .slice none 0 0]] : Array Value).toList 20 = some ([.agg [.lit (.string []), .lit (.int .i64 0), .lit (.int .i64 0), .nil, .nil, .nil, .nil, .nil, .nil, .nil], .agg [.lit (.int .i64 0), .lit (.int .i64 0), .lit (.int .i64 0), .nil, .lit (.int .i64 0)], .nil, .lit (.int .i64 0), .agg [.lit (.int .i64 0), .agg [.lit (.int .i64 0), .lit (.int .i64 0), .nil, .nil, .nil], .agg [.lit (.bool false), .lit (.bool false), .agg [.lit (.int .i64 0), .lit (.int .i64 0), .nil, .nil, .nil], .agg [.lit (.int .i64 0), .lit (.int .i64 0), .nil, .nil, .nil]]]], [], places) :=
  ⟨[], by kernel_rfl⟩
theorem laid_met (os : Os) : laidMet Tryd.prog Rows.packetOnceUptoRow.laid ((Door.world os Rows.packetOnceUptoRow.laid).forCall (fun _ _ => 0) ⟨#[], #[.agg #[.string ⟨#[]⟩, .int .i64 0, .int .i64 0, .slice none 0 0, .slice none 0 0, .slice none 0 0, .slice none 0 0, .slice none 0 0, .slice none 0 0, .slice none 0 0], .agg #[.int .i64 0, .int .i64 0, .int .i64 0, .slice none 0 0, .int .i64 0], .slice none 0 0, .int .i64 0, .agg #[.int .i64 0, .int .i64 0, .int .i64 0, .slice none 0 0, .slice none 0 0, .slice none 0 0, .bool false, .bool false, .int .i64 0, .int .i64 0, .slice none 0 0, .slice none 0 0, .slice none 0 0, .int .i64 0, .int .i64 0, .slice none 0 0, .slice none 0 0, .slice none 0 0]], []⟩).memory :=
  laidMet_of_run' 8 (by kernel_rfl) (by kernel_rfl)
set_option maxRecDepth 100000 in
theorem lifted (os : Os) (started : os.Started) (H : Type) (enc : TypeId × Value → H) (F : Stop.Interp) :
    ReturnsInHanded {} Tryd.checked os 8 .any ((Rows.OpenSpec.upto Rows.packetOnceSpec).preRow enc Tryd.prog Tryd.f8 Rows.packetOnceUptoRow.domain false Rows.packetOnceUptoRow.laid) (((Rows.OpenSpec.upto Rows.packetOnceSpec).at F).post enc Tryd.prog Tryd.f8 false true false false) := by
  obtain ⟨places, hx⟩ := reads os enc
  refine returnsInHanded_of_row (C := Tryd.checked) (s := Rows.OpenSpec.upto Rows.packetOnceSpec) R2.own started (by kernel_rfl) Tryd.func8
    (witness_row_at (enc := enc) (C := Tryd.checked) false (Door.world os Rows.packetOnceUptoRow.laid) #[.agg #[.string ⟨#[]⟩, .int .i64 0, .int .i64 0, .slice none 0 0, .slice none 0 0, .slice none 0 0, .slice none 0 0, .slice none 0 0, .slice none 0 0, .slice none 0 0], .agg #[.int .i64 0, .int .i64 0, .int .i64 0, .slice none 0 0, .int .i64 0], .slice none 0 0, .int .i64 0, .agg #[.int .i64 0, .int .i64 0, .int .i64 0, .slice none 0 0, .slice none 0 0, .slice none 0 0, .bool false, .bool false, .int .i64 0, .int .i64 0, .slice none 0 0, .slice none 0 0, .slice none 0 0, .int .i64 0, .int .i64 0, .slice none 0 0, .slice none 0 0, .slice none 0 0]] rfl (by kernel_rfl) (by kernel_rfl) (by kernel_rfl)
      (OpenSpec.preRow_of_cond 20 hx (by kernel_rfl) (fun k hk => by cases hk; kernel_rfl) (by kernel_rfl) (laid_met os))) ?_
  intro W base args ds gs before hval hW _ hcond _ hL _ _
  exact contract H enc W base args ds gs before hval hW (hcond _ rfl) hL

theorem over : Rows.packetOnceUptoRow.holds Tryd.pinned (Rows.OpenSpec.upto Rows.packetOnceSpec) :=
  OpenClaim.holds_of_cond 8 Tryd.f8 rfl rfl rfl rfl rfl rfl rfl ⟨rfl, rfl, rfl, rfl, rfl⟩ rfl rfl rfl rfl rfl (by kernel_rfl) Tryd.func8 (by kernel_rfl)
    (of_decide_eq_true (by kernel_rfl)) (by unfold Func.isWrapper; first | (rw [if_pos (by decide +kernel)]; kernel_rfl) | (rw [if_neg (by decide +kernel)]; exact ⟨rfl, rfl⟩))
    (fun os started H enc _ F => by rw [OpenClaim.pre_eq_preRow]; exact lifted os started H enc F)
theorem plain (f : FuncId) (fn : Func) (hf : Tryd.pinned.checked.prog.funcNamed "landbridge/landlaw11.PacketOnce" = some f) (hfn : Tryd.pinned.checked.prog.funcs[f]? = some fn) :
    false = Tryd.pinned.checked.prog.looks [] ∧ ∀ (j : Nat) t, fn.params[j]? = some t → Tryd.pinned.checked.prog.wantsStandIn t = false := by
  obtain rfl : f = 8 := Option.some.inj ((show Tryd.prog.funcNamed "landbridge/landlaw11.PacketOnce" = some 8 by kernel_rfl).symm.trans hf) |>.symm
  obtain rfl : fn = Tryd.f8 := (Option.some.inj (Tryd.func8.symm.trans hfn)).symm
  refine ⟨by kernel_rfl, fun j t ht => ?_⟩
  rw [Tryd.params8] at ht
  have h3 : t = 28 ∨ t = 69 ∨ t = 29 ∨ t = 3 ∨ t = 36 := by simpa using Array.mem_of_getElem? ht
  rcases h3 with rfl | rfl | rfl | rfl | rfl
  · exact (show Tryd.prog.wantsStandIn 28 = false by kernel_rfl)
  · exact (show Tryd.prog.wantsStandIn 69 = false by kernel_rfl)
  · exact (show Tryd.prog.wantsStandIn 29 = false by kernel_rfl)
  · exact (show Tryd.prog.wantsStandIn 3 = false by kernel_rfl)
  · exact (show Tryd.prog.wantsStandIn 36 = false by kernel_rfl)
/-- THE STATEMENT. -/
theorem proved : Rows.PacketOnceUptoCardSaid :=
  Claim7.holds_tied_plain_at .later [] _ _ _ _ over (fun _ h => by cases h) (by kernel_rfl) (fun _ h => by cases h) packetOnceUpto_row_tie rfl ⟨rfl, rfl⟩ (by kernel_rfl) rfl plain (by kernel_rfl)
end Go.Proofs.YtmclpbcipkdmcaaDoor.packetOnce
