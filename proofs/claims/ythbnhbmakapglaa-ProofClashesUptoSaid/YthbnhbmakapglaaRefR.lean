/- landref4.Root: by value. -/
import Derived.Test.YthbnhbmakapglaaRefB
import Derived.Test.YthbnhbmakapglaaBookC
set_option linter.all false
namespace Go.Proofs.Ythbnhbmakapglaa
open Go Go.Abs Go.RowKit Go.Proofs.Ythbnhbmakapglaa.Ty

set_option maxHeartbeats 4000000
theorem rroot_A (l : List PairD) (hl : l.length ≤ 1048576) (hb : ∀ p ∈ l, p.k.length ≤ 1048576 ∧ p.v.length ≤ 1048576) :
    PureD Try.prog 34 [.i (psI l)] (.tup [.i (bI (rootR l)), fltD (wrongF l).1 (wrongF l).2]) := by
  have hw := rwrong_A l hl (fun p hp => (hb p hp).1)
  unfold rootR
  by_cases h0 : (wrongF l).1 = 0
  · have hr := right_of h0
    have hz := wrong_zero h0
    rw [if_pos h0, hz]
    rw [hz] at hw
    simp only at *
    have htl : (treeF l).length ≤ 32 := by
      by_cases hn : l = []
      · subst hn; simp [treeF]
      · exact Nat.le_of_eq (treeF_len l hn)
    have htr := rtree_A _ l rfl hl hb
    have ht := rtop_A l.length (treeF l) hl (by omega)
    rw [show topF l.length (treeF l) = rootF l from rfl] at ht
    generalize rootF l = R at *
    generalize treeF l = T at *
    refine callD_W 17 Try.func34 rfl rfl rfl (fun _ _ => rfl) ?_
    (repeat (first | (simp -implicitDefEqProofs only [ev1, ev2, ev3, ev4, ev5, ev6, mixed, Nat.reduceLT, Nat.reduceAdd, Nat.reduceMul, reduceIte, Nat.reduceEqDiff, reduceCtorEq, Nat.reducePow, Nat.reduceLeDiff, Int.reduceLE, Int.reduceLT, Int.reduceToNat, Int.reduceEq, Nat.reduceBEq, itsOf, gdA, byteI, opid, lenQ, ixQ, ldH, readAt, readCells, asCell, faQ, exQ, fldQ, partA, buildQ, slQ, stH, bslH, appH, dcells, convI, elemsOf, D.one, nilS, fillD, convN, cvH, T3, T5, T22, T23, T28, T33, T52, psI]) | (with_reducible refine ⟨?_, ?_⟩; (· first | (obtain ⟨rfl⟩ := ‹Hq _ _›; with_reducible refine chk_ok ?_; kernel_rfl) | kernel_rfl)) | (with_reducible intro ops hops)))
    (first | refine Call_flat [] [] (hw) (by simp [cvAs, cvA, cv1, cvL, cv0, bI, byteI, psI, intD, fltD, elemsOf, upd]) rfl ?_ | refine CallF_flat [] [] [] (hw) (fun G _ => by simp [cvAs, cvA, cv1, cvL, cv0, bI, byteI, psI, intD, fltD, elemsOf, upd]) rfl ?_)
    (repeat (first | (simp -implicitDefEqProofs only [ev1, ev2, ev3, ev4, ev5, ev6, mixed, Nat.reduceLT, Nat.reduceAdd, Nat.reduceMul, reduceIte, Nat.reduceEqDiff, reduceCtorEq, Nat.reducePow, Nat.reduceLeDiff, Int.reduceLE, Int.reduceLT, Int.reduceToNat, Int.reduceEq, Nat.reduceBEq, itsOf, gdA, byteI, opid, lenQ, ixQ, ldH, readAt, readCells, asCell, faQ, exQ, fldQ, partA, buildQ, slQ, stH, bslH, appH, dcells, convI, elemsOf, D.one, nilS, fillD, convN, cvH, T3, T5, T22, T23, T28, T33, T52, fltD, intD, psI]) | (with_reducible refine ⟨?_, ?_⟩; (· first | (obtain ⟨rfl⟩ := ‹Hq _ _›; with_reducible refine chk_ok ?_; kernel_rfl) | kernel_rfl)) | (with_reducible intro ops hops)))
    (first | refine Call_frz [] (htr) (by simp [cvAs, cvA, cv1, cvL, cv0, bI, byteI, psI, intD, fltD, elemsOf, upd]) ?_ | refine CallF_frz [] [] (htr) (fun G _ => by simp [cvAs, cvA, cv1, cvL, cv0, bI, byteI, psI, intD, fltD, elemsOf, upd]) (by simp) ?_)
    (repeat (first | (simp -implicitDefEqProofs only [ev1, ev2, ev3, ev4, ev5, ev6, mixed, Nat.reduceLT, Nat.reduceAdd, Nat.reduceMul, reduceIte, Nat.reduceEqDiff, reduceCtorEq, Nat.reducePow, Nat.reduceLeDiff, Int.reduceLE, Int.reduceLT, Int.reduceToNat, Int.reduceEq, Nat.reduceBEq, itsOf, gdA, byteI, opid, lenQ, ixQ, ldH, readAt, readCells, asCell, faQ, exQ, fldQ, partA, buildQ, slQ, stH, bslH, appH, dcells, convI, elemsOf, D.one, nilS, fillD, convN, cvH, T3, T5, T22, T23, T28, T33, T52, bI]) | (with_reducible refine ⟨?_, ?_⟩; (· first | (obtain ⟨rfl⟩ := ‹Hq _ _›; with_reducible refine chk_ok ?_; kernel_rfl) | kernel_rfl)) | (with_reducible intro ops hops)))
    (first | refine Call_frz [] (ht) (by simp [cvAs, cvA, cv1, cvL, cv0, bI, byteI, psI, intD, fltD, elemsOf, upd]) ?_ | refine CallF_frz [] [] (ht) (fun G _ => by simp [cvAs, cvA, cv1, cvL, cv0, bI, byteI, psI, intD, fltD, elemsOf, upd]) (by simp) ?_)
    (repeat (first | (simp -implicitDefEqProofs only [ev1, ev2, ev3, ev4, ev5, ev6, mixed, Nat.reduceLT, Nat.reduceAdd, Nat.reduceMul, reduceIte, Nat.reduceEqDiff, reduceCtorEq, Nat.reducePow, Nat.reduceLeDiff, Int.reduceLE, Int.reduceLT, Int.reduceToNat, Int.reduceEq, Nat.reduceBEq, itsOf, gdA, byteI, opid, lenQ, ixQ, ldH, readAt, readCells, asCell, faQ, exQ, fldQ, partA, buildQ, slQ, stH, bslH, appH, dcells, convI, elemsOf, D.one, nilS, fillD, convN, cvH, T3, T5, T22, T23, T28, T33, T52, bI]) | (with_reducible refine ⟨?_, ?_⟩; (· first | (obtain ⟨rfl⟩ := ‹Hq _ _›; with_reducible refine chk_ok ?_; kernel_rfl) | kernel_rfl)) | (with_reducible intro ops hops)))
    refine fin_2 [] rfl ag33 sz33 (by simp [upd, readAt, readCells]; rfl) ?_
    simp [cv, cvT, cv1, cvL, cv0, upd, fltD, intD, bI]
  · rw [if_neg h0]
    generalize wrongF l = W at *
    have g1 : decide ((W.1 : Int) = 0) = false := by simp; omega
    refine callD_W 17 Try.func34 rfl rfl rfl (fun _ _ => rfl) ?_
    (repeat (first | (simp -implicitDefEqProofs only [ev1, ev2, ev3, ev4, ev5, ev6, mixed, Nat.reduceLT, Nat.reduceAdd, Nat.reduceMul, reduceIte, Nat.reduceEqDiff, reduceCtorEq, Nat.reducePow, Nat.reduceLeDiff, Int.reduceLE, Int.reduceLT, Int.reduceToNat, Int.reduceEq, Nat.reduceBEq, itsOf, gdA, byteI, opid, lenQ, ixQ, ldH, readAt, readCells, asCell, faQ, exQ, fldQ, partA, buildQ, slQ, stH, bslH, appH, dcells, convI, elemsOf, D.one, nilS, fillD, convN, cvH, T3, T5, T22, T23, T28, T33, T52, psI]) | (with_reducible refine ⟨?_, ?_⟩; (· first | (obtain ⟨rfl⟩ := ‹Hq _ _›; with_reducible refine chk_ok ?_; kernel_rfl) | kernel_rfl)) | (with_reducible intro ops hops)))
    (first | refine Call_flat [] [] (hw) (by simp [cvAs, cvA, cv1, cvL, cv0, bI, byteI, psI, intD, fltD, elemsOf, upd]) rfl ?_ | refine CallF_flat [] [] [] (hw) (fun G _ => by simp [cvAs, cvA, cv1, cvL, cv0, bI, byteI, psI, intD, fltD, elemsOf, upd]) rfl ?_)
    (repeat (first | (simp -implicitDefEqProofs only [ev1, ev2, ev3, ev4, ev5, ev6, mixed, Nat.reduceLT, Nat.reduceAdd, Nat.reduceMul, reduceIte, Nat.reduceEqDiff, reduceCtorEq, Nat.reducePow, Nat.reduceLeDiff, Int.reduceLE, Int.reduceLT, Int.reduceToNat, Int.reduceEq, Nat.reduceBEq, itsOf, gdA, byteI, opid, lenQ, ixQ, ldH, readAt, readCells, asCell, faQ, exQ, fldQ, partA, buildQ, slQ, stH, bslH, appH, dcells, convI, elemsOf, D.one, nilS, fillD, convN, cvH, T3, T5, T22, T23, T28, T33, T52, fltD, intD, g1]) | (with_reducible refine ⟨?_, ?_⟩; (· first | (obtain ⟨rfl⟩ := ‹Hq _ _›; with_reducible refine chk_ok ?_; kernel_rfl) | kernel_rfl)) | (with_reducible intro ops hops)))
    refine fin_2 [] rfl ag33 sz33 (by simp [upd, readAt, readCells]; rfl) ?_
    simp [cv, cvT, cv1, cvL, cv0, upd, fltD, intD, bI]
end Go.Proofs.Ythbnhbmakapglaa
