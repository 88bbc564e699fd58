/- proof.at, Show: by value. -/
import Derived.Test.YthbnhbmakapglaaProofA
set_option linter.all false
namespace Go.Proofs.Ythbnhbmakapglaa
open Go Go.Abs Go.RowKit Go.Proofs.Ythbnhbmakapglaa.Ty

theorem fin_ct {P : Program} {fn : Func} {sl : Nat → D} {H : Nat → Ob} {t : TypeId} {p i : Tmp} {k : Nat} {cs : List D} {r : D} (F : List Nat) (h : fn.results = #[.cell p t, .tmp i]) (ha : aggOf P t = some true) (hs : szOf P t = some k) (hr : readAt H (sl p) k = some cs) (hv : cv H F (fun _ => none) (.tup [.agg cs, sl i]) r) : Fin P fn noH r noH .ret ⟨sl, H⟩ :=
  ⟨_, by simp [resA, h, resOne, ha, hs, hr], ler_pure F hv⟩
def atF (l : List PairD) (i : Nat) (h : i < l.length) : ProofD := ⟨i, l.length, l[i].k, l[i].v, pathF l i⟩
set_option maxHeartbeats 2000000
theorem at_A (l : List PairD) (i : Nat) (hi : i < l.length) (hl : l.length ≤ 1048576) (hb : ∀ p ∈ l, p.k.length ≤ 1048576 ∧ p.v.length ≤ 1048576) :
    PureD Try.prog 43 [.i (psI l), intD i] (proofD (atF l i hi)) := by
  have hp := path_D _ l i rfl hi hl hb
  have hbi := hb _ (List.getElem_mem hi)
  have e1 : (l.map encPr)[i]? = some [bI l[i].k, bI l[i].v] := by rw [List.getElem?_map, List.getElem?_eq_getElem hi]; rfl
  have c1 := clone_A l[i].k (by omega)
  have c2 := clone_A l[i].v (by omega)
  have hpl := pathF_len l.length l i rfl
  simp only [atF]
  generalize l[i] = p at *
  generalize pathF l i = Q at *
  refine callD_W 24 Try.func43 rfl rfl rfl (fun _ _ => rfl) ?_
  (repeat (first | (simp -implicitDefEqProofs only [ev1, ev2, ev3, ev4, ev5, ev6, mixed, Nat.reduceLT, Nat.reduceAdd, Nat.reduceMul, reduceIte, Nat.reduceEqDiff, reduceCtorEq, Nat.reducePow, Nat.reduceLeDiff, Int.reduceLE, Int.reduceLT, Int.reduceToNat, Int.reduceEq, Nat.reduceBEq, itsOf, gdA, byteI, opid, lenQ, ixQ, ldH, readAt, readCells, asCell, faQ, exQ, fldQ, partA, buildQ, slQ, stH, bslH, appH, dcells, convI, elemsOf, D.one, nilS, fillD, convN, cvH, T3, T5, T22, T23, T25, T27, T52, psI, intD, e1, bI]) | (with_reducible refine ⟨?_, ?_⟩; (· first | (obtain ⟨rfl⟩ := ‹Hq _ _›; with_reducible refine chk_ok ?_; kernel_rfl) | kernel_rfl)) | (with_reducible intro ops hops)))
  (first | refine Call_frz [] (c1) (by simp [cvAs, cvA, cv1, cvL, cv0, bI, byteI, bbI, encPr, psI, intD, boolD, proofD, fltD, elemsOf, upd]) ?_ | refine CallF_frz [] [] (c1) (fun G _ => by simp [cvAs, cvA, cv1, cvL, cv0, bI, byteI, bbI, encPr, psI, intD, boolD, proofD, fltD, elemsOf, upd]) (by simp) ?_)
  (repeat (first | (simp -implicitDefEqProofs only [ev1, ev2, ev3, ev4, ev5, ev6, mixed, Nat.reduceLT, Nat.reduceAdd, Nat.reduceMul, reduceIte, Nat.reduceEqDiff, reduceCtorEq, Nat.reducePow, Nat.reduceLeDiff, Int.reduceLE, Int.reduceLT, Int.reduceToNat, Int.reduceEq, Nat.reduceBEq, itsOf, gdA, byteI, opid, lenQ, ixQ, ldH, readAt, readCells, asCell, faQ, exQ, fldQ, partA, buildQ, slQ, stH, bslH, appH, dcells, convI, elemsOf, D.one, nilS, fillD, convN, cvH, T3, T5, T22, T23, T25, T27, T52, psI, intD, e1, bI]) | (with_reducible refine ⟨?_, ?_⟩; (· first | (obtain ⟨rfl⟩ := ‹Hq _ _›; with_reducible refine chk_ok ?_; kernel_rfl) | kernel_rfl)) | (with_reducible intro ops hops)))
  (first | refine Call_frz [] (c2) (by simp [cvAs, cvA, cv1, cvL, cv0, bI, byteI, bbI, encPr, psI, intD, boolD, proofD, fltD, elemsOf, upd]) ?_ | refine CallF_frz [] [] (c2) (fun G _ => by simp [cvAs, cvA, cv1, cvL, cv0, bI, byteI, bbI, encPr, psI, intD, boolD, proofD, fltD, elemsOf, upd]) (by simp) ?_)
  (repeat (first | (simp -implicitDefEqProofs only [ev1, ev2, ev3, ev4, ev5, ev6, mixed, Nat.reduceLT, Nat.reduceAdd, Nat.reduceMul, reduceIte, Nat.reduceEqDiff, reduceCtorEq, Nat.reducePow, Nat.reduceLeDiff, Int.reduceLE, Int.reduceLT, Int.reduceToNat, Int.reduceEq, Nat.reduceBEq, itsOf, gdA, byteI, opid, lenQ, ixQ, ldH, readAt, readCells, asCell, faQ, exQ, fldQ, partA, buildQ, slQ, stH, bslH, appH, dcells, convI, elemsOf, D.one, nilS, fillD, convN, cvH, T3, T5, T22, T23, T25, T27, T52, psI, intD, e1, bI]) | (with_reducible refine ⟨?_, ?_⟩; (· first | (obtain ⟨rfl⟩ := ‹Hq _ _›; with_reducible refine chk_ok ?_; kernel_rfl) | kernel_rfl)) | (with_reducible intro ops hops)))
  refine CallF_new 1273 hp (by simp [upd, noH]) rfl ?_
  (repeat (first | (simp -implicitDefEqProofs only [ev1, ev2, ev3, ev4, ev5, ev6, mixed, Nat.reduceLT, Nat.reduceAdd, Nat.reduceMul, reduceIte, Nat.reduceEqDiff, reduceCtorEq, Nat.reducePow, Nat.reduceLeDiff, Int.reduceLE, Int.reduceLT, Int.reduceToNat, Int.reduceEq, Nat.reduceBEq, itsOf, gdA, byteI, opid, lenQ, ixQ, ldH, readAt, readCells, asCell, faQ, exQ, fldQ, partA, buildQ, slQ, stH, bslH, appH, dcells, convI, elemsOf, D.one, nilS, fillD, convN, cvH, T3, T5, T22, T23, T25, T27, T52, bI]) | (with_reducible refine ⟨?_, ?_⟩; (· first | (obtain ⟨rfl⟩ := ‹Hq _ _›; with_reducible refine chk_ok ?_; kernel_rfl) | kernel_rfl)) | (with_reducible intro ops hops)))
  refine fin_c [1273] rfl ag27 sz27 (by simp [upd, readAt, readCells]; rfl) ?_
  simp [cv, cv1, cvL, cv0, upd, proofD, intD, bbI, elemsOf, hO, noH, lk, take_len_map, bbE, bI]

def zeroP : ProofD := ⟨0, 0, [], [], []⟩
def showF (l : List PairD) (key : List UInt8) : ProofD × Nat :=
  if (wrongF l).1 = 0 then (if h : placeF l key < l.length then (if l[placeF l key].k = key then (atF l (placeF l key) h, 0) else (zeroP, 6)) else (zeroP, 6)) else (zeroP, (wrongF l).1)
theorem show_A (l : List PairD) (key : List UInt8) (hl : l.length ≤ 1048576) :
    PureD Try.prog 15 [.i (psI l), .i (bI key)] (.tup [proofD (showF l key).1, intD (showF l key).2]) := by
  have hw := wrong_A l hl
  unfold showF
  by_cases h0 : (wrongF l).1 = 0
  · have hr := right_of h0
    have hz := wrong_zero h0
    rw [if_pos h0]
    rw [hz] at hw
    simp only at hw
    have hf := find_A l key hr
    unfold thereF at hf
    have hat := fun (h : placeF l key < l.length) => at_A l (placeF l key) h hl (fun p hp => by have := hr.big p hp; omega)
    by_cases h1 : placeF l key < l.length
    · rw [dif_pos h1] at hf ⊢
      have hat := hat h1
      by_cases h2 : l[placeF l key].k = key
      · rw [if_pos h2]
        rw [decide_eq_true h2] at hf
        simp only
        generalize atF l (placeF l key) h1 = A at *
        generalize placeF l key = j at *
        refine callD_W 29 Try.func15 rfl rfl rfl (fun _ _ => rfl) ?_
        (repeat (first | (simp -implicitDefEqProofs only [ev1, ev2, ev3, ev4, ev5, ev6, mixed, Nat.reduceLT, Nat.reduceAdd, Nat.reduceMul, reduceIte, Nat.reduceEqDiff, reduceCtorEq, Nat.reducePow, Nat.reduceLeDiff, Int.reduceLE, Int.reduceLT, Int.reduceToNat, Int.reduceEq, Nat.reduceBEq, itsOf, gdA, byteI, opid, lenQ, ixQ, ldH, readAt, readCells, asCell, faQ, exQ, fldQ, partA, buildQ, slQ, stH, bslH, appH, dcells, convI, elemsOf, D.one, nilS, fillD, convN, cvH, T3, T4, T5, T22, T23, T25, T27, T28, T33, T52, psI, bI]) | (with_reducible refine ⟨?_, ?_⟩; (· first | (obtain ⟨rfl⟩ := ‹Hq _ _›; with_reducible refine chk_ok ?_; kernel_rfl) | kernel_rfl)) | (with_reducible intro ops hops)))
        (first | refine Call_flat [] [] (hw) (by simp [cvAs, cvA, cv1, cvL, cv0, bI, byteI, bbI, encPr, psI, intD, boolD, proofD, fltD, elemsOf, upd]) rfl ?_ | refine CallF_flat [] [] [] (hw) (fun G _ => by simp [cvAs, cvA, cv1, cvL, cv0, bI, byteI, bbI, encPr, psI, intD, boolD, proofD, fltD, elemsOf, upd]) rfl ?_)
        (repeat (first | (simp -implicitDefEqProofs only [ev1, ev2, ev3, ev4, ev5, ev6, mixed, Nat.reduceLT, Nat.reduceAdd, Nat.reduceMul, reduceIte, Nat.reduceEqDiff, reduceCtorEq, Nat.reducePow, Nat.reduceLeDiff, Int.reduceLE, Int.reduceLT, Int.reduceToNat, Int.reduceEq, Nat.reduceBEq, itsOf, gdA, byteI, opid, lenQ, ixQ, ldH, readAt, readCells, asCell, faQ, exQ, fldQ, partA, buildQ, slQ, stH, bslH, appH, dcells, convI, elemsOf, D.one, nilS, fillD, convN, cvH, T3, T4, T5, T22, T23, T25, T27, T28, T33, T52, fltD, intD, psI, bI]) | (with_reducible refine ⟨?_, ?_⟩; (· first | (obtain ⟨rfl⟩ := ‹Hq _ _›; with_reducible refine chk_ok ?_; kernel_rfl) | kernel_rfl)) | (with_reducible intro ops hops)))
        (first | refine Call_flat [] [] (hf) (by simp [cvAs, cvA, cv1, cvL, cv0, bI, byteI, bbI, encPr, psI, intD, boolD, proofD, fltD, elemsOf, upd]) rfl ?_ | refine CallF_flat [] [] [] (hf) (fun G _ => by simp [cvAs, cvA, cv1, cvL, cv0, bI, byteI, bbI, encPr, psI, intD, boolD, proofD, fltD, elemsOf, upd]) rfl ?_)
        (repeat (first | (simp -implicitDefEqProofs only [ev1, ev2, ev3, ev4, ev5, ev6, mixed, Nat.reduceLT, Nat.reduceAdd, Nat.reduceMul, reduceIte, Nat.reduceEqDiff, reduceCtorEq, Nat.reducePow, Nat.reduceLeDiff, Int.reduceLE, Int.reduceLT, Int.reduceToNat, Int.reduceEq, Nat.reduceBEq, itsOf, gdA, byteI, opid, lenQ, ixQ, ldH, readAt, readCells, asCell, faQ, exQ, fldQ, partA, buildQ, slQ, stH, bslH, appH, dcells, convI, elemsOf, D.one, nilS, fillD, convN, cvH, T3, T4, T5, T22, T23, T25, T27, T28, T33, T52, boolD, intD, psI, bI]) | (with_reducible refine ⟨?_, ?_⟩; (· first | (obtain ⟨rfl⟩ := ‹Hq _ _›; with_reducible refine chk_ok ?_; kernel_rfl) | kernel_rfl)) | (with_reducible intro ops hops)))
        (first | refine Call_frz [] (hat) (by simp [cvAs, cvA, cv1, cvL, cv0, bI, byteI, bbI, encPr, psI, intD, boolD, proofD, fltD, elemsOf, upd]) ?_ | refine CallF_frz [] [] (hat) (fun G _ => by simp [cvAs, cvA, cv1, cvL, cv0, bI, byteI, bbI, encPr, psI, intD, boolD, proofD, fltD, elemsOf, upd]) (by simp) ?_)
        (repeat (first | (simp -implicitDefEqProofs only [ev1, ev2, ev3, ev4, ev5, ev6, mixed, Nat.reduceLT, Nat.reduceAdd, Nat.reduceMul, reduceIte, Nat.reduceEqDiff, reduceCtorEq, Nat.reducePow, Nat.reduceLeDiff, Int.reduceLE, Int.reduceLT, Int.reduceToNat, Int.reduceEq, Nat.reduceBEq, itsOf, gdA, byteI, opid, lenQ, ixQ, ldH, readAt, readCells, asCell, faQ, exQ, fldQ, partA, buildQ, slQ, stH, bslH, appH, dcells, convI, elemsOf, D.one, nilS, fillD, convN, cvH, T3, T4, T5, T22, T23, T25, T27, T28, T33, T52, proofD, intD]) | (with_reducible refine ⟨?_, ?_⟩; (· first | (obtain ⟨rfl⟩ := ‹Hq _ _›; with_reducible refine chk_ok ?_; kernel_rfl) | kernel_rfl)) | (with_reducible intro ops hops)))
        refine fin_ct [] rfl ag27 sz27 (by simp [upd, readAt, readCells]; rfl) ?_
        simp [cv, cvT, cv1, cvL, cv0, upd, proofD, intD]
      · rw [if_neg h2]
        rw [decide_eq_false h2] at hf
        simp only
        generalize placeF l key = j at *
        refine callD_W 29 Try.func15 rfl rfl rfl (fun _ _ => rfl) ?_
        (repeat (first | (simp -implicitDefEqProofs only [ev1, ev2, ev3, ev4, ev5, ev6, mixed, Nat.reduceLT, Nat.reduceAdd, Nat.reduceMul, reduceIte, Nat.reduceEqDiff, reduceCtorEq, Nat.reducePow, Nat.reduceLeDiff, Int.reduceLE, Int.reduceLT, Int.reduceToNat, Int.reduceEq, Nat.reduceBEq, itsOf, gdA, byteI, opid, lenQ, ixQ, ldH, readAt, readCells, asCell, faQ, exQ, fldQ, partA, buildQ, slQ, stH, bslH, appH, dcells, convI, elemsOf, D.one, nilS, fillD, convN, cvH, T3, T4, T5, T22, T23, T25, T27, T28, T33, T52, psI, bI]) | (with_reducible refine ⟨?_, ?_⟩; (· first | (obtain ⟨rfl⟩ := ‹Hq _ _›; with_reducible refine chk_ok ?_; kernel_rfl) | kernel_rfl)) | (with_reducible intro ops hops)))
        (first | refine Call_flat [] [] (hw) (by simp [cvAs, cvA, cv1, cvL, cv0, bI, byteI, bbI, encPr, psI, intD, boolD, proofD, fltD, elemsOf, upd]) rfl ?_ | refine CallF_flat [] [] [] (hw) (fun G _ => by simp [cvAs, cvA, cv1, cvL, cv0, bI, byteI, bbI, encPr, psI, intD, boolD, proofD, fltD, elemsOf, upd]) rfl ?_)
        (repeat (first | (simp -implicitDefEqProofs only [ev1, ev2, ev3, ev4, ev5, ev6, mixed, Nat.reduceLT, Nat.reduceAdd, Nat.reduceMul, reduceIte, Nat.reduceEqDiff, reduceCtorEq, Nat.reducePow, Nat.reduceLeDiff, Int.reduceLE, Int.reduceLT, Int.reduceToNat, Int.reduceEq, Nat.reduceBEq, itsOf, gdA, byteI, opid, lenQ, ixQ, ldH, readAt, readCells, asCell, faQ, exQ, fldQ, partA, buildQ, slQ, stH, bslH, appH, dcells, convI, elemsOf, D.one, nilS, fillD, convN, cvH, T3, T4, T5, T22, T23, T25, T27, T28, T33, T52, fltD, intD, psI, bI]) | (with_reducible refine ⟨?_, ?_⟩; (· first | (obtain ⟨rfl⟩ := ‹Hq _ _›; with_reducible refine chk_ok ?_; kernel_rfl) | kernel_rfl)) | (with_reducible intro ops hops)))
        (first | refine Call_flat [] [] (hf) (by simp [cvAs, cvA, cv1, cvL, cv0, bI, byteI, bbI, encPr, psI, intD, boolD, proofD, fltD, elemsOf, upd]) rfl ?_ | refine CallF_flat [] [] [] (hf) (fun G _ => by simp [cvAs, cvA, cv1, cvL, cv0, bI, byteI, bbI, encPr, psI, intD, boolD, proofD, fltD, elemsOf, upd]) rfl ?_)
        (repeat (first | (simp -implicitDefEqProofs only [ev1, ev2, ev3, ev4, ev5, ev6, mixed, Nat.reduceLT, Nat.reduceAdd, Nat.reduceMul, reduceIte, Nat.reduceEqDiff, reduceCtorEq, Nat.reducePow, Nat.reduceLeDiff, Int.reduceLE, Int.reduceLT, Int.reduceToNat, Int.reduceEq, Nat.reduceBEq, itsOf, gdA, byteI, opid, lenQ, ixQ, ldH, readAt, readCells, asCell, faQ, exQ, fldQ, partA, buildQ, slQ, stH, bslH, appH, dcells, convI, elemsOf, D.one, nilS, fillD, convN, cvH, T3, T4, T5, T22, T23, T25, T27, T28, T33, T52, boolD, intD, psI, bI]) | (with_reducible refine ⟨?_, ?_⟩; (· first | (obtain ⟨rfl⟩ := ‹Hq _ _›; with_reducible refine chk_ok ?_; kernel_rfl) | kernel_rfl)) | (with_reducible intro ops hops)))
        refine fin_ct [] rfl ag27 sz27 (by simp [upd, readAt, readCells]; rfl) ?_
        simp [cv, cvT, cv1, cvL, cv0, upd, proofD, zeroP, intD, bI, bbI]
    · rw [dif_neg h1] at hf ⊢
      simp only
      generalize placeF l key = j at *
      refine callD_W 29 Try.func15 rfl rfl rfl (fun _ _ => rfl) ?_
      (repeat (first | (simp -implicitDefEqProofs only [ev1, ev2, ev3, ev4, ev5, ev6, mixed, Nat.reduceLT, Nat.reduceAdd, Nat.reduceMul, reduceIte, Nat.reduceEqDiff, reduceCtorEq, Nat.reducePow, Nat.reduceLeDiff, Int.reduceLE, Int.reduceLT, Int.reduceToNat, Int.reduceEq, Nat.reduceBEq, itsOf, gdA, byteI, opid, lenQ, ixQ, ldH, readAt, readCells, asCell, faQ, exQ, fldQ, partA, buildQ, slQ, stH, bslH, appH, dcells, convI, elemsOf, D.one, nilS, fillD, convN, cvH, T3, T4, T5, T22, T23, T25, T27, T28, T33, T52, psI, bI]) | (with_reducible refine ⟨?_, ?_⟩; (· first | (obtain ⟨rfl⟩ := ‹Hq _ _›; with_reducible refine chk_ok ?_; kernel_rfl) | kernel_rfl)) | (with_reducible intro ops hops)))
      (first | refine Call_flat [] [] (hw) (by simp [cvAs, cvA, cv1, cvL, cv0, bI, byteI, bbI, encPr, psI, intD, boolD, proofD, fltD, elemsOf, upd]) rfl ?_ | refine CallF_flat [] [] [] (hw) (fun G _ => by simp [cvAs, cvA, cv1, cvL, cv0, bI, byteI, bbI, encPr, psI, intD, boolD, proofD, fltD, elemsOf, upd]) rfl ?_)
      (repeat (first | (simp -implicitDefEqProofs only [ev1, ev2, ev3, ev4, ev5, ev6, mixed, Nat.reduceLT, Nat.reduceAdd, Nat.reduceMul, reduceIte, Nat.reduceEqDiff, reduceCtorEq, Nat.reducePow, Nat.reduceLeDiff, Int.reduceLE, Int.reduceLT, Int.reduceToNat, Int.reduceEq, Nat.reduceBEq, itsOf, gdA, byteI, opid, lenQ, ixQ, ldH, readAt, readCells, asCell, faQ, exQ, fldQ, partA, buildQ, slQ, stH, bslH, appH, dcells, convI, elemsOf, D.one, nilS, fillD, convN, cvH, T3, T4, T5, T22, T23, T25, T27, T28, T33, T52, fltD, intD, psI, bI]) | (with_reducible refine ⟨?_, ?_⟩; (· first | (obtain ⟨rfl⟩ := ‹Hq _ _›; with_reducible refine chk_ok ?_; kernel_rfl) | kernel_rfl)) | (with_reducible intro ops hops)))
      (first | refine Call_flat [] [] (hf) (by simp [cvAs, cvA, cv1, cvL, cv0, bI, byteI, bbI, encPr, psI, intD, boolD, proofD, fltD, elemsOf, upd]) rfl ?_ | refine CallF_flat [] [] [] (hf) (fun G _ => by simp [cvAs, cvA, cv1, cvL, cv0, bI, byteI, bbI, encPr, psI, intD, boolD, proofD, fltD, elemsOf, upd]) rfl ?_)
      (repeat (first | (simp -implicitDefEqProofs only [ev1, ev2, ev3, ev4, ev5, ev6, mixed, Nat.reduceLT, Nat.reduceAdd, Nat.reduceMul, reduceIte, Nat.reduceEqDiff, reduceCtorEq, Nat.reducePow, Nat.reduceLeDiff, Int.reduceLE, Int.reduceLT, Int.reduceToNat, Int.reduceEq, Nat.reduceBEq, itsOf, gdA, byteI, opid, lenQ, ixQ, ldH, readAt, readCells, asCell, faQ, exQ, fldQ, partA, buildQ, slQ, stH, bslH, appH, dcells, convI, elemsOf, D.one, nilS, fillD, convN, cvH, T3, T4, T5, T22, T23, T25, T27, T28, T33, T52, boolD, intD, psI, bI]) | (with_reducible refine ⟨?_, ?_⟩; (· first | (obtain ⟨rfl⟩ := ‹Hq _ _›; with_reducible refine chk_ok ?_; kernel_rfl) | kernel_rfl)) | (with_reducible intro ops hops)))
      refine fin_ct [] rfl ag27 sz27 (by simp [upd, readAt, readCells]; rfl) ?_
      simp [cv, cvT, cv1, cvL, cv0, upd, proofD, zeroP, intD, bI, bbI]
  · rw [if_neg h0]
    generalize wrongF l = W at *
    have g1 : decide ((W.1 : Int) = 0) = false := by simp; omega
    refine callD_W 29 Try.func15 rfl rfl rfl (fun _ _ => rfl) ?_
    (repeat (first | (simp -implicitDefEqProofs only [ev1, ev2, ev3, ev4, ev5, ev6, mixed, Nat.reduceLT, Nat.reduceAdd, Nat.reduceMul, reduceIte, Nat.reduceEqDiff, reduceCtorEq, Nat.reducePow, Nat.reduceLeDiff, Int.reduceLE, Int.reduceLT, Int.reduceToNat, Int.reduceEq, Nat.reduceBEq, itsOf, gdA, byteI, opid, lenQ, ixQ, ldH, readAt, readCells, asCell, faQ, exQ, fldQ, partA, buildQ, slQ, stH, bslH, appH, dcells, convI, elemsOf, D.one, nilS, fillD, convN, cvH, T3, T4, T5, T22, T23, T25, T27, T28, T33, T52, psI, bI]) | (with_reducible refine ⟨?_, ?_⟩; (· first | (obtain ⟨rfl⟩ := ‹Hq _ _›; with_reducible refine chk_ok ?_; kernel_rfl) | kernel_rfl)) | (with_reducible intro ops hops)))
    (first | refine Call_flat [] [] (hw) (by simp [cvAs, cvA, cv1, cvL, cv0, bI, byteI, bbI, encPr, psI, intD, boolD, proofD, fltD, elemsOf, upd]) rfl ?_ | refine CallF_flat [] [] [] (hw) (fun G _ => by simp [cvAs, cvA, cv1, cvL, cv0, bI, byteI, bbI, encPr, psI, intD, boolD, proofD, fltD, elemsOf, upd]) rfl ?_)
    (repeat (first | (simp -implicitDefEqProofs only [ev1, ev2, ev3, ev4, ev5, ev6, mixed, Nat.reduceLT, Nat.reduceAdd, Nat.reduceMul, reduceIte, Nat.reduceEqDiff, reduceCtorEq, Nat.reducePow, Nat.reduceLeDiff, Int.reduceLE, Int.reduceLT, Int.reduceToNat, Int.reduceEq, Nat.reduceBEq, itsOf, gdA, byteI, opid, lenQ, ixQ, ldH, readAt, readCells, asCell, faQ, exQ, fldQ, partA, buildQ, slQ, stH, bslH, appH, dcells, convI, elemsOf, D.one, nilS, fillD, convN, cvH, T3, T4, T5, T22, T23, T25, T27, T28, T33, T52, fltD, intD, g1]) | (with_reducible refine ⟨?_, ?_⟩; (· first | (obtain ⟨rfl⟩ := ‹Hq _ _›; with_reducible refine chk_ok ?_; kernel_rfl) | kernel_rfl)) | (with_reducible intro ops hops)))
    refine fin_ct [] rfl ag27 sz27 (by simp [upd, readAt, readCells]; rfl) ?_
    simp [cv, cvT, cv1, cvL, cv0, upd, proofD, zeroP, intD, bI, bbI]
end Go.Proofs.Ythbnhbmakapglaa
