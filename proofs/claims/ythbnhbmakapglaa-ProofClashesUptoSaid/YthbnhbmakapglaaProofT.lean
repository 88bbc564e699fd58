/- proof.tree, Shown: by value. -/
import Derived.Test.YthbnhbmakapglaaProofC
set_option linter.all false
namespace Go.Proofs.Ythbnhbmakapglaa
open Go Go.Abs Go.RowKit Go.Proofs.Ythbnhbmakapglaa.Ty

def foldR (leaf : List UInt8) : Nat → Nat → List (List UInt8) → List UInt8 × Bool
  | _, n, [] => if n = 1 then (leaf, true) else ([], false)
  | i, n, d :: r => if n = 1 then (leaf, false) else if i < splitF n then (nodeF (foldR leaf i (splitF n) r).1 d, (foldR leaf i (splitF n) r).2)
      else (nodeF d (foldR leaf (i - splitF n) (n - splitF n) r).1, (foldR leaf (i - splitF n) (n - splitF n) r).2)
theorem foldR_len (leaf : List UInt8) (h : leaf.length ≤ 32) : ∀ (r : List (List UInt8)) (i n : Nat), (foldR leaf i n r).1.length ≤ 32 := by
  intro r
  induction r with
  | nil => intro i n; simp only [foldR]; split <;> simp [h]
  | cons d r ih =>
    intro i n; simp only [foldR]; split
    · exact h
    · split <;> simp only [nodeF] <;> exact Nat.le_of_eq (sha_length _)
set_option maxHeartbeats 4000000
theorem ptree_A (leaf : List UInt8) (hlf : leaf.length ≤ 32) : ∀ (r : List (List UInt8)) (i n : Nat), (∀ d ∈ r, d.length = 32) → r.length ≤ 1048576 → i ≤ 1048576 → 1 ≤ n → n ≤ 1048576 →
    PureD Try.prog 48 [.i (bI leaf), intD i, intD n, .i (bbI r.reverse)] (.tup [.i (bI (foldR leaf i n r).1), boolD (foldR leaf i n r).2]) := by
  intro r
  induction r with
  | nil =>
    intro i n _ _ _ h1 h2
    by_cases hn : n = 1
    · subst hn
      simp only [foldR, if_true]
      refine callD_W 71 Try.func48 rfl rfl rfl (fun _ _ => rfl) ?_
      (repeat (first | (simp -implicitDefEqProofs only [ev1, ev2, ev3, ev4, ev5, ev6, mixed, Nat.reduceLT, Nat.reduceAdd, Nat.reduceMul, reduceIte, Nat.reduceEqDiff, reduceCtorEq, Nat.reducePow, Nat.reduceLeDiff, Int.reduceLE, Int.reduceLT, Int.reduceToNat, Int.reduceEq, Nat.reduceBEq, itsOf, gdA, byteI, opid, lenQ, ixQ, ldH, readAt, readCells, asCell, faQ, exQ, fldQ, partA, buildQ, slQ, stH, bslH, appH, dcells, convI, elemsOf, D.one, nilS, fillD, convN, cvH, T3, T5, T23, T25, intD, bI, bbI, List.reverse_nil, List.map_nil]) | (with_reducible refine ⟨?_, ?_⟩; (· first | (obtain ⟨rfl⟩ := ‹Hq _ _›; with_reducible refine chk_ok ?_; kernel_rfl) | kernel_rfl)) | (with_reducible intro ops hops)))
      refine fin_tt [] rfl ?_
      simp [cv, cvT, cv1, cv0, upd, intD, boolD, bI]
    · simp only [foldR, hn, if_false]
      have g1 : decide ((n : Int) = 1) = false := by simp; omega
      refine callD_W 71 Try.func48 rfl rfl rfl (fun _ _ => rfl) ?_
      (repeat (first | (simp -implicitDefEqProofs only [ev1, ev2, ev3, ev4, ev5, ev6, mixed, Nat.reduceLT, Nat.reduceAdd, Nat.reduceMul, reduceIte, Nat.reduceEqDiff, reduceCtorEq, Nat.reducePow, Nat.reduceLeDiff, Int.reduceLE, Int.reduceLT, Int.reduceToNat, Int.reduceEq, Nat.reduceBEq, itsOf, gdA, byteI, opid, lenQ, ixQ, ldH, readAt, readCells, asCell, faQ, exQ, fldQ, partA, buildQ, slQ, stH, bslH, appH, dcells, convI, elemsOf, D.one, nilS, fillD, convN, cvH, T3, T5, T23, T25, intD, bI, bbI, List.reverse_nil, List.map_nil, g1]) | (with_reducible refine ⟨?_, ?_⟩; (· first | (obtain ⟨rfl⟩ := ‹Hq _ _›; with_reducible refine chk_ok ?_; kernel_rfl) | kernel_rfl)) | (with_reducible intro ops hops)))
      refine fin_tt [] rfl ?_
      simp [cv, cvT, cv1, cv0, upd, intD, boolD, bI]
  | cons d r ih =>
    intro i n hd hr hi h1 h2
    have hd0 : d.length = 32 := hd d (by simp)
    simp only [List.length_cons] at hr
    have L1 : ((d :: r).reverse.map fun b => [bI b]).length = r.length + 1 := by simp
    have L2 : ((d :: r).reverse.map fun b => [bI b])[r.length]? = some [bI d] := by simp
    have L3 : ((d :: r).reverse.map fun b => [bI b]).take r.length = r.reverse.map fun b => [bI b] := by simp
    have L4 : uni 1 ((d :: r).reverse.map fun b => [bI b]) = true := by simp [uni]
    have hq : bbI (d :: r).reverse = .sl ((d :: r).reverse.map fun b => [bI b]) := rfl
    rw [hq]
    generalize ((d :: r).reverse.map fun b => [bI b]) = L at *
    clear hq
    by_cases hn : n = 1
    · subst hn
      simp only [foldR, if_true]
      have g1 : decide (((r.length + 1 : Nat) : Int) = 0) = false := by simp; omega
      refine callD_W 71 Try.func48 rfl rfl rfl (fun _ _ => rfl) ?_
      (repeat (first | (simp -implicitDefEqProofs only [ev1, ev2, ev3, ev4, ev5, ev6, mixed, Nat.reduceLT, Nat.reduceAdd, Nat.reduceMul, reduceIte, Nat.reduceEqDiff, reduceCtorEq, Nat.reducePow, Nat.reduceLeDiff, Int.reduceLE, Int.reduceLT, Int.reduceToNat, Int.reduceEq, Nat.reduceBEq, itsOf, gdA, byteI, opid, lenQ, ixQ, ldH, readAt, readCells, asCell, faQ, exQ, fldQ, partA, buildQ, slQ, stH, bslH, appH, dcells, convI, elemsOf, D.one, nilS, fillD, convN, cvH, T3, T5, T23, T25, intD, L1, g1]) | (with_reducible refine ⟨?_, ?_⟩; (· first | (obtain ⟨rfl⟩ := ‹Hq _ _›; with_reducible refine chk_ok ?_; kernel_rfl) | kernel_rfl)) | (with_reducible intro ops hops)))
      refine fin_tt [] rfl ?_
      simp [cv, cvT, cv1, cv0, upd, intD, boolD, bI]
    · have hs := splitF_lt (n := n) (by omega)
      have hsp := split_A n h1 h2
      have i1 := ih i (splitF n) (fun d hd' => hd d (by simp [hd'])) (by omega) hi (by omega) (by omega)
      have i2 := ih (i - splitF n) (n - splitF n) (fun d hd' => hd d (by simp [hd'])) (by omega) (by omega) (by omega) (by omega)
      have n1 := foldR_len leaf hlf r i (splitF n)
      have n2 := foldR_len leaf hlf r (i - splitF n) (n - splitF n)
      have g1 : decide ((n : Int) = 1) = false := by simp; omega
      have g2 : decide (((r.length + 1 : Nat) : Int) = 0) = false := by simp; omega
      have g4 : ((r.length : Int) ≤ ((r.length + 1 : Nat) : Int)) = True := eq_true (by omega)
      have w1 : IntKind.i64.wrap (((r.length + 1 : Nat) : Int) - 1) = (r.length : Int) := by rw [wrap64 (by omega) (by omega)]; omega
      have hc1 : i < splitF n → foldR leaf i n (d :: r) = (nodeF (foldR leaf i (splitF n) r).1 d, (foldR leaf i (splitF n) r).2) := fun h => by simp only [foldR, if_neg hn, if_pos h]
      have hc2 : ¬ i < splitF n → foldR leaf i n (d :: r) = (nodeF d (foldR leaf (i - splitF n) (n - splitF n) r).1, (foldR leaf (i - splitF n) (n - splitF n) r).2) := fun h => by simp only [foldR, if_neg hn, if_neg h]
      clear hd
      generalize splitF n = k at *
      simp only [bbI] at i1 i2
      rw [← L3] at i1 i2
      by_cases hc : i < k
      · have g3 : decide ((i : Int) < (k : Int)) = true := by simp; omega
        rw [hc1 hc]
        clear i2 hc1 hc2
        generalize foldR leaf i k r = T at *
        have hnd := node_A T.1 d (by omega) (by omega)
        generalize nodeF T.1 d = R at *
        refine callD_W 71 Try.func48 rfl rfl rfl (fun _ _ => rfl) ?_
        (repeat (first | (simp -implicitDefEqProofs only [ev1, ev2, ev3, ev4, ev5, ev6, mixed, Nat.reduceLT, Nat.reduceAdd, Nat.reduceMul, reduceIte, Nat.reduceEqDiff, reduceCtorEq, Nat.reducePow, Nat.reduceLeDiff, Int.reduceLE, Int.reduceLT, Int.reduceToNat, Int.reduceEq, Nat.reduceBEq, itsOf, gdA, byteI, opid, lenQ, ixQ, ldH, readAt, readCells, asCell, faQ, exQ, fldQ, partA, buildQ, slQ, stH, bslH, appH, dcells, convI, elemsOf, D.one, nilS, fillD, convN, cvH, T3, T5, T23, T25, intD, L1, g1, g2, w1]) | (with_reducible refine ⟨?_, ?_⟩; (· first | (obtain ⟨rfl⟩ := ‹Hq _ _›; with_reducible refine chk_ok ?_; kernel_rfl) | kernel_rfl)) | (with_reducible intro ops hops)))
        (first | refine Call_flat [] [] (hsp) (by simp [cvAs, cvA, cv1, cvL, cv0, bI, byteI, bbI, intD, boolD, proofD, elemsOf, upd]) rfl ?_ | refine CallF_flat [] [] [] (hsp) (fun G _ => by simp [cvAs, cvA, cv1, cvL, cv0, bI, byteI, bbI, intD, boolD, proofD, elemsOf, upd]) rfl ?_)
        (repeat (first | (simp -implicitDefEqProofs only [ev1, ev2, ev3, ev4, ev5, ev6, mixed, Nat.reduceLT, Nat.reduceAdd, Nat.reduceMul, reduceIte, Nat.reduceEqDiff, reduceCtorEq, Nat.reducePow, Nat.reduceLeDiff, Int.reduceLE, Int.reduceLT, Int.reduceToNat, Int.reduceEq, Nat.reduceBEq, itsOf, gdA, byteI, opid, lenQ, ixQ, ldH, readAt, readCells, asCell, faQ, exQ, fldQ, partA, buildQ, slQ, stH, bslH, appH, dcells, convI, elemsOf, D.one, nilS, fillD, convN, cvH, T3, T5, T23, T25, intD, g3, L1, L4, g4]) | (with_reducible refine ⟨?_, ?_⟩; (· first | (obtain ⟨rfl⟩ := ‹Hq _ _›; with_reducible refine chk_ok ?_; kernel_rfl) | kernel_rfl)) | (with_reducible intro ops hops)))
        (first | refine Call_frz [] (i1) (by simp [cvAs, cvA, cv1, cvL, cv0, bI, byteI, bbI, intD, boolD, proofD, elemsOf, upd]) ?_ | refine CallF_frz [] [] (i1) (fun G _ => by simp [cvAs, cvA, cv1, cvL, cv0, bI, byteI, bbI, intD, boolD, proofD, elemsOf, upd]) (by simp) ?_)
        (repeat (first | (simp -implicitDefEqProofs only [ev1, ev2, ev3, ev4, ev5, ev6, mixed, Nat.reduceLT, Nat.reduceAdd, Nat.reduceMul, reduceIte, Nat.reduceEqDiff, reduceCtorEq, Nat.reducePow, Nat.reduceLeDiff, Int.reduceLE, Int.reduceLT, Int.reduceToNat, Int.reduceEq, Nat.reduceBEq, itsOf, gdA, byteI, opid, lenQ, ixQ, ldH, readAt, readCells, asCell, faQ, exQ, fldQ, partA, buildQ, slQ, stH, bslH, appH, dcells, convI, elemsOf, D.one, nilS, fillD, convN, cvH, T3, T5, T23, T25, boolD, L2]) | (with_reducible refine ⟨?_, ?_⟩; (· first | (obtain ⟨rfl⟩ := ‹Hq _ _›; with_reducible refine chk_ok ?_; kernel_rfl) | kernel_rfl)) | (with_reducible intro ops hops)))
        (first | refine Call_frz [] (hnd) (by simp [cvAs, cvA, cv1, cvL, cv0, bI, byteI, bbI, intD, boolD, proofD, elemsOf, upd]) ?_ | refine CallF_frz [] [] (hnd) (fun G _ => by simp [cvAs, cvA, cv1, cvL, cv0, bI, byteI, bbI, intD, boolD, proofD, elemsOf, upd]) (by simp) ?_)
        (repeat (first | (simp -implicitDefEqProofs only [ev1, ev2, ev3, ev4, ev5, ev6, mixed, Nat.reduceLT, Nat.reduceAdd, Nat.reduceMul, reduceIte, Nat.reduceEqDiff, reduceCtorEq, Nat.reducePow, Nat.reduceLeDiff, Int.reduceLE, Int.reduceLT, Int.reduceToNat, Int.reduceEq, Nat.reduceBEq, itsOf, gdA, byteI, opid, lenQ, ixQ, ldH, readAt, readCells, asCell, faQ, exQ, fldQ, partA, buildQ, slQ, stH, bslH, appH, dcells, convI, elemsOf, D.one, nilS, fillD, convN, cvH, T3, T5, T23, T25, bI]) | (with_reducible refine ⟨?_, ?_⟩; (· first | (obtain ⟨rfl⟩ := ‹Hq _ _›; with_reducible refine chk_ok ?_; kernel_rfl) | kernel_rfl)) | (with_reducible intro ops hops)))
        refine fin_tt [] rfl ?_
        simp [cv, cvT, cv1, cv0, upd, intD, boolD, bI]
      · have g3 : decide ((i : Int) < (k : Int)) = false := by simp; omega
        have w2 : IntKind.i64.wrap ((i : Int) - (k : Int)) = ((i - k : Nat) : Int) := by rw [wrap64 (by omega) (by omega)]; omega
        have w3 : IntKind.i64.wrap ((n : Int) - (k : Int)) = ((n - k : Nat) : Int) := by rw [wrap64 (by omega) (by omega)]; omega
        rw [hc2 hc]
        clear i1 hc1 hc2
        generalize foldR leaf (i - k) (n - k) r = T at *
        have hnd := node_A d T.1 (by omega) (by omega)
        generalize nodeF d T.1 = R at *
        refine callD_W 71 Try.func48 rfl rfl rfl (fun _ _ => rfl) ?_
        (repeat (first | (simp -implicitDefEqProofs only [ev1, ev2, ev3, ev4, ev5, ev6, mixed, Nat.reduceLT, Nat.reduceAdd, Nat.reduceMul, reduceIte, Nat.reduceEqDiff, reduceCtorEq, Nat.reducePow, Nat.reduceLeDiff, Int.reduceLE, Int.reduceLT, Int.reduceToNat, Int.reduceEq, Nat.reduceBEq, itsOf, gdA, byteI, opid, lenQ, ixQ, ldH, readAt, readCells, asCell, faQ, exQ, fldQ, partA, buildQ, slQ, stH, bslH, appH, dcells, convI, elemsOf, D.one, nilS, fillD, convN, cvH, T3, T5, T23, T25, intD, L1, g1, g2, w1]) | (with_reducible refine ⟨?_, ?_⟩; (· first | (obtain ⟨rfl⟩ := ‹Hq _ _›; with_reducible refine chk_ok ?_; kernel_rfl) | kernel_rfl)) | (with_reducible intro ops hops)))
        (first | refine Call_flat [] [] (hsp) (by simp [cvAs, cvA, cv1, cvL, cv0, bI, byteI, bbI, intD, boolD, proofD, elemsOf, upd]) rfl ?_ | refine CallF_flat [] [] [] (hsp) (fun G _ => by simp [cvAs, cvA, cv1, cvL, cv0, bI, byteI, bbI, intD, boolD, proofD, elemsOf, upd]) rfl ?_)
        (repeat (first | (simp -implicitDefEqProofs only [ev1, ev2, ev3, ev4, ev5, ev6, mixed, Nat.reduceLT, Nat.reduceAdd, Nat.reduceMul, reduceIte, Nat.reduceEqDiff, reduceCtorEq, Nat.reducePow, Nat.reduceLeDiff, Int.reduceLE, Int.reduceLT, Int.reduceToNat, Int.reduceEq, Nat.reduceBEq, itsOf, gdA, byteI, opid, lenQ, ixQ, ldH, readAt, readCells, asCell, faQ, exQ, fldQ, partA, buildQ, slQ, stH, bslH, appH, dcells, convI, elemsOf, D.one, nilS, fillD, convN, cvH, T3, T5, T23, T25, intD, g3, L1, L4, g4, w2, w3]) | (with_reducible refine ⟨?_, ?_⟩; (· first | (obtain ⟨rfl⟩ := ‹Hq _ _›; with_reducible refine chk_ok ?_; kernel_rfl) | kernel_rfl)) | (with_reducible intro ops hops)))
        (first | refine Call_frz [] (i2) (by simp [cvAs, cvA, cv1, cvL, cv0, bI, byteI, bbI, intD, boolD, proofD, elemsOf, upd]) ?_ | refine CallF_frz [] [] (i2) (fun G _ => by simp [cvAs, cvA, cv1, cvL, cv0, bI, byteI, bbI, intD, boolD, proofD, elemsOf, upd]) (by simp) ?_)
        (repeat (first | (simp -implicitDefEqProofs only [ev1, ev2, ev3, ev4, ev5, ev6, mixed, Nat.reduceLT, Nat.reduceAdd, Nat.reduceMul, reduceIte, Nat.reduceEqDiff, reduceCtorEq, Nat.reducePow, Nat.reduceLeDiff, Int.reduceLE, Int.reduceLT, Int.reduceToNat, Int.reduceEq, Nat.reduceBEq, itsOf, gdA, byteI, opid, lenQ, ixQ, ldH, readAt, readCells, asCell, faQ, exQ, fldQ, partA, buildQ, slQ, stH, bslH, appH, dcells, convI, elemsOf, D.one, nilS, fillD, convN, cvH, T3, T5, T23, T25, boolD, L2]) | (with_reducible refine ⟨?_, ?_⟩; (· first | (obtain ⟨rfl⟩ := ‹Hq _ _›; with_reducible refine chk_ok ?_; kernel_rfl) | kernel_rfl)) | (with_reducible intro ops hops)))
        (first | refine Call_frz [] (hnd) (by simp [cvAs, cvA, cv1, cvL, cv0, bI, byteI, bbI, intD, boolD, proofD, elemsOf, upd]) ?_ | refine CallF_frz [] [] (hnd) (fun G _ => by simp [cvAs, cvA, cv1, cvL, cv0, bI, byteI, bbI, intD, boolD, proofD, elemsOf, upd]) (by simp) ?_)
        (repeat (first | (simp -implicitDefEqProofs only [ev1, ev2, ev3, ev4, ev5, ev6, mixed, Nat.reduceLT, Nat.reduceAdd, Nat.reduceMul, reduceIte, Nat.reduceEqDiff, reduceCtorEq, Nat.reducePow, Nat.reduceLeDiff, Int.reduceLE, Int.reduceLT, Int.reduceToNat, Int.reduceEq, Nat.reduceBEq, itsOf, gdA, byteI, opid, lenQ, ixQ, ldH, readAt, readCells, asCell, faQ, exQ, fldQ, partA, buildQ, slQ, stH, bslH, appH, dcells, convI, elemsOf, D.one, nilS, fillD, convN, cvH, T3, T5, T23, T25, bI]) | (with_reducible refine ⟨?_, ?_⟩; (· first | (obtain ⟨rfl⟩ := ‹Hq _ _›; with_reducible refine chk_ok ?_; kernel_rfl) | kernel_rfl)) | (with_reducible intro ops hops)))
        refine fin_tt [] rfl ?_
        simp [cv, cvT, cv1, cv0, upd, intD, boolD, bI]

def treeOf (p : ProofD) : List UInt8 × Bool := foldR (leafF p.k p.v) p.i.toNat p.n.toNat p.path.reverse
def shownF (root : List UInt8) (p : ProofD) : Bool := formF p && (treeOf p).2 && decide (topF p.n.toNat (treeOf p).1 = root)
theorem formF_yes {p : ProofD} (h : formF p = true) : 1 ≤ p.n ∧ p.n ≤ 200 ∧ 0 ≤ p.i ∧ p.i < p.n ∧ p.k.length ≤ 60 ∧ p.v.length ≤ 200 ∧ p.path.length ≤ 40 ∧ ∀ d ∈ p.path, d.length = 32 := by
  simp [formF, formG] at h
  exact ⟨by omega, by omega, by omega, by omega, by omega, by omega, by omega, h.2⟩
theorem shown_A (root : List UInt8) (p : ProofD) : PureD Try.prog 19 [.i (bI root), proofD p] (boolD (shownF root p)) := by
  have hfm := form_A p
  unfold shownF treeOf
  cases hf : formF p
  · rw [hf] at hfm
    simp only [Bool.false_and]
    refine callD_W 33 Try.func19 rfl rfl rfl (fun _ _ => rfl) ?_
    (repeat (first | (simp -implicitDefEqProofs only [ev1, ev2, ev3, ev4, ev5, ev6, mixed, Nat.reduceLT, Nat.reduceAdd, Nat.reduceMul, reduceIte, Nat.reduceEqDiff, reduceCtorEq, Nat.reducePow, Nat.reduceLeDiff, Int.reduceLE, Int.reduceLT, Int.reduceToNat, Int.reduceEq, Nat.reduceBEq, itsOf, gdA, byteI, opid, lenQ, ixQ, ldH, readAt, readCells, asCell, faQ, exQ, fldQ, partA, buildQ, slQ, stH, bslH, appH, dcells, convI, elemsOf, D.one, nilS, fillD, convN, cvH, T3, T4, T5, T23, T25, T27, T76, proofD, intD]) | (with_reducible refine ⟨?_, ?_⟩; (· first | (obtain ⟨rfl⟩ := ‹Hq _ _›; with_reducible refine chk_ok ?_; kernel_rfl) | kernel_rfl)) | (with_reducible intro ops hops)))
    refine Call_flat [] [1000] hfm ⟨.inr ⟨1000, _, _, rfl, .inl ⟨by simp, rfl, _, by simp [upd]; rfl, by simp [formI, cvBox, cv0]⟩⟩, trivial⟩ rfl ?_
    (repeat (first | (simp -implicitDefEqProofs only [ev1, ev2, ev3, ev4, ev5, ev6, mixed, Nat.reduceLT, Nat.reduceAdd, Nat.reduceMul, reduceIte, Nat.reduceEqDiff, reduceCtorEq, Nat.reducePow, Nat.reduceLeDiff, Int.reduceLE, Int.reduceLT, Int.reduceToNat, Int.reduceEq, Nat.reduceBEq, itsOf, gdA, byteI, opid, lenQ, ixQ, ldH, readAt, readCells, asCell, faQ, exQ, fldQ, partA, buildQ, slQ, stH, bslH, appH, dcells, convI, elemsOf, D.one, nilS, fillD, convN, cvH, T3, T4, T5, T23, T25, T27, T76, boolD]) | (with_reducible refine ⟨?_, ?_⟩; (· first | (obtain ⟨rfl⟩ := ‹Hq _ _›; with_reducible refine chk_ok ?_; kernel_rfl) | kernel_rfl)) | (with_reducible intro ops hops)))
    refine fin_ret [] rfl ?_
    simp [cv, cv1, cv0, upd, boolD]
  · rw [hf] at hfm
    simp only [Bool.true_and]
    obtain ⟨a1, a2, a3, a4, a5, a6, a7, a8⟩ := formF_yes hf
    clear hf
    have hl := leaf_A p.k p.v (by omega) (by omega)
    have hlen : (leafF p.k p.v).length = 32 := sha_length _
    generalize leafF p.k p.v = F at *
    have ht := ptree_A F (by omega) p.path.reverse p.i.toNat p.n.toNat (fun d hd => a8 d (by simpa using hd)) (by simp; omega) (by omega) (by omega) (by omega)
    have hT := foldR_len F (by omega) p.path.reverse p.i.toNat p.n.toNat
    rw [List.reverse_reverse, Int.toNat_of_nonneg a3, Int.toNat_of_nonneg (by omega)] at ht
    generalize foldR F p.i.toNat p.n.toNat p.path.reverse = T at *
    have htp := top_A p.n.toNat T.1 (by omega)
    rw [Int.toNat_of_nonneg (by omega)] at htp
    generalize topF p.n.toNat T.1 = R at *
    clear a1 a2 a3 a4 a5 a6 a7 a8
    obtain ⟨i, n, k, v, q⟩ := p
    obtain ⟨t, ok⟩ := T
    simp only at *
    refine callD_W 33 Try.func19 rfl rfl rfl (fun _ _ => rfl) ?_
    (repeat (first | (simp -implicitDefEqProofs only [ev1, ev2, ev3, ev4, ev5, ev6, mixed, Nat.reduceLT, Nat.reduceAdd, Nat.reduceMul, reduceIte, Nat.reduceEqDiff, reduceCtorEq, Nat.reducePow, Nat.reduceLeDiff, Int.reduceLE, Int.reduceLT, Int.reduceToNat, Int.reduceEq, Nat.reduceBEq, itsOf, gdA, byteI, opid, lenQ, ixQ, ldH, readAt, readCells, asCell, faQ, exQ, fldQ, partA, buildQ, slQ, stH, bslH, appH, dcells, convI, elemsOf, D.one, nilS, fillD, convN, cvH, T3, T4, T5, T23, T25, T27, T76, proofD, intD]) | (with_reducible refine ⟨?_, ?_⟩; (· first | (obtain ⟨rfl⟩ := ‹Hq _ _›; with_reducible refine chk_ok ?_; kernel_rfl) | kernel_rfl)) | (with_reducible intro ops hops)))
    refine Call_flat [] [1000] hfm ⟨.inr ⟨1000, _, _, rfl, .inl ⟨by simp, rfl, _, by simp [upd]; rfl, by simp [formI, cvBox, cv0]⟩⟩, trivial⟩ rfl ?_
    (repeat (first | (simp -implicitDefEqProofs only [ev1, ev2, ev3, ev4, ev5, ev6, mixed, Nat.reduceLT, Nat.reduceAdd, Nat.reduceMul, reduceIte, Nat.reduceEqDiff, reduceCtorEq, Nat.reducePow, Nat.reduceLeDiff, Int.reduceLE, Int.reduceLT, Int.reduceToNat, Int.reduceEq, Nat.reduceBEq, itsOf, gdA, byteI, opid, lenQ, ixQ, ldH, readAt, readCells, asCell, faQ, exQ, fldQ, partA, buildQ, slQ, stH, bslH, appH, dcells, convI, elemsOf, D.one, nilS, fillD, convN, cvH, T3, T4, T5, T23, T25, T27, T76, boolD]) | (with_reducible refine ⟨?_, ?_⟩; (· first | (obtain ⟨rfl⟩ := ‹Hq _ _›; with_reducible refine chk_ok ?_; kernel_rfl) | kernel_rfl)) | (with_reducible intro ops hops)))
    (first | refine Call_frz [] (hl) (by simp [cvAs, cvA, cv1, cvL, cv0, bI, byteI, bbI, intD, boolD, proofD, elemsOf, upd]) ?_ | refine CallF_frz [] [] (hl) (fun G _ => by simp [cvAs, cvA, cv1, cvL, cv0, bI, byteI, bbI, intD, boolD, proofD, elemsOf, upd]) (by simp) ?_)
    (repeat (first | (simp -implicitDefEqProofs only [ev1, ev2, ev3, ev4, ev5, ev6, mixed, Nat.reduceLT, Nat.reduceAdd, Nat.reduceMul, reduceIte, Nat.reduceEqDiff, reduceCtorEq, Nat.reducePow, Nat.reduceLeDiff, Int.reduceLE, Int.reduceLT, Int.reduceToNat, Int.reduceEq, Nat.reduceBEq, itsOf, gdA, byteI, opid, lenQ, ixQ, ldH, readAt, readCells, asCell, faQ, exQ, fldQ, partA, buildQ, slQ, stH, bslH, appH, dcells, convI, elemsOf, D.one, nilS, fillD, convN, cvH, T3, T4, T5, T23, T25, T27, T76]) | (with_reducible refine ⟨?_, ?_⟩; (· first | (obtain ⟨rfl⟩ := ‹Hq _ _›; with_reducible refine chk_ok ?_; kernel_rfl) | kernel_rfl)) | (with_reducible intro ops hops)))
    (first | refine Call_frz [] (ht) (by simp [cvAs, cvA, cv1, cvL, cv0, bI, byteI, bbI, intD, boolD, proofD, elemsOf, upd]) ?_ | refine CallF_frz [] [] (ht) (fun G _ => by simp [cvAs, cvA, cv1, cvL, cv0, bI, byteI, bbI, intD, boolD, proofD, elemsOf, upd]) (by simp) ?_)
    cases ok
    · (repeat (first | (simp -implicitDefEqProofs only [ev1, ev2, ev3, ev4, ev5, ev6, mixed, Nat.reduceLT, Nat.reduceAdd, Nat.reduceMul, reduceIte, Nat.reduceEqDiff, reduceCtorEq, Nat.reducePow, Nat.reduceLeDiff, Int.reduceLE, Int.reduceLT, Int.reduceToNat, Int.reduceEq, Nat.reduceBEq, itsOf, gdA, byteI, opid, lenQ, ixQ, ldH, readAt, readCells, asCell, faQ, exQ, fldQ, partA, buildQ, slQ, stH, bslH, appH, dcells, convI, elemsOf, D.one, nilS, fillD, convN, cvH, T3, T4, T5, T23, T25, T27, T76, boolD]) | (with_reducible refine ⟨?_, ?_⟩; (· first | (obtain ⟨rfl⟩ := ‹Hq _ _›; with_reducible refine chk_ok ?_; kernel_rfl) | kernel_rfl)) | (with_reducible intro ops hops)))
      refine fin_ret [] rfl ?_
      simp [cv, cv1, cv0, upd, boolD]
    · (repeat (first | (simp -implicitDefEqProofs only [ev1, ev2, ev3, ev4, ev5, ev6, mixed, Nat.reduceLT, Nat.reduceAdd, Nat.reduceMul, reduceIte, Nat.reduceEqDiff, reduceCtorEq, Nat.reducePow, Nat.reduceLeDiff, Int.reduceLE, Int.reduceLT, Int.reduceToNat, Int.reduceEq, Nat.reduceBEq, itsOf, gdA, byteI, opid, lenQ, ixQ, ldH, readAt, readCells, asCell, faQ, exQ, fldQ, partA, buildQ, slQ, stH, bslH, appH, dcells, convI, elemsOf, D.one, nilS, fillD, convN, cvH, T3, T4, T5, T23, T25, T27, T76, boolD]) | (with_reducible refine ⟨?_, ?_⟩; (· first | (obtain ⟨rfl⟩ := ‹Hq _ _›; with_reducible refine chk_ok ?_; kernel_rfl) | kernel_rfl)) | (with_reducible intro ops hops)))
      (first | refine Call_frz [] (htp) (by simp [cvAs, cvA, cv1, cvL, cv0, bI, byteI, bbI, intD, boolD, proofD, elemsOf, upd]) ?_ | refine CallF_frz [] [] (htp) (fun G _ => by simp [cvAs, cvA, cv1, cvL, cv0, bI, byteI, bbI, intD, boolD, proofD, elemsOf, upd]) (by simp) ?_)
      (repeat (first | (simp -implicitDefEqProofs only [ev1, ev2, ev3, ev4, ev5, ev6, mixed, Nat.reduceLT, Nat.reduceAdd, Nat.reduceMul, reduceIte, Nat.reduceEqDiff, reduceCtorEq, Nat.reducePow, Nat.reduceLeDiff, Int.reduceLE, Int.reduceLT, Int.reduceToNat, Int.reduceEq, Nat.reduceBEq, itsOf, gdA, byteI, opid, lenQ, ixQ, ldH, readAt, readCells, asCell, faQ, exQ, fldQ, partA, buildQ, slQ, stH, bslH, appH, dcells, convI, elemsOf, D.one, nilS, fillD, convN, cvH, T3, T4, T5, T23, T25, T27, T76]) | (with_reducible refine ⟨?_, ?_⟩; (· first | (obtain ⟨rfl⟩ := ‹Hq _ _›; with_reducible refine chk_ok ?_; kernel_rfl) | kernel_rfl)) | (with_reducible intro ops hops)))
      (first | refine Call_flat [] [] (equal_A R root) (by simp [cvAs, cvA, cv1, cvL, cv0, bI, byteI, bbI, intD, boolD, proofD, elemsOf, upd]) rfl ?_ | refine CallF_flat [] [] [] (equal_A R root) (fun G _ => by simp [cvAs, cvA, cv1, cvL, cv0, bI, byteI, bbI, intD, boolD, proofD, elemsOf, upd]) rfl ?_)
      (repeat (first | (simp -implicitDefEqProofs only [ev1, ev2, ev3, ev4, ev5, ev6, mixed, Nat.reduceLT, Nat.reduceAdd, Nat.reduceMul, reduceIte, Nat.reduceEqDiff, reduceCtorEq, Nat.reducePow, Nat.reduceLeDiff, Int.reduceLE, Int.reduceLT, Int.reduceToNat, Int.reduceEq, Nat.reduceBEq, itsOf, gdA, byteI, opid, lenQ, ixQ, ldH, readAt, readCells, asCell, faQ, exQ, fldQ, partA, buildQ, slQ, stH, bslH, appH, dcells, convI, elemsOf, D.one, nilS, fillD, convN, cvH, T3, T4, T5, T23, T25, T27, T76]) | (with_reducible refine ⟨?_, ?_⟩; (· first | (obtain ⟨rfl⟩ := ‹Hq _ _›; with_reducible refine chk_ok ?_; kernel_rfl) | kernel_rfl)) | (with_reducible intro ops hops)))
      refine fin_ret [] rfl ?_
      simp [cv, cv1, cv0, upd, boolD]
end Go.Proofs.Ythbnhbmakapglaa
