/- proof.path, at: by value. -/
import Derived.Test.YthbnhbmakapglaaBookC
set_option linter.all false
namespace Go.Proofs.Ythbnhbmakapglaa
open Go Go.Abs Go.RowKit Go.Proofs.Ythbnhbmakapglaa.Ty

structure ProofD where
  i : Int
  n : Int
  k : List UInt8
  v : List UInt8
  path : List (List UInt8)
def proofD (p : ProofD) : D := .agg [intD p.i, intD p.n, .i (bI p.k), .i (bI p.v), .i (bbI p.path)]
def pathF (l : List PairD) (i : Nat) : List (List UInt8) :=
  if h : l.length ≤ 1 then []
  else if i < splitF l.length then pathF (l.take (splitF l.length)) i ++ [treeF (l.drop (splitF l.length))]
  else pathF (l.drop (splitF l.length)) (i - splitF l.length) ++ [treeF (l.take (splitF l.length))]
termination_by l.length
decreasing_by
  all_goals
    have := splitF_lt (n := l.length) (by omega)
    simp only [List.length_take, List.length_drop]
    omega
theorem pathF_one {l : List PairD} (i : Nat) (h : l.length ≤ 1) : pathF l i = [] := by rw [pathF, dif_pos h]
theorem pathF_lo {l : List PairD} {i : Nat} (h : 2 ≤ l.length) (hi : i < splitF l.length) : pathF l i = pathF (l.take (splitF l.length)) i ++ [treeF (l.drop (splitF l.length))] := by
  rw [pathF, dif_neg (by omega), if_pos hi]
theorem pathF_hi {l : List PairD} {i : Nat} (h : 2 ≤ l.length) (hi : ¬ i < splitF l.length) : pathF l i = pathF (l.drop (splitF l.length)) (i - splitF l.length) ++ [treeF (l.take (splitF l.length))] := by
  rw [pathF, dif_neg (by omega), if_neg hi]
theorem pathF_len : ∀ (n : Nat) (l : List PairD) (i : Nat), l.length = n → (pathF l i).length ≤ n := by
  intro n
  induction n using Nat.strongRecOn with
  | _ n ih =>
    intro l i hn
    by_cases h : l.length ≤ 1
    · rw [pathF_one i h]; simp
    · have hs := splitF_lt (n := l.length) (by omega)
      by_cases hi : i < splitF l.length
      · rw [pathF_lo (by omega) hi]
        have := ih (l.take (splitF l.length)).length (by simp; omega) _ i rfl
        simp at this ⊢; omega
      · rw [pathF_hi (by omega) hi]
        have := ih (l.drop (splitF l.length)).length (by simp; omega) _ (i - splitF l.length) rfl
        simp at this ⊢; omega

def bbE (b : List UInt8) : List I := [bI b]
set_option maxHeartbeats 2000000
theorem path_D : ∀ (n : Nat) (l : List PairD) (i : Nat), l.length = n → i < l.length → l.length ≤ 1048576 → (∀ p ∈ l, p.k.length ≤ 1048576 ∧ p.v.length ≤ 1048576) →
    CallD Try.prog 76 [.i (.sl (l.map encPr)), .i (.s (.int .i64 (i : Int)))] noH (.os 1 1 0 (pathF l i).length) (hOf noH [(1, .arr 1 ((pathF l i).map bbE))]) := by
  intro n
  induction n using Nat.strongRecOn with
  | _ n ih =>
    intro l i hn hi hl hb
    by_cases h1 : l.length = 1
    · have g1 : decide ((l.length : Int) = 1) = true := by simp; omega
      rw [pathF_one i (by omega)]
      refine callD_W 39 Try.func76 rfl rfl rfl (fun _ _ => rfl) ?_
      (repeat (first | (simp -implicitDefEqProofs only [ev1, ev2, ev3, ev4, ev5, ev6, mixed, Nat.reduceLT, Nat.reduceAdd, Nat.reduceMul, reduceIte, Nat.reduceEqDiff, reduceCtorEq, Nat.reducePow, Nat.reduceLeDiff, Int.reduceLE, Int.reduceLT, Int.reduceToNat, Int.reduceEq, Nat.reduceBEq, itsOf, gdA, byteI, opid, lenQ, ixQ, ldH, readAt, readCells, asCell, faQ, exQ, fldQ, partA, buildQ, slQ, stH, bslH, appH, dcells, convI, elemsOf, D.one, nilS, fillD, convN, cvH, T1, T3, T5, T22, T23, T25, T52, g1]) | (with_reducible refine ⟨?_, ?_⟩; (· first | (obtain ⟨rfl⟩ := ‹Hq _ _›; with_reducible refine chk_ok ?_; kernel_rfl) | kernel_rfl)) | (with_reducible intro ops hops)))
      refine fin_retD _ [] [] rfl ?_ ?_ rfl ?_ rfl
      · simp [cv, cv1, cv0, upd, srcR, lk, noH]
      · simp [objOk, srcR, lk, cvO, frz, upd, noH]
      · simp
    · have h2 : 2 ≤ l.length := by omega
      have hs := splitF_lt h2
      have hsp := split_A l.length (by omega) hl
      have hpl := pathF_len l.length l i rfl
      have hlo := fun h => pathF_lo (l := l) (i := i) h2 h
      have hhi := fun h => pathF_hi (l := l) (i := i) h2 h
      generalize splitF l.length = k at *
      have n1 : l.take k ≠ [] := by intro hc; have := congrArg List.length hc; simp only [List.length_take, List.length_drop, List.length_nil] at this; omega
      have n2 : l.drop k ≠ [] := by intro hc; have := congrArg List.length hc; simp only [List.length_take, List.length_drop, List.length_nil] at this; omega
      have t1 := tree_A _ (l.take k) rfl n1 (by simp; omega) (fun p hp => hb p (List.mem_of_mem_take hp))
      have t2 := tree_A _ (l.drop k) rfl n2 (by simp; omega) (fun p hp => hb p (List.mem_of_mem_drop hp))
      have i1 := fun h => ih (l.take k).length (by simp; omega) (l.take k) i rfl h (by simp; omega) (fun p hp => hb p (List.mem_of_mem_take hp))
      have i2 := fun h => ih (l.drop k).length (by simp; omega) (l.drop k) (i - k) rfl h (by simp; omega) (fun p hp => hb p (List.mem_of_mem_drop hp))
      simp only [psI] at t1 t2
      have g1 : decide ((l.length : Int) = 1) = false := by simp; omega
      have g2 : ((k : Int) ≤ (l.length : Int)) = True := eq_true (by omega)
      have u1 : uni 2 (l.map encPr) = true := by simp [uni, encPr]
      by_cases hc : i < k
      · have hpi := hlo hc
        have g3 : decide ((i : Int) < (k : Int)) = true := by simp; omega
        have ip := i1 (by simp; omega)
        rw [hpi] at hpl
        simp only [List.length_append, List.length_cons, List.length_nil] at hpl
        generalize treeF (l.drop k) = T at *
        generalize hP : pathF (l.take k) i = P at *
        have e3 : P.length + 1 ≤ 140737488355328 := by omega
        have e4 : (P.length + 1) * 24 ≤ 140737488355328 := by omega
        rw [hpi]
        refine callD_W 39 Try.func76 rfl rfl rfl (fun _ _ => rfl) ?_
        (repeat (first | (simp -implicitDefEqProofs only [ev1, ev2, ev3, ev4, ev5, ev6, mixed, Nat.reduceLT, Nat.reduceAdd, Nat.reduceMul, reduceIte, Nat.reduceEqDiff, reduceCtorEq, Nat.reducePow, Nat.reduceLeDiff, Int.reduceLE, Int.reduceLT, Int.reduceToNat, Int.reduceEq, Nat.reduceBEq, itsOf, gdA, byteI, opid, lenQ, ixQ, ldH, readAt, readCells, asCell, faQ, exQ, fldQ, partA, buildQ, slQ, stH, bslH, appH, dcells, convI, elemsOf, D.one, nilS, fillD, convN, cvH, T1, T3, T5, T22, T23, T25, T52, g1]) | (with_reducible refine ⟨?_, ?_⟩; (· first | (obtain ⟨rfl⟩ := ‹Hq _ _›; with_reducible refine chk_ok ?_; kernel_rfl) | kernel_rfl)) | (with_reducible intro ops hops)))
        (first | refine Call_flat [] [] (hsp) (by simp [cvAs, cvA, cv1, cvL, cv0, bI, byteI, bbI, encPr, psI, intD, proofD, elemsOf, upd]) rfl ?_ | refine CallF_flat [] [] [] (hsp) (fun G _ => by simp [cvAs, cvA, cv1, cvL, cv0, bI, byteI, bbI, encPr, psI, intD, proofD, elemsOf, upd]) rfl ?_)
        (repeat (first | (simp -implicitDefEqProofs only [ev1, ev2, ev3, ev4, ev5, ev6, mixed, Nat.reduceLT, Nat.reduceAdd, Nat.reduceMul, reduceIte, Nat.reduceEqDiff, reduceCtorEq, Nat.reducePow, Nat.reduceLeDiff, Int.reduceLE, Int.reduceLT, Int.reduceToNat, Int.reduceEq, Nat.reduceBEq, itsOf, gdA, byteI, opid, lenQ, ixQ, ldH, readAt, readCells, asCell, faQ, exQ, fldQ, partA, buildQ, slQ, stH, bslH, appH, dcells, convI, elemsOf, D.one, nilS, fillD, convN, cvH, T1, T3, T5, T22, T23, T25, T52, intD, g3, g2, u1, ← List.map_take, ← List.map_drop]) | (with_reducible refine ⟨?_, ?_⟩; (· first | (obtain ⟨rfl⟩ := ‹Hq _ _›; with_reducible refine chk_ok ?_; kernel_rfl) | kernel_rfl)) | (with_reducible intro ops hops)))
        refine CallF_new 2284 ip (by simp [upd, noH]) rfl ?_
        (repeat (first | (simp -implicitDefEqProofs only [ev1, ev2, ev3, ev4, ev5, ev6, mixed, Nat.reduceLT, Nat.reduceAdd, Nat.reduceMul, reduceIte, Nat.reduceEqDiff, reduceCtorEq, Nat.reducePow, Nat.reduceLeDiff, Int.reduceLE, Int.reduceLT, Int.reduceToNat, Int.reduceEq, Nat.reduceBEq, itsOf, gdA, byteI, opid, lenQ, ixQ, ldH, readAt, readCells, asCell, faQ, exQ, fldQ, partA, buildQ, slQ, stH, bslH, appH, dcells, convI, elemsOf, D.one, nilS, fillD, convN, cvH, T1, T3, T5, T22, T23, T25, T52, g2, u1, ← List.map_take, ← List.map_drop]) | (with_reducible refine ⟨?_, ?_⟩; (· first | (obtain ⟨rfl⟩ := ‹Hq _ _›; with_reducible refine chk_ok ?_; kernel_rfl) | kernel_rfl)) | (with_reducible intro ops hops)))
        (first | refine Call_frz [] (t2) (by simp [cvAs, cvA, cv1, cvL, cv0, bI, byteI, bbI, encPr, psI, intD, proofD, elemsOf, upd]) ?_ | refine CallF_frz [] [] (t2) (fun G _ => by simp [cvAs, cvA, cv1, cvL, cv0, bI, byteI, bbI, encPr, psI, intD, proofD, elemsOf, upd]) (by simp) ?_)
        have u2 : uni 1 (P.map bbE) = true := by simp [uni, bbE]
        (repeat (first | (simp -implicitDefEqProofs only [ev1, ev2, ev3, ev4, ev5, ev6, mixed, Nat.reduceLT, Nat.reduceAdd, Nat.reduceMul, reduceIte, Nat.reduceEqDiff, reduceCtorEq, Nat.reducePow, Nat.reduceLeDiff, Int.reduceLE, Int.reduceLT, Int.reduceToNat, Int.reduceEq, Nat.reduceBEq, itsOf, gdA, byteI, opid, lenQ, ixQ, ldH, readAt, readCells, asCell, faQ, exQ, fldQ, partA, buildQ, slQ, stH, bslH, appH, dcells, convI, elemsOf, D.one, nilS, fillD, convN, cvH, T1, T3, T5, T22, T23, T25, T52, bI, e3, e4, u2]) | (with_reducible refine ⟨?_, ?_⟩; (· first | (obtain ⟨rfl⟩ := ‹Hq _ _›; with_reducible refine chk_ok ?_; kernel_rfl) | kernel_rfl)) | (with_reducible intro ops hops)))
        refine fin_retD _ [] [(1, 2290)] rfl ?_ ?_ rfl ?_ rfl
        · simp [cv, cv1, cv0, upd, srcR, lk, noH]
        · simp [objOk, srcR, lk, cvO, frz, upd, noH, bbE, bI]
        · simp [noH]
      · have hpi := hhi hc
        have g3 : decide ((i : Int) < (k : Int)) = false := by simp; omega
        have ip := i2 (by simp; omega)
        have w1 : IntKind.i64.wrap ((i : Int) - (k : Int)) = ((i - k : Nat) : Int) := by rw [wrap64 (by omega) (by omega)]; omega
        rw [hpi] at hpl
        simp only [List.length_append, List.length_cons, List.length_nil] at hpl
        generalize treeF (l.take k) = T at *
        generalize i - k = j at *
        generalize hP : pathF (l.drop k) j = P at *
        have e3 : P.length + 1 ≤ 140737488355328 := by omega
        have e4 : (P.length + 1) * 24 ≤ 140737488355328 := by omega
        rw [hpi]
        refine callD_W 39 Try.func76 rfl rfl rfl (fun _ _ => rfl) ?_
        (repeat (first | (simp -implicitDefEqProofs only [ev1, ev2, ev3, ev4, ev5, ev6, mixed, Nat.reduceLT, Nat.reduceAdd, Nat.reduceMul, reduceIte, Nat.reduceEqDiff, reduceCtorEq, Nat.reducePow, Nat.reduceLeDiff, Int.reduceLE, Int.reduceLT, Int.reduceToNat, Int.reduceEq, Nat.reduceBEq, itsOf, gdA, byteI, opid, lenQ, ixQ, ldH, readAt, readCells, asCell, faQ, exQ, fldQ, partA, buildQ, slQ, stH, bslH, appH, dcells, convI, elemsOf, D.one, nilS, fillD, convN, cvH, T1, T3, T5, T22, T23, T25, T52, g1]) | (with_reducible refine ⟨?_, ?_⟩; (· first | (obtain ⟨rfl⟩ := ‹Hq _ _›; with_reducible refine chk_ok ?_; kernel_rfl) | kernel_rfl)) | (with_reducible intro ops hops)))
        (first | refine Call_flat [] [] (hsp) (by simp [cvAs, cvA, cv1, cvL, cv0, bI, byteI, bbI, encPr, psI, intD, proofD, elemsOf, upd]) rfl ?_ | refine CallF_flat [] [] [] (hsp) (fun G _ => by simp [cvAs, cvA, cv1, cvL, cv0, bI, byteI, bbI, encPr, psI, intD, proofD, elemsOf, upd]) rfl ?_)
        (repeat (first | (simp -implicitDefEqProofs only [ev1, ev2, ev3, ev4, ev5, ev6, mixed, Nat.reduceLT, Nat.reduceAdd, Nat.reduceMul, reduceIte, Nat.reduceEqDiff, reduceCtorEq, Nat.reducePow, Nat.reduceLeDiff, Int.reduceLE, Int.reduceLT, Int.reduceToNat, Int.reduceEq, Nat.reduceBEq, itsOf, gdA, byteI, opid, lenQ, ixQ, ldH, readAt, readCells, asCell, faQ, exQ, fldQ, partA, buildQ, slQ, stH, bslH, appH, dcells, convI, elemsOf, D.one, nilS, fillD, convN, cvH, T1, T3, T5, T22, T23, T25, T52, intD, g3, g2, u1, w1, ← List.map_take, ← List.map_drop]) | (with_reducible refine ⟨?_, ?_⟩; (· first | (obtain ⟨rfl⟩ := ‹Hq _ _›; with_reducible refine chk_ok ?_; kernel_rfl) | kernel_rfl)) | (with_reducible intro ops hops)))
        refine CallF_new 2542 ip (by simp [upd, noH]) rfl ?_
        (repeat (first | (simp -implicitDefEqProofs only [ev1, ev2, ev3, ev4, ev5, ev6, mixed, Nat.reduceLT, Nat.reduceAdd, Nat.reduceMul, reduceIte, Nat.reduceEqDiff, reduceCtorEq, Nat.reducePow, Nat.reduceLeDiff, Int.reduceLE, Int.reduceLT, Int.reduceToNat, Int.reduceEq, Nat.reduceBEq, itsOf, gdA, byteI, opid, lenQ, ixQ, ldH, readAt, readCells, asCell, faQ, exQ, fldQ, partA, buildQ, slQ, stH, bslH, appH, dcells, convI, elemsOf, D.one, nilS, fillD, convN, cvH, T1, T3, T5, T22, T23, T25, T52, g2, u1, ← List.map_take, ← List.map_drop]) | (with_reducible refine ⟨?_, ?_⟩; (· first | (obtain ⟨rfl⟩ := ‹Hq _ _›; with_reducible refine chk_ok ?_; kernel_rfl) | kernel_rfl)) | (with_reducible intro ops hops)))
        (first | refine Call_frz [] (t1) (by simp [cvAs, cvA, cv1, cvL, cv0, bI, byteI, bbI, encPr, psI, intD, proofD, elemsOf, upd]) ?_ | refine CallF_frz [] [] (t1) (fun G _ => by simp [cvAs, cvA, cv1, cvL, cv0, bI, byteI, bbI, encPr, psI, intD, proofD, elemsOf, upd]) (by simp) ?_)
        have u2 : uni 1 (P.map bbE) = true := by simp [uni, bbE]
        (repeat (first | (simp -implicitDefEqProofs only [ev1, ev2, ev3, ev4, ev5, ev6, mixed, Nat.reduceLT, Nat.reduceAdd, Nat.reduceMul, reduceIte, Nat.reduceEqDiff, reduceCtorEq, Nat.reducePow, Nat.reduceLeDiff, Int.reduceLE, Int.reduceLT, Int.reduceToNat, Int.reduceEq, Nat.reduceBEq, itsOf, gdA, byteI, opid, lenQ, ixQ, ldH, readAt, readCells, asCell, faQ, exQ, fldQ, partA, buildQ, slQ, stH, bslH, appH, dcells, convI, elemsOf, D.one, nilS, fillD, convN, cvH, T1, T3, T5, T22, T23, T25, T52, bI, e3, e4, u2]) | (with_reducible refine ⟨?_, ?_⟩; (· first | (obtain ⟨rfl⟩ := ‹Hq _ _›; with_reducible refine chk_ok ?_; kernel_rfl) | kernel_rfl)) | (with_reducible intro ops hops)))
        refine fin_retD _ [] [(1, 2548)] rfl ?_ ?_ rfl ?_ rfl
        · simp [cv, cv1, cv0, upd, srcR, lk, noH]
        · simp [objOk, srcR, lk, cvO, frz, upd, noH, bbE, bI]
        · simp [noH]
end Go.Proofs.Ythbnhbmakapglaa
