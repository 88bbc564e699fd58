/- The statement on ClientShown, with the last texts of its proof: for every input of bounded bulk the law answers true and leaves its arguments as they were. -/
import Derived.Test.YtdpfjmkilbepgaaBookC
import Derived.Test.YtdpfjmkilbepgaaR1Same
import Derived.Test.YtdpfjmkilbepgaaWq
import Derived.Test.YtdpfjmkilbepgaaClL
import Derived.Test.YtdpfjmkilbepgaaBits
import Derived.Test.YtdpfjmkilbepgaaShaS
import Derived.Test.YtdpfjmkilbepgaaHor
import Derived.Test.YtdpfjmkilbepgaaAbs4
import Derived.Test.YtdpfjmkilbepgaaRClA
import Derived.Test.YtdpfjmkilbepgaaShaD
import Derived.Test.YtdpfjmkilbepgaaClB
import Derived.Test.YtdpfjmkilbepgaaRow2
/- proof.path, at: by value. -/
set_option linter.all false
namespace Go.Proofs.Ytdpfjmkilbepgaa
open Go Go.Abs Go.RowKit Go.Proofs.Ytdpfjmkilbepgaa.Ty

structure ProofD where
  i : Int
  n : Int
  k : List UInt8
  v : List UInt8
  path : List (List UInt8)
def proofD (p : ProofD) : D := .agg [intD p.i, intD p.n, .i (bI p.k), .i (bI p.v), .i (bbI p.path)]
def pathF (l : List PairD) (i : Nat) : List (List UInt8) :=
  if h : l.length ≤ 1 then []
  else if i < splitF l.length then pathF (l.take (splitF l.length)) i ++ [treeF (l.drop (splitF l.length))]
  else pathF (l.drop (splitF l.length)) (i - splitF l.length) ++ [treeF (l.take (splitF l.length))]
termination_by l.length
decreasing_by
  all_goals
    have := splitF_lt (n := l.length) (by omega)
    simp only [List.length_take, List.length_drop]
    omega
theorem pathF_one {l : List PairD} (i : Nat) (h : l.length ≤ 1) : pathF l i = [] := by rw [pathF, dif_pos h]
theorem pathF_lo {l : List PairD} {i : Nat} (h : 2 ≤ l.length) (hi : i < splitF l.length) : pathF l i = pathF (l.take (splitF l.length)) i ++ [treeF (l.drop (splitF l.length))] := by
  rw [pathF, dif_neg (by omega), if_pos hi]
theorem pathF_hi {l : List PairD} {i : Nat} (h : 2 ≤ l.length) (hi : ¬ i < splitF l.length) : pathF l i = pathF (l.drop (splitF l.length)) (i - splitF l.length) ++ [treeF (l.take (splitF l.length))] := by
  rw [pathF, dif_neg (by omega), if_neg hi]
theorem pathF_len : ∀ (n : Nat) (l : List PairD) (i : Nat), l.length = n → (pathF l i).length ≤ n := by
  intro n
  induction n using Nat.strongRecOn with
  | _ n ih =>
    intro l i hn
    by_cases h : l.length ≤ 1
    · rw [pathF_one i h]; simp
    · have hs := splitF_lt (n := l.length) (by omega)
      by_cases hi : i < splitF l.length
      · rw [pathF_lo (by omega) hi]
        have := ih (l.take (splitF l.length)).length (by simp; omega) _ i rfl
        simp at this ⊢; omega
      · rw [pathF_hi (by omega) hi]
        have := ih (l.drop (splitF l.length)).length (by simp; omega) _ (i - splitF l.length) rfl
        simp at this ⊢; omega

def bbE (b : List UInt8) : List I := [bI b]
set_option maxHeartbeats 2000000
end Go.Proofs.Ytdpfjmkilbepgaa
/- proof.at, Show: by value. -/
set_option linter.all false
namespace Go.Proofs.Ytdpfjmkilbepgaa
open Go Go.Abs Go.RowKit Go.Proofs.Ytdpfjmkilbepgaa.Ty

theorem fin_ct {P : Program} {fn : Func} {sl : Nat → D} {H : Nat → Ob} {t : TypeId} {p i : Tmp} {k : Nat} {cs : List D} {r : D} (F : List Nat) (h : fn.results = #[.cell p t, .tmp i]) (ha : aggOf P t = some true) (hs : szOf P t = some k) (hr : readAt H (sl p) k = some cs) (hv : cv H F (fun _ => none) (.tup [.agg cs, sl i]) r) : Fin P fn noH r noH .ret ⟨sl, H⟩ :=
  ⟨_, by simp [resA, h, resOne, ha, hs, hr], ler_pure F hv⟩
def atF (l : List PairD) (i : Nat) (h : i < l.length) : ProofD := ⟨i, l.length, l[i].k, l[i].v, pathF l i⟩
set_option maxHeartbeats 2000000
def zeroP : ProofD := ⟨0, 0, [], [], []⟩
def showF (l : List PairD) (key : List UInt8) : ProofD × Nat :=
  if (wrongF l).1 = 0 then (if h : placeF l key < l.length then (if l[placeF l key].k = key then (atF l (placeF l key) h, 0) else (zeroP, 6)) else (zeroP, 6)) else (zeroP, (wrongF l).1)
end Go.Proofs.Ytdpfjmkilbepgaa
/- proof.form, tree, Shown: by value. -/
set_option linter.all false
namespace Go.Proofs.Ytdpfjmkilbepgaa
open Go Go.Abs Go.RowKit Go.Proofs.Ytdpfjmkilbepgaa.Ty
theorem tyProofC0 : (type_of% @Ty.T3) ∧ (type_of% @Ty.T5) ∧ (type_of% @Ty.T25) ∧ (type_of% @Ty.T26) ∧ (type_of% @Ty.T28) := ⟨@Ty.T3, @Ty.T5, @Ty.T25, @Ty.T26, @Ty.T28⟩

def formI (p : ProofD) : List I := [.s (.int .i64 p.i), .s (.int .i64 p.n), bI p.k, bI p.v, bbI p.path]
def formG (p : ProofD) : Bool := decide (p.n < 1) || decide (200 < p.n) || decide (p.i < 0) || decide (p.n ≤ p.i) || decide (60 < p.k.length) || decide (200 < p.v.length) || decide (40 < p.path.length)
def formF (p : ProofD) : Bool := !formG p && p.path.all fun d => decide (d.length = 32)
theorem formF_no {p : ProofD} (h : formG p = true) : formF p = false := by simp [formF, h]
theorem all_drop {l : List (List UInt8)} {i : Nat} (h : i < l.length) : (l.drop i).all (fun d => decide (d.length = 32)) = (decide (l[i].length = 32) && (l.drop (i + 1)).all fun d => decide (d.length = 32)) := by
  rw [List.drop_eq_getElem_cons h]; rfl
set_option maxHeartbeats 4000000
theorem form_A (p : ProofD) : PureD Try.prog 99 [.rp (formI p) 0] (boolD (formF p)) := by
  have hN := formF_no (p := p)
  unfold formG at hN
  obtain ⟨i, n, k, v, q⟩ := p
  have hl : (q.map fun b => [bI b]).length = q.length := by simp
  have e0 : ∀ j (h : j < q.length), (q.map fun b => [bI b])[j]? = some [bI q[j]] := fun j h => by rw [List.getElem?_map, List.getElem?_eq_getElem h]; rfl
  cases g1 : decide (n < 1)
  case true =>
    rw [hN (by simp [g1])]
    refine callD_W 72 Try.func99 rfl rfl rfl (fun _ _ => rfl) ?_
    (repeat (first | (simp -implicitDefEqProofs only [ev, mixed, Nat.reduceLT, Nat.reduceAdd, Nat.reduceMul, reduceIte, Nat.reduceEqDiff, reduceCtorEq, Nat.reducePow, Nat.reduceLeDiff, Int.reduceLE, Int.reduceLT, Int.reduceToNat, Int.reduceEq, Nat.reduceBEq, itsOf, gdA, byteI, opid, lenQ, ixQ, ldH, readAt, readCells, asCell, faQ, exQ, fldQ, partA, buildQ, slQ, stH, bslH, appH, dcells, convI, elemsOf, D.one, nilS, fillD, convN, cvH, tyProofC0, formI, g1]) | (with_reducible refine ⟨?_, ?_⟩; (· first | (obtain ⟨rfl⟩ := ‹Hq _ _›; with_reducible refine chk_ok ?_; kernel_rfl) | kernel_rfl)) | (with_reducible intro ops hops)))
    refine fin_ret [] rfl ?_
    simp [cv, cv1, cv0, upd, boolD]
  cases g2 : decide ((200 : Int) < n)
  case true =>
    rw [hN (by simp [g2])]
    refine callD_W 72 Try.func99 rfl rfl rfl (fun _ _ => rfl) ?_
    (repeat (first | (simp -implicitDefEqProofs only [ev, mixed, Nat.reduceLT, Nat.reduceAdd, Nat.reduceMul, reduceIte, Nat.reduceEqDiff, reduceCtorEq, Nat.reducePow, Nat.reduceLeDiff, Int.reduceLE, Int.reduceLT, Int.reduceToNat, Int.reduceEq, Nat.reduceBEq, itsOf, gdA, byteI, opid, lenQ, ixQ, ldH, readAt, readCells, asCell, faQ, exQ, fldQ, partA, buildQ, slQ, stH, bslH, appH, dcells, convI, elemsOf, D.one, nilS, fillD, convN, cvH, tyProofC0, formI, g1, g2]) | (with_reducible refine ⟨?_, ?_⟩; (· first | (obtain ⟨rfl⟩ := ‹Hq _ _›; with_reducible refine chk_ok ?_; kernel_rfl) | kernel_rfl)) | (with_reducible intro ops hops)))
    refine fin_ret [] rfl ?_
    simp [cv, cv1, cv0, upd, boolD]
  cases g3 : decide (i < 0)
  case true =>
    rw [hN (by simp [g3])]
    refine callD_W 72 Try.func99 rfl rfl rfl (fun _ _ => rfl) ?_
    (repeat (first | (simp -implicitDefEqProofs only [ev, mixed, Nat.reduceLT, Nat.reduceAdd, Nat.reduceMul, reduceIte, Nat.reduceEqDiff, reduceCtorEq, Nat.reducePow, Nat.reduceLeDiff, Int.reduceLE, Int.reduceLT, Int.reduceToNat, Int.reduceEq, Nat.reduceBEq, itsOf, gdA, byteI, opid, lenQ, ixQ, ldH, readAt, readCells, asCell, faQ, exQ, fldQ, partA, buildQ, slQ, stH, bslH, appH, dcells, convI, elemsOf, D.one, nilS, fillD, convN, cvH, tyProofC0, formI, g1, g2, g3]) | (with_reducible refine ⟨?_, ?_⟩; (· first | (obtain ⟨rfl⟩ := ‹Hq _ _›; with_reducible refine chk_ok ?_; kernel_rfl) | kernel_rfl)) | (with_reducible intro ops hops)))
    refine fin_ret [] rfl ?_
    simp [cv, cv1, cv0, upd, boolD]
  cases g4 : decide (n ≤ i)
  case true =>
    rw [hN (by simp [g4])]
    refine callD_W 72 Try.func99 rfl rfl rfl (fun _ _ => rfl) ?_
    (repeat (first | (simp -implicitDefEqProofs only [ev, mixed, Nat.reduceLT, Nat.reduceAdd, Nat.reduceMul, reduceIte, Nat.reduceEqDiff, reduceCtorEq, Nat.reducePow, Nat.reduceLeDiff, Int.reduceLE, Int.reduceLT, Int.reduceToNat, Int.reduceEq, Nat.reduceBEq, itsOf, gdA, byteI, opid, lenQ, ixQ, ldH, readAt, readCells, asCell, faQ, exQ, fldQ, partA, buildQ, slQ, stH, bslH, appH, dcells, convI, elemsOf, D.one, nilS, fillD, convN, cvH, tyProofC0, formI, g1, g2, g3, g4]) | (with_reducible refine ⟨?_, ?_⟩; (· first | (obtain ⟨rfl⟩ := ‹Hq _ _›; with_reducible refine chk_ok ?_; kernel_rfl) | kernel_rfl)) | (with_reducible intro ops hops)))
    refine fin_ret [] rfl ?_
    simp [cv, cv1, cv0, upd, boolD]
  cases g5 : decide ((60 : Int) < (k.length : Int))
  case true =>
    rw [hN (by simp at g5; simp; omega)]
    refine callD_W 72 Try.func99 rfl rfl rfl (fun _ _ => rfl) ?_
    (repeat (first | (simp -implicitDefEqProofs only [ev, mixed, Nat.reduceLT, Nat.reduceAdd, Nat.reduceMul, reduceIte, Nat.reduceEqDiff, reduceCtorEq, Nat.reducePow, Nat.reduceLeDiff, Int.reduceLE, Int.reduceLT, Int.reduceToNat, Int.reduceEq, Nat.reduceBEq, itsOf, gdA, byteI, opid, lenQ, ixQ, ldH, readAt, readCells, asCell, faQ, exQ, fldQ, partA, buildQ, slQ, stH, bslH, appH, dcells, convI, elemsOf, D.one, nilS, fillD, convN, cvH, tyProofC0, formI, g1, g2, g3, g4, g5, bI]) | (with_reducible refine ⟨?_, ?_⟩; (· first | (obtain ⟨rfl⟩ := ‹Hq _ _›; with_reducible refine chk_ok ?_; kernel_rfl) | kernel_rfl)) | (with_reducible intro ops hops)))
    refine fin_ret [] rfl ?_
    simp [cv, cv1, cv0, upd, boolD]
  cases g6 : decide ((200 : Int) < (v.length : Int))
  case true =>
    rw [hN (by simp at g6; simp; omega)]
    refine callD_W 72 Try.func99 rfl rfl rfl (fun _ _ => rfl) ?_
    (repeat (first | (simp -implicitDefEqProofs only [ev, mixed, Nat.reduceLT, Nat.reduceAdd, Nat.reduceMul, reduceIte, Nat.reduceEqDiff, reduceCtorEq, Nat.reducePow, Nat.reduceLeDiff, Int.reduceLE, Int.reduceLT, Int.reduceToNat, Int.reduceEq, Nat.reduceBEq, itsOf, gdA, byteI, opid, lenQ, ixQ, ldH, readAt, readCells, asCell, faQ, exQ, fldQ, partA, buildQ, slQ, stH, bslH, appH, dcells, convI, elemsOf, D.one, nilS, fillD, convN, cvH, tyProofC0, formI, g1, g2, g3, g4, g5, g6, bI]) | (with_reducible refine ⟨?_, ?_⟩; (· first | (obtain ⟨rfl⟩ := ‹Hq _ _›; with_reducible refine chk_ok ?_; kernel_rfl) | kernel_rfl)) | (with_reducible intro ops hops)))
    refine fin_ret [] rfl ?_
    simp [cv, cv1, cv0, upd, boolD]
  cases g7 : decide ((40 : Int) < (q.length : Int))
  case true =>
    rw [hN (by simp at g7; simp; omega)]
    refine callD_W 72 Try.func99 rfl rfl rfl (fun _ _ => rfl) ?_
    (repeat (first | (simp -implicitDefEqProofs only [ev, mixed, Nat.reduceLT, Nat.reduceAdd, Nat.reduceMul, reduceIte, Nat.reduceEqDiff, reduceCtorEq, Nat.reducePow, Nat.reduceLeDiff, Int.reduceLE, Int.reduceLT, Int.reduceToNat, Int.reduceEq, Nat.reduceBEq, itsOf, gdA, byteI, opid, lenQ, ixQ, ldH, readAt, readCells, asCell, faQ, exQ, fldQ, partA, buildQ, slQ, stH, bslH, appH, dcells, convI, elemsOf, D.one, nilS, fillD, convN, cvH, tyProofC0, formI, g1, g2, g3, g4, g5, g6, g7, bI, bbI, hl]) | (with_reducible refine ⟨?_, ?_⟩; (· first | (obtain ⟨rfl⟩ := ‹Hq _ _›; with_reducible refine chk_ok ?_; kernel_rfl) | kernel_rfl)) | (with_reducible intro ops hops)))
    refine fin_ret [] rfl ?_
    simp [cv, cv1, cv0, upd, boolD]
  have hF : formF ⟨i, n, k, v, q⟩ = (q.drop 0).all fun d => decide (d.length = 32) := by
    have b5 : decide (60 < k.length) = false := by simp at g5 ⊢; omega
    have b6 : decide (200 < v.length) = false := by simp at g6 ⊢; omega
    have b7 : decide (40 < q.length) = false := by simp at g7 ⊢; omega
    simp [formF, formG, g1, g2, g3, g4, b5, b6, b7]
  have hq : q.length ≤ 40 := by simp at g7; omega
  generalize formF ⟨i, n, k, v, q⟩ = R at hF
  clear hN
  refine callD_W 72 Try.func99 rfl rfl rfl (fun _ _ => rfl) ?_
  (repeat (first | (simp -implicitDefEqProofs only [ev, mixed, Nat.reduceLT, Nat.reduceAdd, Nat.reduceMul, reduceIte, Nat.reduceEqDiff, reduceCtorEq, Nat.reducePow, Nat.reduceLeDiff, Int.reduceLE, Int.reduceLT, Int.reduceToNat, Int.reduceEq, Nat.reduceBEq, itsOf, gdA, byteI, opid, lenQ, ixQ, ldH, readAt, readCells, asCell, faQ, exQ, fldQ, partA, buildQ, slQ, stH, bslH, appH, dcells, convI, elemsOf, D.one, nilS, fillD, convN, cvH, tyProofC0, formI, g1, g2, g3, g4, g5, g6, g7, bI, bbI, hl]) | (with_reducible refine ⟨?_, ?_⟩; (· first | (obtain ⟨rfl⟩ := ‹Hq _ _›; with_reducible refine chk_ok ?_; kernel_rfl) | kernel_rfl)) | (with_reducible intro ops hops)))
  refine W_loopI (ι := Nat) (fun j => j ≤ q.length ∧ R = (q.drop j).all fun d => decide (d.length = 32))
    (fun j => stOf [(62, .i (bbI q)), (63, intD q.length), (64, intD j)] []) (fun j => q.length - j) 0 ⟨Nat.zero_le _, hF⟩ ?_ ?_
  · refine le_stOf _ _ [] [] ?_ ?_ rfl rfl
    · simp [cv, cvL, cv1, cv0, upd, lk, srcOf, intD, bbI, bI]
    · simp
  · rintro j ⟨hj, hR⟩
    rw [stOf_eq]
    (repeat (first | (simp -implicitDefEqProofs only [ev, mixed, Nat.reduceLT, Nat.reduceAdd, Nat.reduceMul, reduceIte, Nat.reduceEqDiff, reduceCtorEq, Nat.reducePow, Nat.reduceLeDiff, Int.reduceLE, Int.reduceLT, Int.reduceToNat, Int.reduceEq, Nat.reduceBEq, itsOf, gdA, byteI, opid, lenQ, ixQ, ldH, readAt, readCells, asCell, faQ, exQ, fldQ, partA, buildQ, slQ, stH, bslH, appH, dcells, convI, elemsOf, D.one, nilS, fillD, convN, cvH, tyProofC0, intD]) | (with_reducible refine ⟨?_, ?_⟩; (· first | (obtain ⟨rfl⟩ := ‹Hq _ _›; with_reducible refine chk_ok ?_; kernel_rfl) | kernel_rfl)) | (with_reducible intro ops hops)))
    refine Wc_split (fun h => ?_) (fun h => ?_)
    · have h2 : j < q.length := by simp at h; omega
      clear h
      have e1 := e0 j h2
      simp only [bI] at e1
      rw [all_drop h2] at hR
      have w1 : IntKind.i64.wrap ((j : Int) + 1) = ((j + 1 : Nat) : Int) := by rw [wrap64 (by omega) (by omega)]; omega
      generalize q[j] = d at *
      (repeat (first | (simp -implicitDefEqProofs only [ev, mixed, Nat.reduceLT, Nat.reduceAdd, Nat.reduceMul, reduceIte, Nat.reduceEqDiff, reduceCtorEq, Nat.reducePow, Nat.reduceLeDiff, Int.reduceLE, Int.reduceLT, Int.reduceToNat, Int.reduceEq, Nat.reduceBEq, itsOf, gdA, byteI, opid, lenQ, ixQ, ldH, readAt, readCells, asCell, faQ, exQ, fldQ, partA, buildQ, slQ, stH, bslH, appH, dcells, convI, elemsOf, D.one, nilS, fillD, convN, cvH, tyProofC0, bbI, e1, bI]) | (with_reducible refine ⟨?_, ?_⟩; (· first | (obtain ⟨rfl⟩ := ‹Hq _ _›; with_reducible refine chk_ok ?_; kernel_rfl) | kernel_rfl)) | (with_reducible intro ops hops)))
      refine Wc_split (fun h => ?_) (fun h => ?_)
      · have h3 : d.length ≠ 32 := by simp at h; omega
        simp only [h3, decide_false, Bool.false_and] at hR
        (repeat (first | (simp -implicitDefEqProofs only [ev, mixed, Nat.reduceLT, Nat.reduceAdd, Nat.reduceMul, reduceIte, Nat.reduceEqDiff, reduceCtorEq, Nat.reducePow, Nat.reduceLeDiff, Int.reduceLE, Int.reduceLT, Int.reduceToNat, Int.reduceEq, Nat.reduceBEq, itsOf, gdA, byteI, opid, lenQ, ixQ, ldH, readAt, readCells, asCell, faQ, exQ, fldQ, partA, buildQ, slQ, stH, bslH, appH, dcells, convI, elemsOf, D.one, nilS, fillD, convN, cvH, tyProofC0]) | (with_reducible refine ⟨?_, ?_⟩; (· first | (obtain ⟨rfl⟩ := ‹Hq _ _›; with_reducible refine chk_ok ?_; kernel_rfl) | kernel_rfl)) | (with_reducible intro ops hops)))
        refine fin_ret [] rfl ?_
        simp [cv, cv1, cv0, upd, hR, boolD]
      · have h3 : d.length = 32 := by simp at h; omega
        simp only [h3, decide_true, Bool.true_and] at hR
        (repeat (first | (simp -implicitDefEqProofs only [ev, mixed, Nat.reduceLT, Nat.reduceAdd, Nat.reduceMul, reduceIte, Nat.reduceEqDiff, reduceCtorEq, Nat.reducePow, Nat.reduceLeDiff, Int.reduceLE, Int.reduceLT, Int.reduceToNat, Int.reduceEq, Nat.reduceBEq, itsOf, gdA, byteI, opid, lenQ, ixQ, ldH, readAt, readCells, asCell, faQ, exQ, fldQ, partA, buildQ, slQ, stH, bslH, appH, dcells, convI, elemsOf, D.one, nilS, fillD, convN, cvH, tyProofC0, w1]) | (with_reducible refine ⟨?_, ?_⟩; (· first | (obtain ⟨rfl⟩ := ‹Hq _ _›; with_reducible refine chk_ok ?_; kernel_rfl) | kernel_rfl)) | (with_reducible intro ops hops)))
        refine ⟨j + 1, ⟨h2, hR⟩, le_stOf _ _ [] [] ?_ ?_ rfl rfl, by simp; omega⟩
        · simp [cv, cvL, cv1, cv0, upd, lk, srcOf, intD, bbI, bI]
        · simp
    · have h2 : ¬ j < q.length := by simp at h; omega
      clear h
      rw [List.drop_eq_nil_of_le (by omega)] at hR
      (repeat (first | (simp -implicitDefEqProofs only [ev, mixed, Nat.reduceLT, Nat.reduceAdd, Nat.reduceMul, reduceIte, Nat.reduceEqDiff, reduceCtorEq, Nat.reducePow, Nat.reduceLeDiff, Int.reduceLE, Int.reduceLT, Int.reduceToNat, Int.reduceEq, Nat.reduceBEq, itsOf, gdA, byteI, opid, lenQ, ixQ, ldH, readAt, readCells, asCell, faQ, exQ, fldQ, partA, buildQ, slQ, stH, bslH, appH, dcells, convI, elemsOf, D.one, nilS, fillD, convN, cvH, tyProofC0]) | (with_reducible refine ⟨?_, ?_⟩; (· first | (obtain ⟨rfl⟩ := ‹Hq _ _›; with_reducible refine chk_ok ?_; kernel_rfl) | kernel_rfl)) | (with_reducible intro ops hops)))
      refine fin_ret [] rfl ?_
      simp [cv, cv1, cv0, upd, hR, boolD]
end Go.Proofs.Ytdpfjmkilbepgaa
/- proof.tree, Shown: by value. -/
set_option linter.all false
namespace Go.Proofs.Ytdpfjmkilbepgaa
open Go Go.Abs Go.RowKit Go.Proofs.Ytdpfjmkilbepgaa.Ty
theorem tyProofT0 : (type_of% @Ty.T3) ∧ (type_of% @Ty.T5) ∧ (type_of% @Ty.T25) ∧ (type_of% @Ty.T26) := ⟨@Ty.T3, @Ty.T5, @Ty.T25, @Ty.T26⟩
theorem tyProofT1 : (type_of% @Ty.T3) ∧ (type_of% @Ty.T4) ∧ (type_of% @Ty.T5) ∧ (type_of% @Ty.T25) ∧ (type_of% @Ty.T26) ∧ (type_of% @Ty.T28) ∧ (type_of% @Ty.T127) := ⟨@Ty.T3, @Ty.T4, @Ty.T5, @Ty.T25, @Ty.T26, @Ty.T28, @Ty.T127⟩

def foldR (leaf : List UInt8) : Nat → Nat → List (List UInt8) → List UInt8 × Bool
  | _, n, [] => if n = 1 then (leaf, true) else ([], false)
  | i, n, d :: r => if n = 1 then (leaf, false) else if i < splitF n then (nodeF (foldR leaf i (splitF n) r).1 d, (foldR leaf i (splitF n) r).2)
      else (nodeF d (foldR leaf (i - splitF n) (n - splitF n) r).1, (foldR leaf (i - splitF n) (n - splitF n) r).2)
theorem foldR_len (leaf : List UInt8) (h : leaf.length ≤ 32) : ∀ (r : List (List UInt8)) (i n : Nat), (foldR leaf i n r).1.length ≤ 32 := by
  intro r
  induction r with
  | nil => intro i n; simp only [foldR]; split <;> simp [h]
  | cons d r ih =>
    intro i n; simp only [foldR]; split
    · exact h
    · split <;> simp only [nodeF] <;> exact Nat.le_of_eq (sha_length _)
set_option maxHeartbeats 4000000
theorem ptree_A (leaf : List UInt8) (hlf : leaf.length ≤ 32) : ∀ (r : List (List UInt8)) (i n : Nat), (∀ d ∈ r, d.length = 32) → r.length ≤ 1048576 → i ≤ 1048576 → 1 ≤ n → n ≤ 1048576 →
    PureD Try.prog 100 [.i (bI leaf), intD i, intD n, .i (bbI r.reverse)] (.tup [.i (bI (foldR leaf i n r).1), boolD (foldR leaf i n r).2]) := by
  intro r
  induction r with
  | nil =>
    intro i n _ _ _ h1 h2
    by_cases hn : n = 1
    · subst hn
      simp only [foldR, if_true]
      refine callD_W 71 Try.func100 rfl rfl rfl (fun _ _ => rfl) ?_
      (repeat (first | (simp -implicitDefEqProofs only [ev, mixed, Nat.reduceLT, Nat.reduceAdd, Nat.reduceMul, reduceIte, Nat.reduceEqDiff, reduceCtorEq, Nat.reducePow, Nat.reduceLeDiff, Int.reduceLE, Int.reduceLT, Int.reduceToNat, Int.reduceEq, Nat.reduceBEq, itsOf, gdA, byteI, opid, lenQ, ixQ, ldH, readAt, readCells, asCell, faQ, exQ, fldQ, partA, buildQ, slQ, stH, bslH, appH, dcells, convI, elemsOf, D.one, nilS, fillD, convN, cvH, tyProofT0, intD, bI, bbI, List.reverse_nil, List.map_nil]) | (with_reducible refine ⟨?_, ?_⟩; (· first | (obtain ⟨rfl⟩ := ‹Hq _ _›; with_reducible refine chk_ok ?_; kernel_rfl) | kernel_rfl)) | (with_reducible intro ops hops)))
      refine fin_tt [] rfl ?_
      simp [cv, cvT, cv1, cv0, upd, intD, boolD, bI]
    · simp only [foldR, hn, if_false]
      have g1 : decide ((n : Int) = 1) = false := by simp; omega
      refine callD_W 71 Try.func100 rfl rfl rfl (fun _ _ => rfl) ?_
      (repeat (first | (simp -implicitDefEqProofs only [ev, mixed, Nat.reduceLT, Nat.reduceAdd, Nat.reduceMul, reduceIte, Nat.reduceEqDiff, reduceCtorEq, Nat.reducePow, Nat.reduceLeDiff, Int.reduceLE, Int.reduceLT, Int.reduceToNat, Int.reduceEq, Nat.reduceBEq, itsOf, gdA, byteI, opid, lenQ, ixQ, ldH, readAt, readCells, asCell, faQ, exQ, fldQ, partA, buildQ, slQ, stH, bslH, appH, dcells, convI, elemsOf, D.one, nilS, fillD, convN, cvH, tyProofT0, intD, bI, bbI, List.reverse_nil, List.map_nil, g1]) | (with_reducible refine ⟨?_, ?_⟩; (· first | (obtain ⟨rfl⟩ := ‹Hq _ _›; with_reducible refine chk_ok ?_; kernel_rfl) | kernel_rfl)) | (with_reducible intro ops hops)))
      refine fin_tt [] rfl ?_
      simp [cv, cvT, cv1, cv0, upd, intD, boolD, bI]
  | cons d r ih =>
    intro i n hd hr hi h1 h2
    have hd0 : d.length = 32 := hd d (by simp)
    simp only [List.length_cons] at hr
    have L1 : ((d :: r).reverse.map fun b => [bI b]).length = r.length + 1 := by simp
    have L2 : ((d :: r).reverse.map fun b => [bI b])[r.length]? = some [bI d] := by simp
    have L3 : ((d :: r).reverse.map fun b => [bI b]).take r.length = r.reverse.map fun b => [bI b] := by simp
    have L4 : uni 1 ((d :: r).reverse.map fun b => [bI b]) = true := by simp [uni]
    have hq : bbI (d :: r).reverse = .sl ((d :: r).reverse.map fun b => [bI b]) := rfl
    rw [hq]
    generalize ((d :: r).reverse.map fun b => [bI b]) = L at *
    clear hq
    by_cases hn : n = 1
    · subst hn
      simp only [foldR, if_true]
      have g1 : decide (((r.length + 1 : Nat) : Int) = 0) = false := by simp; omega
      refine callD_W 71 Try.func100 rfl rfl rfl (fun _ _ => rfl) ?_
      (repeat (first | (simp -implicitDefEqProofs only [ev, mixed, Nat.reduceLT, Nat.reduceAdd, Nat.reduceMul, reduceIte, Nat.reduceEqDiff, reduceCtorEq, Nat.reducePow, Nat.reduceLeDiff, Int.reduceLE, Int.reduceLT, Int.reduceToNat, Int.reduceEq, Nat.reduceBEq, itsOf, gdA, byteI, opid, lenQ, ixQ, ldH, readAt, readCells, asCell, faQ, exQ, fldQ, partA, buildQ, slQ, stH, bslH, appH, dcells, convI, elemsOf, D.one, nilS, fillD, convN, cvH, tyProofT0, intD, L1, g1]) | (with_reducible refine ⟨?_, ?_⟩; (· first | (obtain ⟨rfl⟩ := ‹Hq _ _›; with_reducible refine chk_ok ?_; kernel_rfl) | kernel_rfl)) | (with_reducible intro ops hops)))
      refine fin_tt [] rfl ?_
      simp [cv, cvT, cv1, cv0, upd, intD, boolD, bI]
    · have hs := splitF_lt (n := n) (by omega)
      have hsp := split_A n h1 h2
      have i1 := ih i (splitF n) (fun d hd' => hd d (by simp [hd'])) (by omega) hi (by omega) (by omega)
      have i2 := ih (i - splitF n) (n - splitF n) (fun d hd' => hd d (by simp [hd'])) (by omega) (by omega) (by omega) (by omega)
      have n1 := foldR_len leaf hlf r i (splitF n)
      have n2 := foldR_len leaf hlf r (i - splitF n) (n - splitF n)
      have g1 : decide ((n : Int) = 1) = false := by simp; omega
      have g2 : decide (((r.length + 1 : Nat) : Int) = 0) = false := by simp; omega
      have g4 : ((r.length : Int) ≤ ((r.length + 1 : Nat) : Int)) = True := eq_true (by omega)
      have w1 : IntKind.i64.wrap (((r.length + 1 : Nat) : Int) - 1) = (r.length : Int) := by rw [wrap64 (by omega) (by omega)]; omega
      have hc1 : i < splitF n → foldR leaf i n (d :: r) = (nodeF (foldR leaf i (splitF n) r).1 d, (foldR leaf i (splitF n) r).2) := fun h => by simp only [foldR, if_neg hn, if_pos h]
      have hc2 : ¬ i < splitF n → foldR leaf i n (d :: r) = (nodeF d (foldR leaf (i - splitF n) (n - splitF n) r).1, (foldR leaf (i - splitF n) (n - splitF n) r).2) := fun h => by simp only [foldR, if_neg hn, if_neg h]
      clear hd
      generalize splitF n = k at *
      simp only [bbI] at i1 i2
      rw [← L3] at i1 i2
      by_cases hc : i < k
      · have g3 : decide ((i : Int) < (k : Int)) = true := by simp; omega
        rw [hc1 hc]
        clear i2 hc1 hc2
        generalize foldR leaf i k r = T at *
        have hnd := node_A T.1 d (by omega) (by omega)
        generalize nodeF T.1 d = R at *
        refine callD_W 71 Try.func100 rfl rfl rfl (fun _ _ => rfl) ?_
        (repeat (first | (simp -implicitDefEqProofs only [ev, mixed, Nat.reduceLT, Nat.reduceAdd, Nat.reduceMul, reduceIte, Nat.reduceEqDiff, reduceCtorEq, Nat.reducePow, Nat.reduceLeDiff, Int.reduceLE, Int.reduceLT, Int.reduceToNat, Int.reduceEq, Nat.reduceBEq, itsOf, gdA, byteI, opid, lenQ, ixQ, ldH, readAt, readCells, asCell, faQ, exQ, fldQ, partA, buildQ, slQ, stH, bslH, appH, dcells, convI, elemsOf, D.one, nilS, fillD, convN, cvH, tyProofT0, intD, L1, g1, g2, w1]) | (with_reducible refine ⟨?_, ?_⟩; (· first | (obtain ⟨rfl⟩ := ‹Hq _ _›; with_reducible refine chk_ok ?_; kernel_rfl) | kernel_rfl)) | (with_reducible intro ops hops)))
        (first | refine Call_flat [] [] (hsp) (by simp [cvAs, cvA, cvRL, cvR, cvBox, cv1, cvL, cv0, bI, byteI, bbI, intD, boolD, proofD, elemsOf, upd]) rfl ?_ | refine CallF_flat [] [] [] (hsp) (fun G _ => by simp [cvAs, cvA, cvRL, cvR, cvBox, cv1, cvL, cv0, bI, byteI, bbI, intD, boolD, proofD, elemsOf, upd]) rfl ?_)
        (repeat (first | (simp -implicitDefEqProofs only [ev, mixed, Nat.reduceLT, Nat.reduceAdd, Nat.reduceMul, reduceIte, Nat.reduceEqDiff, reduceCtorEq, Nat.reducePow, Nat.reduceLeDiff, Int.reduceLE, Int.reduceLT, Int.reduceToNat, Int.reduceEq, Nat.reduceBEq, itsOf, gdA, byteI, opid, lenQ, ixQ, ldH, readAt, readCells, asCell, faQ, exQ, fldQ, partA, buildQ, slQ, stH, bslH, appH, dcells, convI, elemsOf, D.one, nilS, fillD, convN, cvH, tyProofT0, intD, g3, L1, L4, g4]) | (with_reducible refine ⟨?_, ?_⟩; (· first | (obtain ⟨rfl⟩ := ‹Hq _ _›; with_reducible refine chk_ok ?_; kernel_rfl) | kernel_rfl)) | (with_reducible intro ops hops)))
        (first | refine Call_frz [] (i1) (by simp [cvAs, cvA, cvRL, cvR, cvBox, cv1, cvL, cv0, bI, byteI, bbI, intD, boolD, proofD, elemsOf, upd]) ?_ | refine CallF_frz [] [] (i1) (fun G _ => by simp [cvAs, cvA, cvRL, cvR, cvBox, cv1, cvL, cv0, bI, byteI, bbI, intD, boolD, proofD, elemsOf, upd]) (by simp) ?_)
        (repeat (first | (simp -implicitDefEqProofs only [ev, mixed, Nat.reduceLT, Nat.reduceAdd, Nat.reduceMul, reduceIte, Nat.reduceEqDiff, reduceCtorEq, Nat.reducePow, Nat.reduceLeDiff, Int.reduceLE, Int.reduceLT, Int.reduceToNat, Int.reduceEq, Nat.reduceBEq, itsOf, gdA, byteI, opid, lenQ, ixQ, ldH, readAt, readCells, asCell, faQ, exQ, fldQ, partA, buildQ, slQ, stH, bslH, appH, dcells, convI, elemsOf, D.one, nilS, fillD, convN, cvH, tyProofT0, boolD, L2]) | (with_reducible refine ⟨?_, ?_⟩; (· first | (obtain ⟨rfl⟩ := ‹Hq _ _›; with_reducible refine chk_ok ?_; kernel_rfl) | kernel_rfl)) | (with_reducible intro ops hops)))
        (first | refine Call_frz [] (hnd) (by simp [cvAs, cvA, cvRL, cvR, cvBox, cv1, cvL, cv0, bI, byteI, bbI, intD, boolD, proofD, elemsOf, upd]) ?_ | refine CallF_frz [] [] (hnd) (fun G _ => by simp [cvAs, cvA, cvRL, cvR, cvBox, cv1, cvL, cv0, bI, byteI, bbI, intD, boolD, proofD, elemsOf, upd]) (by simp) ?_)
        (repeat (first | (simp -implicitDefEqProofs only [ev, mixed, Nat.reduceLT, Nat.reduceAdd, Nat.reduceMul, reduceIte, Nat.reduceEqDiff, reduceCtorEq, Nat.reducePow, Nat.reduceLeDiff, Int.reduceLE, Int.reduceLT, Int.reduceToNat, Int.reduceEq, Nat.reduceBEq, itsOf, gdA, byteI, opid, lenQ, ixQ, ldH, readAt, readCells, asCell, faQ, exQ, fldQ, partA, buildQ, slQ, stH, bslH, appH, dcells, convI, elemsOf, D.one, nilS, fillD, convN, cvH, tyProofT0, bI]) | (with_reducible refine ⟨?_, ?_⟩; (· first | (obtain ⟨rfl⟩ := ‹Hq _ _›; with_reducible refine chk_ok ?_; kernel_rfl) | kernel_rfl)) | (with_reducible intro ops hops)))
        refine fin_tt [] rfl ?_
        simp [cv, cvT, cv1, cv0, upd, intD, boolD, bI]
      · have g3 : decide ((i : Int) < (k : Int)) = false := by simp; omega
        have w2 : IntKind.i64.wrap ((i : Int) - (k : Int)) = ((i - k : Nat) : Int) := by rw [wrap64 (by omega) (by omega)]; omega
        have w3 : IntKind.i64.wrap ((n : Int) - (k : Int)) = ((n - k : Nat) : Int) := by rw [wrap64 (by omega) (by omega)]; omega
        rw [hc2 hc]
        clear i1 hc1 hc2
        generalize foldR leaf (i - k) (n - k) r = T at *
        have hnd := node_A d T.1 (by omega) (by omega)
        generalize nodeF d T.1 = R at *
        refine callD_W 71 Try.func100 rfl rfl rfl (fun _ _ => rfl) ?_
        (repeat (first | (simp -implicitDefEqProofs only [ev, mixed, Nat.reduceLT, Nat.reduceAdd, Nat.reduceMul, reduceIte, Nat.reduceEqDiff, reduceCtorEq, Nat.reducePow, Nat.reduceLeDiff, Int.reduceLE, Int.reduceLT, Int.reduceToNat, Int.reduceEq, Nat.reduceBEq, itsOf, gdA, byteI, opid, lenQ, ixQ, ldH, readAt, readCells, asCell, faQ, exQ, fldQ, partA, buildQ, slQ, stH, bslH, appH, dcells, convI, elemsOf, D.one, nilS, fillD, convN, cvH, tyProofT0, intD, L1, g1, g2, w1]) | (with_reducible refine ⟨?_, ?_⟩; (· first | (obtain ⟨rfl⟩ := ‹Hq _ _›; with_reducible refine chk_ok ?_; kernel_rfl) | kernel_rfl)) | (with_reducible intro ops hops)))
        (first | refine Call_flat [] [] (hsp) (by simp [cvAs, cvA, cvRL, cvR, cvBox, cv1, cvL, cv0, bI, byteI, bbI, intD, boolD, proofD, elemsOf, upd]) rfl ?_ | refine CallF_flat [] [] [] (hsp) (fun G _ => by simp [cvAs, cvA, cvRL, cvR, cvBox, cv1, cvL, cv0, bI, byteI, bbI, intD, boolD, proofD, elemsOf, upd]) rfl ?_)
        (repeat (first | (simp -implicitDefEqProofs only [ev, mixed, Nat.reduceLT, Nat.reduceAdd, Nat.reduceMul, reduceIte, Nat.reduceEqDiff, reduceCtorEq, Nat.reducePow, Nat.reduceLeDiff, Int.reduceLE, Int.reduceLT, Int.reduceToNat, Int.reduceEq, Nat.reduceBEq, itsOf, gdA, byteI, opid, lenQ, ixQ, ldH, readAt, readCells, asCell, faQ, exQ, fldQ, partA, buildQ, slQ, stH, bslH, appH, dcells, convI, elemsOf, D.one, nilS, fillD, convN, cvH, tyProofT0, intD, g3, L1, L4, g4, w2, w3]) | (with_reducible refine ⟨?_, ?_⟩; (· first | (obtain ⟨rfl⟩ := ‹Hq _ _›; with_reducible refine chk_ok ?_; kernel_rfl) | kernel_rfl)) | (with_reducible intro ops hops)))
        (first | refine Call_frz [] (i2) (by simp [cvAs, cvA, cvRL, cvR, cvBox, cv1, cvL, cv0, bI, byteI, bbI, intD, boolD, proofD, elemsOf, upd]) ?_ | refine CallF_frz [] [] (i2) (fun G _ => by simp [cvAs, cvA, cvRL, cvR, cvBox, cv1, cvL, cv0, bI, byteI, bbI, intD, boolD, proofD, elemsOf, upd]) (by simp) ?_)
        (repeat (first | (simp -implicitDefEqProofs only [ev, mixed, Nat.reduceLT, Nat.reduceAdd, Nat.reduceMul, reduceIte, Nat.reduceEqDiff, reduceCtorEq, Nat.reducePow, Nat.reduceLeDiff, Int.reduceLE, Int.reduceLT, Int.reduceToNat, Int.reduceEq, Nat.reduceBEq, itsOf, gdA, byteI, opid, lenQ, ixQ, ldH, readAt, readCells, asCell, faQ, exQ, fldQ, partA, buildQ, slQ, stH, bslH, appH, dcells, convI, elemsOf, D.one, nilS, fillD, convN, cvH, tyProofT0, boolD, L2]) | (with_reducible refine ⟨?_, ?_⟩; (· first | (obtain ⟨rfl⟩ := ‹Hq _ _›; with_reducible refine chk_ok ?_; kernel_rfl) | kernel_rfl)) | (with_reducible intro ops hops)))
        (first | refine Call_frz [] (hnd) (by simp [cvAs, cvA, cvRL, cvR, cvBox, cv1, cvL, cv0, bI, byteI, bbI, intD, boolD, proofD, elemsOf, upd]) ?_ | refine CallF_frz [] [] (hnd) (fun G _ => by simp [cvAs, cvA, cvRL, cvR, cvBox, cv1, cvL, cv0, bI, byteI, bbI, intD, boolD, proofD, elemsOf, upd]) (by simp) ?_)
        (repeat (first | (simp -implicitDefEqProofs only [ev, mixed, Nat.reduceLT, Nat.reduceAdd, Nat.reduceMul, reduceIte, Nat.reduceEqDiff, reduceCtorEq, Nat.reducePow, Nat.reduceLeDiff, Int.reduceLE, Int.reduceLT, Int.reduceToNat, Int.reduceEq, Nat.reduceBEq, itsOf, gdA, byteI, opid, lenQ, ixQ, ldH, readAt, readCells, asCell, faQ, exQ, fldQ, partA, buildQ, slQ, stH, bslH, appH, dcells, convI, elemsOf, D.one, nilS, fillD, convN, cvH, tyProofT0, bI]) | (with_reducible refine ⟨?_, ?_⟩; (· first | (obtain ⟨rfl⟩ := ‹Hq _ _›; with_reducible refine chk_ok ?_; kernel_rfl) | kernel_rfl)) | (with_reducible intro ops hops)))
        refine fin_tt [] rfl ?_
        simp [cv, cvT, cv1, cv0, upd, intD, boolD, bI]

def treeOf (p : ProofD) : List UInt8 × Bool := foldR (leafF p.k p.v) p.i.toNat p.n.toNat p.path.reverse
def shownF (root : List UInt8) (p : ProofD) : Bool := formF p && (treeOf p).2 && decide (topF p.n.toNat (treeOf p).1 = root)
theorem formF_yes {p : ProofD} (h : formF p = true) : 1 ≤ p.n ∧ p.n ≤ 200 ∧ 0 ≤ p.i ∧ p.i < p.n ∧ p.k.length ≤ 60 ∧ p.v.length ≤ 200 ∧ p.path.length ≤ 40 ∧ ∀ d ∈ p.path, d.length = 32 := by
  simp [formF, formG] at h
  exact ⟨by omega, by omega, by omega, by omega, by omega, by omega, by omega, h.2⟩
theorem shown_A (root : List UInt8) (p : ProofD) : PureD Try.prog 56 [.i (bI root), proofD p] (boolD (shownF root p)) := by
  have hfm := form_A p
  unfold shownF treeOf
  cases hf : formF p
  · rw [hf] at hfm
    simp only [Bool.false_and]
    refine callD_W 33 Try.func56 rfl rfl rfl (fun _ _ => rfl) ?_
    (repeat (first | (simp -implicitDefEqProofs only [ev, mixed, Nat.reduceLT, Nat.reduceAdd, Nat.reduceMul, reduceIte, Nat.reduceEqDiff, reduceCtorEq, Nat.reducePow, Nat.reduceLeDiff, Int.reduceLE, Int.reduceLT, Int.reduceToNat, Int.reduceEq, Nat.reduceBEq, itsOf, gdA, byteI, opid, lenQ, ixQ, ldH, readAt, readCells, asCell, faQ, exQ, fldQ, partA, buildQ, slQ, stH, bslH, appH, dcells, convI, elemsOf, D.one, nilS, fillD, convN, cvH, tyProofT1, proofD, intD]) | (with_reducible refine ⟨?_, ?_⟩; (· first | (obtain ⟨rfl⟩ := ‹Hq _ _›; with_reducible refine chk_ok ?_; kernel_rfl) | kernel_rfl)) | (with_reducible intro ops hops)))
    refine Call_flat [] [1000] hfm ⟨.inr ⟨1000, _, _, rfl, .inl ⟨by simp, rfl, _, by simp [upd]; rfl, by simp [formI, cvBox, cv0]⟩⟩, trivial⟩ rfl ?_
    (repeat (first | (simp -implicitDefEqProofs only [ev, mixed, Nat.reduceLT, Nat.reduceAdd, Nat.reduceMul, reduceIte, Nat.reduceEqDiff, reduceCtorEq, Nat.reducePow, Nat.reduceLeDiff, Int.reduceLE, Int.reduceLT, Int.reduceToNat, Int.reduceEq, Nat.reduceBEq, itsOf, gdA, byteI, opid, lenQ, ixQ, ldH, readAt, readCells, asCell, faQ, exQ, fldQ, partA, buildQ, slQ, stH, bslH, appH, dcells, convI, elemsOf, D.one, nilS, fillD, convN, cvH, tyProofT1, boolD]) | (with_reducible refine ⟨?_, ?_⟩; (· first | (obtain ⟨rfl⟩ := ‹Hq _ _›; with_reducible refine chk_ok ?_; kernel_rfl) | kernel_rfl)) | (with_reducible intro ops hops)))
    refine fin_ret [] rfl ?_
    simp [cv, cv1, cv0, upd, boolD]
  · rw [hf] at hfm
    simp only [Bool.true_and]
    obtain ⟨a1, a2, a3, a4, a5, a6, a7, a8⟩ := formF_yes hf
    clear hf
    have hl := leaf_A p.k p.v (by omega) (by omega)
    have hlen : (leafF p.k p.v).length = 32 := sha_length _
    generalize leafF p.k p.v = F at *
    have ht := ptree_A F (by omega) p.path.reverse p.i.toNat p.n.toNat (fun d hd => a8 d (by simpa using hd)) (by simp; omega) (by omega) (by omega) (by omega)
    have hT := foldR_len F (by omega) p.path.reverse p.i.toNat p.n.toNat
    rw [List.reverse_reverse, Int.toNat_of_nonneg a3, Int.toNat_of_nonneg (by omega)] at ht
    generalize foldR F p.i.toNat p.n.toNat p.path.reverse = T at *
    have htp := top_A p.n.toNat T.1 (by omega)
    rw [Int.toNat_of_nonneg (by omega)] at htp
    generalize topF p.n.toNat T.1 = R at *
    clear a1 a2 a3 a4 a5 a6 a7 a8
    obtain ⟨i, n, k, v, q⟩ := p
    obtain ⟨t, ok⟩ := T
    simp only at *
    refine callD_W 33 Try.func56 rfl rfl rfl (fun _ _ => rfl) ?_
    (repeat (first | (simp -implicitDefEqProofs only [ev, mixed, Nat.reduceLT, Nat.reduceAdd, Nat.reduceMul, reduceIte, Nat.reduceEqDiff, reduceCtorEq, Nat.reducePow, Nat.reduceLeDiff, Int.reduceLE, Int.reduceLT, Int.reduceToNat, Int.reduceEq, Nat.reduceBEq, itsOf, gdA, byteI, opid, lenQ, ixQ, ldH, readAt, readCells, asCell, faQ, exQ, fldQ, partA, buildQ, slQ, stH, bslH, appH, dcells, convI, elemsOf, D.one, nilS, fillD, convN, cvH, tyProofT1, proofD, intD]) | (with_reducible refine ⟨?_, ?_⟩; (· first | (obtain ⟨rfl⟩ := ‹Hq _ _›; with_reducible refine chk_ok ?_; kernel_rfl) | kernel_rfl)) | (with_reducible intro ops hops)))
    refine Call_flat [] [1000] hfm ⟨.inr ⟨1000, _, _, rfl, .inl ⟨by simp, rfl, _, by simp [upd]; rfl, by simp [formI, cvBox, cv0]⟩⟩, trivial⟩ rfl ?_
    (repeat (first | (simp -implicitDefEqProofs only [ev, mixed, Nat.reduceLT, Nat.reduceAdd, Nat.reduceMul, reduceIte, Nat.reduceEqDiff, reduceCtorEq, Nat.reducePow, Nat.reduceLeDiff, Int.reduceLE, Int.reduceLT, Int.reduceToNat, Int.reduceEq, Nat.reduceBEq, itsOf, gdA, byteI, opid, lenQ, ixQ, ldH, readAt, readCells, asCell, faQ, exQ, fldQ, partA, buildQ, slQ, stH, bslH, appH, dcells, convI, elemsOf, D.one, nilS, fillD, convN, cvH, tyProofT1, boolD]) | (with_reducible refine ⟨?_, ?_⟩; (· first | (obtain ⟨rfl⟩ := ‹Hq _ _›; with_reducible refine chk_ok ?_; kernel_rfl) | kernel_rfl)) | (with_reducible intro ops hops)))
    (first | refine Call_frz [] (hl) (by simp [cvAs, cvA, cvRL, cvR, cvBox, cv1, cvL, cv0, bI, byteI, bbI, intD, boolD, proofD, elemsOf, upd]) ?_ | refine CallF_frz [] [] (hl) (fun G _ => by simp [cvAs, cvA, cvRL, cvR, cvBox, cv1, cvL, cv0, bI, byteI, bbI, intD, boolD, proofD, elemsOf, upd]) (by simp) ?_)
    (repeat (first | (simp -implicitDefEqProofs only [ev, mixed, Nat.reduceLT, Nat.reduceAdd, Nat.reduceMul, reduceIte, Nat.reduceEqDiff, reduceCtorEq, Nat.reducePow, Nat.reduceLeDiff, Int.reduceLE, Int.reduceLT, Int.reduceToNat, Int.reduceEq, Nat.reduceBEq, itsOf, gdA, byteI, opid, lenQ, ixQ, ldH, readAt, readCells, asCell, faQ, exQ, fldQ, partA, buildQ, slQ, stH, bslH, appH, dcells, convI, elemsOf, D.one, nilS, fillD, convN, cvH, tyProofT1]) | (with_reducible refine ⟨?_, ?_⟩; (· first | (obtain ⟨rfl⟩ := ‹Hq _ _›; with_reducible refine chk_ok ?_; kernel_rfl) | kernel_rfl)) | (with_reducible intro ops hops)))
    (first | refine Call_frz [] (ht) (by simp [cvAs, cvA, cvRL, cvR, cvBox, cv1, cvL, cv0, bI, byteI, bbI, intD, boolD, proofD, elemsOf, upd]) ?_ | refine CallF_frz [] [] (ht) (fun G _ => by simp [cvAs, cvA, cvRL, cvR, cvBox, cv1, cvL, cv0, bI, byteI, bbI, intD, boolD, proofD, elemsOf, upd]) (by simp) ?_)
    cases ok
    · (repeat (first | (simp -implicitDefEqProofs only [ev, mixed, Nat.reduceLT, Nat.reduceAdd, Nat.reduceMul, reduceIte, Nat.reduceEqDiff, reduceCtorEq, Nat.reducePow, Nat.reduceLeDiff, Int.reduceLE, Int.reduceLT, Int.reduceToNat, Int.reduceEq, Nat.reduceBEq, itsOf, gdA, byteI, opid, lenQ, ixQ, ldH, readAt, readCells, asCell, faQ, exQ, fldQ, partA, buildQ, slQ, stH, bslH, appH, dcells, convI, elemsOf, D.one, nilS, fillD, convN, cvH, tyProofT1, boolD]) | (with_reducible refine ⟨?_, ?_⟩; (· first | (obtain ⟨rfl⟩ := ‹Hq _ _›; with_reducible refine chk_ok ?_; kernel_rfl) | kernel_rfl)) | (with_reducible intro ops hops)))
      refine fin_ret [] rfl ?_
      simp [cv, cv1, cv0, upd, boolD]
    · (repeat (first | (simp -implicitDefEqProofs only [ev, mixed, Nat.reduceLT, Nat.reduceAdd, Nat.reduceMul, reduceIte, Nat.reduceEqDiff, reduceCtorEq, Nat.reducePow, Nat.reduceLeDiff, Int.reduceLE, Int.reduceLT, Int.reduceToNat, Int.reduceEq, Nat.reduceBEq, itsOf, gdA, byteI, opid, lenQ, ixQ, ldH, readAt, readCells, asCell, faQ, exQ, fldQ, partA, buildQ, slQ, stH, bslH, appH, dcells, convI, elemsOf, D.one, nilS, fillD, convN, cvH, tyProofT1, boolD]) | (with_reducible refine ⟨?_, ?_⟩; (· first | (obtain ⟨rfl⟩ := ‹Hq _ _›; with_reducible refine chk_ok ?_; kernel_rfl) | kernel_rfl)) | (with_reducible intro ops hops)))
      (first | refine Call_frz [] (htp) (by simp [cvAs, cvA, cvRL, cvR, cvBox, cv1, cvL, cv0, bI, byteI, bbI, intD, boolD, proofD, elemsOf, upd]) ?_ | refine CallF_frz [] [] (htp) (fun G _ => by simp [cvAs, cvA, cvRL, cvR, cvBox, cv1, cvL, cv0, bI, byteI, bbI, intD, boolD, proofD, elemsOf, upd]) (by simp) ?_)
      (repeat (first | (simp -implicitDefEqProofs only [ev, mixed, Nat.reduceLT, Nat.reduceAdd, Nat.reduceMul, reduceIte, Nat.reduceEqDiff, reduceCtorEq, Nat.reducePow, Nat.reduceLeDiff, Int.reduceLE, Int.reduceLT, Int.reduceToNat, Int.reduceEq, Nat.reduceBEq, itsOf, gdA, byteI, opid, lenQ, ixQ, ldH, readAt, readCells, asCell, faQ, exQ, fldQ, partA, buildQ, slQ, stH, bslH, appH, dcells, convI, elemsOf, D.one, nilS, fillD, convN, cvH, tyProofT1]) | (with_reducible refine ⟨?_, ?_⟩; (· first | (obtain ⟨rfl⟩ := ‹Hq _ _›; with_reducible refine chk_ok ?_; kernel_rfl) | kernel_rfl)) | (with_reducible intro ops hops)))
      (first | refine Call_flat [] [] (equal_A R root) (by simp [cvAs, cvA, cvRL, cvR, cvBox, cv1, cvL, cv0, bI, byteI, bbI, intD, boolD, proofD, elemsOf, upd]) rfl ?_ | refine CallF_flat [] [] [] (equal_A R root) (fun G _ => by simp [cvAs, cvA, cvRL, cvR, cvBox, cv1, cvL, cv0, bI, byteI, bbI, intD, boolD, proofD, elemsOf, upd]) rfl ?_)
      (repeat (first | (simp -implicitDefEqProofs only [ev, mixed, Nat.reduceLT, Nat.reduceAdd, Nat.reduceMul, reduceIte, Nat.reduceEqDiff, reduceCtorEq, Nat.reducePow, Nat.reduceLeDiff, Int.reduceLE, Int.reduceLT, Int.reduceToNat, Int.reduceEq, Nat.reduceBEq, itsOf, gdA, byteI, opid, lenQ, ixQ, ldH, readAt, readCells, asCell, faQ, exQ, fldQ, partA, buildQ, slQ, stH, bslH, appH, dcells, convI, elemsOf, D.one, nilS, fillD, convN, cvH, tyProofT1]) | (with_reducible refine ⟨?_, ?_⟩; (· first | (obtain ⟨rfl⟩ := ‹Hq _ _›; with_reducible refine chk_ok ?_; kernel_rfl) | kernel_rfl)) | (with_reducible intro ops hops)))
      refine fin_ret [] rfl ?_
      simp [cv, cv1, cv0, upd, boolD]
end Go.Proofs.Ytdpfjmkilbepgaa
/- book.Get, proof.ShowGap, Absent: by value. -/
set_option linter.all false
namespace Go.Proofs.Ytdpfjmkilbepgaa
open Go Go.Abs Go.RowKit Go.Proofs.Ytdpfjmkilbepgaa.Ty

def getF (l : List PairD) (key : List UInt8) : List UInt8 × Bool :=
  if h : placeF l key < l.length then (if l[placeF l key].k = key then (l[placeF l key].v, true) else ([], false)) else ([], false)
structure GapD where
  hl : Bool
  hr : Bool
  left : ProofD
  right : ProofD
def gapD (g : GapD) : D := .agg [boolD g.hl, boolD g.hr, intD g.left.i, intD g.left.n, .i (bI g.left.k), .i (bI g.left.v), .i (bbI g.left.path), intD g.right.i, intD g.right.n, .i (bI g.right.k), .i (bI g.right.v), .i (bbI g.right.path)]
def zeroG : GapD := ⟨false, false, zeroP, zeroP⟩
def atZ (l : List PairD) (b : Bool) (i : Nat) : ProofD := if h : b = true ∧ i < l.length then atF l i h.2 else zeroP
def gapF (l : List PairD) (key : List UInt8) : GapD × Nat :=
  if (wrongF l).1 = 0 then (if thereF l key then (zeroG, 7) else (⟨decide (0 < placeF l key), decide (placeF l key < l.length), atZ l (decide (0 < placeF l key)) (placeF l key - 1), atZ l (decide (placeF l key < l.length)) (placeF l key)⟩, 0)) else (zeroG, (wrongF l).1)
set_option maxHeartbeats 4000000
end Go.Proofs.Ytdpfjmkilbepgaa
/- proof.Absent: by value. -/
set_option linter.all false
namespace Go.Proofs.Ytdpfjmkilbepgaa
open Go Go.Abs Go.RowKit Go.Proofs.Ytdpfjmkilbepgaa.Ty

def absentF (root key : List UInt8) (g : GapD) : Bool :=
  match g.hl, g.hr with
  | false, false => decide (topF 0 [] = root)
  | true, false => shownF root g.left && decide (Lib.compareBytes g.left.k key < 0) && decide (g.left.i = g.left.n - 1)
  | false, true => shownF root g.right && decide (Lib.compareBytes key g.right.k < 0) && decide (g.right.i = 0)
  | true, true => shownF root g.left && decide (Lib.compareBytes g.left.k key < 0) && (shownF root g.right && decide (Lib.compareBytes key g.right.k < 0)) && (decide (g.left.n = g.right.n) && decide (g.left.i + 1 = g.right.i))
theorem shownF_form {r : List UInt8} {p : ProofD} (h : shownF r p = true) : formF p = true := by
  unfold shownF at h; simp only [Bool.and_eq_true] at h; exact h.1.1
attribute [local simp, local go_sem] proofD gapD bbI
set_option maxHeartbeats 4000000
set_option maxRecDepth 20000
theorem absent_A (root key : List UInt8) (g : GapD) : PureD Try.prog 60 [.i (bI root), .i (bI key), gapD g] (boolD (absentF root key g)) := by
  refine hide_r fun R hR => ?_
  obtain ⟨hl, hr, ⟨li, ln, lk, lv, lp⟩, ⟨ri, rn, rk, rv, rp⟩⟩ := g
  have c1 := shown_A root ⟨li, ln, lk, lv, lp⟩
  have c2 := shown_A root ⟨ri, rn, rk, rv, rp⟩
  have c3 := cmp_A lk key
  have c4 := cmp_A key rk
  have c5 := top_A 0 [] (by simp)
  have c6 := equal_A (topF 0 []) root
  have fL : shownF root ⟨li, ln, lk, lv, lp⟩ = true → 1 ≤ ln ∧ ln ≤ 200 ∧ 0 ≤ li ∧ li < ln := fun h => by
    obtain ⟨a1, a2, a3, a4, _⟩ := formF_yes (shownF_form h)
    exact ⟨a1, a2, a3, a4⟩
  cases hl <;> cases hr <;> simp only [absentF] at hR
  · clear c1 c2 fL
    generalize topF 0 [] = T at *
    refine callD_W 89 Try.func60 rfl rfl rfl (fun _ _ => rfl) ?_
    exact wkl trivial
  · clear c1 fL
    generalize shownF root ⟨ri, rn, rk, rv, rp⟩ = S at *
    generalize Lib.compareBytes key rk = C at *
    cases S <;> by_cases q : C < 0 <;> simp only [q, decide_true, decide_false, Bool.true_and, Bool.false_and, Bool.and_false, Bool.and_true] at hR
    all_goals
      refine callD_W 89 Try.func60 rfl rfl rfl (fun _ _ => rfl) ?_
      exact wkl trivial
  · clear c2
    generalize shownF root ⟨li, ln, lk, lv, lp⟩ = S at *
    generalize Lib.compareBytes lk key = C at *
    cases S <;> by_cases q : C < 0 <;> simp only [q, decide_true, decide_false, Bool.true_and, Bool.false_and, Bool.and_false, Bool.and_true] at hR
    all_goals
      try (have fL := fL rfl)
      refine callD_W 89 Try.func60 rfl rfl rfl (fun _ _ => rfl) ?_
      exact wkl trivial
  · generalize shownF root ⟨li, ln, lk, lv, lp⟩ = S at *
    generalize shownF root ⟨ri, rn, rk, rv, rp⟩ = S' at *
    generalize Lib.compareBytes lk key = C at *
    generalize Lib.compareBytes key rk = C' at *
    cases S
    · simp only [Bool.false_and] at hR
      refine callD_W 89 Try.func60 rfl rfl rfl (fun _ _ => rfl) ?_
      exact wkl trivial
    · have fL := fL rfl
      by_cases q : C < 0
      · cases S' <;> by_cases q' : C' < 0 <;> simp only [q, q', decide_true, decide_false, Bool.true_and, Bool.false_and, Bool.and_false, Bool.and_true] at hR
        all_goals
          refine callD_W 89 Try.func60 rfl rfl rfl (fun _ _ => rfl) ?_
          exact wkl trivial
      · simp only [q, decide_false, Bool.and_false, Bool.false_and] at hR
        refine callD_W 89 Try.func60 rfl rfl rfl (fun _ _ => rfl) ?_
        exact wkl trivial
end Go.Proofs.Ytdpfjmkilbepgaa
/- client.Member, Missing: by value. -/
set_option linter.all false
namespace Go.Proofs.Ytdpfjmkilbepgaa
open Go Go.Abs Go.RowKit Go.Proofs.Ytdpfjmkilbepgaa.Ty
attribute [simp, go_sem] proofD gapD bbI

def memberE (c : ClientD) (now h : Int) (key val : List UInt8) (p : ProofD) : Int :=
  if askedE c now = 0 then
    (match atC c h with
    | none => 6
    | some k => if activeC c now = true then (if p.k = key ∧ p.v = val ∧ shownF k.root p = true then 0 else 9) else 11)
  else askedE c now
def missingE (c : ClientD) (now h : Int) (key : List UInt8) (g : GapD) : Int :=
  if askedE c now = 0 then
    (match atC c h with
    | none => 6
    | some k => if activeC c now = true then (if absentF k.root key g = true then 0 else 9) else 11)
  else askedE c now
theorem last_mem {c : ClientD} (h : 1 ≤ c.known.length) : lastC c ∈ c.known := by
  unfold lastC
  rw [List.getLastD_eq_getLast?, List.getLast?_eq_getElem?, List.getElem?_eq_getElem (by omega)]
  exact List.getElem_mem _
theorem act_A {c : ClientD} {now : Int} (ok : ClOk c) (hn : 0 ≤ now ∧ now ≤ 1000000000000) : PureD Try.prog 49 [clientD c, intD now] (boolD (activeC c now)) := by
  have hl := ok.len
  have hk := (ok.k _ (last_mem hl.1)).t
  exact cactive_A c now (by omega) (by omega) (by omega) (by omega)
set_option maxHeartbeats 4000000
set_option maxRecDepth 20000
theorem cmember_A (c : ClientD) (now h : Int) (key val : List UInt8) (p : ProofD) (hl : c.known.length ≤ 1048576) :
    PureD Try.prog 16 [clientD c, intD now, intD h, .i (bI key), .i (bI val), proofD p] (intD (memberE c now h key val p)) := by
  refine hide_r fun R hR => ?_
  have c1 := casked_A c now hl
  unfold memberE at hR
  by_cases h1 : askedE c now = 0
  · obtain ⟨ok, hn, hfz⟩ := asked_zero.1 h1
    rw [if_pos h1] at hR
    rw [h1] at c1
    have c2 := cat_A c h ok.sm
    have c3 := act_A ok hn
    have c4 := equal_A p.k key
    have c5 := equal_A p.v val
    unfold atR at c2
    clear h1 ok hn hfz hl
    cases h2 : atC c h with
    | none =>
      rw [h2] at c2 hR
      simp only [zeroK] at c2
      clear h2
      refine callD_W 55 Try.func16 rfl rfl rfl (fun _ _ => rfl) ?_
      exact wkl trivial
    | some k =>
      rw [h2] at c2 hR
      simp only at c2 hR
      have c6 := shown_A k.root p
      clear h2
      generalize activeC c now = A at *
      generalize shownF k.root p = B at *
      by_cases m1 : p.k = key <;> by_cases m2 : p.v = val <;> simp only [m1, m2, true_and, false_and, decide_true, decide_false, if_false] at hR c4 c5
      all_goals
        refine callD_W 55 Try.func16 rfl rfl rfl (fun _ _ => rfl) ?_
        exact wkl trivial
  · rw [if_neg h1] at hR
    generalize askedE c now = W at *
    refine callD_W 55 Try.func16 rfl rfl rfl (fun _ _ => rfl) ?_
    exact wkl trivial
theorem cmissing_A (c : ClientD) (now h : Int) (key : List UInt8) (g : GapD) (hl : c.known.length ≤ 1048576) :
    PureD Try.prog 18 [clientD c, intD now, intD h, .i (bI key), gapD g] (intD (missingE c now h key g)) := by
  refine hide_r fun R hR => ?_
  have c1 := casked_A c now hl
  unfold missingE at hR
  by_cases h1 : askedE c now = 0
  · obtain ⟨ok, hn, hfz⟩ := asked_zero.1 h1
    rw [if_pos h1] at hR
    rw [h1] at c1
    have c2 := cat_A c h ok.sm
    have c3 := act_A ok hn
    unfold atR at c2
    clear h1 ok hn hfz hl
    cases h2 : atC c h with
    | none =>
      rw [h2] at c2 hR
      simp only [zeroK] at c2
      clear h2
      refine callD_W 40 Try.func18 rfl rfl rfl (fun _ _ => rfl) ?_
      exact wkl trivial
    | some k =>
      rw [h2] at c2 hR
      simp only at c2 hR
      have c6 := absent_A k.root key g
      clear h2
      generalize activeC c now = A at *
      generalize absentF k.root key g = B at *
      refine callD_W 40 Try.func18 rfl rfl rfl (fun _ _ => rfl) ?_
      exact wkl trivial
  · rw [if_neg h1] at hR
    generalize askedE c now = W at *
    refine callD_W 40 Try.func18 rfl rfl rfl (fun _ _ => rfl) ?_
    exact wkl trivial
end Go.Proofs.Ytdpfjmkilbepgaa
/- landref4.Less, Wrong, Half: by value. -/
set_option linter.all false
namespace Go.Proofs.Ytdpfjmkilbepgaa
open Go Go.Abs Go.RowKit Go.Proofs.Ytdpfjmkilbepgaa.Ty
theorem tyRefA0 : (type_of% @Ty.T3) ∧ (type_of% @Ty.T5) ∧ (type_of% @Ty.T25) := ⟨@Ty.T3, @Ty.T5, @Ty.T25⟩
theorem tyRefA1 : (type_of% @Ty.T3) := @Ty.T3

theorem byte_neq (x y : UInt8) : decide ((x.toNat : Int) = (y.toNat : Int)) = decide (x = y) := by
  by_cases h : x = y
  · subst h; simp
  · rw [decide_eq_false h, decide_eq_false]
    intro hc; exact h (UInt8.toNat_inj.1 (by omega))
set_option maxHeartbeats 4000000
theorem less_A (a b : List UInt8) (ha : a.length ≤ 1099511627776) : PureD Try.prog 108 [.i (bI a), .i (bI b)] (boolD (decide (Lib.compareBytes a b < 0))) := by
  refine callD_W 41 Try.func108 rfl rfl rfl (fun _ _ => rfl) ?_
  (repeat (first | (simp -implicitDefEqProofs only [ev, mixed, Nat.reduceLT, Nat.reduceAdd, Nat.reduceMul, reduceIte, Nat.reduceEqDiff, reduceCtorEq, Nat.reducePow, Nat.reduceLeDiff, Int.reduceLE, Int.reduceLT, Int.reduceToNat, Int.reduceEq, Nat.reduceBEq, itsOf, gdA, byteI, opid, lenQ, ixQ, ldH, readAt, readCells, asCell, faQ, exQ, fldQ, partA, buildQ, slQ, stH, bslH, appH, dcells, convI, elemsOf, D.one, nilS, fillD, convN, cvH, tyRefA0, bI]) | (with_reducible refine ⟨?_, ?_⟩; (· first | (obtain ⟨rfl⟩ := ‹Hq _ _›; with_reducible refine chk_ok ?_; kernel_rfl) | kernel_rfl)) | (with_reducible intro ops hops)))
  refine W_loopI (ι := Nat) (fun k => k ≤ a.length ∧ k ≤ b.length ∧ Lib.compareBytes a b = Lib.compareBytes (a.drop k) (b.drop k))
    (fun k => stOf [(0, .i (bI a)), (1, .i (bI b)), (5, intD k)] []) (fun k => a.length - k) 0 ⟨Nat.zero_le _, Nat.zero_le _, rfl⟩ ?_ ?_
  · refine le_stOf _ _ [] [] ?_ ?_ rfl rfl
    · simp [cv, cvL, cv1, cv0, upd, lk, srcOf, intD, bI]
    · simp
  · rintro k ⟨hk, hk', hc⟩
    rw [stOf_eq]
    by_cases h1 : k < a.length
    · have g1 : decide ((k : Int) < (a.length : Int)) = true := decide_eq_true (by omega)
      by_cases h2 : k < b.length
      · have g2 : decide ((k : Int) < (b.length : Int)) = true := decide_eq_true (by omega)
        have e1 : (a.map byteI)[k]? = some [.s (.int .u8 (a[k].toNat : Int))] := by simp [h1, byteI]
        have e2 : (b.map byteI)[k]? = some [.s (.int .u8 (b[k].toNat : Int))] := by simp [h2, byteI]
        have w1 : IntKind.i64.wrap ((k : Int) + 1) = ((k + 1 : Nat) : Int) := by rw [wrap64 (by omega) (by omega)]; omega
        rw [List.drop_eq_getElem_cons h1, List.drop_eq_getElem_cons h2, cmp_cc] at hc
        generalize a[k] = x at *
        generalize b[k] = y at *
        (repeat (first | (simp -implicitDefEqProofs only [ev, mixed, Nat.reduceLT, Nat.reduceAdd, Nat.reduceMul, reduceIte, Nat.reduceEqDiff, reduceCtorEq, Nat.reducePow, Nat.reduceLeDiff, Int.reduceLE, Int.reduceLT, Int.reduceToNat, Int.reduceEq, Nat.reduceBEq, itsOf, gdA, byteI, opid, lenQ, ixQ, ldH, readAt, readCells, asCell, faQ, exQ, fldQ, partA, buildQ, slQ, stH, bslH, appH, dcells, convI, elemsOf, D.one, nilS, fillD, convN, cvH, tyRefA0, intD, bI, g1, g2, e1, e2, byte_neq]) | (with_reducible refine ⟨?_, ?_⟩; (· first | (obtain ⟨rfl⟩ := ‹Hq _ _›; with_reducible refine chk_ok ?_; kernel_rfl) | kernel_rfl)) | (with_reducible intro ops hops)))
        refine Wc_split (fun h => ?_) (fun h => ?_)
        · have hne : x ≠ y := by simpa using h
          (repeat (first | (simp -implicitDefEqProofs only [ev, mixed, Nat.reduceLT, Nat.reduceAdd, Nat.reduceMul, reduceIte, Nat.reduceEqDiff, reduceCtorEq, Nat.reducePow, Nat.reduceLeDiff, Int.reduceLE, Int.reduceLT, Int.reduceToNat, Int.reduceEq, Nat.reduceBEq, itsOf, gdA, byteI, opid, lenQ, ixQ, ldH, readAt, readCells, asCell, faQ, exQ, fldQ, partA, buildQ, slQ, stH, bslH, appH, dcells, convI, elemsOf, D.one, nilS, fillD, convN, cvH, tyRefA0, e1, e2]) | (with_reducible refine ⟨?_, ?_⟩; (· first | (obtain ⟨rfl⟩ := ‹Hq _ _›; with_reducible refine chk_ok ?_; kernel_rfl) | kernel_rfl)) | (with_reducible intro ops hops)))
          refine fin_ret [] rfl ?_
          have hr : decide (Lib.compareBytes a b < 0) = decide ((x.toNat : Int) < (y.toNat : Int)) := by
            rw [hc]
            by_cases hxy : x < y
            · rw [if_pos hxy, decide_eq_true (by decide), decide_eq_true (by have := UInt8.lt_iff_toNat_lt.1 hxy; omega)]
            · rw [if_neg hxy]
              have hyx : y < x := by
                have h3 : ¬ x.toNat < y.toNat := fun hh => hxy (UInt8.lt_iff_toNat_lt.2 hh)
                have h4 : x.toNat ≠ y.toNat := fun hh => hne (UInt8.toNat_inj.1 hh)
                exact UInt8.lt_iff_toNat_lt.2 (by omega)
              rw [if_pos hyx, decide_eq_false (by decide), decide_eq_false (by have := UInt8.lt_iff_toNat_lt.1 hyx; omega)]
          simp [cv, cv1, cv0, upd, boolD, hr]
        · have hne : x = y := by simpa using h
          subst hne
          have hx : ¬ x < x := fun hh => by have := UInt8.lt_iff_toNat_lt.1 hh; omega
          rw [if_neg hx, if_neg hx] at hc
          (repeat (first | (simp -implicitDefEqProofs only [ev, mixed, Nat.reduceLT, Nat.reduceAdd, Nat.reduceMul, reduceIte, Nat.reduceEqDiff, reduceCtorEq, Nat.reducePow, Nat.reduceLeDiff, Int.reduceLE, Int.reduceLT, Int.reduceToNat, Int.reduceEq, Nat.reduceBEq, itsOf, gdA, byteI, opid, lenQ, ixQ, ldH, readAt, readCells, asCell, faQ, exQ, fldQ, partA, buildQ, slQ, stH, bslH, appH, dcells, convI, elemsOf, D.one, nilS, fillD, convN, cvH, tyRefA0, w1]) | (with_reducible refine ⟨?_, ?_⟩; (· first | (obtain ⟨rfl⟩ := ‹Hq _ _›; with_reducible refine chk_ok ?_; kernel_rfl) | kernel_rfl)) | (with_reducible intro ops hops)))
          refine ⟨k + 1, ⟨h1, h2, hc⟩, le_stOf _ _ [] [] ?_ ?_ rfl rfl, by simp; omega⟩
          · simp [cv, cvL, cv1, cv0, upd, lk, srcOf, intD, bI]
          · simp
      · have g2 : decide ((k : Int) < (b.length : Int)) = false := decide_eq_false (by omega)
        have hr : decide (Lib.compareBytes a b < 0) = decide ((a.length : Int) < (b.length : Int)) := by
          rw [hc, List.drop_eq_getElem_cons h1, List.drop_eq_nil_of_le (by omega : b.length ≤ k), cmp_cn, decide_eq_false (by decide), decide_eq_false (by omega)]
        (repeat (first | (simp -implicitDefEqProofs only [ev, mixed, Nat.reduceLT, Nat.reduceAdd, Nat.reduceMul, reduceIte, Nat.reduceEqDiff, reduceCtorEq, Nat.reducePow, Nat.reduceLeDiff, Int.reduceLE, Int.reduceLT, Int.reduceToNat, Int.reduceEq, Nat.reduceBEq, itsOf, gdA, byteI, opid, lenQ, ixQ, ldH, readAt, readCells, asCell, faQ, exQ, fldQ, partA, buildQ, slQ, stH, bslH, appH, dcells, convI, elemsOf, D.one, nilS, fillD, convN, cvH, tyRefA0, intD, bI, g1, g2]) | (with_reducible refine ⟨?_, ?_⟩; (· first | (obtain ⟨rfl⟩ := ‹Hq _ _›; with_reducible refine chk_ok ?_; kernel_rfl) | kernel_rfl)) | (with_reducible intro ops hops)))
        refine fin_ret [] rfl ?_
        simp [cv, cv1, cv0, upd, boolD, hr]
    · have g1 : decide ((k : Int) < (a.length : Int)) = false := decide_eq_false (by omega)
      have hr : decide (Lib.compareBytes a b < 0) = decide ((a.length : Int) < (b.length : Int)) := by
        rw [hc, List.drop_eq_nil_of_le (by omega : a.length ≤ k)]
        by_cases h2 : k < b.length
        · rw [List.drop_eq_getElem_cons h2, cmp_nc, decide_eq_true (by decide), decide_eq_true (by omega)]
        · rw [List.drop_eq_nil_of_le (by omega : b.length ≤ k), cmp_nn, decide_eq_false (by decide), decide_eq_false (by omega)]
      (repeat (first | (simp -implicitDefEqProofs only [ev, mixed, Nat.reduceLT, Nat.reduceAdd, Nat.reduceMul, reduceIte, Nat.reduceEqDiff, reduceCtorEq, Nat.reducePow, Nat.reduceLeDiff, Int.reduceLE, Int.reduceLT, Int.reduceToNat, Int.reduceEq, Nat.reduceBEq, itsOf, gdA, byteI, opid, lenQ, ixQ, ldH, readAt, readCells, asCell, faQ, exQ, fldQ, partA, buildQ, slQ, stH, bslH, appH, dcells, convI, elemsOf, D.one, nilS, fillD, convN, cvH, tyRefA0, intD, bI, g1]) | (with_reducible refine ⟨?_, ?_⟩; (· first | (obtain ⟨rfl⟩ := ‹Hq _ _›; with_reducible refine chk_ok ?_; kernel_rfl) | kernel_rfl)) | (with_reducible intro ops hops)))
      refine fin_ret [] rfl ?_
      simp [cv, cv1, cv0, upd, boolD, hr]

theorem half_A (n : Nat) (h0 : 1 ≤ n) (hn : n ≤ 1048576) : PureD Try.prog 131 [intD n] (intD (splitF n)) := by
  refine callD_W 11 Try.func131 rfl rfl rfl (fun _ _ => rfl) ?_
  (repeat (first | (simp -implicitDefEqProofs only [ev, mixed, Nat.reduceLT, Nat.reduceAdd, Nat.reduceMul, reduceIte, Nat.reduceEqDiff, reduceCtorEq, Nat.reducePow, Nat.reduceLeDiff, Int.reduceLE, Int.reduceLT, Int.reduceToNat, Int.reduceEq, Nat.reduceBEq, itsOf, gdA, byteI, opid, lenQ, ixQ, ldH, readAt, readCells, asCell, faQ, exQ, fldQ, partA, buildQ, slQ, stH, bslH, appH, dcells, convI, elemsOf, D.one, nilS, fillD, convN, cvH, tyRefA1, intD]) | (with_reducible refine ⟨?_, ?_⟩; (· first | (obtain ⟨rfl⟩ := ‹Hq _ _›; with_reducible refine chk_ok ?_; kernel_rfl) | kernel_rfl)) | (with_reducible intro ops hops)))
  refine W_loopI (ι := Nat) (fun i => 2 ^ i = 1 ∨ 2 ^ i < n)
    (fun i => stOf [(0, intD n), (3, intD (2 ^ i : Nat))] []) (fun i => n - 2 ^ i) 0 (.inl rfl) ?_ ?_
  · refine le_stOf _ _ [] [] ?_ ?_ rfl rfl
    · simp [cv, cv1, cv0, upd, lk, srcOf, intD]
    · simp
  · rintro i hi
    rw [stOf_eq]
    have hp : 0 < 2 ^ i := Nat.pow_pos (by decide)
    have hs : 2 ^ (i + 1) = 2 * 2 ^ i := by rw [Nat.pow_succ]; omega
    have hfin := pow2_split hi
    have w1 : IntKind.i64.wrap (2 * ((2 ^ i : Nat) : Int)) = ((2 ^ (i + 1) : Nat) : Int) := by rw [hs, wrap64 (by omega) (by omega)]; omega
    generalize hx : 2 ^ i = x at *
    generalize hy : 2 ^ (i + 1) = y at *
    (repeat (first | (simp -implicitDefEqProofs only [ev, mixed, Nat.reduceLT, Nat.reduceAdd, Nat.reduceMul, reduceIte, Nat.reduceEqDiff, reduceCtorEq, Nat.reducePow, Nat.reduceLeDiff, Int.reduceLE, Int.reduceLT, Int.reduceToNat, Int.reduceEq, Nat.reduceBEq, itsOf, gdA, byteI, opid, lenQ, ixQ, ldH, readAt, readCells, asCell, faQ, exQ, fldQ, partA, buildQ, slQ, stH, bslH, appH, dcells, convI, elemsOf, D.one, nilS, fillD, convN, cvH, tyRefA1, intD, w1]) | (with_reducible refine ⟨?_, ?_⟩; (· first | (obtain ⟨rfl⟩ := ‹Hq _ _›; with_reducible refine chk_ok ?_; kernel_rfl) | kernel_rfl)) | (with_reducible intro ops hops)))
    refine Wc_split (fun h => ?_) (fun h => ?_)
    · have h1 : n ≤ 2 * x := by simp at h; omega
      clear h
      (repeat (first | (simp -implicitDefEqProofs only [ev, mixed, Nat.reduceLT, Nat.reduceAdd, Nat.reduceMul, reduceIte, Nat.reduceEqDiff, reduceCtorEq, Nat.reducePow, Nat.reduceLeDiff, Int.reduceLE, Int.reduceLT, Int.reduceToNat, Int.reduceEq, Nat.reduceBEq, itsOf, gdA, byteI, opid, lenQ, ixQ, ldH, readAt, readCells, asCell, faQ, exQ, fldQ, partA, buildQ, slQ, stH, bslH, appH, dcells, convI, elemsOf, D.one, nilS, fillD, convN, cvH, tyRefA1]) | (with_reducible refine ⟨?_, ?_⟩; (· first | (obtain ⟨rfl⟩ := ‹Hq _ _›; with_reducible refine chk_ok ?_; kernel_rfl) | kernel_rfl)) | (with_reducible intro ops hops)))
      refine fin_ret [] rfl ?_
      simp [cv, cv1, cv0, upd, intD, hfin h1 h0]
    · have h1 : y < n := by simp at h; omega
      clear h
      (repeat (first | (simp -implicitDefEqProofs only [ev, mixed, Nat.reduceLT, Nat.reduceAdd, Nat.reduceMul, reduceIte, Nat.reduceEqDiff, reduceCtorEq, Nat.reducePow, Nat.reduceLeDiff, Int.reduceLE, Int.reduceLT, Int.reduceToNat, Int.reduceEq, Nat.reduceBEq, itsOf, gdA, byteI, opid, lenQ, ixQ, ldH, readAt, readCells, asCell, faQ, exQ, fldQ, partA, buildQ, slQ, stH, bslH, appH, dcells, convI, elemsOf, D.one, nilS, fillD, convN, cvH, tyRefA1, w1]) | (with_reducible refine ⟨?_, ?_⟩; (· first | (obtain ⟨rfl⟩ := ‹Hq _ _›; with_reducible refine chk_ok ?_; kernel_rfl) | kernel_rfl)) | (with_reducible intro ops hops)))
      refine ⟨i + 1, by show 2 ^ (i + 1) = 1 ∨ 2 ^ (i + 1) < n; rw [hy]; exact .inr h1, le_stOf _ _ [] [] ?_ ?_ rfl rfl, by simp only [hx, hy]; omega⟩
      · simp only [hy]; simp [cv, cv1, cv0, upd, lk, srcOf, intD]
      · simp

end Go.Proofs.Ytdpfjmkilbepgaa
/- landref1: above, Root, Primes, turn: by value. -/
set_option linter.all false
namespace Go.Proofs.Ytdpfjmkilbepgaa
open Go Go.Abs Go.RowKit Go.Proofs.Ytdpfjmkilbepgaa.Ty
theorem tyR1A0 : (type_of% @Ty.T44) := @Ty.T44
theorem tyR1A1 : (type_of% @Ty.T3) ∧ (type_of% @Ty.T4) ∧ (type_of% @Ty.T44) ∧ (type_of% @Ty.T148) := ⟨@Ty.T3, @Ty.T4, @Ty.T44, @Ty.T148⟩
theorem tyR1A2 : (type_of% @Ty.T1) ∧ (type_of% @Ty.T3) ∧ (type_of% @Ty.T44) ∧ (type_of% @Ty.T145) := ⟨@Ty.T1, @Ty.T3, @Ty.T44, @Ty.T145⟩

def aboveF (x p : Nat) (two : Bool) : Bool :=
  if two then decide ((p : Int) < (x * x / 18446744073709551616 : Nat)) || (decide (((x * x / 18446744073709551616 : Nat) : Int) = (p : Int)) && decide ((0 : Int) < (x * x % 18446744073709551616 : Nat)))
  else
    let h := x * x / 18446744073709551616
    let l := x * x % 18446744073709551616
    let a := l * x / 18446744073709551616
    let b := l * x % 18446744073709551616
    let c := h * x / 18446744073709551616
    let d := h * x % 18446744073709551616
    let mid := (a + d + 0) % 18446744073709551616
    let top := (c + (a + d + 0) / 18446744073709551616) % 18446744073709551616
    let wt := p / 4294967296
    let wm := p * 4294967296 % 18446744073709551616
    decide ((wt : Int) < (top : Int)) || (decide ((top : Int) = (wt : Int)) && (decide ((wm : Int) < (mid : Int)) || (decide ((mid : Int) = (wm : Int)) && decide ((0 : Int) < (b : Int)))))

theorem shl32 (a : Nat) : IntKind.u64.wrap ((a : Int) * 2 ^ min 32 (IntKind.bits .u64)) = ((a * 4294967296 % 18446744073709551616 : Nat) : Int) := by
  rw [show min 32 (IntKind.bits .u64) = 32 from rfl, IntKind.wrap_u64]; omega
set_option maxHeartbeats 2000000
theorem above_A (x p : Nat) (two : Bool) (hx : x < 18446744073709551616) (hp : p < 18446744073709551616) :
    PureD Try.prog 142 [.i (.s (.int .u64 (x : Int))), .i (.s (.int .u64 (p : Int))), .i (.s (.bool two))] (.i (.s (.bool (aboveF x p two)))) := by
  generalize hq : aboveF x p two = q
  refine callD_W 84 Try.func142 rfl rfl rfl (fun _ _ => rfl) ?_
  (repeat (first | (simp -implicitDefEqProofs only [ev, mixed, Nat.reduceLT, Nat.reduceAdd, Nat.reduceMul, reduceIte, Nat.reduceEqDiff, reduceCtorEq, Nat.reducePow, Nat.reduceLeDiff, Int.reduceLE, Int.reduceLT, Int.reduceToNat, Int.reduceEq, Nat.reduceBEq, itsOf, gdA, byteI, opid, lenQ, ixQ, ldH, readAt, readCells, asCell, faQ, exQ, fldQ, partA, buildQ, slQ, stH, bslH, appH, dcells, convI, elemsOf, D.one, nilS, fillD, convN, cvH, tyR1A0]) | (with_reducible refine ⟨?_, ?_⟩; (· first | (obtain ⟨rfl⟩ := ‹Hq _ _›; with_reducible refine chk_ok ?_; kernel_rfl) | kernel_rfl)) | (with_reducible intro ops hops)))
  (first | refine Call_flat [] [] (mul64_A x x hx hx) (by simp [cvAs, cvA, cvRL, cvR, cvBox, cv1, cvL, cv0, bI, byteI, elemsOf, upd]) rfl ?_ | refine CallF_flat [] [] [] (mul64_A x x hx hx) (fun G _ => by simp [cvAs, cvA, cvRL, cvR, cvBox, cv1, cvL, cv0, bI, byteI, elemsOf, upd]) rfl ?_)
  cases two with
  | true =>
    unfold aboveF at hq
    rw [if_pos rfl] at hq
    generalize x * x / 18446744073709551616 = h at hq
    generalize x * x % 18446744073709551616 = l at hq
    cases g1 : decide ((p : Int) < (h : Int))
    · cases g2 : decide ((h : Int) = (p : Int))
      · (repeat (first | (simp -implicitDefEqProofs only [ev, mixed, Nat.reduceLT, Nat.reduceAdd, Nat.reduceMul, reduceIte, Nat.reduceEqDiff, reduceCtorEq, Nat.reducePow, Nat.reduceLeDiff, Int.reduceLE, Int.reduceLT, Int.reduceToNat, Int.reduceEq, Nat.reduceBEq, itsOf, gdA, byteI, opid, lenQ, ixQ, ldH, readAt, readCells, asCell, faQ, exQ, fldQ, partA, buildQ, slQ, stH, bslH, appH, dcells, convI, elemsOf, D.one, nilS, fillD, convN, cvH, tyR1A0, g1, g2]) | (with_reducible refine ⟨?_, ?_⟩; (· first | (obtain ⟨rfl⟩ := ‹Hq _ _›; with_reducible refine chk_ok ?_; kernel_rfl) | kernel_rfl)) | (with_reducible intro ops hops)))
        refine fin_ret [] rfl ?_
        rw [g1, g2] at hq
        simp [cv, cv1, cv0, upd, ← hq]
      · cases g3 : decide ((0 : Int) < (l : Int)) <;>
        · (repeat (first | (simp -implicitDefEqProofs only [ev, mixed, Nat.reduceLT, Nat.reduceAdd, Nat.reduceMul, reduceIte, Nat.reduceEqDiff, reduceCtorEq, Nat.reducePow, Nat.reduceLeDiff, Int.reduceLE, Int.reduceLT, Int.reduceToNat, Int.reduceEq, Nat.reduceBEq, itsOf, gdA, byteI, opid, lenQ, ixQ, ldH, readAt, readCells, asCell, faQ, exQ, fldQ, partA, buildQ, slQ, stH, bslH, appH, dcells, convI, elemsOf, D.one, nilS, fillD, convN, cvH, tyR1A0, g1, g2, g3]) | (with_reducible refine ⟨?_, ?_⟩; (· first | (obtain ⟨rfl⟩ := ‹Hq _ _›; with_reducible refine chk_ok ?_; kernel_rfl) | kernel_rfl)) | (with_reducible intro ops hops)))
          refine fin_ret [] rfl ?_
          rw [g1, g2, g3] at hq
          simp [cv, cv1, cv0, upd, ← hq]
    · (repeat (first | (simp -implicitDefEqProofs only [ev, mixed, Nat.reduceLT, Nat.reduceAdd, Nat.reduceMul, reduceIte, Nat.reduceEqDiff, reduceCtorEq, Nat.reducePow, Nat.reduceLeDiff, Int.reduceLE, Int.reduceLT, Int.reduceToNat, Int.reduceEq, Nat.reduceBEq, itsOf, gdA, byteI, opid, lenQ, ixQ, ldH, readAt, readCells, asCell, faQ, exQ, fldQ, partA, buildQ, slQ, stH, bslH, appH, dcells, convI, elemsOf, D.one, nilS, fillD, convN, cvH, tyR1A0, g1]) | (with_reducible refine ⟨?_, ?_⟩; (· first | (obtain ⟨rfl⟩ := ‹Hq _ _›; with_reducible refine chk_ok ?_; kernel_rfl) | kernel_rfl)) | (with_reducible intro ops hops)))
      refine fin_ret [] rfl ?_
      rw [g1] at hq
      simp [cv, cv1, cv0, upd, ← hq]
  | false =>
    unfold aboveF at hq
    simp only [Bool.false_eq_true, if_false] at hq
    have hh : x * x / 18446744073709551616 < 18446744073709551616 := Nat.div_lt_of_lt_mul (Nat.mul_lt_mul'' hx hx)
    have hl : x * x % 18446744073709551616 < 18446744073709551616 := Nat.mod_lt _ (by decide)
    generalize x * x / 18446744073709551616 = h at hq hh
    generalize x * x % 18446744073709551616 = l at hq hl
    (repeat (first | (simp -implicitDefEqProofs only [ev, mixed, Nat.reduceLT, Nat.reduceAdd, Nat.reduceMul, reduceIte, Nat.reduceEqDiff, reduceCtorEq, Nat.reducePow, Nat.reduceLeDiff, Int.reduceLE, Int.reduceLT, Int.reduceToNat, Int.reduceEq, Nat.reduceBEq, itsOf, gdA, byteI, opid, lenQ, ixQ, ldH, readAt, readCells, asCell, faQ, exQ, fldQ, partA, buildQ, slQ, stH, bslH, appH, dcells, convI, elemsOf, D.one, nilS, fillD, convN, cvH, tyR1A0]) | (with_reducible refine ⟨?_, ?_⟩; (· first | (obtain ⟨rfl⟩ := ‹Hq _ _›; with_reducible refine chk_ok ?_; kernel_rfl) | kernel_rfl)) | (with_reducible intro ops hops)))
    (first | refine Call_flat [] [] (mul64_A l x hl hx) (by simp [cvAs, cvA, cvRL, cvR, cvBox, cv1, cvL, cv0, bI, byteI, elemsOf, upd]) rfl ?_ | refine CallF_flat [] [] [] (mul64_A l x hl hx) (fun G _ => by simp [cvAs, cvA, cvRL, cvR, cvBox, cv1, cvL, cv0, bI, byteI, elemsOf, upd]) rfl ?_)
    have ha : l * x / 18446744073709551616 < 18446744073709551616 := Nat.div_lt_of_lt_mul (Nat.mul_lt_mul'' hl hx)
    generalize l * x / 18446744073709551616 = a at hq ha
    generalize l * x % 18446744073709551616 = b at hq
    (repeat (first | (simp -implicitDefEqProofs only [ev, mixed, Nat.reduceLT, Nat.reduceAdd, Nat.reduceMul, reduceIte, Nat.reduceEqDiff, reduceCtorEq, Nat.reducePow, Nat.reduceLeDiff, Int.reduceLE, Int.reduceLT, Int.reduceToNat, Int.reduceEq, Nat.reduceBEq, itsOf, gdA, byteI, opid, lenQ, ixQ, ldH, readAt, readCells, asCell, faQ, exQ, fldQ, partA, buildQ, slQ, stH, bslH, appH, dcells, convI, elemsOf, D.one, nilS, fillD, convN, cvH, tyR1A0]) | (with_reducible refine ⟨?_, ?_⟩; (· first | (obtain ⟨rfl⟩ := ‹Hq _ _›; with_reducible refine chk_ok ?_; kernel_rfl) | kernel_rfl)) | (with_reducible intro ops hops)))
    (first | refine Call_flat [] [] (mul64_A h x hh hx) (by simp [cvAs, cvA, cvRL, cvR, cvBox, cv1, cvL, cv0, bI, byteI, elemsOf, upd]) rfl ?_ | refine CallF_flat [] [] [] (mul64_A h x hh hx) (fun G _ => by simp [cvAs, cvA, cvRL, cvR, cvBox, cv1, cvL, cv0, bI, byteI, elemsOf, upd]) rfl ?_)
    have hd : h * x % 18446744073709551616 < 18446744073709551616 := Nat.mod_lt _ (by decide)
    generalize h * x / 18446744073709551616 = c at hq
    generalize h * x % 18446744073709551616 = d at hq hd
    (repeat (first | (simp -implicitDefEqProofs only [ev, mixed, Nat.reduceLT, Nat.reduceAdd, Nat.reduceMul, reduceIte, Nat.reduceEqDiff, reduceCtorEq, Nat.reducePow, Nat.reduceLeDiff, Int.reduceLE, Int.reduceLT, Int.reduceToNat, Int.reduceEq, Nat.reduceBEq, itsOf, gdA, byteI, opid, lenQ, ixQ, ldH, readAt, readCells, asCell, faQ, exQ, fldQ, partA, buildQ, slQ, stH, bslH, appH, dcells, convI, elemsOf, D.one, nilS, fillD, convN, cvH, tyR1A0]) | (with_reducible refine ⟨?_, ?_⟩; (· first | (obtain ⟨rfl⟩ := ‹Hq _ _›; with_reducible refine chk_ok ?_; kernel_rfl) | kernel_rfl)) | (with_reducible intro ops hops)))
    refine Call_dir (add64_X a d 0 ha hd (by decide)) ?_
    have w1 : IntKind.u64.wrap ((c : Int) + (((a + d + 0) / 18446744073709551616 : Nat) : Int)) = (((c + (a + d + 0) / 18446744073709551616) % 18446744073709551616 : Nat) : Int) := by rw [IntKind.wrap_u64]; omega
    generalize (c + (a + d + 0) / 18446744073709551616) % 18446744073709551616 = top at hq w1
    generalize (a + d + 0) % 18446744073709551616 = mid at hq
    generalize (a + d + 0) / 18446744073709551616 = carry at w1
    have w2 := shl32 p
    have w3 := shr32 p
    generalize p * 4294967296 % 18446744073709551616 = wm at hq w2
    generalize p / 4294967296 = wt at hq w3
    cases g1 : decide ((wt : Int) < (top : Int))
    · cases g2 : decide ((top : Int) = (wt : Int))
      · (repeat (first | (simp -implicitDefEqProofs only [ev, mixed, Nat.reduceLT, Nat.reduceAdd, Nat.reduceMul, reduceIte, Nat.reduceEqDiff, reduceCtorEq, Nat.reducePow, Nat.reduceLeDiff, Int.reduceLE, Int.reduceLT, Int.reduceToNat, Int.reduceEq, Nat.reduceBEq, itsOf, gdA, byteI, opid, lenQ, ixQ, ldH, readAt, readCells, asCell, faQ, exQ, fldQ, partA, buildQ, slQ, stH, bslH, appH, dcells, convI, elemsOf, D.one, nilS, fillD, convN, cvH, tyR1A0, w1, w2, w3, g1, g2]) | (with_reducible refine ⟨?_, ?_⟩; (· first | (obtain ⟨rfl⟩ := ‹Hq _ _›; with_reducible refine chk_ok ?_; kernel_rfl) | kernel_rfl)) | (with_reducible intro ops hops)))
        refine fin_ret [] rfl ?_
        rw [g1, g2] at hq
        simp [cv, cv1, cv0, upd, ← hq]
      · cases g3 : decide ((wm : Int) < (mid : Int))
        · cases g4 : decide ((mid : Int) = (wm : Int))
          · (repeat (first | (simp -implicitDefEqProofs only [ev, mixed, Nat.reduceLT, Nat.reduceAdd, Nat.reduceMul, reduceIte, Nat.reduceEqDiff, reduceCtorEq, Nat.reducePow, Nat.reduceLeDiff, Int.reduceLE, Int.reduceLT, Int.reduceToNat, Int.reduceEq, Nat.reduceBEq, itsOf, gdA, byteI, opid, lenQ, ixQ, ldH, readAt, readCells, asCell, faQ, exQ, fldQ, partA, buildQ, slQ, stH, bslH, appH, dcells, convI, elemsOf, D.one, nilS, fillD, convN, cvH, tyR1A0, w1, w2, w3, g1, g2, g3, g4]) | (with_reducible refine ⟨?_, ?_⟩; (· first | (obtain ⟨rfl⟩ := ‹Hq _ _›; with_reducible refine chk_ok ?_; kernel_rfl) | kernel_rfl)) | (with_reducible intro ops hops)))
            refine fin_ret [] rfl ?_
            rw [g1, g2, g3, g4] at hq
            simp [cv, cv1, cv0, upd, ← hq]
          · cases g5 : decide ((0 : Int) < (b : Int)) <;>
            · (repeat (first | (simp -implicitDefEqProofs only [ev, mixed, Nat.reduceLT, Nat.reduceAdd, Nat.reduceMul, reduceIte, Nat.reduceEqDiff, reduceCtorEq, Nat.reducePow, Nat.reduceLeDiff, Int.reduceLE, Int.reduceLT, Int.reduceToNat, Int.reduceEq, Nat.reduceBEq, itsOf, gdA, byteI, opid, lenQ, ixQ, ldH, readAt, readCells, asCell, faQ, exQ, fldQ, partA, buildQ, slQ, stH, bslH, appH, dcells, convI, elemsOf, D.one, nilS, fillD, convN, cvH, tyR1A0, w1, w2, w3, g1, g2, g3, g4, g5]) | (with_reducible refine ⟨?_, ?_⟩; (· first | (obtain ⟨rfl⟩ := ‹Hq _ _›; with_reducible refine chk_ok ?_; kernel_rfl) | kernel_rfl)) | (with_reducible intro ops hops)))
              refine fin_ret [] rfl ?_
              rw [g1, g2, g3, g4, g5] at hq
              simp [cv, cv1, cv0, upd, ← hq]
        · (repeat (first | (simp -implicitDefEqProofs only [ev, mixed, Nat.reduceLT, Nat.reduceAdd, Nat.reduceMul, reduceIte, Nat.reduceEqDiff, reduceCtorEq, Nat.reducePow, Nat.reduceLeDiff, Int.reduceLE, Int.reduceLT, Int.reduceToNat, Int.reduceEq, Nat.reduceBEq, itsOf, gdA, byteI, opid, lenQ, ixQ, ldH, readAt, readCells, asCell, faQ, exQ, fldQ, partA, buildQ, slQ, stH, bslH, appH, dcells, convI, elemsOf, D.one, nilS, fillD, convN, cvH, tyR1A0, w1, w2, w3, g1, g2, g3]) | (with_reducible refine ⟨?_, ?_⟩; (· first | (obtain ⟨rfl⟩ := ‹Hq _ _›; with_reducible refine chk_ok ?_; kernel_rfl) | kernel_rfl)) | (with_reducible intro ops hops)))
          refine fin_ret [] rfl ?_
          rw [g1, g2, g3] at hq
          simp [cv, cv1, cv0, upd, ← hq]
    · (repeat (first | (simp -implicitDefEqProofs only [ev, mixed, Nat.reduceLT, Nat.reduceAdd, Nat.reduceMul, reduceIte, Nat.reduceEqDiff, reduceCtorEq, Nat.reducePow, Nat.reduceLeDiff, Int.reduceLE, Int.reduceLT, Int.reduceToNat, Int.reduceEq, Nat.reduceBEq, itsOf, gdA, byteI, opid, lenQ, ixQ, ldH, readAt, readCells, asCell, faQ, exQ, fldQ, partA, buildQ, slQ, stH, bslH, appH, dcells, convI, elemsOf, D.one, nilS, fillD, convN, cvH, tyR1A0, w1, w2, w3, g1]) | (with_reducible refine ⟨?_, ?_⟩; (· first | (obtain ⟨rfl⟩ := ‹Hq _ _›; with_reducible refine chk_ok ?_; kernel_rfl) | kernel_rfl)) | (with_reducible intro ops hops)))
      refine fin_ret [] rfl ?_
      rw [g1] at hq
      simp [cv, cv1, cv0, upd, ← hq]

/-- k + 1 steps are left -/
def rootGo (p : Nat) (two : Bool) : Nat → Nat → Nat
  | 0, x => x
  | k + 1, x => rootGo p two k (if aboveF (x ||| 2 ^ k) p two then x else x ||| 2 ^ k)
def prF (p : Nat) (two : Bool) : Nat := rootGo p two 41 0 % 4294967296
theorem root_A (p : Nat) (two : Bool) (hp : p < 18446744073709551616) :
    PureD Try.prog 123 [.i (.s (.int .u64 (p : Int))), .i (.s (.bool two))] (.i (.s (.int .u32 (prF p two : Nat)))) := by
  refine callD_W 24 Try.func123 rfl rfl rfl (fun _ _ => rfl) ?_
  (repeat (first | (simp -implicitDefEqProofs only [ev, mixed, Nat.reduceLT, Nat.reduceAdd, Nat.reduceMul, reduceIte, Nat.reduceEqDiff, reduceCtorEq, Nat.reducePow, Nat.reduceLeDiff, Int.reduceLE, Int.reduceLT, Int.reduceToNat, Int.reduceEq, Nat.reduceBEq, itsOf, gdA, byteI, opid, lenQ, ixQ, ldH, readAt, readCells, asCell, faQ, exQ, fldQ, partA, buildQ, slQ, stH, bslH, appH, dcells, convI, elemsOf, D.one, nilS, fillD, convN, cvH, tyR1A1]) | (with_reducible refine ⟨?_, ?_⟩; (· first | (obtain ⟨rfl⟩ := ‹Hq _ _›; with_reducible refine chk_ok ?_; kernel_rfl) | kernel_rfl)) | (with_reducible intro ops hops)))
  refine W_loopI (ι := Nat × Nat) (fun q => q.2 < 2 ^ 41 ∧ q.1 ≤ 41 ∧ rootGo p two q.1 q.2 = rootGo p two 41 0)
    (fun q => stOf [(0, .i (.s (.int .u64 (p : Int)))), (1, .i (.s (.bool two))), (5, .i (.s (.int .u64 (q.2 : Nat)))), (6, .i (.s (.int .i64 ((q.1 : Int) - 1))))] []) (fun q => q.1) (41, 0) ⟨by decide, by decide, rfl⟩ ?_ ?_
  · refine le_stOf _ _ [] [] ?_ ?_ rfl rfl
    · simp [cv, cv1, cv0, upd, lk, srcOf]
    · simp
  · rintro ⟨k, x⟩ ⟨hx, hk, hq⟩
    simp only at hx hk hq
    rw [stOf_eq]
    cases k with
    | zero =>
      have g1 : decide ((0 : Int) ≤ 0 - 1) = false := by decide
      have w1 : IntKind.u32.wrap (x : Int) = ((prF p two : Nat) : Int) := by rw [prF, ← hq, rootGo, IntKind.wrap_u32]; omega
      (repeat (first | (simp -implicitDefEqProofs only [ev, mixed, Nat.reduceLT, Nat.reduceAdd, Nat.reduceMul, reduceIte, Nat.reduceEqDiff, reduceCtorEq, Nat.reducePow, Nat.reduceLeDiff, Int.reduceLE, Int.reduceLT, Int.reduceToNat, Int.reduceEq, Nat.reduceBEq, itsOf, gdA, byteI, opid, lenQ, ixQ, ldH, readAt, readCells, asCell, faQ, exQ, fldQ, partA, buildQ, slQ, stH, bslH, appH, dcells, convI, elemsOf, D.one, nilS, fillD, convN, cvH, tyR1A1, g1, w1]) | (with_reducible refine ⟨?_, ?_⟩; (· first | (obtain ⟨rfl⟩ := ‹Hq _ _›; with_reducible refine chk_ok ?_; kernel_rfl) | kernel_rfl)) | (with_reducible intro ops hops)))
      refine fin_ret [] rfl ?_
      simp [cv, cv1, cv0, upd]
    | succ k =>
      have hk1 : ((k + 1 : Nat) : Int) - 1 = (k : Int) := by omega
      have hp2 : (2 : Nat) ^ k < 2 ^ 41 := Nat.pow_lt_pow_right (by decide) (by omega)
      have w2 : IntKind.u64.wrap ((1 : Int) * 2 ^ (min k (IntKind.bits .u64))) = ((2 ^ k : Nat) : Int) := by
        have e : ((2 : Int) ^ k) = ((2 ^ k : Nat) : Int) := by simp
        rw [show min k (IntKind.bits .u64) = k by simp [IntKind.bits]; omega, e, Int.one_mul, IntKind.wrap_u64]
        have h41 : (2 : Nat) ^ 41 = 2199023255552 := by decide
        rw [h41] at hp2
        generalize (2 : Nat) ^ k = E at hp2 ⊢
        omega
      have w3 : bits .or .u64 (x : Int) ((2 ^ k : Nat) : Int) = ((x ||| 2 ^ k : Nat) : Int) :=
        (bits_nat .u64 64 (by decide) (fun n g0 g1 => by rw [IntKind.wrap_u64]; omega) x (2 ^ k) (Nat.lt_trans hx (by decide)) (Nat.lt_trans hp2 (by decide))).2
      have hy : x ||| 2 ^ k < 2 ^ 41 := Nat.or_lt_two_pow hx hp2
      rw [rootGo] at hq
      generalize hyy : x ||| 2 ^ k = y at hq w3 hy
      generalize 2 ^ k = E at w2 w3
      (repeat (first | (simp -implicitDefEqProofs only [ev, mixed, Nat.reduceLT, Nat.reduceAdd, Nat.reduceMul, reduceIte, Nat.reduceEqDiff, reduceCtorEq, Nat.reducePow, Nat.reduceLeDiff, Int.reduceLE, Int.reduceLT, Int.reduceToNat, Int.reduceEq, Nat.reduceBEq, itsOf, gdA, byteI, opid, lenQ, ixQ, ldH, readAt, readCells, asCell, faQ, exQ, fldQ, partA, buildQ, slQ, stH, bslH, appH, dcells, convI, elemsOf, D.one, nilS, fillD, convN, cvH, tyR1A1, hk1, w2, w3]) | (with_reducible refine ⟨?_, ?_⟩; (· first | (obtain ⟨rfl⟩ := ‹Hq _ _›; with_reducible refine chk_ok ?_; kernel_rfl) | kernel_rfl)) | (with_reducible intro ops hops)))
      (first | refine Call_flat [] [] (above_A y p two (Nat.lt_trans hy (by decide)) hp) (by simp [cvAs, cvA, cvRL, cvR, cvBox, cv1, cvL, cv0, bI, byteI, elemsOf, upd]) rfl ?_ | refine CallF_flat [] [] [] (above_A y p two (Nat.lt_trans hy (by decide)) hp) (fun G _ => by simp [cvAs, cvA, cvRL, cvR, cvBox, cv1, cvL, cv0, bI, byteI, elemsOf, upd]) rfl ?_)
      have w4 : IntKind.i64.wrap ((k : Int) - 1) = (k : Int) - 1 := by rw [wrap64 (by omega) (by omega)]
      cases g : aboveF y p two
      · rw [g] at hq
        (repeat (first | (simp -implicitDefEqProofs only [ev, mixed, Nat.reduceLT, Nat.reduceAdd, Nat.reduceMul, reduceIte, Nat.reduceEqDiff, reduceCtorEq, Nat.reducePow, Nat.reduceLeDiff, Int.reduceLE, Int.reduceLT, Int.reduceToNat, Int.reduceEq, Nat.reduceBEq, itsOf, gdA, byteI, opid, lenQ, ixQ, ldH, readAt, readCells, asCell, faQ, exQ, fldQ, partA, buildQ, slQ, stH, bslH, appH, dcells, convI, elemsOf, D.one, nilS, fillD, convN, cvH, tyR1A1, hk1, g, w4]) | (with_reducible refine ⟨?_, ?_⟩; (· first | (obtain ⟨rfl⟩ := ‹Hq _ _›; with_reducible refine chk_ok ?_; kernel_rfl) | kernel_rfl)) | (with_reducible intro ops hops)))
        refine ⟨(k, y), ⟨hy, by simp at hk ⊢; omega, by simpa using hq⟩, le_stOf _ _ [] [] ?_ ?_ rfl rfl, by simp⟩
        · simp [cv, cv1, cv0, upd, lk, srcOf]
        · simp
      · rw [g] at hq
        (repeat (first | (simp -implicitDefEqProofs only [ev, mixed, Nat.reduceLT, Nat.reduceAdd, Nat.reduceMul, reduceIte, Nat.reduceEqDiff, reduceCtorEq, Nat.reducePow, Nat.reduceLeDiff, Int.reduceLE, Int.reduceLT, Int.reduceToNat, Int.reduceEq, Nat.reduceBEq, itsOf, gdA, byteI, opid, lenQ, ixQ, ldH, readAt, readCells, asCell, faQ, exQ, fldQ, partA, buildQ, slQ, stH, bslH, appH, dcells, convI, elemsOf, D.one, nilS, fillD, convN, cvH, tyR1A1, hk1, g, w4]) | (with_reducible refine ⟨?_, ?_⟩; (· first | (obtain ⟨rfl⟩ := ‹Hq _ _›; with_reducible refine chk_ok ?_; kernel_rfl) | kernel_rfl)) | (with_reducible intro ops hops)))
        refine ⟨(k, x), ⟨hx, by simp at hk ⊢; omega, by simpa using hq⟩, le_stOf _ _ [] [] ?_ ?_ rfl rfl, by simp⟩
        · simp [cv, cv1, cv0, upd, lk, srcOf]
        · simp

def primesTo : Nat → List Nat
  | 0 => []
  | 1 => []
  | 2 => []
  | p + 3 => if (primesTo (p + 2)).all (fun q => (p + 2) % q != 0) then primesTo (p + 2) ++ [p + 2] else primesTo (p + 2)
theorem primes_lt : ∀ p, p < 312 → (primesTo p).length < 64 := by decide +kernel
theorem primes_312 : (primesTo 312).length = 64 := by decide +kernel
theorem primes_pos : ∀ p, ∀ q ∈ primesTo p, 2 ≤ q ∧ q < p
  | 0, q, h => by simp [primesTo] at h
  | 1, q, h => by simp [primesTo] at h
  | 2, q, h => by simp [primesTo] at h
  | p + 3, q, h => by
    rw [primesTo] at h
    split at h
    · rcases List.mem_append.1 h with h | h
      · have := primes_pos (p + 2) q h; omega
      · simp at h; omega
    · have := primes_pos (p + 2) q h; omega
def u64I (n : Nat) : List I := [.s (.int .u64 (n : Int))]
theorem primes_A : CallD Try.prog 122 [.i (.s (.int .i64 64))] noH (.os 1 1 0 64) (hOf noH [(1, .arr 1 ((primesTo 312).map u64I))]) := by
  refine callD_W 34 Try.func122 rfl rfl rfl (fun _ _ => rfl) ?_
  (repeat (first | (simp -implicitDefEqProofs only [ev, mixed, Nat.reduceLT, Nat.reduceAdd, Nat.reduceMul, reduceIte, Nat.reduceEqDiff, reduceCtorEq, Nat.reducePow, Nat.reduceLeDiff, Int.reduceLE, Int.reduceLT, Int.reduceToNat, Int.reduceEq, Nat.reduceBEq, itsOf, gdA, byteI, opid, lenQ, ixQ, ldH, readAt, readCells, asCell, faQ, exQ, fldQ, partA, buildQ, slQ, stH, bslH, appH, dcells, convI, elemsOf, D.one, nilS, fillD, convN, cvH, tyR1A2]) | (with_reducible refine ⟨?_, ?_⟩; (· first | (obtain ⟨rfl⟩ := ‹Hq _ _›; with_reducible refine chk_ok ?_; kernel_rfl) | kernel_rfl)) | (with_reducible intro ops hops)))
  refine W_loopI (ι := Nat) (fun p => 2 ≤ p ∧ p ≤ 312)
    (fun p => stOf [(0, .i (.s (.int .i64 64))), (3, .os 100 1 0 (primesTo p).length), (4, .i (.s (.int .u64 (p : Nat))))] [(100, .arr 1 ((primesTo p).map u64I))]) (fun p => 312 - p) 2 ⟨by decide, by decide⟩ ?_ ?_
  · refine le_stOf _ _ [] [] ?_ ?_ rfl rfl
    · simp [cv, cv1, cv0, upd, lk, srcOf, primesTo]
    · simp [objOk, srcOf, lk, primesTo]
  · rintro p ⟨hp2, hp⟩
    rw [stOf_eq]
    (repeat (first | (simp -implicitDefEqProofs only [ev, mixed, Nat.reduceLT, Nat.reduceAdd, Nat.reduceMul, reduceIte, Nat.reduceEqDiff, reduceCtorEq, Nat.reducePow, Nat.reduceLeDiff, Int.reduceLE, Int.reduceLT, Int.reduceToNat, Int.reduceEq, Nat.reduceBEq, itsOf, gdA, byteI, opid, lenQ, ixQ, ldH, readAt, readCells, asCell, faQ, exQ, fldQ, partA, buildQ, slQ, stH, bslH, appH, dcells, convI, elemsOf, D.one, nilS, fillD, convN, cvH, tyR1A2]) | (with_reducible refine ⟨?_, ?_⟩; (· first | (obtain ⟨rfl⟩ := ‹Hq _ _›; with_reducible refine chk_ok ?_; kernel_rfl) | kernel_rfl)) | (with_reducible intro ops hops)))
    refine Wc_split (fun h => ?_) (fun h => ?_)
    · have hlt : p < 312 := by
        rcases Nat.lt_or_ge p 312 with h' | h'
        · exact h'
        · have : p = 312 := by omega
          subst this
          rw [primes_312] at h; simp at h
      clear h
      have hpp := primes_pos p
      have hstep : primesTo (p + 1) = if (primesTo p).all (fun q => p % q != 0) then primesTo p ++ [p] else primesTo p := by
        obtain ⟨k, rfl⟩ : ∃ k, p = k + 2 := ⟨p - 2, by omega⟩
        rw [primesTo]
      have hll := primes_lt p hlt
      generalize primesTo p = l at hstep hpp hll
      (repeat (first | (simp -implicitDefEqProofs only [ev, mixed, Nat.reduceLT, Nat.reduceAdd, Nat.reduceMul, reduceIte, Nat.reduceEqDiff, reduceCtorEq, Nat.reducePow, Nat.reduceLeDiff, Int.reduceLE, Int.reduceLT, Int.reduceToNat, Int.reduceEq, Nat.reduceBEq, itsOf, gdA, byteI, opid, lenQ, ixQ, ldH, readAt, readCells, asCell, faQ, exQ, fldQ, partA, buildQ, slQ, stH, bslH, appH, dcells, convI, elemsOf, D.one, nilS, fillD, convN, cvH, tyR1A2]) | (with_reducible refine ⟨?_, ?_⟩; (· first | (obtain ⟨rfl⟩ := ‹Hq _ _›; with_reducible refine chk_ok ?_; kernel_rfl) | kernel_rfl)) | (with_reducible intro ops hops)))
      refine W_loopI (ι := Nat) (fun k => k ≤ l.length)
        (fun k => stOf [(0, .i (.s (.int .i64 64))), (3, .os 100 1 0 l.length), (4, .i (.s (.int .u64 (p : Nat)))), (5, .i (.s (.bool ((l.take k).all (fun q => p % q != 0))))), (14, .os 100 1 0 l.length), (15, .i (.s (.int .i64 l.length))), (16, .i (.s (.int .i64 (k : Nat))))] [(100, .arr 1 (l.map u64I))]) (fun k => l.length - k) 0 (by simp) ?_ ?_
      · refine le_stOf _ _ [] [(100, 100)] ?_ ?_ rfl rfl
        · simp [cv, cv1, cv0, upd, lk, srcOf]
        · simp [objOk, srcOf, lk, cvO, frz, hO]
      · intro k hk
        rw [stOf_eq]
        (repeat (first | (simp -implicitDefEqProofs only [ev, mixed, Nat.reduceLT, Nat.reduceAdd, Nat.reduceMul, reduceIte, Nat.reduceEqDiff, reduceCtorEq, Nat.reducePow, Nat.reduceLeDiff, Int.reduceLE, Int.reduceLT, Int.reduceToNat, Int.reduceEq, Nat.reduceBEq, itsOf, gdA, byteI, opid, lenQ, ixQ, ldH, readAt, readCells, asCell, faQ, exQ, fldQ, partA, buildQ, slQ, stH, bslH, appH, dcells, convI, elemsOf, D.one, nilS, fillD, convN, cvH, tyR1A2]) | (with_reducible refine ⟨?_, ?_⟩; (· first | (obtain ⟨rfl⟩ := ‹Hq _ _›; with_reducible refine chk_ok ?_; kernel_rfl) | kernel_rfl)) | (with_reducible intro ops hops)))
        refine Wc_split (fun h => ?_) (fun h => ?_)
        · have h1 : k < l.length := by simp at h; omega
          clear h
          have hk2 := hpp _ (List.getElem_mem h1)
          have e1 : (l.map u64I)[k]? = some [.s (.int .u64 ((l[k] : Nat) : Int))] := by simp [h1, u64I]
          have htk : (l.take (k + 1)).all (fun q => p % q != 0) = ((l.take k).all (fun q => p % q != 0) && (p % l[k] != 0)) := by
            rw [List.take_succ_eq_append_getElem h1, List.all_append]; simp only [List.all_cons, List.all_nil, Bool.and_true]
          have l1 : ((k : Int) < (l.length : Int)) = True := eq_true (by omega)
          generalize l[k] = q at hk2 e1 htk
          have q0 : ((q : Int) = 0) = False := eq_false (by omega)
          have r1 : (p : Int).tmod (q : Int) = ((p % q : Nat) : Int) := by rw [Int.tmod_eq_emod_of_nonneg (by omega)]; exact (Int.natCast_emod _ _).symm
          have w1 : IntKind.i64.wrap ((k : Int) + 1) = ((k + 1 : Nat) : Int) := by rw [wrap64 (by omega) (by omega)]; omega
          cases g : (l.take k).all (fun q => p % q != 0)
          · rw [g] at htk
            (repeat (first | (simp -implicitDefEqProofs only [ev, mixed, Nat.reduceLT, Nat.reduceAdd, Nat.reduceMul, reduceIte, Nat.reduceEqDiff, reduceCtorEq, Nat.reducePow, Nat.reduceLeDiff, Int.reduceLE, Int.reduceLT, Int.reduceToNat, Int.reduceEq, Nat.reduceBEq, itsOf, gdA, byteI, opid, lenQ, ixQ, ldH, readAt, readCells, asCell, faQ, exQ, fldQ, partA, buildQ, slQ, stH, bslH, appH, dcells, convI, elemsOf, D.one, nilS, fillD, convN, cvH, tyR1A2, e1, l1, q0, r1, w1]) | (with_reducible refine ⟨?_, ?_⟩; (· first | (obtain ⟨rfl⟩ := ‹Hq _ _›; with_reducible refine chk_ok ?_; kernel_rfl) | kernel_rfl)) | (with_reducible intro ops hops)))
            refine ⟨k + 1, h1, le_stOf _ _ [] [(100, 100)] ?_ ?_ rfl rfl, by simp; omega⟩
            · simp [cv, cv1, cv0, upd, lk, srcOf, htk]
            · simp [objOk, srcOf, lk, cvO, frz, hO]
          · rw [g] at htk
            (repeat (first | (simp -implicitDefEqProofs only [ev, mixed, Nat.reduceLT, Nat.reduceAdd, Nat.reduceMul, reduceIte, Nat.reduceEqDiff, reduceCtorEq, Nat.reducePow, Nat.reduceLeDiff, Int.reduceLE, Int.reduceLT, Int.reduceToNat, Int.reduceEq, Nat.reduceBEq, itsOf, gdA, byteI, opid, lenQ, ixQ, ldH, readAt, readCells, asCell, faQ, exQ, fldQ, partA, buildQ, slQ, stH, bslH, appH, dcells, convI, elemsOf, D.one, nilS, fillD, convN, cvH, tyR1A2, e1, l1, q0, r1, w1]) | (with_reducible refine ⟨?_, ?_⟩; (· first | (obtain ⟨rfl⟩ := ‹Hq _ _›; with_reducible refine chk_ok ?_; kernel_rfl) | kernel_rfl)) | (with_reducible intro ops hops)))
            refine ⟨k + 1, h1, le_stOf _ _ [] [(100, 100)] ?_ ?_ rfl rfl, by simp; omega⟩
            · simp [cv, cv1, cv0, upd, lk, srcOf, htk]
              exact Bool.eq_iff_iff.2 (by simp; omega)
            · simp [objOk, srcOf, lk, cvO, frz, hO]
        · have h1 : k = l.length := by simp at h; omega
          subst h1
          rw [take_len_self]
          have w1 : IntKind.u64.wrap ((p : Int) + 1) = ((p + 1 : Nat) : Int) := by rw [IntKind.wrap_u64]; omega
          have e3 : l.length + 1 ≤ 140737488355328 := by omega
          have e4 : (l.length + 1) * 8 ≤ 140737488355328 := by omega
          have uu : uni 1 (l.map u64I) = true := uni_map (s := 1) (f := u64I) (fun _ => rfl) l
          cases g : l.all (fun q => p % q != 0)
          · rw [g] at hstep
            simp only [Bool.false_eq_true, if_false] at hstep
            (repeat (first | (simp -implicitDefEqProofs only [ev, mixed, Nat.reduceLT, Nat.reduceAdd, Nat.reduceMul, reduceIte, Nat.reduceEqDiff, reduceCtorEq, Nat.reducePow, Nat.reduceLeDiff, Int.reduceLE, Int.reduceLT, Int.reduceToNat, Int.reduceEq, Nat.reduceBEq, itsOf, gdA, byteI, opid, lenQ, ixQ, ldH, readAt, readCells, asCell, faQ, exQ, fldQ, partA, buildQ, slQ, stH, bslH, appH, dcells, convI, elemsOf, D.one, nilS, fillD, convN, cvH, tyR1A2, g, w1]) | (with_reducible refine ⟨?_, ?_⟩; (· first | (obtain ⟨rfl⟩ := ‹Hq _ _›; with_reducible refine chk_ok ?_; kernel_rfl) | kernel_rfl)) | (with_reducible intro ops hops)))
            refine ⟨p + 1, ⟨by omega, by omega⟩, le_stOf _ _ [] [(100, 100)] ?_ ?_ rfl rfl, by simp; omega⟩
            · simp [cv, cv1, cv0, upd, lk, srcOf, hstep]
            · simp [objOk, srcOf, lk, cvO, frz, hO, hstep]
          · rw [g] at hstep
            simp only [if_true] at hstep
            (repeat (first | (simp -implicitDefEqProofs only [ev, mixed, Nat.reduceLT, Nat.reduceAdd, Nat.reduceMul, reduceIte, Nat.reduceEqDiff, reduceCtorEq, Nat.reducePow, Nat.reduceLeDiff, Int.reduceLE, Int.reduceLT, Int.reduceToNat, Int.reduceEq, Nat.reduceBEq, itsOf, gdA, byteI, opid, lenQ, ixQ, ldH, readAt, readCells, asCell, faQ, exQ, fldQ, partA, buildQ, slQ, stH, bslH, appH, dcells, convI, elemsOf, D.one, nilS, fillD, convN, cvH, tyR1A2, g, w1, e3, e4, uu]) | (with_reducible refine ⟨?_, ?_⟩; (· first | (obtain ⟨rfl⟩ := ‹Hq _ _›; with_reducible refine chk_ok ?_; kernel_rfl) | kernel_rfl)) | (with_reducible intro ops hops)))
            refine ⟨p + 1, ⟨by omega, by omega⟩, le_stOf _ _ [] [(100, 4075)] ?_ ?_ rfl rfl, by simp; omega⟩
            · simp [cv, cv1, cv0, upd, lk, srcOf, hstep]
            · simp [objOk, srcOf, lk, cvO, frz, hO, hstep, upd, u64I]
    · have : p = 312 := by
        rcases Nat.lt_or_ge p 312 with h' | h'
        · have := primes_lt p h'; simp at h; omega
        · omega
      subst this
      (repeat (first | (simp -implicitDefEqProofs only [ev, mixed, Nat.reduceLT, Nat.reduceAdd, Nat.reduceMul, reduceIte, Nat.reduceEqDiff, reduceCtorEq, Nat.reducePow, Nat.reduceLeDiff, Int.reduceLE, Int.reduceLT, Int.reduceToNat, Int.reduceEq, Nat.reduceBEq, itsOf, gdA, byteI, opid, lenQ, ixQ, ldH, readAt, readCells, asCell, faQ, exQ, fldQ, partA, buildQ, slQ, stH, bslH, appH, dcells, convI, elemsOf, D.one, nilS, fillD, convN, cvH, tyR1A2]) | (with_reducible refine ⟨?_, ?_⟩; (· first | (obtain ⟨rfl⟩ := ‹Hq _ _›; with_reducible refine chk_ok ?_; kernel_rfl) | kernel_rfl)) | (with_reducible intro ops hops)))
      refine fin_retD _ [] [(1, 100)] rfl ?_ ?_ rfl ?_ rfl
      · simp [cv, cv1, cv0, upd, srcR, lk, noH, primes_312]
      · simp [objOk, srcR, lk, cvO, frz, upd, noH, hO]
      · simp [noH]
end Go.Proofs.Ytdpfjmkilbepgaa
/- The document's digest and ours: plain laws. -/
set_option linter.all false
namespace Go.Proofs.Ytdpfjmkilbepgaa
open Go Go.Abs Go.RowKit Go.Proofs.Ytdpfjmkilbepgaa.Ty
theorem tyR1S0 : (type_of% @Ty.T3) ∧ (type_of% @Ty.T148) := ⟨@Ty.T3, @Ty.T148⟩

@[irreducible] def PR : List Nat := primesTo 312
theorem PR_eq : primesTo 312 = PR := by unfold PR; rfl
theorem PR_len : PR.length = 64 := by rw [← PR_eq]; exact primes_312
theorem PR_lt : ∀ p ∈ PR, p < 18446744073709551616 := fun p h => by rw [← PR_eq] at h; have := (primes_pos 312 p h).2; omega
set_option maxRecDepth 100000 in
theorem KS_root : PR.map (fun p => prF p false) = KS := by decide +kernel
set_option maxRecDepth 100000 in
theorem V0_root : (PR.take 8).map (fun p => prF p true) = V0.list := by decide +kernel

/-- a word of four bytes -/
theorem or_add {a b : Nat} (k : Nat) (h : b < 2 ^ k) : (a * 2 ^ k) ||| b = a * 2 ^ k + b := by
  rw [Nat.mul_comm, Nat.two_pow_add_eq_or_of_lt h]
theorem wordAt_hor (l : List UInt8) (i : Nat) : wordAt l i = hor l i 4 := by
  have h0 := bnth_lt l i; have h1 := bnth_lt l (i + 1); have h2 := bnth_lt l (i + 2); have h3 := bnth_lt l (i + 3)
  simp only [wordAt, hor, Nat.add_zero]
  generalize bnth l i = a at *
  generalize bnth l (i + 1) = b at *
  generalize bnth l (i + 2) = c at *
  generalize bnth l (i + 3) = d at *
  have e0 : wshl a 16777216 = a * 2 ^ 24 := by unfold wshl; omega
  have e1 : wshl b 65536 = b * 2 ^ 16 := by unfold wshl; omega
  have e2 : wshl c 256 = c * 2 ^ 8 := by unfold wshl; omega
  rw [e0, e1, e2]
  have w : ∀ x y, x < 4294967296 → y < 4294967296 → wor x y = x ||| y := fun x y hx hy => by
    unfold wor; rw [Nat.mod_eq_of_lt hx, Nat.mod_eq_of_lt hy]
  have s1 : wor (a * 2 ^ 24) (b * 2 ^ 16) = (a * 2 ^ 8 + b) * 2 ^ 16 := by
    rw [w _ _ (by omega) (by omega), or_add 24 (by omega)]; omega
  have s2 : wor ((a * 2 ^ 8 + b) * 2 ^ 16) (c * 2 ^ 8) = ((a * 2 ^ 8 + b) * 2 ^ 8 + c) * 2 ^ 8 := by
    rw [w _ _ (by omega) (by omega), or_add 16 (by omega)]; omega
  rw [s1, s2, w _ _ (by omega) (by omega), or_add 8 (by omega)]
  omega

def wandn (a b : Nat) : Nat := wand a (wnot b)
theorem wand_comm (a b : Nat) : wand a b = wand b a := Nat.and_comm _ _
theorem wxor_comm (a b : Nat) : wxor a b = wxor b a := Nat.xor_comm _ _
theorem wor_comm (a b : Nat) : wor a b = wor b a := Nat.or_comm _ _
theorem tb_not (a i : Nat) : (wnot a).testBit i = (decide (i < 32) && !(a % 4294967296).testBit i) := by
  unfold wnot
  rw [show 4294967295 = 2 ^ 32 - 1 from rfl, Nat.testBit_xor, Nat.testBit_two_pow_sub_one]
  by_cases h : i < 32
  · simp [h]
  · have : (a % 4294967296).testBit i = false := Nat.testBit_lt_two_pow (Nat.lt_of_lt_of_le (Nat.mod_lt _ (by decide)) (show 2 ^ 32 ≤ 2 ^ i from Nat.pow_le_pow_right (by decide) (by omega)))
    simp [h, this]
theorem wand_mod (a b : Nat) : wand a b % 4294967296 = wand a b := Nat.mod_eq_of_lt (wand_lt a b)
theorem wnot_lt (a : Nat) : wnot a < 4294967296 := Nat.xor_lt_two_pow (n := 32) (by decide) (Nat.mod_lt _ (by decide))
theorem wnot_mod (a : Nat) : wnot a % 4294967296 = wnot a := Nat.mod_eq_of_lt (wnot_lt a)
theorem wxor_mod (a b : Nat) : wxor a b % 4294967296 = wxor a b := Nat.mod_eq_of_lt (wxor_lt a b)
theorem wor_mod (a b : Nat) : wor a b % 4294967296 = wor a b := Nat.mod_eq_of_lt (wor_lt a b)
theorem choose_eq (e f g : Nat) : wor (wand f e) (wandn g e) = wxor (wand e f) (wand (wnot e) g) := by
  apply Nat.eq_of_testBit_eq
  intro i
  simp only [wor, wxor, wandn, Nat.testBit_or, Nat.testBit_xor, wand_mod]
  simp only [wand, Nat.testBit_and, wnot_mod, tb_not]
  cases (e % 4294967296).testBit i <;> cases (f % 4294967296).testBit i <;> cases (g % 4294967296).testBit i <;> cases decide (i < 32) <;> rfl
theorem most_eq (a b c : Nat) : wor (wor (wand a b) (wand a c)) (wand b c) = wxor (wxor (wand a b) (wand a c)) (wand b c) := by
  apply Nat.eq_of_testBit_eq
  intro i
  have e1 : (wor (wand a b) (wand a c)) % 4294967296 = wor (wand a b) (wand a c) := wor_mod _ _
  have e2 : (wxor (wand a b) (wand a c)) % 4294967296 = wxor (wand a b) (wand a c) := wxor_mod _ _
  rw [show wor (wor (wand a b) (wand a c)) (wand b c) = ((wor (wand a b) (wand a c)) % 4294967296) ||| (wand b c % 4294967296) from rfl, show wxor (wxor (wand a b) (wand a c)) (wand b c) = ((wxor (wand a b) (wand a c)) % 4294967296) ^^^ (wand b c % 4294967296) from rfl, e1, e2]
  simp only [wor, wxor, Nat.testBit_or, Nat.testBit_xor, wand_mod]
  simp only [wand, Nat.testBit_and]
  cases (a % 4294967296).testBit i <;> cases (b % 4294967296).testBit i <;> cases (c % 4294967296).testBit i <;> rfl
theorem wadd_comm (a b : Nat) : wadd a b = wadd b a := by unfold wadd; rw [Nat.add_comm]
theorem next_eq (x y z t : Nat) : wadd (wadd (wadd x y) z) t = wadd (wadd (wadd x z) y) t := by unfold wadd; omega

theorem ran (a b : Nat) : bits .andNot .u32 (a : Int) (b : Int) = ((wandn a b : Nat) : Int) := by
  have e : IntKind.u32.bits = 32 := rfl
  simp only [bits, BitVec.ofInt_natCast]
  rw [← BitVec.xor_allOnes]
  simp only [BitVec.toNat_and, BitVec.toNat_xor, BitVec.toNat_allOnes, BitVec.toNat_ofNat, e, IntKind.wrap_u32]
  have hlt : (a % 2 ^ 32) &&& ((b % 2 ^ 32) ^^^ (2 ^ 32 - 1)) < 4294967296 := Nat.and_lt_two_pow _ (n := 32) (Nat.xor_lt_two_pow (n := 32) (Nat.mod_lt _ (by decide)) (by decide))
  have hw : wandn a b = (a % 2 ^ 32) &&& ((b % 2 ^ 32) ^^^ (2 ^ 32 - 1)) := by
    unfold wandn wand
    rw [wnot_mod]
    unfold wnot
    rw [Nat.xor_comm]
  rw [hw]; omega
theorem bq_andNot {P : Program} {t : TypeId} {x y : Operand} {k : IntKind} {a b : Int} : binQ P .andNot t x y (some (.int k a)) (some (.int k b)) = some (.i (.s (.int k (bits .andNot k a b)))) := by
  simp [binQ, eqGuard, Go.binOp, Op.intBits, pv, pure, bind, Sem.bind, bits, ofV]

/-- a word's turn -/
theorem sh_mul32 (x n : Nat) (hn : n ≤ 32) : IntKind.u32.wrap ((x : Int) * 2 ^ (min n (IntKind.bits .u32))) = ((wshl x (2 ^ n) : Nat) : Int) := by
  have hb : IntKind.bits .u32 = 32 := rfl
  have e : ((2 : Int) ^ n) = ((2 ^ n : Nat) : Int) := by simp
  rw [show min n (IntKind.bits .u32) = n by omega, e, IntKind.wrap_u32, ← Int.natCast_mul]
  unfold wshl; omega
set_option maxHeartbeats 1000000
theorem turn_A (x n : Nat) (h1 : 1 ≤ n) (h2 : n ≤ 31) :
    PureD Try.prog 124 [.i (.s (.int .u32 (x : Int))), .i (.s (.int .i64 (n : Int)))] (.i (.s (.int .u32 ((wrot x n : Nat) : Int)))) := by
  have w1 : IntKind.i64.wrap (32 - (n : Int)) = ((32 - n : Nat) : Int) := by rw [wrap64 (by omega) (by omega)]; omega
  have w2 := sh_fdiv x n .u32 (by simp [IntKind.bits]; omega)
  have w3 := sh_mul32 x (32 - n) (by omega)
  have w4 : bits .or .u32 ((x / 2 ^ n : Nat) : Int) ((wshl x (2 ^ (32 - n)) : Nat) : Int) = ((wrot x n : Nat) : Int) := by
    rw [ro, wrot, wor_comm]; rfl
  generalize 32 - n = m at w1 w3 w4
  generalize 2 ^ n = E at w2 w4
  generalize 2 ^ m = E' at w3 w4
  refine callD_W 13 Try.func124 rfl rfl rfl (fun _ _ => rfl) ?_
  (repeat (first | (simp -implicitDefEqProofs only [ev, mixed, Nat.reduceLT, Nat.reduceAdd, Nat.reduceMul, reduceIte, Nat.reduceEqDiff, reduceCtorEq, Nat.reducePow, Nat.reduceLeDiff, Int.reduceLE, Int.reduceLT, Int.reduceToNat, Int.reduceEq, Nat.reduceBEq, itsOf, gdA, byteI, opid, lenQ, ixQ, ldH, readAt, readCells, asCell, faQ, exQ, fldQ, partA, buildQ, slQ, stH, bslH, appH, dcells, convI, elemsOf, D.one, nilS, fillD, convN, cvH, tyR1S0, w1, w2, w3, w4]) | (with_reducible refine ⟨?_, ?_⟩; (· first | (obtain ⟨rfl⟩ := ‹Hq _ _›; with_reducible refine chk_ok ?_; kernel_rfl) | kernel_rfl)) | (with_reducible intro ops hops)))
  refine fin_ret [] rfl ?_
  simp [cv, cv1, cv0, upd]
end Go.Proofs.Ytdpfjmkilbepgaa
/- landref1.Sum, by value. -/
set_option linter.all false
namespace Go.Proofs.Ytdpfjmkilbepgaa
open Go Go.Abs Go.RowKit Go.Proofs.Ytdpfjmkilbepgaa.Ty
theorem tyR1Sum0 : (type_of% @Ty.T0) ∧ (type_of% @Ty.T1) ∧ (type_of% @Ty.T2) ∧ (type_of% @Ty.T3) ∧ (type_of% @Ty.T4) ∧ (type_of% @Ty.T5) ∧ (type_of% @Ty.T6) ∧ (type_of% @Ty.T8) ∧ (type_of% @Ty.T25) ∧ (type_of% @Ty.T44) ∧ (type_of% @Ty.T145) ∧ (type_of% @Ty.T147) ∧ (type_of% @Ty.T148) := ⟨@Ty.T0, @Ty.T1, @Ty.T2, @Ty.T3, @Ty.T4, @Ty.T5, @Ty.T6, @Ty.T8, @Ty.T25, @Ty.T44, @Ty.T145, @Ty.T147, @Ty.T148⟩

def u32I (n : Nat) : List I := [.s (.int .u32 (n : Int))]
def rootsK (i : Nat) : List Nat := (PR.take i).map fun p => prF p false
def rootsH (i : Nat) : List Nat := ((PR.take i).take 8).map fun p => prF p true
theorem rootsK_succ {i : Nat} (h : i < PR.length) : rootsK (i + 1) = rootsK i ++ [prF PR[i] false] := by
  unfold rootsK; rw [List.take_succ_eq_append_getElem h, List.map_append]; rfl
theorem rootsH_lo {i : Nat} (h : i < PR.length) (h8 : i < 8) : rootsH (i + 1) = rootsH i ++ [prF PR[i] true] := by
  unfold rootsH
  rw [List.take_take, List.take_take, Nat.min_eq_right (by omega), Nat.min_eq_right (by omega), List.take_succ_eq_append_getElem h, List.map_append]; rfl
theorem rootsH_hi {i : Nat} (h8 : 8 ≤ i) : rootsH (i + 1) = rootsH i := by
  unfold rootsH; rw [List.take_take, List.take_take, Nat.min_eq_left (by omega), Nat.min_eq_left (by omega)]
theorem uni_u32 (l : List Nat) : uni 1 (l.map u32I) = true := uni_map (s := 1) (f := u32I) (fun _ => rfl) l
theorem uni_u64 (l : List Nat) : uni 1 (l.map u64I) = true := uni_map (s := 1) (f := u64I) (fun _ => rfl) l

def zpad (n : Nat) : Nat := (119 - n % 64) % 64
theorem wq0 : IntKind.i64.wrap (0 + 1) = 1 := by decide
theorem wq1 : IntKind.i64.wrap (1 + 1) = 2 := by decide
theorem wq2 : IntKind.i64.wrap (2 + 1) = 3 := by decide
theorem wq3 : IntKind.i64.wrap (3 + 1) = 4 := by decide
theorem wq4 : IntKind.i64.wrap (4 + 1) = 5 := by decide
theorem wq5 : IntKind.i64.wrap (5 + 1) = 6 := by decide
theorem wq6 : IntKind.i64.wrap (6 + 1) = 7 := by decide
theorem wq7 : IntKind.i64.wrap (7 + 1) = 8 := by decide
def hmix (v u : V8) (k : Nat) : List Nat := [if 0 < k then wadd v.a u.a else v.a, if 1 < k then wadd v.b u.b else v.b, if 2 < k then wadd v.c u.c else v.c, if 3 < k then wadd v.d u.d else v.d, if 4 < k then wadd v.e u.e else v.e, if 5 < k then wadd v.f u.f else v.f, if 6 < k then wadd v.g u.g else v.g, if 7 < k then wadd v.h u.h else v.h]
def obytes (v : V8) (k : Nat) : List UInt8 := ((v.list.take k).map be32).flatten
theorem obytes_len (v : V8) (k : Nat) (h : k ≤ 8) : (obytes v k).length = 4 * k := by
  have : k = 0 ∨ k = 1 ∨ k = 2 ∨ k = 3 ∨ k = 4 ∨ k = 5 ∨ k = 6 ∨ k = 7 ∨ k = 8 := by omega
  rcases this with rfl | rfl | rfl | rfl | rfl | rfl | rfl | rfl | rfl <;> rfl
theorem obytes_succ (v : V8) (k : Nat) (h : k < 8) : obytes v (k + 1) = obytes v k ++ be32 (v.list.getD k 0) := by
  have hl : v.list.length = 8 := rfl
  unfold obytes
  rw [List.take_succ_eq_append_getElem (by omega), List.map_append, List.flatten_append]
  simp [List.getD_eq_getElem?_getD, show k < v.list.length by omega]
theorem obytes_all (v : V8) : obytes v 8 = outW v := by
  simp [obytes, outW, V8.list]
theorem round_eq (u : V8) (K W : Nat) : roundW u K W =
    ⟨wadd (wadd (wadd (wadd (wadd u.h (wxor (wxor (wrot u.e 6) (wrot u.e 11)) (wrot u.e 25))) (wor (wand u.f u.e) (wandn u.g u.e))) K) W) (wadd (wxor (wxor (wrot u.a 2) (wrot u.a 13)) (wrot u.a 22)) (wor (wor (wand u.a u.b) (wand u.a u.c)) (wand u.b u.c))), u.a, u.b, u.c,
      wadd u.d (wadd (wadd (wadd (wadd u.h (wxor (wxor (wrot u.e 6) (wrot u.e 11)) (wrot u.e 25))) (wor (wand u.f u.e) (wandn u.g u.e))) K) W), u.e, u.f, u.g⟩ := by
  unfold roundW
  rw [choose_eq, most_eq]
theorem wad (a b : Nat) : IntKind.u32.wrap ((a : Int) + (b : Int)) = ((wadd a b : Nat) : Int) := by rw [IntKind.wrap_u32]; unfold wadd; omega
set_option maxHeartbeats 8000000
theorem sumref_A (b : List UInt8) (hb : b.length ≤ 1099511627776) : PureD Try.prog 84 [.i (bI b)] (.i (bI (sha b))) := by
  refine callD_W 302 Try.func84 rfl rfl rfl (fun _ _ => rfl) ?_
  (repeat (first | (simp -implicitDefEqProofs only [ev, mixed, Nat.reduceLT, Nat.reduceAdd, Nat.reduceMul, reduceIte, Nat.reduceEqDiff, reduceCtorEq, Nat.reducePow, Nat.reduceLeDiff, Int.reduceLE, Int.reduceLT, Int.reduceToNat, Int.reduceEq, Nat.reduceBEq, itsOf, gdA, byteI, opid, lenQ, ixQ, ldH, readAt, readCells, asCell, faQ, exQ, fldQ, partA, buildQ, slQ, stH, bslH, appH, dcells, convI, elemsOf, D.one, nilS, fillD, convN, cvH, tyR1Sum0, bI]) | (with_reducible refine ⟨?_, ?_⟩; (· first | (obtain ⟨rfl⟩ := ‹Hq _ _›; with_reducible refine chk_ok ?_; kernel_rfl) | kernel_rfl)) | (with_reducible intro ops hops)))
  have hpr := primes_A
  rw [PR_eq] at hpr
  refine Call_new 1256 hpr (by simp [upd, noH]) rfl ?_
  (repeat (first | (simp -implicitDefEqProofs only [ev, mixed, Nat.reduceLT, Nat.reduceAdd, Nat.reduceMul, reduceIte, Nat.reduceEqDiff, reduceCtorEq, Nat.reducePow, Nat.reduceLeDiff, Int.reduceLE, Int.reduceLT, Int.reduceToNat, Int.reduceEq, Nat.reduceBEq, itsOf, gdA, byteI, opid, lenQ, ixQ, ldH, readAt, readCells, asCell, faQ, exQ, fldQ, partA, buildQ, slQ, stH, bslH, appH, dcells, convI, elemsOf, D.one, nilS, fillD, convN, cvH, tyR1Sum0]) | (with_reducible refine ⟨?_, ?_⟩; (· first | (obtain ⟨rfl⟩ := ‹Hq _ _›; with_reducible refine chk_ok ?_; kernel_rfl) | kernel_rfl)) | (with_reducible intro ops hops)))
  refine W_loopI (ι := Nat) (fun i => i ≤ 64)
    (fun i => stOf [(0, .i (.sl (b.map byteI))), (39, .os 100 1 0 64), (40, .i (.s (.int .i64 64))), (41, .i (.s (.int .i64 (i : Nat)))), (4, .os 101 1 0 (rootsK i).length), (5, .os 102 1 0 (rootsH i).length)]
      [(100, .arr 1 (PR.map u64I)), (101, .arr 1 ((rootsK i).map u32I)), (102, .arr 1 ((rootsH i).map u32I))]) (fun i => 64 - i) 0 (by decide) ?_ ?_
  · refine le_stOf _ _ [] [(100, 1256)] ?_ ?_ rfl rfl
    · simp [cv, cv1, cv0, upd, lk, srcOf, rootsK, rootsH]
    · simp [objOk, srcOf, lk, cvO, frz, upd, rootsK, rootsH]
  · intro i hi
    rw [stOf_eq]
    (repeat (first | (simp -implicitDefEqProofs only [ev, mixed, Nat.reduceLT, Nat.reduceAdd, Nat.reduceMul, reduceIte, Nat.reduceEqDiff, reduceCtorEq, Nat.reducePow, Nat.reduceLeDiff, Int.reduceLE, Int.reduceLT, Int.reduceToNat, Int.reduceEq, Nat.reduceBEq, itsOf, gdA, byteI, opid, lenQ, ixQ, ldH, readAt, readCells, asCell, faQ, exQ, fldQ, partA, buildQ, slQ, stH, bslH, appH, dcells, convI, elemsOf, D.one, nilS, fillD, convN, cvH, tyR1Sum0]) | (with_reducible refine ⟨?_, ?_⟩; (· first | (obtain ⟨rfl⟩ := ‹Hq _ _›; with_reducible refine chk_ok ?_; kernel_rfl) | kernel_rfl)) | (with_reducible intro ops hops)))
    refine Wc_split (fun h => ?_) (fun h => ?_)
    · have h1 : i < 64 := by simp at h; omega
      clear h
      have hip : i < PR.length := by rw [PR_len]; exact h1
      have hpl := PR_lt _ (List.getElem_mem hip)
      have e1 : (PR.map u64I)[i]? = some [.s (.int .u64 ((PR[i] : Nat) : Int))] := by rw [List.getElem?_map, List.getElem?_eq_getElem hip]; rfl
      have hk := rootsK_succ hip
      have hh := fun h8 => rootsH_lo hip h8
      have hh' := fun h8 => rootsH_hi (i := i) h8
      have lk1 : (rootsK i).length = i := by simp [rootsK, PR_len]; omega
      have lh1 : (rootsH i).length ≤ 8 := by simp [rootsH]; omega
      have l1 : ((i : Int) < 64) = True := eq_true (by omega)
      have e3 : (rootsK i).length + 1 ≤ 140737488355328 := by omega
      have e4 : ((rootsK i).length + 1) * 4 ≤ 140737488355328 := by omega
      have e5 : (rootsH i).length + 1 ≤ 140737488355328 := by omega
      have e6 : ((rootsH i).length + 1) * 4 ≤ 140737488355328 := by omega
      have w1 : IntKind.i64.wrap ((i : Int) + 1) = ((i + 1 : Nat) : Int) := by rw [wrap64 (by omega) (by omega)]; omega
      generalize PR[i] = p at hpl e1 hk hh
      generalize hR : PR.map u64I = R at e1
      generalize rootsK i = K at hk e3 e4
      generalize rootsH i = Hl at hh hh' e5 e6
      (repeat (first | (simp -implicitDefEqProofs only [ev, mixed, Nat.reduceLT, Nat.reduceAdd, Nat.reduceMul, reduceIte, Nat.reduceEqDiff, reduceCtorEq, Nat.reducePow, Nat.reduceLeDiff, Int.reduceLE, Int.reduceLT, Int.reduceToNat, Int.reduceEq, Nat.reduceBEq, itsOf, gdA, byteI, opid, lenQ, ixQ, ldH, readAt, readCells, asCell, faQ, exQ, fldQ, partA, buildQ, slQ, stH, bslH, appH, dcells, convI, elemsOf, D.one, nilS, fillD, convN, cvH, tyR1Sum0, e1, l1]) | (with_reducible refine ⟨?_, ?_⟩; (· first | (obtain ⟨rfl⟩ := ‹Hq _ _›; with_reducible refine chk_ok ?_; kernel_rfl) | kernel_rfl)) | (with_reducible intro ops hops)))
      (first | refine Call_flat [] [] (root_A p false hpl) (by simp [cvAs, cvA, cvRL, cvR, cvBox, cv1, cvL, cv0, bI, byteI, elemsOf, upd]) rfl ?_ | refine CallF_flat [] [] [] (root_A p false hpl) (fun G _ => by simp [cvAs, cvA, cvRL, cvR, cvBox, cv1, cvL, cv0, bI, byteI, elemsOf, upd]) rfl ?_)
      cases g8 : decide ((i : Int) < 8)
      · have h8 : 8 ≤ i := by simp at g8; omega
        have hh2 := hh' h8
        (repeat (first | (simp -implicitDefEqProofs only [ev, mixed, Nat.reduceLT, Nat.reduceAdd, Nat.reduceMul, reduceIte, Nat.reduceEqDiff, reduceCtorEq, Nat.reducePow, Nat.reduceLeDiff, Int.reduceLE, Int.reduceLT, Int.reduceToNat, Int.reduceEq, Nat.reduceBEq, itsOf, gdA, byteI, opid, lenQ, ixQ, ldH, readAt, readCells, asCell, faQ, exQ, fldQ, partA, buildQ, slQ, stH, bslH, appH, dcells, convI, elemsOf, D.one, nilS, fillD, convN, cvH, tyR1Sum0, g8, e3, e4, uni_u32, w1]) | (with_reducible refine ⟨?_, ?_⟩; (· first | (obtain ⟨rfl⟩ := ‹Hq _ _›; with_reducible refine chk_ok ?_; kernel_rfl) | kernel_rfl)) | (with_reducible intro ops hops)))
        refine ⟨i + 1, h1, le_stOf _ _ [] [(100, 100), (101, 2796), (102, 102)] ?_ ?_ rfl rfl, by simp; omega⟩
        · simp [cv, cv1, cv0, upd, lk, srcOf, hk, hh2]
        · simp [objOk, srcOf, lk, cvO, frz, upd, hO, hk, hh2, u32I, hR]
      · have h8 : i < 8 := by simp at g8; omega
        have hh2 := hh h8
        (repeat (first | (simp -implicitDefEqProofs only [ev, mixed, Nat.reduceLT, Nat.reduceAdd, Nat.reduceMul, reduceIte, Nat.reduceEqDiff, reduceCtorEq, Nat.reducePow, Nat.reduceLeDiff, Int.reduceLE, Int.reduceLT, Int.reduceToNat, Int.reduceEq, Nat.reduceBEq, itsOf, gdA, byteI, opid, lenQ, ixQ, ldH, readAt, readCells, asCell, faQ, exQ, fldQ, partA, buildQ, slQ, stH, bslH, appH, dcells, convI, elemsOf, D.one, nilS, fillD, convN, cvH, tyR1Sum0, g8, e3, e4, uni_u32]) | (with_reducible refine ⟨?_, ?_⟩; (· first | (obtain ⟨rfl⟩ := ‹Hq _ _›; with_reducible refine chk_ok ?_; kernel_rfl) | kernel_rfl)) | (with_reducible intro ops hops)))
        (first | refine Call_flat [] [] (root_A p true hpl) (by simp [cvAs, cvA, cvRL, cvR, cvBox, cv1, cvL, cv0, bI, byteI, elemsOf, upd]) rfl ?_ | refine CallF_flat [] [] [] (root_A p true hpl) (fun G _ => by simp [cvAs, cvA, cvRL, cvR, cvBox, cv1, cvL, cv0, bI, byteI, elemsOf, upd]) rfl ?_)
        (repeat (first | (simp -implicitDefEqProofs only [ev, mixed, Nat.reduceLT, Nat.reduceAdd, Nat.reduceMul, reduceIte, Nat.reduceEqDiff, reduceCtorEq, Nat.reducePow, Nat.reduceLeDiff, Int.reduceLE, Int.reduceLT, Int.reduceToNat, Int.reduceEq, Nat.reduceBEq, itsOf, gdA, byteI, opid, lenQ, ixQ, ldH, readAt, readCells, asCell, faQ, exQ, fldQ, partA, buildQ, slQ, stH, bslH, appH, dcells, convI, elemsOf, D.one, nilS, fillD, convN, cvH, tyR1Sum0, e5, e6, uni_u32, w1]) | (with_reducible refine ⟨?_, ?_⟩; (· first | (obtain ⟨rfl⟩ := ‹Hq _ _›; with_reducible refine chk_ok ?_; kernel_rfl) | kernel_rfl)) | (with_reducible intro ops hops)))
        refine ⟨i + 1, h1, le_stOf _ _ [] [(100, 100), (101, 2796), (102, 3308)] ?_ ?_ rfl rfl, by simp; omega⟩
        · simp [cv, cv1, cv0, upd, lk, srcOf, hk, hh2]
        · simp [objOk, srcOf, lk, cvO, frz, upd, hO, hk, hh2, u32I, hR]
    · have h1 : i = 64 := by simp at h; omega
      subst h1
      have hK : rootsK 64 = KS := by rw [← KS_root, rootsK, List.take_of_length_le (by rw [PR_len]; exact Nat.le_refl _)]
      have hH : rootsH 64 = V0.list := by rw [← V0_root, rootsH, List.take_take]; rfl
      rw [hK, hH]
      generalize PR.map u64I = R
      have hKl : KS.length = 64 := rfl
      have hHl : V0.list.length = 8 := rfl
      rw [hKl, hHl]
      have e3 : b.length + 1 ≤ 140737488355328 := by omega
      have e4 : b.length ≤ 140737488355328 := by omega
      (repeat (first | (simp -implicitDefEqProofs only [ev, mixed, Nat.reduceLT, Nat.reduceAdd, Nat.reduceMul, reduceIte, Nat.reduceEqDiff, reduceCtorEq, Nat.reducePow, Nat.reduceLeDiff, Int.reduceLE, Int.reduceLT, Int.reduceToNat, Int.reduceEq, Nat.reduceBEq, itsOf, gdA, byteI, opid, lenQ, ixQ, ldH, readAt, readCells, asCell, faQ, exQ, fldQ, partA, buildQ, slQ, stH, bslH, appH, dcells, convI, elemsOf, D.one, nilS, fillD, convN, cvH, tyR1Sum0, e3, e4, uni_byteI]) | (with_reducible refine ⟨?_, ?_⟩; (· first | (obtain ⟨rfl⟩ := ‹Hq _ _›; with_reducible refine chk_ok ?_; kernel_rfl) | kernel_rfl)) | (with_reducible intro ops hops)))
      clear hpr hi h hK hH hKl hHl
      refine W_loopI (ι := Nat) (fun j => j ≤ zpad b.length)
        (fun j => stOf [(0, .i (.sl (b.map byteI))), (4, .os 101 1 0 64), (5, .os 102 1 0 8), (8, .os 103 1 0 (b.length + 1 + j))]
          [(101, .arr 1 (KS.map u32I)), (102, .arr 1 (V0.list.map u32I)), (103, .arr 1 ((b ++ 128 :: List.replicate j 0).map byteI))]) (fun j => zpad b.length - j) 0 (Nat.zero_le _) ?_ ?_
      · refine le_stOf _ _ [] [(101, 101), (102, 102), (103, 3820)] ?_ ?_ rfl rfl
        · simp [cv, cv1, cv0, upd, lk, srcOf]
        · simp [objOk, srcOf, lk, cvO, frz, upd, hO, byteI]
      · intro j hj
        rw [stOf_eq]
        have r1 : ((b.length + 1 + j : Nat) : Int).tmod 64 = (((b.length + 1 + j) % 64 : Nat) : Int) := by rw [Int.tmod_eq_emod_of_nonneg (by omega)]; exact (Int.natCast_emod _ _).symm
        (repeat (first | (simp -implicitDefEqProofs only [ev, mixed, Nat.reduceLT, Nat.reduceAdd, Nat.reduceMul, reduceIte, Nat.reduceEqDiff, reduceCtorEq, Nat.reducePow, Nat.reduceLeDiff, Int.reduceLE, Int.reduceLT, Int.reduceToNat, Int.reduceEq, Nat.reduceBEq, itsOf, gdA, byteI, opid, lenQ, ixQ, ldH, readAt, readCells, asCell, faQ, exQ, fldQ, partA, buildQ, slQ, stH, bslH, appH, dcells, convI, elemsOf, D.one, nilS, fillD, convN, cvH, tyR1Sum0, r1]) | (with_reducible refine ⟨?_, ?_⟩; (· first | (obtain ⟨rfl⟩ := ‹Hq _ _›; with_reducible refine chk_ok ?_; kernel_rfl) | kernel_rfl)) | (with_reducible intro ops hops)))
        refine Wc_split (fun h => ?_) (fun h => ?_)
        · have h1 : j < zpad b.length := by unfold zpad at hj ⊢; simp at h; omega
          clear h
          have e3 : b.length + 1 + j + 1 ≤ 140737488355328 := by unfold zpad at h1; omega
          have e7 : b.length + (j + 1) = b.length + 1 + j := by omega
          (repeat (first | (simp -implicitDefEqProofs only [ev, mixed, Nat.reduceLT, Nat.reduceAdd, Nat.reduceMul, reduceIte, Nat.reduceEqDiff, reduceCtorEq, Nat.reducePow, Nat.reduceLeDiff, Int.reduceLE, Int.reduceLT, Int.reduceToNat, Int.reduceEq, Nat.reduceBEq, itsOf, gdA, byteI, opid, lenQ, ixQ, ldH, readAt, readCells, asCell, faQ, exQ, fldQ, partA, buildQ, slQ, stH, bslH, appH, dcells, convI, elemsOf, D.one, nilS, fillD, convN, cvH, tyR1Sum0, e3, e7, uni_byteI]) | (with_reducible refine ⟨?_, ?_⟩; (· first | (obtain ⟨rfl⟩ := ‹Hq _ _›; with_reducible refine chk_ok ?_; kernel_rfl) | kernel_rfl)) | (with_reducible intro ops hops)))
          refine ⟨j + 1, h1, le_stOf _ _ [] [(101, 101), (102, 102), (103, 4330)] ?_ ?_ rfl rfl, by simp; omega⟩
          · simp [cv, cv1, cv0, upd, lk, srcOf]; omega
          · simp [objOk, srcOf, lk, cvO, frz, upd, hO, byteI, List.replicate_succ']
        · have h1 : j = zpad b.length := by unfold zpad at hj ⊢; simp at h; omega
          subst h1
          clear h hj r1
          have hN : (b.length * 8) % 18446744073709551616 = b.length * 8 := Nat.mod_eq_of_lt (by omega)
          have w1 : IntKind.u64.wrap (b.length : Int) = (b.length : Int) := by rw [IntKind.wrap_u64]; omega
          have w2 : IntKind.u64.wrap (8 * (b.length : Int)) = ((b.length * 8 : Nat) : Int) := by rw [IntKind.wrap_u64]; omega
          have hz : zpad b.length < 64 := Nat.mod_lt _ (by decide)
          have hpad : padOf b.length = 128 :: (List.replicate (zpad b.length) 0 ++ be64 (b.length * 8)) := by rw [padOf, hN]; rfl
          have hlen : b.length + 1 + zpad b.length + 8 = 64 * ((b.length + (padOf b.length).length) / 64) := by rw [padOf_length]; unfold zpad; omega
          have hsha : sha b = outW (blocksW V0 ((b.length + (padOf b.length).length) / 64) (b ++ 128 :: (List.replicate (zpad b.length) 0 ++ be64 (b.length * 8)))) := by rw [← hpad]; rfl
          rw [hsha]
          clear hsha hpad hN
          generalize (b.length + (padOf b.length).length) / 64 = J at hlen ⊢
          generalize zpad b.length = z at hz hlen ⊢
          generalize hNN : b.length * 8 = N at w2 ⊢
          (repeat (first | (simp -implicitDefEqProofs only [ev, mixed, Nat.reduceLT, Nat.reduceAdd, Nat.reduceMul, reduceIte, Nat.reduceEqDiff, reduceCtorEq, Nat.reducePow, Nat.reduceLeDiff, Int.reduceLE, Int.reduceLT, Int.reduceToNat, Int.reduceEq, Nat.reduceBEq, itsOf, gdA, byteI, opid, lenQ, ixQ, ldH, readAt, readCells, asCell, faQ, exQ, fldQ, partA, buildQ, slQ, stH, bslH, appH, dcells, convI, elemsOf, D.one, nilS, fillD, convN, cvH, tyR1Sum0, w1, w2]) | (with_reducible refine ⟨?_, ?_⟩; (· first | (obtain ⟨rfl⟩ := ‹Hq _ _›; with_reducible refine chk_ok ?_; kernel_rfl) | kernel_rfl)) | (with_reducible intro ops hops)))
          refine W_loopI (ι := Nat) (fun t => t ≤ 8)
            (fun t => stOf [(4, .os 101 1 0 64), (5, .os 102 1 0 8), (8, .os 103 1 0 (b.length + 1 + z + t)), (9, .i (.s (.int .u64 (N : Nat)))), (10, .i (.s (.int .i64 (7 - (t : Int)))))]
              [(101, .arr 1 (KS.map u32I)), (102, .arr 1 (V0.list.map u32I)), (103, .arr 1 ((b ++ 128 :: (List.replicate z 0 ++ (be64 N).take t)).map byteI))]) (fun t => 8 - t) 0 (Nat.zero_le _) ?_ ?_
          · refine le_stOf _ _ [] [(101, 101), (102, 102), (103, 103)] ?_ ?_ rfl rfl
            · simp [cv, cv1, cv0, upd, lk, srcOf]
            · simp [objOk, srcOf, lk, cvO, frz, upd, hO, byteI]
          · intro t ht
            rw [stOf_eq]
            (repeat (first | (simp -implicitDefEqProofs only [ev, mixed, Nat.reduceLT, Nat.reduceAdd, Nat.reduceMul, reduceIte, Nat.reduceEqDiff, reduceCtorEq, Nat.reducePow, Nat.reduceLeDiff, Int.reduceLE, Int.reduceLT, Int.reduceToNat, Int.reduceEq, Nat.reduceBEq, itsOf, gdA, byteI, opid, lenQ, ixQ, ldH, readAt, readCells, asCell, faQ, exQ, fldQ, partA, buildQ, slQ, stH, bslH, appH, dcells, convI, elemsOf, D.one, nilS, fillD, convN, cvH, tyR1Sum0]) | (with_reducible refine ⟨?_, ?_⟩; (· first | (obtain ⟨rfl⟩ := ‹Hq _ _›; with_reducible refine chk_ok ?_; kernel_rfl) | kernel_rfl)) | (with_reducible intro ops hops)))
            refine Wc_split (fun h => ?_) (fun h => ?_)
            · have h1 : t < 8 := by simp at h; omega
              clear h
              have hg := be64_get N t h1
              have hts := take_snoc' hg
              have e7 : (7 : Int) - (t : Int) = ((7 - t : Nat) : Int) := by omega
              have w3 : IntKind.i64.wrap (8 * ((7 - t : Nat) : Int)) = ((8 * (7 - t) : Nat) : Int) := by rw [wrap64 (by omega) (by omega)]; omega
              have w4 := byte_shift (k := .u64) N (7 - t) (by simp [IntKind.bits]; omega)
              have w5 : IntKind.i64.wrap (((7 - t : Nat) : Int) - 1) = 7 - ((t + 1 : Nat) : Int) := by rw [wrap64 (by omega) (by omega)]; omega
              have hl8 : (be64 N).length = 8 := rfl
              have e3 : b.length + 1 + z + t + 1 ≤ 140737488355328 := by omega
              have e8 : b.length + (z + (min t (be64 N).length) + 1) = b.length + 1 + z + t := by rw [hl8]; omega
              generalize byteOf N (256 ^ (7 - t)) = c at hts w4
              generalize 7 - t = d at e7 w3 w4 w5
              generalize be64 N = B8 at hts e8 hl8
              (repeat (first | (simp -implicitDefEqProofs only [ev, mixed, Nat.reduceLT, Nat.reduceAdd, Nat.reduceMul, reduceIte, Nat.reduceEqDiff, reduceCtorEq, Nat.reducePow, Nat.reduceLeDiff, Int.reduceLE, Int.reduceLT, Int.reduceToNat, Int.reduceEq, Nat.reduceBEq, itsOf, gdA, byteI, opid, lenQ, ixQ, ldH, readAt, readCells, asCell, faQ, exQ, fldQ, partA, buildQ, slQ, stH, bslH, appH, dcells, convI, elemsOf, D.one, nilS, fillD, convN, cvH, tyR1Sum0, e7, w3, w4, w5, e3, e8, uni_byteI, List.length_take]) | (with_reducible refine ⟨?_, ?_⟩; (· first | (obtain ⟨rfl⟩ := ‹Hq _ _›; with_reducible refine chk_ok ?_; kernel_rfl) | kernel_rfl)) | (with_reducible intro ops hops)))
              refine ⟨t + 1, h1, le_stOf _ _ [] [(101, 101), (102, 102), (103, 5615)] ?_ ?_ rfl rfl, by simp; omega⟩
              · simp [cv, cv1, cv0, upd, lk, srcOf]
                omega
              · simp [objOk, srcOf, lk, cvO, frz, upd, hO, byteI, hts]
            · have h1 : t = 8 := by simp at h; omega
              subst h1
              have hM : (b ++ 128 :: (List.replicate z 0 ++ be64 N)).length = 64 * J := by rw [← hlen]; simp [be64]; omega
              rw [show (be64 N).take 8 = be64 N from rfl, hlen]
              generalize b ++ 128 :: (List.replicate z 0 ++ be64 N) = M at hM ⊢
              have hJ : J ≤ 17179869190 := by omega
              clear hlen hz w1 w2 hNN ht h hb e3 e4
              (repeat (first | (simp -implicitDefEqProofs only [ev, mixed, Nat.reduceLT, Nat.reduceAdd, Nat.reduceMul, reduceIte, Nat.reduceEqDiff, reduceCtorEq, Nat.reducePow, Nat.reduceLeDiff, Int.reduceLE, Int.reduceLT, Int.reduceToNat, Int.reduceEq, Nat.reduceBEq, itsOf, gdA, byteI, opid, lenQ, ixQ, ldH, readAt, readCells, asCell, faQ, exQ, fldQ, partA, buildQ, slQ, stH, bslH, appH, dcells, convI, elemsOf, D.one, nilS, fillD, convN, cvH, tyR1Sum0]) | (with_reducible refine ⟨?_, ?_⟩; (· first | (obtain ⟨rfl⟩ := ‹Hq _ _›; with_reducible refine chk_ok ?_; kernel_rfl) | kernel_rfl)) | (with_reducible intro ops hops)))
              refine W_loopI (ι := Nat) (fun k => k ≤ J)
                (fun k => stOf [(4, .os 101 1 0 64), (5, .os 102 1 0 8), (8, .os 103 1 0 (64 * J)), (11, .i (.s (.int .i64 ((64 * k : Nat) : Int))))]
                  [(101, .arr 1 (KS.map u32I)), (102, .arr 1 ((blocksW V0 k M).list.map u32I)), (103, .arr 1 (M.map byteI))]) (fun k => J - k) 0 (Nat.zero_le _) ?_ ?_
              · refine le_stOf _ _ [] [(101, 101), (102, 102), (103, 103)] ?_ ?_ rfl rfl
                · simp [cv, cv1, cv0, upd, lk, srcOf]
                · simp [objOk, srcOf, lk, cvO, frz, upd, hO, blocksW]
              · intro k hk
                rw [stOf_eq]
                (repeat (first | (simp -implicitDefEqProofs only [ev, mixed, Nat.reduceLT, Nat.reduceAdd, Nat.reduceMul, reduceIte, Nat.reduceEqDiff, reduceCtorEq, Nat.reducePow, Nat.reduceLeDiff, Int.reduceLE, Int.reduceLT, Int.reduceToNat, Int.reduceEq, Nat.reduceBEq, itsOf, gdA, byteI, opid, lenQ, ixQ, ldH, readAt, readCells, asCell, faQ, exQ, fldQ, partA, buildQ, slQ, stH, bslH, appH, dcells, convI, elemsOf, D.one, nilS, fillD, convN, cvH, tyR1Sum0]) | (with_reducible refine ⟨?_, ?_⟩; (· first | (obtain ⟨rfl⟩ := ‹Hq _ _›; with_reducible refine chk_ok ?_; kernel_rfl) | kernel_rfl)) | (with_reducible intro ops hops)))
                refine Wc_split (fun h => ?_) (fun h => ?_)
                · have h1 : k < J := by simp at h; omega
                  clear h
                  have hbs := blocksW_succ k V0 M
                  have hblk : ∀ i, i < 64 → ∃ c : UInt8, M[64 * k + i]? = some c ∧ c.toNat = bnth ((M.drop (64 * k)).take 64) i := by
                    intro i hi
                    have hlt : 64 * k + i < M.length := by omega
                    refine ⟨M[64 * k + i], by simp [hlt], ?_⟩
                    rw [bnth_eq (by simp; omega)]
                    simp
                  generalize (M.drop (64 * k)).take 64 = blk at hbs hblk
                  generalize blocksW V0 k M = v at hbs
                  (repeat (first | (simp -implicitDefEqProofs only [ev, mixed, Nat.reduceLT, Nat.reduceAdd, Nat.reduceMul, reduceIte, Nat.reduceEqDiff, reduceCtorEq, Nat.reducePow, Nat.reduceLeDiff, Int.reduceLE, Int.reduceLT, Int.reduceToNat, Int.reduceEq, Nat.reduceBEq, itsOf, gdA, byteI, opid, lenQ, ixQ, ldH, readAt, readCells, asCell, faQ, exQ, fldQ, partA, buildQ, slQ, stH, bslH, appH, dcells, convI, elemsOf, D.one, nilS, fillD, convN, cvH, tyR1Sum0]) | (with_reducible refine ⟨?_, ?_⟩; (· first | (obtain ⟨rfl⟩ := ‹Hq _ _›; with_reducible refine chk_ok ?_; kernel_rfl) | kernel_rfl)) | (with_reducible intro ops hops)))
                  refine W_loopI (ι := Nat) (fun i => i ≤ 64)
                    (fun i => stOf [(4, .os 101 1 0 64), (5, .os 102 1 0 8), (8, .os 103 1 0 (64 * J)), (11, .i (.s (.int .i64 ((64 * k : Nat) : Int)))), (12, .os 104 1 0 i), (13, .i (.s (.int .i64 (i : Nat))))]
                      [(101, .arr 1 (KS.map u32I)), (102, .arr 1 (v.list.map u32I)), (103, .arr 1 (M.map byteI)), (104, .arr 1 ((sched blk i).map u32I))]) (fun i => 64 - i) 0 (Nat.zero_le _) ?_ ?_
                  · refine le_stOf _ _ [] [(101, 101), (102, 102), (103, 103)] ?_ ?_ rfl rfl
                    · simp [cv, cv1, cv0, upd, lk, srcOf]
                    · simp [objOk, srcOf, lk, cvO, frz, upd, hO, sched]
                  · intro i hi
                    rw [stOf_eq]
                    (repeat (first | (simp -implicitDefEqProofs only [ev, mixed, Nat.reduceLT, Nat.reduceAdd, Nat.reduceMul, reduceIte, Nat.reduceEqDiff, reduceCtorEq, Nat.reducePow, Nat.reduceLeDiff, Int.reduceLE, Int.reduceLT, Int.reduceToNat, Int.reduceEq, Nat.reduceBEq, itsOf, gdA, byteI, opid, lenQ, ixQ, ldH, readAt, readCells, asCell, faQ, exQ, fldQ, partA, buildQ, slQ, stH, bslH, appH, dcells, convI, elemsOf, D.one, nilS, fillD, convN, cvH, tyR1Sum0]) | (with_reducible refine ⟨?_, ?_⟩; (· first | (obtain ⟨rfl⟩ := ‹Hq _ _›; with_reducible refine chk_ok ?_; kernel_rfl) | kernel_rfl)) | (with_reducible intro ops hops)))
                    refine Wc_split (fun h => ?_) (fun h => ?_)
                    · have h2 : i < 64 := by simp at h; omega
                      clear h
                      have hsl := sched_length blk i
                      have hss : sched blk (i + 1) = sched blk i ++ [if i < 16 then wordAt blk (4 * i) else nextW (sched blk i) i] := rfl
                      have w9 : IntKind.i64.wrap ((i : Int) + 1) = ((i + 1 : Nat) : Int) := by rw [wrap64 (by omega) (by omega)]; omega
                      have e3 : i + 1 ≤ 140737488355328 := by omega
                      have e4 : (i + 1) * 4 ≤ 140737488355328 := by omega
                      (repeat (first | (simp -implicitDefEqProofs only [ev, mixed, Nat.reduceLT, Nat.reduceAdd, Nat.reduceMul, reduceIte, Nat.reduceEqDiff, reduceCtorEq, Nat.reducePow, Nat.reduceLeDiff, Int.reduceLE, Int.reduceLT, Int.reduceToNat, Int.reduceEq, Nat.reduceBEq, itsOf, gdA, byteI, opid, lenQ, ixQ, ldH, readAt, readCells, asCell, faQ, exQ, fldQ, partA, buildQ, slQ, stH, bslH, appH, dcells, convI, elemsOf, D.one, nilS, fillD, convN, cvH, tyR1Sum0]) | (with_reducible refine ⟨?_, ?_⟩; (· first | (obtain ⟨rfl⟩ := ‹Hq _ _›; with_reducible refine chk_ok ?_; kernel_rfl) | kernel_rfl)) | (with_reducible intro ops hops)))
                      refine Wc_split (fun h => ?_) (fun h => ?_)
                      · have h3 : i < 16 := by simp at h; omega
                        clear h
                        rw [if_pos h3, wordAt_hor] at hss
                        have hby : ∀ t, t < 4 → ∃ c : UInt8, M[64 * k + 4 * i + t]? = some c ∧ c.toNat = bnth blk (4 * i + t) := by
                          intro t ht
                          have := hblk (4 * i + t) (by omega)
                          rwa [← Nat.add_assoc] at this
                        have w1 : IntKind.i64.wrap (4 * (i : Int)) = ((4 * i : Nat) : Int) := by rw [wrap64 (by omega) (by omega)]; omega
                        have w2 : IntKind.i64.wrap (((64 * k : Nat) : Int) + ((4 * i : Nat) : Int)) = ((64 * k + 4 * i : Nat) : Int) := by rw [wrap64 (by omega) (by omega)]; omega
                        have w3 : IntKind.i64.wrap (((64 * k + 4 * i : Nat) : Int) + 4) = ((64 * k + 4 * i + 4 : Nat) : Int) := by rw [wrap64 (by omega) (by omega)]; omega
                        have hol : 64 * k + 4 * i + 4 ≤ 64 * J := by omega
                        generalize 64 * k + 4 * i = o at w2 w3 hol hby
                        have l1 : ((o : Int) ≤ ((o + 4 : Nat) : Int)) = True := eq_true (by omega)
                        have l2 : (((o + 4 : Nat) : Int) ≤ ((64 * J : Nat) : Int)) = True := eq_true (by omega)
                        have s1 : o + 4 - o = 4 := by omega
                        (repeat (first | (simp -implicitDefEqProofs only [ev, mixed, Nat.reduceLT, Nat.reduceAdd, Nat.reduceMul, reduceIte, Nat.reduceEqDiff, reduceCtorEq, Nat.reducePow, Nat.reduceLeDiff, Int.reduceLE, Int.reduceLT, Int.reduceToNat, Int.reduceEq, Nat.reduceBEq, itsOf, gdA, byteI, opid, lenQ, ixQ, ldH, readAt, readCells, asCell, faQ, exQ, fldQ, partA, buildQ, slQ, stH, bslH, appH, dcells, convI, elemsOf, D.one, nilS, fillD, convN, cvH, tyR1Sum0, w1, w2, w3, l1, l2, s1]) | (with_reducible refine ⟨?_, ?_⟩; (· first | (obtain ⟨rfl⟩ := ‹Hq _ _›; with_reducible refine chk_ok ?_; kernel_rfl) | kernel_rfl)) | (with_reducible intro ops hops)))
                        refine W_loopI (ι := Nat) (fun t => t ≤ 4)
                          (fun t => stOf [(4, .os 101 1 0 64), (5, .os 102 1 0 8), (8, .os 103 1 0 (64 * J)), (11, .i (.s (.int .i64 ((64 * k : Nat) : Int)))), (12, .os 104 1 0 i), (13, .i (.s (.int .i64 (i : Nat)))), (14, .i (.s (.int .u32 (hor blk (4 * i) t : Nat)))), (109, .os 103 1 o 4), (110, .i (.s (.int .i64 4))), (111, .i (.s (.int .i64 (t : Nat))))]
                            [(101, .arr 1 (KS.map u32I)), (102, .arr 1 (v.list.map u32I)), (103, .arr 1 (M.map byteI)), (104, .arr 1 ((sched blk i).map u32I))]) (fun t => 4 - t) 0 (Nat.zero_le _) ?_ ?_
                        · refine le_stOf _ _ [] [(101, 101), (102, 102), (103, 103), (104, 104)] ?_ ?_ rfl rfl
                          · simp [cv, cv1, cv0, upd, lk, srcOf, hor]
                          · simp [objOk, srcOf, lk, cvO, frz, upd, hO]
                        · intro t ht
                          rw [stOf_eq]
                          (repeat (first | (simp -implicitDefEqProofs only [ev, mixed, Nat.reduceLT, Nat.reduceAdd, Nat.reduceMul, reduceIte, Nat.reduceEqDiff, reduceCtorEq, Nat.reducePow, Nat.reduceLeDiff, Int.reduceLE, Int.reduceLT, Int.reduceToNat, Int.reduceEq, Nat.reduceBEq, itsOf, gdA, byteI, opid, lenQ, ixQ, ldH, readAt, readCells, asCell, faQ, exQ, fldQ, partA, buildQ, slQ, stH, bslH, appH, dcells, convI, elemsOf, D.one, nilS, fillD, convN, cvH, tyR1Sum0]) | (with_reducible refine ⟨?_, ?_⟩; (· first | (obtain ⟨rfl⟩ := ‹Hq _ _›; with_reducible refine chk_ok ?_; kernel_rfl) | kernel_rfl)) | (with_reducible intro ops hops)))
                          refine Wc_split (fun h => ?_) (fun h => ?_)
                          · have h4 : t < 4 := by simp at h; omega
                            clear h
                            obtain ⟨c, hc1, hc2⟩ := hby t h4
                            have hx := hor_lt blk (4 * i) t
                            have hx3 : hor blk (4 * i) t < 16777216 := Nat.lt_of_lt_of_le hx (show 256 ^ t ≤ 256 ^ 3 from Nat.pow_le_pow_right (by decide) (by omega))
                            have hs : hor blk (4 * i) (t + 1) = hor blk (4 * i) t * 256 + c.toNat := by rw [hor, hc2]
                            have hcl := c.toNat_lt
                            have ec : (M.map byteI)[o + t]? = some [.s (.int .u8 (c.toNat : Int))] := by simp [hc1, byteI]
                            have l3 : ((t : Int) < 4) = True := eq_true (by omega)
                            have w4 : IntKind.i64.wrap ((t : Int) + 1) = ((t + 1 : Nat) : Int) := by rw [wrap64 (by omega) (by omega)]; omega
                            have w7 : IntKind.u32.wrap (c.toNat : Int) = (c.toNat : Int) := by rw [IntKind.wrap_u32]; omega
                            generalize hor blk (4 * i) t = x at hx3 hs
                            have w5 : IntKind.u32.wrap ((x : Int) * 256) = ((x * 256 : Nat) : Int) := by rw [IntKind.wrap_u32]; omega
                            have w6 : IntKind.u32.wrap (((x * 256 : Nat) : Int) + (c.toNat : Int)) = ((x * 256 + c.toNat : Nat) : Int) := by rw [IntKind.wrap_u32]; omega
                            (repeat (first | (simp -implicitDefEqProofs only [ev, mixed, Nat.reduceLT, Nat.reduceAdd, Nat.reduceMul, reduceIte, Nat.reduceEqDiff, reduceCtorEq, Nat.reducePow, Nat.reduceLeDiff, Int.reduceLE, Int.reduceLT, Int.reduceToNat, Int.reduceEq, Nat.reduceBEq, itsOf, gdA, byteI, opid, lenQ, ixQ, ldH, readAt, readCells, asCell, faQ, exQ, fldQ, partA, buildQ, slQ, stH, bslH, appH, dcells, convI, elemsOf, D.one, nilS, fillD, convN, cvH, tyR1Sum0, ec, l3, w4, w5, w6, w7]) | (with_reducible refine ⟨?_, ?_⟩; (· first | (obtain ⟨rfl⟩ := ‹Hq _ _›; with_reducible refine chk_ok ?_; kernel_rfl) | kernel_rfl)) | (with_reducible intro ops hops)))
                            refine ⟨t + 1, h4, le_stOf _ _ [] [(101, 101), (102, 102), (103, 103), (104, 104)] ?_ ?_ rfl rfl, by simp; omega⟩
                            · simp [cv, cv1, cv0, upd, lk, srcOf, hs]
                            · simp [objOk, srcOf, lk, cvO, frz, upd, hO]
                          · have h4 : t = 4 := by simp at h; omega
                            subst h4
                            clear h hby
                            generalize hor blk (4 * i) 4 = x at hss
                            (repeat (first | (simp -implicitDefEqProofs only [ev, mixed, Nat.reduceLT, Nat.reduceAdd, Nat.reduceMul, reduceIte, Nat.reduceEqDiff, reduceCtorEq, Nat.reducePow, Nat.reduceLeDiff, Int.reduceLE, Int.reduceLT, Int.reduceToNat, Int.reduceEq, Nat.reduceBEq, itsOf, gdA, byteI, opid, lenQ, ixQ, ldH, readAt, readCells, asCell, faQ, exQ, fldQ, partA, buildQ, slQ, stH, bslH, appH, dcells, convI, elemsOf, D.one, nilS, fillD, convN, cvH, tyR1Sum0, e3, e4, uni_u32, hsl, w9]) | (with_reducible refine ⟨?_, ?_⟩; (· first | (obtain ⟨rfl⟩ := ‹Hq _ _›; with_reducible refine chk_ok ?_; kernel_rfl) | kernel_rfl)) | (with_reducible intro ops hops)))
                            refine ⟨i + 1, h2, le_stOf _ _ [] [(101, 101), (102, 102), (103, 103), (104, 9451)] ?_ ?_ rfl rfl, by simp; omega⟩
                            · simp [cv, cv1, cv0, upd, lk, srcOf]
                            · simp [objOk, srcOf, lk, cvO, frz, upd, hO, hss, u32I]
                      · have h3 : 16 ≤ i := by simp at h; omega
                        clear h
                        rw [if_neg (by omega)] at hss
                        generalize sched blk i = l at hss hsl
                        have hget : ∀ d, 1 ≤ d → d ≤ 16 → (l.map u32I)[i - d]? = some [.s (.int .u32 ((l.getD (i - d) 0 : Nat) : Int))] := by
                          intro d h1 h2
                          have hlt : i - d < l.length := by omega
                          simp [hlt, u32I]
                        have g15 := hget 15 (by omega) (by omega)
                        have g2 := hget 2 (by omega) (by omega)
                        have g16 := hget 16 (by omega) (by omega)
                        have g7 := hget 7 (by omega) (by omega)
                        have w15 : IntKind.i64.wrap ((i : Int) - 15) = ((i - 15 : Nat) : Int) := by rw [wrap64 (by omega) (by omega)]; omega
                        have w2 : IntKind.i64.wrap ((i : Int) - 2) = ((i - 2 : Nat) : Int) := by rw [wrap64 (by omega) (by omega)]; omega
                        have w16 : IntKind.i64.wrap ((i : Int) - 16) = ((i - 16 : Nat) : Int) := by rw [wrap64 (by omega) (by omega)]; omega
                        have w7 : IntKind.i64.wrap ((i : Int) - 7) = ((i - 7 : Nat) : Int) := by rw [wrap64 (by omega) (by omega)]; omega
                        have l15 : (((i - 15 : Nat) : Int) < (i : Int)) = True := eq_true (by omega)
                        have l2 : (((i - 2 : Nat) : Int) < (i : Int)) = True := eq_true (by omega)
                        have l16 : (((i - 16 : Nat) : Int) < (i : Int)) = True := eq_true (by omega)
                        have l7 : (((i - 7 : Nat) : Int) < (i : Int)) = True := eq_true (by omega)
                        have hv : nextW l i = wadd (wadd (wadd (l.getD (i - 16) 0) (sgA (l.getD (i - 15) 0))) (l.getD (i - 7) 0)) (sgB (l.getD (i - 2) 0)) := by unfold nextW; exact next_eq _ _ _ _
                        rw [hv] at hss
                        clear hget hv
                        generalize l.getD (i - 15) 0 = x at hss g15
                        generalize l.getD (i - 2) 0 = y at hss g2
                        generalize l.getD (i - 16) 0 = p at hss g16
                        generalize l.getD (i - 7) 0 = q at hss g7
                        unfold sgA sgB at hss
                        generalize i - 15 = i15 at *
                        generalize i - 2 = i2 at *
                        generalize i - 16 = i16 at *
                        generalize i - 7 = i7 at *
                        have sx : (x : Int).fdiv (2 ^ min 3 (IntKind.bits .u32)) = ((wshr x 8 : Nat) : Int) := sh_fdiv x 3 .u32 (by decide)
                        have sy : (y : Int).fdiv (2 ^ min 10 (IntKind.bits .u32)) = ((wshr y 1024 : Nat) : Int) := sh_fdiv y 10 .u32 (by decide)
                        (repeat (first | (simp -implicitDefEqProofs only [ev, mixed, Nat.reduceLT, Nat.reduceAdd, Nat.reduceMul, reduceIte, Nat.reduceEqDiff, reduceCtorEq, Nat.reducePow, Nat.reduceLeDiff, Int.reduceLE, Int.reduceLT, Int.reduceToNat, Int.reduceEq, Nat.reduceBEq, itsOf, gdA, byteI, opid, lenQ, ixQ, ldH, readAt, readCells, asCell, faQ, exQ, fldQ, partA, buildQ, slQ, stH, bslH, appH, dcells, convI, elemsOf, D.one, nilS, fillD, convN, cvH, tyR1Sum0, g15, g2, g16, w15, w2, w16, l15, l2, l16]) | (with_reducible refine ⟨?_, ?_⟩; (· first | (obtain ⟨rfl⟩ := ‹Hq _ _›; with_reducible refine chk_ok ?_; kernel_rfl) | kernel_rfl)) | (with_reducible intro ops hops)))
                        (first | refine Call_flat [] [] (turn_A x 7 (by decide) (by decide)) (by simp [cvAs, cvA, cvRL, cvR, cvBox, cv1, cvL, cv0, bI, byteI, elemsOf, upd]) rfl ?_ | refine CallF_flat [] [] [] (turn_A x 7 (by decide) (by decide)) (fun G _ => by simp [cvAs, cvA, cvRL, cvR, cvBox, cv1, cvL, cv0, bI, byteI, elemsOf, upd]) rfl ?_)
                        (repeat (first | (simp -implicitDefEqProofs only [ev, mixed, Nat.reduceLT, Nat.reduceAdd, Nat.reduceMul, reduceIte, Nat.reduceEqDiff, reduceCtorEq, Nat.reducePow, Nat.reduceLeDiff, Int.reduceLE, Int.reduceLT, Int.reduceToNat, Int.reduceEq, Nat.reduceBEq, itsOf, gdA, byteI, opid, lenQ, ixQ, ldH, readAt, readCells, asCell, faQ, exQ, fldQ, partA, buildQ, slQ, stH, bslH, appH, dcells, convI, elemsOf, D.one, nilS, fillD, convN, cvH, tyR1Sum0]) | (with_reducible refine ⟨?_, ?_⟩; (· first | (obtain ⟨rfl⟩ := ‹Hq _ _›; with_reducible refine chk_ok ?_; kernel_rfl) | kernel_rfl)) | (with_reducible intro ops hops)))
                        (first | refine Call_flat [] [] (turn_A x 18 (by decide) (by decide)) (by simp [cvAs, cvA, cvRL, cvR, cvBox, cv1, cvL, cv0, bI, byteI, elemsOf, upd]) rfl ?_ | refine CallF_flat [] [] [] (turn_A x 18 (by decide) (by decide)) (fun G _ => by simp [cvAs, cvA, cvRL, cvR, cvBox, cv1, cvL, cv0, bI, byteI, elemsOf, upd]) rfl ?_)
                        (repeat (first | (simp -implicitDefEqProofs only [ev, mixed, Nat.reduceLT, Nat.reduceAdd, Nat.reduceMul, reduceIte, Nat.reduceEqDiff, reduceCtorEq, Nat.reducePow, Nat.reduceLeDiff, Int.reduceLE, Int.reduceLT, Int.reduceToNat, Int.reduceEq, Nat.reduceBEq, itsOf, gdA, byteI, opid, lenQ, ixQ, ldH, readAt, readCells, asCell, faQ, exQ, fldQ, partA, buildQ, slQ, stH, bslH, appH, dcells, convI, elemsOf, D.one, nilS, fillD, convN, cvH, tyR1Sum0, rx, sx, wad, g7, w7, l7]) | (with_reducible refine ⟨?_, ?_⟩; (· first | (obtain ⟨rfl⟩ := ‹Hq _ _›; with_reducible refine chk_ok ?_; kernel_rfl) | kernel_rfl)) | (with_reducible intro ops hops)))
                        (first | refine Call_flat [] [] (turn_A y 17 (by decide) (by decide)) (by simp [cvAs, cvA, cvRL, cvR, cvBox, cv1, cvL, cv0, bI, byteI, elemsOf, upd]) rfl ?_ | refine CallF_flat [] [] [] (turn_A y 17 (by decide) (by decide)) (fun G _ => by simp [cvAs, cvA, cvRL, cvR, cvBox, cv1, cvL, cv0, bI, byteI, elemsOf, upd]) rfl ?_)
                        (repeat (first | (simp -implicitDefEqProofs only [ev, mixed, Nat.reduceLT, Nat.reduceAdd, Nat.reduceMul, reduceIte, Nat.reduceEqDiff, reduceCtorEq, Nat.reducePow, Nat.reduceLeDiff, Int.reduceLE, Int.reduceLT, Int.reduceToNat, Int.reduceEq, Nat.reduceBEq, itsOf, gdA, byteI, opid, lenQ, ixQ, ldH, readAt, readCells, asCell, faQ, exQ, fldQ, partA, buildQ, slQ, stH, bslH, appH, dcells, convI, elemsOf, D.one, nilS, fillD, convN, cvH, tyR1Sum0]) | (with_reducible refine ⟨?_, ?_⟩; (· first | (obtain ⟨rfl⟩ := ‹Hq _ _›; with_reducible refine chk_ok ?_; kernel_rfl) | kernel_rfl)) | (with_reducible intro ops hops)))
                        (first | refine Call_flat [] [] (turn_A y 19 (by decide) (by decide)) (by simp [cvAs, cvA, cvRL, cvR, cvBox, cv1, cvL, cv0, bI, byteI, elemsOf, upd]) rfl ?_ | refine CallF_flat [] [] [] (turn_A y 19 (by decide) (by decide)) (fun G _ => by simp [cvAs, cvA, cvRL, cvR, cvBox, cv1, cvL, cv0, bI, byteI, elemsOf, upd]) rfl ?_)
                        (repeat (first | (simp -implicitDefEqProofs only [ev, mixed, Nat.reduceLT, Nat.reduceAdd, Nat.reduceMul, reduceIte, Nat.reduceEqDiff, reduceCtorEq, Nat.reducePow, Nat.reduceLeDiff, Int.reduceLE, Int.reduceLT, Int.reduceToNat, Int.reduceEq, Nat.reduceBEq, itsOf, gdA, byteI, opid, lenQ, ixQ, ldH, readAt, readCells, asCell, faQ, exQ, fldQ, partA, buildQ, slQ, stH, bslH, appH, dcells, convI, elemsOf, D.one, nilS, fillD, convN, cvH, tyR1Sum0, rx, sy, wad, e3, e4, uni_u32, hsl, w9]) | (with_reducible refine ⟨?_, ?_⟩; (· first | (obtain ⟨rfl⟩ := ‹Hq _ _›; with_reducible refine chk_ok ?_; kernel_rfl) | kernel_rfl)) | (with_reducible intro ops hops)))
                        refine ⟨i + 1, h2, le_stOf _ _ [] [(101, 101), (102, 102), (103, 103), (104, 9991)] ?_ ?_ rfl rfl, by simp; omega⟩
                        · simp [cv, cv1, cv0, upd, lk, srcOf]
                        · simp [objOk, srcOf, lk, cvO, frz, upd, hO, hss, u32I]
                    · have h2 : i = 64 := by simp at h; omega
                      subst h2
                      clear h
                      have hWl := sched_length blk 64
                      have hblock : blockW v blk = ⟨wadd v.a (roundsTo v (sched blk 64) 64).a, wadd v.b (roundsTo v (sched blk 64) 64).b, wadd v.c (roundsTo v (sched blk 64) 64).c, wadd v.d (roundsTo v (sched blk 64) 64).d, wadd v.e (roundsTo v (sched blk 64) 64).e, wadd v.f (roundsTo v (sched blk 64) 64).f, wadd v.g (roundsTo v (sched blk 64) 64).g, wadd v.h (roundsTo v (sched blk 64) 64).h⟩ := rfl
                      rw [hblock] at hbs
                      clear hblk hblock hi
                      generalize sched blk 64 = W at hWl hbs ⊢
                      (repeat (first | (simp -implicitDefEqProofs only [ev, mixed, Nat.reduceLT, Nat.reduceAdd, Nat.reduceMul, reduceIte, Nat.reduceEqDiff, reduceCtorEq, Nat.reducePow, Nat.reduceLeDiff, Int.reduceLE, Int.reduceLT, Int.reduceToNat, Int.reduceEq, Nat.reduceBEq, itsOf, gdA, byteI, opid, lenQ, ixQ, ldH, readAt, readCells, asCell, faQ, exQ, fldQ, partA, buildQ, slQ, stH, bslH, appH, dcells, convI, elemsOf, D.one, nilS, fillD, convN, cvH, tyR1Sum0, V8.list, u32I]) | (with_reducible refine ⟨?_, ?_⟩; (· first | (obtain ⟨rfl⟩ := ‹Hq _ _›; with_reducible refine chk_ok ?_; kernel_rfl) | kernel_rfl)) | (with_reducible intro ops hops)))
                      refine W_loopI (ι := Nat) (fun t => t ≤ 64)
                        (fun t => stOf [(4, .os 101 1 0 64), (5, .os 102 1 0 8), (8, .os 103 1 0 (64 * J)), (11, .i (.s (.int .i64 ((64 * k : Nat) : Int)))), (12, .os 104 1 0 64),
                          (19, .i (.s (.int .u32 ((roundsTo v W t).a : Nat)))), (20, .i (.s (.int .u32 ((roundsTo v W t).b : Nat)))), (21, .i (.s (.int .u32 ((roundsTo v W t).c : Nat)))), (22, .i (.s (.int .u32 ((roundsTo v W t).d : Nat)))),
                          (23, .i (.s (.int .u32 ((roundsTo v W t).e : Nat)))), (24, .i (.s (.int .u32 ((roundsTo v W t).f : Nat)))), (25, .i (.s (.int .u32 ((roundsTo v W t).g : Nat)))), (26, .i (.s (.int .u32 ((roundsTo v W t).h : Nat)))), (27, .i (.s (.int .i64 (t : Nat))))]
                          [(101, .arr 1 (KS.map u32I)), (102, .arr 1 (v.list.map u32I)), (103, .arr 1 (M.map byteI)), (104, .arr 1 (W.map u32I))]) (fun t => 64 - t) 0 (Nat.zero_le _) ?_ ?_
                      · refine le_stOf _ _ [] [(101, 101), (102, 102), (103, 103), (104, 104)] ?_ ?_ rfl rfl
                        · simp [cv, cv1, cv0, upd, lk, srcOf, roundsTo]
                        · simp [objOk, srcOf, lk, cvO, frz, upd, hO, V8.list, u32I]
                      · intro t ht
                        rw [stOf_eq]
                        (repeat (first | (simp -implicitDefEqProofs only [ev, mixed, Nat.reduceLT, Nat.reduceAdd, Nat.reduceMul, reduceIte, Nat.reduceEqDiff, reduceCtorEq, Nat.reducePow, Nat.reduceLeDiff, Int.reduceLE, Int.reduceLT, Int.reduceToNat, Int.reduceEq, Nat.reduceBEq, itsOf, gdA, byteI, opid, lenQ, ixQ, ldH, readAt, readCells, asCell, faQ, exQ, fldQ, partA, buildQ, slQ, stH, bslH, appH, dcells, convI, elemsOf, D.one, nilS, fillD, convN, cvH, tyR1Sum0]) | (with_reducible refine ⟨?_, ?_⟩; (· first | (obtain ⟨rfl⟩ := ‹Hq _ _›; with_reducible refine chk_ok ?_; kernel_rfl) | kernel_rfl)) | (with_reducible intro ops hops)))
                        refine Wc_split (fun h => ?_) (fun h => ?_)
                        · have h2 : t < 64 := by simp at h; omega
                          clear h
                          have hs : roundsTo v W (t + 1) = roundW (roundsTo v W t) (KS.getD t 0) (W.getD t 0) := rfl
                          rw [round_eq] at hs
                          have hKl : KS.length = 64 := rfl
                          have gK : (KS.map u32I)[t]? = some [.s (.int .u32 ((KS.getD t 0 : Nat) : Int))] := by simp [show t < KS.length by omega, u32I]
                          have gW : (W.map u32I)[t]? = some [.s (.int .u32 ((W.getD t 0 : Nat) : Int))] := by simp [show t < W.length by omega, u32I]
                          have l1 : ((t : Int) < 64) = True := eq_true (by omega)
                          have w1 : IntKind.i64.wrap ((t : Int) + 1) = ((t + 1 : Nat) : Int) := by rw [wrap64 (by omega) (by omega)]; omega
                          generalize roundsTo v W t = u at hs
                          generalize KS.getD t 0 = Kt at hs gK
                          generalize W.getD t 0 = Wt at hs gW
                          generalize hKK : KS.map u32I = KK at gK
                          obtain ⟨a, b', c, d, e, f, g, h'⟩ := u
                          simp only at hs
                          (repeat (first | (simp -implicitDefEqProofs only [ev, mixed, Nat.reduceLT, Nat.reduceAdd, Nat.reduceMul, reduceIte, Nat.reduceEqDiff, reduceCtorEq, Nat.reducePow, Nat.reduceLeDiff, Int.reduceLE, Int.reduceLT, Int.reduceToNat, Int.reduceEq, Nat.reduceBEq, itsOf, gdA, byteI, opid, lenQ, ixQ, ldH, readAt, readCells, asCell, faQ, exQ, fldQ, partA, buildQ, slQ, stH, bslH, appH, dcells, convI, elemsOf, D.one, nilS, fillD, convN, cvH, tyR1Sum0, bq_andNot, ran, ra, ro]) | (with_reducible refine ⟨?_, ?_⟩; (· first | (obtain ⟨rfl⟩ := ‹Hq _ _›; with_reducible refine chk_ok ?_; kernel_rfl) | kernel_rfl)) | (with_reducible intro ops hops)))
                          (first | refine Call_flat [] [] (turn_A e 6 (by decide) (by decide)) (by simp [cvAs, cvA, cvRL, cvR, cvBox, cv1, cvL, cv0, bI, byteI, elemsOf, upd]) rfl ?_ | refine CallF_flat [] [] [] (turn_A e 6 (by decide) (by decide)) (fun G _ => by simp [cvAs, cvA, cvRL, cvR, cvBox, cv1, cvL, cv0, bI, byteI, elemsOf, upd]) rfl ?_)
                          (repeat (first | (simp -implicitDefEqProofs only [ev, mixed, Nat.reduceLT, Nat.reduceAdd, Nat.reduceMul, reduceIte, Nat.reduceEqDiff, reduceCtorEq, Nat.reducePow, Nat.reduceLeDiff, Int.reduceLE, Int.reduceLT, Int.reduceToNat, Int.reduceEq, Nat.reduceBEq, itsOf, gdA, byteI, opid, lenQ, ixQ, ldH, readAt, readCells, asCell, faQ, exQ, fldQ, partA, buildQ, slQ, stH, bslH, appH, dcells, convI, elemsOf, D.one, nilS, fillD, convN, cvH, tyR1Sum0]) | (with_reducible refine ⟨?_, ?_⟩; (· first | (obtain ⟨rfl⟩ := ‹Hq _ _›; with_reducible refine chk_ok ?_; kernel_rfl) | kernel_rfl)) | (with_reducible intro ops hops)))
                          (first | refine Call_flat [] [] (turn_A e 11 (by decide) (by decide)) (by simp [cvAs, cvA, cvRL, cvR, cvBox, cv1, cvL, cv0, bI, byteI, elemsOf, upd]) rfl ?_ | refine CallF_flat [] [] [] (turn_A e 11 (by decide) (by decide)) (fun G _ => by simp [cvAs, cvA, cvRL, cvR, cvBox, cv1, cvL, cv0, bI, byteI, elemsOf, upd]) rfl ?_)
                          (repeat (first | (simp -implicitDefEqProofs only [ev, mixed, Nat.reduceLT, Nat.reduceAdd, Nat.reduceMul, reduceIte, Nat.reduceEqDiff, reduceCtorEq, Nat.reducePow, Nat.reduceLeDiff, Int.reduceLE, Int.reduceLT, Int.reduceToNat, Int.reduceEq, Nat.reduceBEq, itsOf, gdA, byteI, opid, lenQ, ixQ, ldH, readAt, readCells, asCell, faQ, exQ, fldQ, partA, buildQ, slQ, stH, bslH, appH, dcells, convI, elemsOf, D.one, nilS, fillD, convN, cvH, tyR1Sum0, rx]) | (with_reducible refine ⟨?_, ?_⟩; (· first | (obtain ⟨rfl⟩ := ‹Hq _ _›; with_reducible refine chk_ok ?_; kernel_rfl) | kernel_rfl)) | (with_reducible intro ops hops)))
                          (first | refine Call_flat [] [] (turn_A e 25 (by decide) (by decide)) (by simp [cvAs, cvA, cvRL, cvR, cvBox, cv1, cvL, cv0, bI, byteI, elemsOf, upd]) rfl ?_ | refine CallF_flat [] [] [] (turn_A e 25 (by decide) (by decide)) (fun G _ => by simp [cvAs, cvA, cvRL, cvR, cvBox, cv1, cvL, cv0, bI, byteI, elemsOf, upd]) rfl ?_)
                          (repeat (first | (simp -implicitDefEqProofs only [ev, mixed, Nat.reduceLT, Nat.reduceAdd, Nat.reduceMul, reduceIte, Nat.reduceEqDiff, reduceCtorEq, Nat.reducePow, Nat.reduceLeDiff, Int.reduceLE, Int.reduceLT, Int.reduceToNat, Int.reduceEq, Nat.reduceBEq, itsOf, gdA, byteI, opid, lenQ, ixQ, ldH, readAt, readCells, asCell, faQ, exQ, fldQ, partA, buildQ, slQ, stH, bslH, appH, dcells, convI, elemsOf, D.one, nilS, fillD, convN, cvH, tyR1Sum0, rx, wad, gK, gW, l1]) | (with_reducible refine ⟨?_, ?_⟩; (· first | (obtain ⟨rfl⟩ := ‹Hq _ _›; with_reducible refine chk_ok ?_; kernel_rfl) | kernel_rfl)) | (with_reducible intro ops hops)))
                          (first | refine Call_flat [] [] (turn_A a 2 (by decide) (by decide)) (by simp [cvAs, cvA, cvRL, cvR, cvBox, cv1, cvL, cv0, bI, byteI, elemsOf, upd]) rfl ?_ | refine CallF_flat [] [] [] (turn_A a 2 (by decide) (by decide)) (fun G _ => by simp [cvAs, cvA, cvRL, cvR, cvBox, cv1, cvL, cv0, bI, byteI, elemsOf, upd]) rfl ?_)
                          (repeat (first | (simp -implicitDefEqProofs only [ev, mixed, Nat.reduceLT, Nat.reduceAdd, Nat.reduceMul, reduceIte, Nat.reduceEqDiff, reduceCtorEq, Nat.reducePow, Nat.reduceLeDiff, Int.reduceLE, Int.reduceLT, Int.reduceToNat, Int.reduceEq, Nat.reduceBEq, itsOf, gdA, byteI, opid, lenQ, ixQ, ldH, readAt, readCells, asCell, faQ, exQ, fldQ, partA, buildQ, slQ, stH, bslH, appH, dcells, convI, elemsOf, D.one, nilS, fillD, convN, cvH, tyR1Sum0]) | (with_reducible refine ⟨?_, ?_⟩; (· first | (obtain ⟨rfl⟩ := ‹Hq _ _›; with_reducible refine chk_ok ?_; kernel_rfl) | kernel_rfl)) | (with_reducible intro ops hops)))
                          (first | refine Call_flat [] [] (turn_A a 13 (by decide) (by decide)) (by simp [cvAs, cvA, cvRL, cvR, cvBox, cv1, cvL, cv0, bI, byteI, elemsOf, upd]) rfl ?_ | refine CallF_flat [] [] [] (turn_A a 13 (by decide) (by decide)) (fun G _ => by simp [cvAs, cvA, cvRL, cvR, cvBox, cv1, cvL, cv0, bI, byteI, elemsOf, upd]) rfl ?_)
                          (repeat (first | (simp -implicitDefEqProofs only [ev, mixed, Nat.reduceLT, Nat.reduceAdd, Nat.reduceMul, reduceIte, Nat.reduceEqDiff, reduceCtorEq, Nat.reducePow, Nat.reduceLeDiff, Int.reduceLE, Int.reduceLT, Int.reduceToNat, Int.reduceEq, Nat.reduceBEq, itsOf, gdA, byteI, opid, lenQ, ixQ, ldH, readAt, readCells, asCell, faQ, exQ, fldQ, partA, buildQ, slQ, stH, bslH, appH, dcells, convI, elemsOf, D.one, nilS, fillD, convN, cvH, tyR1Sum0, rx]) | (with_reducible refine ⟨?_, ?_⟩; (· first | (obtain ⟨rfl⟩ := ‹Hq _ _›; with_reducible refine chk_ok ?_; kernel_rfl) | kernel_rfl)) | (with_reducible intro ops hops)))
                          (first | refine Call_flat [] [] (turn_A a 22 (by decide) (by decide)) (by simp [cvAs, cvA, cvRL, cvR, cvBox, cv1, cvL, cv0, bI, byteI, elemsOf, upd]) rfl ?_ | refine CallF_flat [] [] [] (turn_A a 22 (by decide) (by decide)) (fun G _ => by simp [cvAs, cvA, cvRL, cvR, cvBox, cv1, cvL, cv0, bI, byteI, elemsOf, upd]) rfl ?_)
                          (repeat (first | (simp -implicitDefEqProofs only [ev, mixed, Nat.reduceLT, Nat.reduceAdd, Nat.reduceMul, reduceIte, Nat.reduceEqDiff, reduceCtorEq, Nat.reducePow, Nat.reduceLeDiff, Int.reduceLE, Int.reduceLT, Int.reduceToNat, Int.reduceEq, Nat.reduceBEq, itsOf, gdA, byteI, opid, lenQ, ixQ, ldH, readAt, readCells, asCell, faQ, exQ, fldQ, partA, buildQ, slQ, stH, bslH, appH, dcells, convI, elemsOf, D.one, nilS, fillD, convN, cvH, tyR1Sum0, rx, wad, w1]) | (with_reducible refine ⟨?_, ?_⟩; (· first | (obtain ⟨rfl⟩ := ‹Hq _ _›; with_reducible refine chk_ok ?_; kernel_rfl) | kernel_rfl)) | (with_reducible intro ops hops)))
                          refine ⟨t + 1, h2, le_stOf _ _ [] [(101, 101), (102, 102), (103, 103), (104, 104)] ?_ ?_ rfl rfl, by simp; omega⟩
                          · simp [cv, cv1, cv0, upd, lk, srcOf, hs]
                          · simp [objOk, srcOf, lk, cvO, frz, upd, hO, hKK]
                        · have h2 : t = 64 := by simp at h; omega
                          subst h2
                          clear h ht
                          generalize roundsTo v W 64 = u at hbs ⊢
                          (repeat (first | (simp -implicitDefEqProofs only [ev, mixed, Nat.reduceLT, Nat.reduceAdd, Nat.reduceMul, reduceIte, Nat.reduceEqDiff, reduceCtorEq, Nat.reducePow, Nat.reduceLeDiff, Int.reduceLE, Int.reduceLT, Int.reduceToNat, Int.reduceEq, Nat.reduceBEq, itsOf, gdA, byteI, opid, lenQ, ixQ, ldH, readAt, readCells, asCell, faQ, exQ, fldQ, partA, buildQ, slQ, stH, bslH, appH, dcells, convI, elemsOf, D.one, nilS, fillD, convN, cvH, tyR1Sum0, u32I]) | (with_reducible refine ⟨?_, ?_⟩; (· first | (obtain ⟨rfl⟩ := ‹Hq _ _›; with_reducible refine chk_ok ?_; kernel_rfl) | kernel_rfl)) | (with_reducible intro ops hops)))
                          refine W_loopI (ι := Nat) (fun q => q ≤ 8)
                            (fun q => stOf [(4, .os 101 1 0 64), (5, .os 102 1 0 8), (8, .os 103 1 0 (64 * J)), (11, .i (.s (.int .i64 ((64 * k : Nat) : Int)))), (265, .os 105 1 0 8), (266, .i (.s (.int .i64 8))), (267, .i (.s (.int .i64 (q : Nat))))]
                              [(101, .arr 1 (KS.map u32I)), (102, .arr 1 ((hmix v u q).map u32I)), (103, .arr 1 (M.map byteI)), (105, .arr 1 (u.list.map u32I))]) (fun q => 8 - q) 0 (Nat.zero_le _) ?_ ?_
                          · refine le_stOf _ _ [] [(101, 101), (102, 102), (103, 103), (105, 13552)] ?_ ?_ rfl rfl
                            · simp [cv, cv1, cv0, upd, lk, srcOf]
                            · simp [objOk, srcOf, lk, cvO, frz, upd, hO, V8.list, u32I, hmix]
                          · intro q hq
                            rw [stOf_eq]
                            have hc : q = 0 ∨ q = 1 ∨ q = 2 ∨ q = 3 ∨ q = 4 ∨ q = 5 ∨ q = 6 ∨ q = 7 ∨ q = 8 := by omega
                            generalize hKK : KS.map u32I = KK
                            by_cases h8 : q = 8
                            · subst h8
                              have w1 : IntKind.i64.wrap (((64 * k : Nat) : Int) + 64) = ((64 * (k + 1) : Nat) : Int) := by rw [wrap64 (by omega) (by omega)]; omega
                              (repeat (first | (simp -implicitDefEqProofs only [ev, mixed, Nat.reduceLT, Nat.reduceAdd, Nat.reduceMul, reduceIte, Nat.reduceEqDiff, reduceCtorEq, Nat.reducePow, Nat.reduceLeDiff, Int.reduceLE, Int.reduceLT, Int.reduceToNat, Int.reduceEq, Nat.reduceBEq, itsOf, gdA, byteI, opid, lenQ, ixQ, ldH, readAt, readCells, asCell, faQ, exQ, fldQ, partA, buildQ, slQ, stH, bslH, appH, dcells, convI, elemsOf, D.one, nilS, fillD, convN, cvH, tyR1Sum0, w1]) | (with_reducible refine ⟨?_, ?_⟩; (· first | (obtain ⟨rfl⟩ := ‹Hq _ _›; with_reducible refine chk_ok ?_; kernel_rfl) | kernel_rfl)) | (with_reducible intro ops hops)))
                              refine ⟨k + 1, h1, le_stOf _ _ [] [(101, 101), (102, 102), (103, 103)] ?_ ?_ rfl rfl, by simp; omega⟩
                              · simp [cv, cv1, cv0, upd, lk, srcOf]
                              · simp [objOk, srcOf, lk, cvO, frz, upd, hO, hbs, hmix, V8.list, hKK, u32I]
                            · rcases hc with rfl | rfl | rfl | rfl | rfl | rfl | rfl | rfl | rfl
                              · (repeat (first | (simp -implicitDefEqProofs only [ev, mixed, Nat.reduceLT, Nat.reduceAdd, Nat.reduceMul, reduceIte, Nat.reduceEqDiff, reduceCtorEq, Nat.reducePow, Nat.reduceLeDiff, Int.reduceLE, Int.reduceLT, Int.reduceToNat, Int.reduceEq, Nat.reduceBEq, itsOf, gdA, byteI, opid, lenQ, ixQ, ldH, readAt, readCells, asCell, faQ, exQ, fldQ, partA, buildQ, slQ, stH, bslH, appH, dcells, convI, elemsOf, D.one, nilS, fillD, convN, cvH, tyR1Sum0, hmix, V8.list, u32I, wad, List.set_cons_zero, List.set_cons_succ, wq0]) | (with_reducible refine ⟨?_, ?_⟩; (· first | (obtain ⟨rfl⟩ := ‹Hq _ _›; with_reducible refine chk_ok ?_; kernel_rfl) | kernel_rfl)) | (with_reducible intro ops hops)))
                                refine ⟨1, by decide, le_stOf _ _ [] [(101, 101), (102, 102), (103, 103), (105, 105)] ?_ ?_ rfl rfl, by decide⟩
                                · simp [cv, cv1, cv0, upd, lk, srcOf]
                                · simp [objOk, srcOf, lk, cvO, frz, upd, hO, hmix, V8.list, hKK, u32I]
                              · (repeat (first | (simp -implicitDefEqProofs only [ev, mixed, Nat.reduceLT, Nat.reduceAdd, Nat.reduceMul, reduceIte, Nat.reduceEqDiff, reduceCtorEq, Nat.reducePow, Nat.reduceLeDiff, Int.reduceLE, Int.reduceLT, Int.reduceToNat, Int.reduceEq, Nat.reduceBEq, itsOf, gdA, byteI, opid, lenQ, ixQ, ldH, readAt, readCells, asCell, faQ, exQ, fldQ, partA, buildQ, slQ, stH, bslH, appH, dcells, convI, elemsOf, D.one, nilS, fillD, convN, cvH, tyR1Sum0, hmix, V8.list, u32I, wad, List.set_cons_zero, List.set_cons_succ, wq1]) | (with_reducible refine ⟨?_, ?_⟩; (· first | (obtain ⟨rfl⟩ := ‹Hq _ _›; with_reducible refine chk_ok ?_; kernel_rfl) | kernel_rfl)) | (with_reducible intro ops hops)))
                                refine ⟨2, by decide, le_stOf _ _ [] [(101, 101), (102, 102), (103, 103), (105, 105)] ?_ ?_ rfl rfl, by decide⟩
                                · simp [cv, cv1, cv0, upd, lk, srcOf]
                                · simp [objOk, srcOf, lk, cvO, frz, upd, hO, hmix, V8.list, hKK, u32I]
                              · (repeat (first | (simp -implicitDefEqProofs only [ev, mixed, Nat.reduceLT, Nat.reduceAdd, Nat.reduceMul, reduceIte, Nat.reduceEqDiff, reduceCtorEq, Nat.reducePow, Nat.reduceLeDiff, Int.reduceLE, Int.reduceLT, Int.reduceToNat, Int.reduceEq, Nat.reduceBEq, itsOf, gdA, byteI, opid, lenQ, ixQ, ldH, readAt, readCells, asCell, faQ, exQ, fldQ, partA, buildQ, slQ, stH, bslH, appH, dcells, convI, elemsOf, D.one, nilS, fillD, convN, cvH, tyR1Sum0, hmix, V8.list, u32I, wad, List.set_cons_zero, List.set_cons_succ, wq2]) | (with_reducible refine ⟨?_, ?_⟩; (· first | (obtain ⟨rfl⟩ := ‹Hq _ _›; with_reducible refine chk_ok ?_; kernel_rfl) | kernel_rfl)) | (with_reducible intro ops hops)))
                                refine ⟨3, by decide, le_stOf _ _ [] [(101, 101), (102, 102), (103, 103), (105, 105)] ?_ ?_ rfl rfl, by decide⟩
                                · simp [cv, cv1, cv0, upd, lk, srcOf]
                                · simp [objOk, srcOf, lk, cvO, frz, upd, hO, hmix, V8.list, hKK, u32I]
                              · (repeat (first | (simp -implicitDefEqProofs only [ev, mixed, Nat.reduceLT, Nat.reduceAdd, Nat.reduceMul, reduceIte, Nat.reduceEqDiff, reduceCtorEq, Nat.reducePow, Nat.reduceLeDiff, Int.reduceLE, Int.reduceLT, Int.reduceToNat, Int.reduceEq, Nat.reduceBEq, itsOf, gdA, byteI, opid, lenQ, ixQ, ldH, readAt, readCells, asCell, faQ, exQ, fldQ, partA, buildQ, slQ, stH, bslH, appH, dcells, convI, elemsOf, D.one, nilS, fillD, convN, cvH, tyR1Sum0, hmix, V8.list, u32I, wad, List.set_cons_zero, List.set_cons_succ, wq3]) | (with_reducible refine ⟨?_, ?_⟩; (· first | (obtain ⟨rfl⟩ := ‹Hq _ _›; with_reducible refine chk_ok ?_; kernel_rfl) | kernel_rfl)) | (with_reducible intro ops hops)))
                                refine ⟨4, by decide, le_stOf _ _ [] [(101, 101), (102, 102), (103, 103), (105, 105)] ?_ ?_ rfl rfl, by decide⟩
                                · simp [cv, cv1, cv0, upd, lk, srcOf]
                                · simp [objOk, srcOf, lk, cvO, frz, upd, hO, hmix, V8.list, hKK, u32I]
                              · (repeat (first | (simp -implicitDefEqProofs only [ev, mixed, Nat.reduceLT, Nat.reduceAdd, Nat.reduceMul, reduceIte, Nat.reduceEqDiff, reduceCtorEq, Nat.reducePow, Nat.reduceLeDiff, Int.reduceLE, Int.reduceLT, Int.reduceToNat, Int.reduceEq, Nat.reduceBEq, itsOf, gdA, byteI, opid, lenQ, ixQ, ldH, readAt, readCells, asCell, faQ, exQ, fldQ, partA, buildQ, slQ, stH, bslH, appH, dcells, convI, elemsOf, D.one, nilS, fillD, convN, cvH, tyR1Sum0, hmix, V8.list, u32I, wad, List.set_cons_zero, List.set_cons_succ, wq4]) | (with_reducible refine ⟨?_, ?_⟩; (· first | (obtain ⟨rfl⟩ := ‹Hq _ _›; with_reducible refine chk_ok ?_; kernel_rfl) | kernel_rfl)) | (with_reducible intro ops hops)))
                                refine ⟨5, by decide, le_stOf _ _ [] [(101, 101), (102, 102), (103, 103), (105, 105)] ?_ ?_ rfl rfl, by decide⟩
                                · simp [cv, cv1, cv0, upd, lk, srcOf]
                                · simp [objOk, srcOf, lk, cvO, frz, upd, hO, hmix, V8.list, hKK, u32I]
                              · (repeat (first | (simp -implicitDefEqProofs only [ev, mixed, Nat.reduceLT, Nat.reduceAdd, Nat.reduceMul, reduceIte, Nat.reduceEqDiff, reduceCtorEq, Nat.reducePow, Nat.reduceLeDiff, Int.reduceLE, Int.reduceLT, Int.reduceToNat, Int.reduceEq, Nat.reduceBEq, itsOf, gdA, byteI, opid, lenQ, ixQ, ldH, readAt, readCells, asCell, faQ, exQ, fldQ, partA, buildQ, slQ, stH, bslH, appH, dcells, convI, elemsOf, D.one, nilS, fillD, convN, cvH, tyR1Sum0, hmix, V8.list, u32I, wad, List.set_cons_zero, List.set_cons_succ, wq5]) | (with_reducible refine ⟨?_, ?_⟩; (· first | (obtain ⟨rfl⟩ := ‹Hq _ _›; with_reducible refine chk_ok ?_; kernel_rfl) | kernel_rfl)) | (with_reducible intro ops hops)))
                                refine ⟨6, by decide, le_stOf _ _ [] [(101, 101), (102, 102), (103, 103), (105, 105)] ?_ ?_ rfl rfl, by decide⟩
                                · simp [cv, cv1, cv0, upd, lk, srcOf]
                                · simp [objOk, srcOf, lk, cvO, frz, upd, hO, hmix, V8.list, hKK, u32I]
                              · (repeat (first | (simp -implicitDefEqProofs only [ev, mixed, Nat.reduceLT, Nat.reduceAdd, Nat.reduceMul, reduceIte, Nat.reduceEqDiff, reduceCtorEq, Nat.reducePow, Nat.reduceLeDiff, Int.reduceLE, Int.reduceLT, Int.reduceToNat, Int.reduceEq, Nat.reduceBEq, itsOf, gdA, byteI, opid, lenQ, ixQ, ldH, readAt, readCells, asCell, faQ, exQ, fldQ, partA, buildQ, slQ, stH, bslH, appH, dcells, convI, elemsOf, D.one, nilS, fillD, convN, cvH, tyR1Sum0, hmix, V8.list, u32I, wad, List.set_cons_zero, List.set_cons_succ, wq6]) | (with_reducible refine ⟨?_, ?_⟩; (· first | (obtain ⟨rfl⟩ := ‹Hq _ _›; with_reducible refine chk_ok ?_; kernel_rfl) | kernel_rfl)) | (with_reducible intro ops hops)))
                                refine ⟨7, by decide, le_stOf _ _ [] [(101, 101), (102, 102), (103, 103), (105, 105)] ?_ ?_ rfl rfl, by decide⟩
                                · simp [cv, cv1, cv0, upd, lk, srcOf]
                                · simp [objOk, srcOf, lk, cvO, frz, upd, hO, hmix, V8.list, hKK, u32I]
                              · (repeat (first | (simp -implicitDefEqProofs only [ev, mixed, Nat.reduceLT, Nat.reduceAdd, Nat.reduceMul, reduceIte, Nat.reduceEqDiff, reduceCtorEq, Nat.reducePow, Nat.reduceLeDiff, Int.reduceLE, Int.reduceLT, Int.reduceToNat, Int.reduceEq, Nat.reduceBEq, itsOf, gdA, byteI, opid, lenQ, ixQ, ldH, readAt, readCells, asCell, faQ, exQ, fldQ, partA, buildQ, slQ, stH, bslH, appH, dcells, convI, elemsOf, D.one, nilS, fillD, convN, cvH, tyR1Sum0, hmix, V8.list, u32I, wad, List.set_cons_zero, List.set_cons_succ, wq7]) | (with_reducible refine ⟨?_, ?_⟩; (· first | (obtain ⟨rfl⟩ := ‹Hq _ _›; with_reducible refine chk_ok ?_; kernel_rfl) | kernel_rfl)) | (with_reducible intro ops hops)))
                                refine ⟨8, by decide, le_stOf _ _ [] [(101, 101), (102, 102), (103, 103), (105, 105)] ?_ ?_ rfl rfl, by decide⟩
                                · simp [cv, cv1, cv0, upd, lk, srcOf]
                                · simp [objOk, srcOf, lk, cvO, frz, upd, hO, hmix, V8.list, hKK, u32I]
                              · exact absurd rfl h8
                · have h1 : k = J := by simp at h; omega
                  subst h1
                  clear h
                  generalize blocksW V0 k M = v
                  (repeat (first | (simp -implicitDefEqProofs only [ev, mixed, Nat.reduceLT, Nat.reduceAdd, Nat.reduceMul, reduceIte, Nat.reduceEqDiff, reduceCtorEq, Nat.reducePow, Nat.reduceLeDiff, Int.reduceLE, Int.reduceLT, Int.reduceToNat, Int.reduceEq, Nat.reduceBEq, itsOf, gdA, byteI, opid, lenQ, ixQ, ldH, readAt, readCells, asCell, faQ, exQ, fldQ, partA, buildQ, slQ, stH, bslH, appH, dcells, convI, elemsOf, D.one, nilS, fillD, convN, cvH, tyR1Sum0]) | (with_reducible refine ⟨?_, ?_⟩; (· first | (obtain ⟨rfl⟩ := ‹Hq _ _›; with_reducible refine chk_ok ?_; kernel_rfl) | kernel_rfl)) | (with_reducible intro ops hops)))
                  clear hM hJ hk
                  refine W_loopI (ι := Nat) (fun q => q ≤ 8)
                    (fun q => stOf [(34, .os 106 1 0 (4 * q)), (282, .os 102 1 0 8), (283, .i (.s (.int .i64 8))), (284, .i (.s (.int .i64 (q : Nat))))]
                      [(102, .arr 1 (v.list.map u32I)), (106, .arr 1 ((obytes v q).map byteI))]) (fun q => 8 - q) 0 (Nat.zero_le _) ?_ ?_
                  · refine le_stOf _ _ [] [(102, 102)] ?_ ?_ rfl rfl
                    · simp [cv, cv1, cv0, upd, lk, srcOf]
                    · simp [objOk, srcOf, lk, cvO, frz, upd, hO, obytes]
                  · intro q hq
                    rw [stOf_eq]
                    (repeat (first | (simp -implicitDefEqProofs only [ev, mixed, Nat.reduceLT, Nat.reduceAdd, Nat.reduceMul, reduceIte, Nat.reduceEqDiff, reduceCtorEq, Nat.reducePow, Nat.reduceLeDiff, Int.reduceLE, Int.reduceLT, Int.reduceToNat, Int.reduceEq, Nat.reduceBEq, itsOf, gdA, byteI, opid, lenQ, ixQ, ldH, readAt, readCells, asCell, faQ, exQ, fldQ, partA, buildQ, slQ, stH, bslH, appH, dcells, convI, elemsOf, D.one, nilS, fillD, convN, cvH, tyR1Sum0]) | (with_reducible refine ⟨?_, ?_⟩; (· first | (obtain ⟨rfl⟩ := ‹Hq _ _›; with_reducible refine chk_ok ?_; kernel_rfl) | kernel_rfl)) | (with_reducible intro ops hops)))
                    refine Wc_split (fun h => ?_) (fun h => ?_)
                    · have h2 : q < 8 := by simp at h; omega
                      clear h
                      have hol := obytes_len v q hq
                      have hos := obytes_succ v q h2
                      have hvl : v.list.length = 8 := rfl
                      have gq : (v.list.map u32I)[q]? = some [.s (.int .u32 ((v.list.getD q 0 : Nat) : Int))] := by simp [show q < v.list.length by omega, u32I]
                      have l1 : ((q : Int) < 8) = True := eq_true (by omega)
                      generalize v.list.getD q 0 = x at hos gq
                      generalize obytes v q = ob at hol hos
                      generalize hVL : v.list.map u32I = VL at gq
                      (repeat (first | (simp -implicitDefEqProofs only [ev, mixed, Nat.reduceLT, Nat.reduceAdd, Nat.reduceMul, reduceIte, Nat.reduceEqDiff, reduceCtorEq, Nat.reducePow, Nat.reduceLeDiff, Int.reduceLE, Int.reduceLT, Int.reduceToNat, Int.reduceEq, Nat.reduceBEq, itsOf, gdA, byteI, opid, lenQ, ixQ, ldH, readAt, readCells, asCell, faQ, exQ, fldQ, partA, buildQ, slQ, stH, bslH, appH, dcells, convI, elemsOf, D.one, nilS, fillD, convN, cvH, tyR1Sum0, gq, l1]) | (with_reducible refine ⟨?_, ?_⟩; (· first | (obtain ⟨rfl⟩ := ‹Hq _ _›; with_reducible refine chk_ok ?_; kernel_rfl) | kernel_rfl)) | (with_reducible intro ops hops)))
                      refine W_loopI (ι := Nat) (fun t => t ≤ 4)
                        (fun t => stOf [(34, .os 106 1 0 (4 * q + t)), (36, .i (.s (.int .u32 (x : Nat)))), (37, .i (.s (.int .i64 (3 - (t : Int))))), (282, .os 102 1 0 8), (283, .i (.s (.int .i64 8))), (284, .i (.s (.int .i64 (q : Nat))))]
                          [(102, .arr 1 VL), (106, .arr 1 ((ob ++ (be32 x).take t).map byteI))]) (fun t => 4 - t) 0 (Nat.zero_le _) ?_ ?_
                      · refine le_stOf _ _ [] [(102, 102), (106, 106)] ?_ ?_ rfl rfl
                        · simp [cv, cv1, cv0, upd, lk, srcOf]
                        · simp [objOk, srcOf, lk, cvO, frz, upd, hO]
                      · intro t ht
                        rw [stOf_eq]
                        (repeat (first | (simp -implicitDefEqProofs only [ev, mixed, Nat.reduceLT, Nat.reduceAdd, Nat.reduceMul, reduceIte, Nat.reduceEqDiff, reduceCtorEq, Nat.reducePow, Nat.reduceLeDiff, Int.reduceLE, Int.reduceLT, Int.reduceToNat, Int.reduceEq, Nat.reduceBEq, itsOf, gdA, byteI, opid, lenQ, ixQ, ldH, readAt, readCells, asCell, faQ, exQ, fldQ, partA, buildQ, slQ, stH, bslH, appH, dcells, convI, elemsOf, D.one, nilS, fillD, convN, cvH, tyR1Sum0]) | (with_reducible refine ⟨?_, ?_⟩; (· first | (obtain ⟨rfl⟩ := ‹Hq _ _›; with_reducible refine chk_ok ?_; kernel_rfl) | kernel_rfl)) | (with_reducible intro ops hops)))
                        refine Wc_split (fun h => ?_) (fun h => ?_)
                        · have h1 : t < 4 := by simp at h; omega
                          clear h
                          have hts := take_snoc' (be32_get x t h1)
                          have e7 : (3 : Int) - (t : Int) = ((3 - t : Nat) : Int) := by omega
                          have w3 : IntKind.i64.wrap (8 * ((3 - t : Nat) : Int)) = ((8 * (3 - t) : Nat) : Int) := by rw [wrap64 (by omega) (by omega)]; omega
                          have w4 := byte_shift (k := .u32) x (3 - t) (by simp [IntKind.bits]; omega)
                          have w5 : IntKind.i64.wrap (((3 - t : Nat) : Int) - 1) = 3 - ((t + 1 : Nat) : Int) := by rw [wrap64 (by omega) (by omega)]; omega
                          have hl8 : (be32 x).length = 4 := rfl
                          have e3 : 4 * q + t + 1 ≤ 140737488355328 := by omega
                          have e8 : ob.length + min t (be32 x).length = 4 * q + t := by rw [hl8]; omega
                          generalize byteOf x (256 ^ (3 - t)) = c at hts w4
                          generalize 3 - t = d at e7 w3 w4 w5
                          generalize be32 x = B4 at hts e8 hl8
                          (repeat (first | (simp -implicitDefEqProofs only [ev, mixed, Nat.reduceLT, Nat.reduceAdd, Nat.reduceMul, reduceIte, Nat.reduceEqDiff, reduceCtorEq, Nat.reducePow, Nat.reduceLeDiff, Int.reduceLE, Int.reduceLT, Int.reduceToNat, Int.reduceEq, Nat.reduceBEq, itsOf, gdA, byteI, opid, lenQ, ixQ, ldH, readAt, readCells, asCell, faQ, exQ, fldQ, partA, buildQ, slQ, stH, bslH, appH, dcells, convI, elemsOf, D.one, nilS, fillD, convN, cvH, tyR1Sum0, e7, w3, w4, w5, e3, e8, uni_byteI, List.length_take]) | (with_reducible refine ⟨?_, ?_⟩; (· first | (obtain ⟨rfl⟩ := ‹Hq _ _›; with_reducible refine chk_ok ?_; kernel_rfl) | kernel_rfl)) | (with_reducible intro ops hops)))
                          refine ⟨t + 1, h1, le_stOf _ _ [] [(102, 102), (106, 16623)] ?_ ?_ rfl rfl, by simp; omega⟩
                          · simp [cv, cv1, cv0, upd, lk, srcOf]; omega
                          · simp [objOk, srcOf, lk, cvO, frz, upd, hO, byteI, hts]
                        · have h1 : t = 4 := by simp at h; omega
                          subst h1
                          have w1 : IntKind.i64.wrap ((q : Int) + 1) = ((q + 1 : Nat) : Int) := by rw [wrap64 (by omega) (by omega)]; omega
                          rw [show (be32 x).take 4 = be32 x from rfl, ← hos]
                          (repeat (first | (simp -implicitDefEqProofs only [ev, mixed, Nat.reduceLT, Nat.reduceAdd, Nat.reduceMul, reduceIte, Nat.reduceEqDiff, reduceCtorEq, Nat.reducePow, Nat.reduceLeDiff, Int.reduceLE, Int.reduceLT, Int.reduceToNat, Int.reduceEq, Nat.reduceBEq, itsOf, gdA, byteI, opid, lenQ, ixQ, ldH, readAt, readCells, asCell, faQ, exQ, fldQ, partA, buildQ, slQ, stH, bslH, appH, dcells, convI, elemsOf, D.one, nilS, fillD, convN, cvH, tyR1Sum0, w1]) | (with_reducible refine ⟨?_, ?_⟩; (· first | (obtain ⟨rfl⟩ := ‹Hq _ _›; with_reducible refine chk_ok ?_; kernel_rfl) | kernel_rfl)) | (with_reducible intro ops hops)))
                          refine ⟨q + 1, h2, le_stOf _ _ [] [(102, 102), (106, 106)] ?_ ?_ rfl rfl, by simp; omega⟩
                          · simp [cv, cv1, cv0, upd, lk, srcOf]; omega
                          · simp [objOk, srcOf, lk, cvO, frz, upd, hO, hVL]
                    · have h2 : q = 8 := by simp at h; omega
                      subst h2
                      have hol := obytes_len v 8 (Nat.le_refl _)
                      rw [← obytes_all]
                      generalize obytes v 8 = ob at hol
                      (repeat (first | (simp -implicitDefEqProofs only [ev, mixed, Nat.reduceLT, Nat.reduceAdd, Nat.reduceMul, reduceIte, Nat.reduceEqDiff, reduceCtorEq, Nat.reducePow, Nat.reduceLeDiff, Int.reduceLE, Int.reduceLT, Int.reduceToNat, Int.reduceEq, Nat.reduceBEq, itsOf, gdA, byteI, opid, lenQ, ixQ, ldH, readAt, readCells, asCell, faQ, exQ, fldQ, partA, buildQ, slQ, stH, bslH, appH, dcells, convI, elemsOf, D.one, nilS, fillD, convN, cvH, tyR1Sum0]) | (with_reducible refine ⟨?_, ?_⟩; (· first | (obtain ⟨rfl⟩ := ‹Hq _ _›; with_reducible refine chk_ok ?_; kernel_rfl) | kernel_rfl)) | (with_reducible intro ops hops)))
                      refine fin_ret [106] rfl ?_
                      have hof : List.take 32 (ob.map byteI) = ob.map byteI := List.take_of_length_le (by simp; omega)
                      simp [cv, cv1, cv0, upd, hO, lk, elemsOf, hol, hof]
end Go.Proofs.Ytdpfjmkilbepgaa
/- landref4.Four, Join, Leaf, Node, Top, Tree: by value. -/
set_option linter.all false
namespace Go.Proofs.Ytdpfjmkilbepgaa
open Go Go.Abs Go.RowKit Go.Proofs.Ytdpfjmkilbepgaa.Ty
theorem tyRefB0 : (type_of% @Ty.T3) ∧ (type_of% @Ty.T4) ∧ (type_of% @Ty.T5) ∧ (type_of% @Ty.T25) := ⟨@Ty.T3, @Ty.T4, @Ty.T5, @Ty.T25⟩
theorem tyRefB1 : (type_of% @Ty.T3) ∧ (type_of% @Ty.T5) ∧ (type_of% @Ty.T25) ∧ (type_of% @Ty.T26) := ⟨@Ty.T3, @Ty.T5, @Ty.T25, @Ty.T26⟩
theorem tyRefB2 : (type_of% @Ty.T1) ∧ (type_of% @Ty.T3) ∧ (type_of% @Ty.T4) ∧ (type_of% @Ty.T5) ∧ (type_of% @Ty.T25) ∧ (type_of% @Ty.T26) := ⟨@Ty.T1, @Ty.T3, @Ty.T4, @Ty.T5, @Ty.T25, @Ty.T26⟩
theorem tyRefB3 : (type_of% @Ty.T1) ∧ (type_of% @Ty.T3) ∧ (type_of% @Ty.T5) ∧ (type_of% @Ty.T25) ∧ (type_of% @Ty.T26) := ⟨@Ty.T1, @Ty.T3, @Ty.T5, @Ty.T25, @Ty.T26⟩
theorem tyRefB4 : (type_of% @Ty.T1) ∧ (type_of% @Ty.T3) ∧ (type_of% @Ty.T5) ∧ (type_of% @Ty.T25) ∧ (type_of% @Ty.T26) := ⟨@Ty.T1, @Ty.T3, @Ty.T5, @Ty.T25, @Ty.T26⟩

theorem rem_byte (x : Nat) : IntKind.u8.wrap ((x : Int).tmod 256) = (((UInt8.ofNat x).toNat : Nat) : Int) := by
  rw [IntKind.wrap_u8, UInt8.toNat_ofNat']
  have : (x : Int).tmod 256 = ((x % 256 : Nat) : Int) := by rw [Int.tmod_eq_emod_of_nonneg (by omega)]; omega
  rw [this]; omega
theorem quo_byte (n d : Nat) (hn : n ≤ 1099511627776) : IntKind.u8.wrap ((IntKind.i64.wrap ((n : Int).tdiv (d : Int))).tmod 256) = ((byteOf n d).toNat : Int) := by
  have h1 : (n : Int).tdiv (d : Int) = ((n / d : Nat) : Int) := by rw [Int.tdiv_eq_ediv_of_nonneg (by omega)]; omega
  have h2 : n / d ≤ n := Nat.div_le_self _ _
  rw [h1, byteOf]
  generalize n / d = q at *
  rw [wrap64 (by omega) (by omega), rem_byte, UInt8.toNat_ofNat', UInt8.toNat_ofNat']; omega
def jk (ls : List (List UInt8)) (j : Nat) : List UInt8 := (ls.take j).flatten
theorem jk_zero (ls : List (List UInt8)) : jk ls 0 = [] := rfl
theorem jk_succ {ls : List (List UInt8)} {j : Nat} (h : j < ls.length) : jk ls (j + 1) = jk ls j ++ ls[j] := by
  unfold jk
  rw [List.take_succ_eq_append_getElem h, List.flatten_append]
  simp only [List.flatten_cons, List.flatten_nil, List.append_nil]
theorem jk_all (ls : List (List UInt8)) : jk ls ls.length = ls.flatten := by unfold jk; rw [List.take_length]
theorem jk_le (ls : List (List UInt8)) (j : Nat) : (jk ls j).length ≤ ls.flatten.length := by
  have h : ls.flatten = jk ls j ++ (ls.drop j).flatten := by
    unfold jk; rw [← List.flatten_append, List.take_append_drop]
  rw [h, List.length_append]; omega
set_option maxHeartbeats 4000000
theorem rfour_A (n : Nat) (hn : n ≤ 1099511627776) : PureD Try.prog 133 [intD n] (.i (bI (four n))) := by
  simp only [four]
  have b1 := quo_byte n 16777216 hn
  have b2 := quo_byte n 65536 hn
  have b3 := quo_byte n 256 hn
  have b4 : IntKind.u8.wrap ((n : Int).tmod 256) = ((byteOf n 1).toNat : Int) := by rw [rem_byte, byteOf, Nat.div_one, UInt8.toNat_ofNat', UInt8.toNat_ofNat']; omega
  simp only [Int.ofNat_eq_natCast, Int.cast_ofNat_Int] at b1 b2 b3
  generalize byteOf n 16777216 = c1 at *
  generalize byteOf n 65536 = c2 at *
  generalize byteOf n 256 = c3 at *
  generalize byteOf n 1 = c4 at *
  refine callD_W 19 Try.func133 rfl rfl rfl (fun _ _ => rfl) ?_
  (repeat (first | (simp -implicitDefEqProofs only [ev, mixed, Nat.reduceLT, Nat.reduceAdd, Nat.reduceMul, reduceIte, Nat.reduceEqDiff, reduceCtorEq, Nat.reducePow, Nat.reduceLeDiff, Int.reduceLE, Int.reduceLT, Int.reduceToNat, Int.reduceEq, Nat.reduceBEq, itsOf, gdA, byteI, opid, lenQ, ixQ, ldH, readAt, readCells, asCell, faQ, exQ, fldQ, partA, buildQ, slQ, stH, bslH, appH, dcells, convI, elemsOf, D.one, nilS, fillD, convN, cvH, tyRefB0, intD, b1, b2, b3, b4]) | (with_reducible refine ⟨?_, ?_⟩; (· first | (obtain ⟨rfl⟩ := ‹Hq _ _›; with_reducible refine chk_ok ?_; kernel_rfl) | kernel_rfl)) | (with_reducible intro ops hops)))
  refine fin_ret [1271] rfl ?_
  simp [cv, cv1, cv0, upd, elemsOf, bI, byteI]
theorem join_A (ls : List (List UInt8)) (h1 : ls.flatten.length ≤ 1099511627776) (h2 : ls.length ≤ 1048576) : PureD Try.prog 132 [.i (bbI ls)] (.i (bI ls.flatten)) := by
  have hl : (ls.map fun b => [bI b]).length = ls.length := by simp
  have e0 : ∀ j (h : j < ls.length), (ls.map fun b => [bI b])[j]? = some [bI ls[j]] := fun j h => by rw [List.getElem?_map, List.getElem?_eq_getElem h]; rfl
  have hbb : bbI ls = .sl (ls.map fun b => [bI b]) := rfl
  rw [hbb]
  generalize (ls.map fun b => [bI b]) = L at *
  have hall := jk_all ls
  have hle := jk_le ls
  generalize ls.flatten = Z at *
  refine callD_W 17 Try.func132 rfl rfl rfl (fun _ _ => rfl) ?_
  (repeat (first | (simp -implicitDefEqProofs only [ev, mixed, Nat.reduceLT, Nat.reduceAdd, Nat.reduceMul, reduceIte, Nat.reduceEqDiff, reduceCtorEq, Nat.reducePow, Nat.reduceLeDiff, Int.reduceLE, Int.reduceLT, Int.reduceToNat, Int.reduceEq, Nat.reduceBEq, itsOf, gdA, byteI, opid, lenQ, ixQ, ldH, readAt, readCells, asCell, faQ, exQ, fldQ, partA, buildQ, slQ, stH, bslH, appH, dcells, convI, elemsOf, D.one, nilS, fillD, convN, cvH, tyRefB1, hl]) | (with_reducible refine ⟨?_, ?_⟩; (· first | (obtain ⟨rfl⟩ := ‹Hq _ _›; with_reducible refine chk_ok ?_; kernel_rfl) | kernel_rfl)) | (with_reducible intro ops hops)))
  refine W_loopI (ι := Nat) (fun j => j ≤ ls.length)
    (fun j => stOf [(3, .os 100 1 0 (jk ls j).length), (6, .i (.sl L)), (7, intD ls.length), (8, intD j)] [(100, .arr 1 ((jk ls j).map byteI))]) (fun j => ls.length - j) 0 (Nat.zero_le _) ?_ ?_
  · refine le_stOf _ _ [] [] ?_ ?_ rfl rfl
    · simp [cv, cvL, cv1, cv0, upd, lk, srcOf, intD, jk_zero]
    · simp [objOk, srcOf, lk, jk_zero]
  · rintro j hj
    rw [stOf_eq]
    by_cases hlt : j < ls.length
    · have g1 : decide ((j : Int) < (ls.length : Int)) = true := decide_eq_true (by omega)
      have e1 := e0 j hlt
      have w1 : IntKind.i64.wrap ((j : Int) + 1) = ((j + 1 : Nat) : Int) := by rw [wrap64 (by omega) (by omega)]; omega
      have ht := jk_succ hlt
      have hle := hle (j + 1)
      rw [ht, List.length_append] at hle
      generalize ls[j] = b at *
      generalize jk ls j = A at *
      have e3 : A.length + b.length ≤ 140737488355328 := by omega
      simp only [bI] at e1
      (repeat (first | (simp -implicitDefEqProofs only [ev, mixed, Nat.reduceLT, Nat.reduceAdd, Nat.reduceMul, reduceIte, Nat.reduceEqDiff, reduceCtorEq, Nat.reducePow, Nat.reduceLeDiff, Int.reduceLE, Int.reduceLT, Int.reduceToNat, Int.reduceEq, Nat.reduceBEq, itsOf, gdA, byteI, opid, lenQ, ixQ, ldH, readAt, readCells, asCell, faQ, exQ, fldQ, partA, buildQ, slQ, stH, bslH, appH, dcells, convI, elemsOf, D.one, nilS, fillD, convN, cvH, tyRefB1, intD, g1, e1, e3, uni_byteI, List.length_map, w1]) | (with_reducible refine ⟨?_, ?_⟩; (· first | (obtain ⟨rfl⟩ := ‹Hq _ _›; with_reducible refine chk_ok ?_; kernel_rfl) | kernel_rfl)) | (with_reducible intro ops hops)))
      refine ⟨j + 1, hlt, le_stOf _ _ [] [(100, 2282)] ?_ ?_ rfl rfl, by simp; omega⟩
      · simp [cv, cvL, cv1, cv0, upd, lk, srcOf, intD, ht]
      · simp [objOk, srcOf, lk, cvO, frz, upd, hO, ht]
    · have g1 : decide ((j : Int) < (ls.length : Int)) = false := decide_eq_false (by omega)
      have hj' : j = ls.length := by omega
      subst hj'
      rw [hall]
      (repeat (first | (simp -implicitDefEqProofs only [ev, mixed, Nat.reduceLT, Nat.reduceAdd, Nat.reduceMul, reduceIte, Nat.reduceEqDiff, reduceCtorEq, Nat.reducePow, Nat.reduceLeDiff, Int.reduceLE, Int.reduceLT, Int.reduceToNat, Int.reduceEq, Nat.reduceBEq, itsOf, gdA, byteI, opid, lenQ, ixQ, ldH, readAt, readCells, asCell, faQ, exQ, fldQ, partA, buildQ, slQ, stH, bslH, appH, dcells, convI, elemsOf, D.one, nilS, fillD, convN, cvH, tyRefB1, intD, g1]) | (with_reducible refine ⟨?_, ?_⟩; (· first | (obtain ⟨rfl⟩ := ‹Hq _ _›; with_reducible refine chk_ok ?_; kernel_rfl) | kernel_rfl)) | (with_reducible intro ops hops)))
      refine fin_ret [100] rfl ?_
      have hz : List.take Z.length (Z.map byteI) = Z.map byteI := List.take_of_length_le (by simp)
      simp [cv, cv1, cv0, upd, hO, lk, elemsOf, bI, hz]
theorem rleaf_A (k v : List UInt8) (hk : k.length ≤ 1048576) (hv : v.length ≤ 1048576) : PureD Try.prog 104 [.i (bI k), .i (bI v)] (.i (bI (leafF k v))) := by
  have hf : [[0], four k.length, k, v].flatten = 0 :: (four k.length ++ (k ++ v)) := by simp
  have hfl : (four k.length).length = 4 := rfl
  have hp := join_A [[0], four k.length, k, v] (by rw [hf]; simp; omega) (by simp)
  have hs := sumref_A (0 :: (four k.length ++ (k ++ v))) (by simp; omega)
  rw [hf] at hp
  rw [show sha (0 :: (four k.length ++ (k ++ v))) = leafF k v from rfl] at hs
  generalize 0 :: (four k.length ++ (k ++ v)) = J at *
  generalize leafF k v = R at *
  refine callD_W 14 Try.func104 rfl rfl rfl (fun _ _ => rfl) ?_
  (repeat (first | (simp -implicitDefEqProofs only [ev, mixed, Nat.reduceLT, Nat.reduceAdd, Nat.reduceMul, reduceIte, Nat.reduceEqDiff, reduceCtorEq, Nat.reducePow, Nat.reduceLeDiff, Int.reduceLE, Int.reduceLT, Int.reduceToNat, Int.reduceEq, Nat.reduceBEq, itsOf, gdA, byteI, opid, lenQ, ixQ, ldH, readAt, readCells, asCell, faQ, exQ, fldQ, partA, buildQ, slQ, stH, bslH, appH, dcells, convI, elemsOf, D.one, nilS, fillD, convN, cvH, tyRefB2, bI]) | (with_reducible refine ⟨?_, ?_⟩; (· first | (obtain ⟨rfl⟩ := ‹Hq _ _›; with_reducible refine chk_ok ?_; kernel_rfl) | kernel_rfl)) | (with_reducible intro ops hops)))
  (first | refine Call_frz [] (rfour_A k.length (by omega)) (by simp [cvAs, cvA, cvRL, cvR, cvBox, cv1, cvL, cv0, bI, byteI, bbI, intD, elemsOf, upd]) ?_ | refine CallF_frz [] [] (rfour_A k.length (by omega)) (fun G _ => by simp [cvAs, cvA, cvRL, cvR, cvBox, cv1, cvL, cv0, bI, byteI, bbI, intD, elemsOf, upd]) (by simp) ?_)
  (repeat (first | (simp -implicitDefEqProofs only [ev, mixed, Nat.reduceLT, Nat.reduceAdd, Nat.reduceMul, reduceIte, Nat.reduceEqDiff, reduceCtorEq, Nat.reducePow, Nat.reduceLeDiff, Int.reduceLE, Int.reduceLT, Int.reduceToNat, Int.reduceEq, Nat.reduceBEq, itsOf, gdA, byteI, opid, lenQ, ixQ, ldH, readAt, readCells, asCell, faQ, exQ, fldQ, partA, buildQ, slQ, stH, bslH, appH, dcells, convI, elemsOf, D.one, nilS, fillD, convN, cvH, tyRefB2, bI]) | (with_reducible refine ⟨?_, ?_⟩; (· first | (obtain ⟨rfl⟩ := ‹Hq _ _›; with_reducible refine chk_ok ?_; kernel_rfl) | kernel_rfl)) | (with_reducible intro ops hops)))
  (first | refine Call_frz [1262] (hp) (by simp [cvAs, cvA, cvRL, cvR, cvBox, cv1, cvL, cv0, bI, byteI, bbI, intD, elemsOf, upd, frz, bbI]) ?_ | refine CallF_frz [1262] [1262] (hp) (fun G hG => by (have hG1262 := hG 1262 (by simp); simp [cvAs, cvA, cvRL, cvR, cvBox, cv1, cvL, cv0, bI, byteI, bbI, intD, elemsOf, upd, frz, bbI, hG1262])) (by simp) ?_)
  (repeat (first | (simp -implicitDefEqProofs only [ev, mixed, Nat.reduceLT, Nat.reduceAdd, Nat.reduceMul, reduceIte, Nat.reduceEqDiff, reduceCtorEq, Nat.reducePow, Nat.reduceLeDiff, Int.reduceLE, Int.reduceLT, Int.reduceToNat, Int.reduceEq, Nat.reduceBEq, itsOf, gdA, byteI, opid, lenQ, ixQ, ldH, readAt, readCells, asCell, faQ, exQ, fldQ, partA, buildQ, slQ, stH, bslH, appH, dcells, convI, elemsOf, D.one, nilS, fillD, convN, cvH, tyRefB2, bI]) | (with_reducible refine ⟨?_, ?_⟩; (· first | (obtain ⟨rfl⟩ := ‹Hq _ _›; with_reducible refine chk_ok ?_; kernel_rfl) | kernel_rfl)) | (with_reducible intro ops hops)))
  (first | refine Call_frz [] (hs) (by simp [cvAs, cvA, cvRL, cvR, cvBox, cv1, cvL, cv0, bI, byteI, bbI, intD, elemsOf, upd]) ?_ | refine CallF_frz [] [] (hs) (fun G _ => by simp [cvAs, cvA, cvRL, cvR, cvBox, cv1, cvL, cv0, bI, byteI, bbI, intD, elemsOf, upd]) (by simp) ?_)
  (repeat (first | (simp -implicitDefEqProofs only [ev, mixed, Nat.reduceLT, Nat.reduceAdd, Nat.reduceMul, reduceIte, Nat.reduceEqDiff, reduceCtorEq, Nat.reducePow, Nat.reduceLeDiff, Int.reduceLE, Int.reduceLT, Int.reduceToNat, Int.reduceEq, Nat.reduceBEq, itsOf, gdA, byteI, opid, lenQ, ixQ, ldH, readAt, readCells, asCell, faQ, exQ, fldQ, partA, buildQ, slQ, stH, bslH, appH, dcells, convI, elemsOf, D.one, nilS, fillD, convN, cvH, tyRefB2, bI]) | (with_reducible refine ⟨?_, ?_⟩; (· first | (obtain ⟨rfl⟩ := ‹Hq _ _›; with_reducible refine chk_ok ?_; kernel_rfl) | kernel_rfl)) | (with_reducible intro ops hops)))
  refine fin_ret [] rfl ?_
  simp [cv, cv1, cv0, upd]
theorem rnode_A (a b : List UInt8) (ha : a.length ≤ 1048576) (hb : b.length ≤ 1048576) : PureD Try.prog 105 [.i (bI a), .i (bI b)] (.i (bI (nodeF a b))) := by
  have hf : [[1], a, b].flatten = 1 :: (a ++ b) := by simp
  have hp := join_A [[1], a, b] (by rw [hf]; simp; omega) (by simp)
  have hs := sumref_A (1 :: (a ++ b)) (by simp; omega)
  rw [hf] at hp
  rw [show sha (1 :: (a ++ b)) = nodeF a b from rfl] at hs
  generalize 1 :: (a ++ b) = J at *
  generalize nodeF a b = R at *
  refine callD_W 11 Try.func105 rfl rfl rfl (fun _ _ => rfl) ?_
  (repeat (first | (simp -implicitDefEqProofs only [ev, mixed, Nat.reduceLT, Nat.reduceAdd, Nat.reduceMul, reduceIte, Nat.reduceEqDiff, reduceCtorEq, Nat.reducePow, Nat.reduceLeDiff, Int.reduceLE, Int.reduceLT, Int.reduceToNat, Int.reduceEq, Nat.reduceBEq, itsOf, gdA, byteI, opid, lenQ, ixQ, ldH, readAt, readCells, asCell, faQ, exQ, fldQ, partA, buildQ, slQ, stH, bslH, appH, dcells, convI, elemsOf, D.one, nilS, fillD, convN, cvH, tyRefB3, bI]) | (with_reducible refine ⟨?_, ?_⟩; (· first | (obtain ⟨rfl⟩ := ‹Hq _ _›; with_reducible refine chk_ok ?_; kernel_rfl) | kernel_rfl)) | (with_reducible intro ops hops)))
  (first | refine Call_frz [1259] (hp) (by simp [cvAs, cvA, cvRL, cvR, cvBox, cv1, cvL, cv0, bI, byteI, bbI, intD, elemsOf, upd, frz, bbI]) ?_ | refine CallF_frz [1259] [1259] (hp) (fun G hG => by (have hG1259 := hG 1259 (by simp); simp [cvAs, cvA, cvRL, cvR, cvBox, cv1, cvL, cv0, bI, byteI, bbI, intD, elemsOf, upd, frz, bbI, hG1259])) (by simp) ?_)
  (repeat (first | (simp -implicitDefEqProofs only [ev, mixed, Nat.reduceLT, Nat.reduceAdd, Nat.reduceMul, reduceIte, Nat.reduceEqDiff, reduceCtorEq, Nat.reducePow, Nat.reduceLeDiff, Int.reduceLE, Int.reduceLT, Int.reduceToNat, Int.reduceEq, Nat.reduceBEq, itsOf, gdA, byteI, opid, lenQ, ixQ, ldH, readAt, readCells, asCell, faQ, exQ, fldQ, partA, buildQ, slQ, stH, bslH, appH, dcells, convI, elemsOf, D.one, nilS, fillD, convN, cvH, tyRefB3, bI]) | (with_reducible refine ⟨?_, ?_⟩; (· first | (obtain ⟨rfl⟩ := ‹Hq _ _›; with_reducible refine chk_ok ?_; kernel_rfl) | kernel_rfl)) | (with_reducible intro ops hops)))
  (first | refine Call_frz [] (hs) (by simp [cvAs, cvA, cvRL, cvR, cvBox, cv1, cvL, cv0, bI, byteI, bbI, intD, elemsOf, upd]) ?_ | refine CallF_frz [] [] (hs) (fun G _ => by simp [cvAs, cvA, cvRL, cvR, cvBox, cv1, cvL, cv0, bI, byteI, bbI, intD, elemsOf, upd]) (by simp) ?_)
  (repeat (first | (simp -implicitDefEqProofs only [ev, mixed, Nat.reduceLT, Nat.reduceAdd, Nat.reduceMul, reduceIte, Nat.reduceEqDiff, reduceCtorEq, Nat.reducePow, Nat.reduceLeDiff, Int.reduceLE, Int.reduceLT, Int.reduceToNat, Int.reduceEq, Nat.reduceBEq, itsOf, gdA, byteI, opid, lenQ, ixQ, ldH, readAt, readCells, asCell, faQ, exQ, fldQ, partA, buildQ, slQ, stH, bslH, appH, dcells, convI, elemsOf, D.one, nilS, fillD, convN, cvH, tyRefB3, bI]) | (with_reducible refine ⟨?_, ?_⟩; (· first | (obtain ⟨rfl⟩ := ‹Hq _ _›; with_reducible refine chk_ok ?_; kernel_rfl) | kernel_rfl)) | (with_reducible intro ops hops)))
  refine fin_ret [] rfl ?_
  simp [cv, cv1, cv0, upd]
theorem rtop_A (n : Nat) (t : List UInt8) (hn : n ≤ 1048576) (ht : t.length ≤ 1048576) : PureD Try.prog 106 [intD n, .i (bI t)] (.i (bI (topF n t))) := by
  have hf : [[2], four n, t].flatten = 2 :: (four n ++ t) := by simp
  have hfl : (four n).length = 4 := rfl
  have hp := join_A [[2], four n, t] (by rw [hf]; simp; omega) (by simp)
  have hs := sumref_A (2 :: (four n ++ t)) (by simp; omega)
  rw [hf] at hp
  rw [show sha (2 :: (four n ++ t)) = topF n t from rfl] at hs
  generalize 2 :: (four n ++ t) = J at *
  generalize topF n t = R at *
  refine callD_W 12 Try.func106 rfl rfl rfl (fun _ _ => rfl) ?_
  (repeat (first | (simp -implicitDefEqProofs only [ev, mixed, Nat.reduceLT, Nat.reduceAdd, Nat.reduceMul, reduceIte, Nat.reduceEqDiff, reduceCtorEq, Nat.reducePow, Nat.reduceLeDiff, Int.reduceLE, Int.reduceLT, Int.reduceToNat, Int.reduceEq, Nat.reduceBEq, itsOf, gdA, byteI, opid, lenQ, ixQ, ldH, readAt, readCells, asCell, faQ, exQ, fldQ, partA, buildQ, slQ, stH, bslH, appH, dcells, convI, elemsOf, D.one, nilS, fillD, convN, cvH, tyRefB4, bI, intD]) | (with_reducible refine ⟨?_, ?_⟩; (· first | (obtain ⟨rfl⟩ := ‹Hq _ _›; with_reducible refine chk_ok ?_; kernel_rfl) | kernel_rfl)) | (with_reducible intro ops hops)))
  (first | refine Call_frz [] (rfour_A n (by omega)) (by simp [cvAs, cvA, cvRL, cvR, cvBox, cv1, cvL, cv0, bI, byteI, bbI, intD, elemsOf, upd]) ?_ | refine CallF_frz [] [] (rfour_A n (by omega)) (fun G _ => by simp [cvAs, cvA, cvRL, cvR, cvBox, cv1, cvL, cv0, bI, byteI, bbI, intD, elemsOf, upd]) (by simp) ?_)
  (repeat (first | (simp -implicitDefEqProofs only [ev, mixed, Nat.reduceLT, Nat.reduceAdd, Nat.reduceMul, reduceIte, Nat.reduceEqDiff, reduceCtorEq, Nat.reducePow, Nat.reduceLeDiff, Int.reduceLE, Int.reduceLT, Int.reduceToNat, Int.reduceEq, Nat.reduceBEq, itsOf, gdA, byteI, opid, lenQ, ixQ, ldH, readAt, readCells, asCell, faQ, exQ, fldQ, partA, buildQ, slQ, stH, bslH, appH, dcells, convI, elemsOf, D.one, nilS, fillD, convN, cvH, tyRefB4, bI]) | (with_reducible refine ⟨?_, ?_⟩; (· first | (obtain ⟨rfl⟩ := ‹Hq _ _›; with_reducible refine chk_ok ?_; kernel_rfl) | kernel_rfl)) | (with_reducible intro ops hops)))
  (first | refine Call_frz [1260] (hp) (by simp [cvAs, cvA, cvRL, cvR, cvBox, cv1, cvL, cv0, bI, byteI, bbI, intD, elemsOf, upd, frz, bbI]) ?_ | refine CallF_frz [1260] [1260] (hp) (fun G hG => by (have hG1260 := hG 1260 (by simp); simp [cvAs, cvA, cvRL, cvR, cvBox, cv1, cvL, cv0, bI, byteI, bbI, intD, elemsOf, upd, frz, bbI, hG1260])) (by simp) ?_)
  (repeat (first | (simp -implicitDefEqProofs only [ev, mixed, Nat.reduceLT, Nat.reduceAdd, Nat.reduceMul, reduceIte, Nat.reduceEqDiff, reduceCtorEq, Nat.reducePow, Nat.reduceLeDiff, Int.reduceLE, Int.reduceLT, Int.reduceToNat, Int.reduceEq, Nat.reduceBEq, itsOf, gdA, byteI, opid, lenQ, ixQ, ldH, readAt, readCells, asCell, faQ, exQ, fldQ, partA, buildQ, slQ, stH, bslH, appH, dcells, convI, elemsOf, D.one, nilS, fillD, convN, cvH, tyRefB4, bI]) | (with_reducible refine ⟨?_, ?_⟩; (· first | (obtain ⟨rfl⟩ := ‹Hq _ _›; with_reducible refine chk_ok ?_; kernel_rfl) | kernel_rfl)) | (with_reducible intro ops hops)))
  (first | refine Call_frz [] (hs) (by simp [cvAs, cvA, cvRL, cvR, cvBox, cv1, cvL, cv0, bI, byteI, bbI, intD, elemsOf, upd]) ?_ | refine CallF_frz [] [] (hs) (fun G _ => by simp [cvAs, cvA, cvRL, cvR, cvBox, cv1, cvL, cv0, bI, byteI, bbI, intD, elemsOf, upd]) (by simp) ?_)
  (repeat (first | (simp -implicitDefEqProofs only [ev, mixed, Nat.reduceLT, Nat.reduceAdd, Nat.reduceMul, reduceIte, Nat.reduceEqDiff, reduceCtorEq, Nat.reducePow, Nat.reduceLeDiff, Int.reduceLE, Int.reduceLT, Int.reduceToNat, Int.reduceEq, Nat.reduceBEq, itsOf, gdA, byteI, opid, lenQ, ixQ, ldH, readAt, readCells, asCell, faQ, exQ, fldQ, partA, buildQ, slQ, stH, bslH, appH, dcells, convI, elemsOf, D.one, nilS, fillD, convN, cvH, tyRefB4, bI]) | (with_reducible refine ⟨?_, ?_⟩; (· first | (obtain ⟨rfl⟩ := ‹Hq _ _›; with_reducible refine chk_ok ?_; kernel_rfl) | kernel_rfl)) | (with_reducible intro ops hops)))
  refine fin_ret [] rfl ?_
  simp [cv, cv1, cv0, upd]
end Go.Proofs.Ytdpfjmkilbepgaa
/- landlaw5.alive: by value. -/
set_option linter.all false
namespace Go.Proofs.Ytdpfjmkilbepgaa
open Go Go.Abs Go.RowKit Go.Proofs.Ytdpfjmkilbepgaa.Ty

def pa : PairD := ⟨[97], [49]⟩
def pb : PairD := ⟨[98], [50]⟩
theorem al_big (a b : List UInt8) (ha : a.length ≤ 60) (hb : b.length ≤ 200) : bigP ⟨a, b⟩ = false := by simp [bigP]; omega
theorem al_right : Right [pa, pb] := by
  apply right_of
  rw [wrongF, if_neg (by decide), wrongGo, dif_pos (by decide)]
  have h0 : bigP [pa, pb][0] = false := al_big _ _ (by decide) (by decide)
  have h1 : bigP [pa, pb][1] = false := al_big _ _ (by decide) (by decide)
  rw [h0]
  simp only [Bool.false_eq_true, if_false, Nat.lt_irrefl, false_and]
  rw [wrongGo, dif_pos (by decide), h1]
  simp only [Bool.false_eq_true, if_false]
  rw [if_neg (by decide), wrongGo, dif_neg (by decide)]
def alP (v : List UInt8) : ProofD := ⟨1, 2, [98], v, [leafF [97] [49]]⟩
theorem al_split : splitF 2 = 1 := by decide
theorem al_tree : treeF [pa, pb] = nodeF (leafF [97] [49]) (leafF [98] [50]) := by
  rw [treeF_two (by decide), show [pa, pb].length = 2 from rfl, al_split]
  show nodeF (treeF [pa]) (treeF [pb]) = _
  rw [treeF_one, treeF_one]; rfl
theorem al_root : rootR [pa, pb] = topF 2 (nodeF (leafF [97] [49]) (leafF [98] [50])) := by
  rw [rootR, wrong_right al_right, if_pos rfl, rootF, al_tree]; rfl
theorem al_place : placeF [pa, pb] [98] = 1 := by decide
theorem al_show : showF [pa, pb] [98] = (alP [50], 0) := by
  unfold showF
  rw [wrong_right al_right, if_pos rfl]
  have h : placeF [pa, pb] [98] < [pa, pb].length := by rw [al_place]; decide
  rw [dif_pos h]
  have h2 : [pa, pb][placeF [pa, pb] [98]].k = [98] := by simp only [al_place]; rfl
  rw [if_pos h2]
  congr 1
  simp only [al_place, atF]
  rw [pathF_hi (by decide) (by rw [show [pa, pb].length = 2 from rfl, al_split]; decide), show [pa, pb].length = 2 from rfl, al_split]
  rw [pathF_one _ (by decide)]
  show ProofD.mk 1 2 [98] [50] ([] ++ [treeF [pa]]) = _
  rw [treeF_one]; rfl
theorem al_shown (v : List UInt8) (hv : v.length ≤ 200) (r : List UInt8) : shownF r (alP v) = decide (topF 2 (nodeF (leafF [97] [49]) (leafF [98] v)) = r) := by
  have hl : (leafF [97] [49]).length = 32 := sha_length _
  have hf : formF (alP v) = true := by simp [formF, formG, alP, hl, Nat.not_lt.2 hv]
  have ht : treeOf (alP v) = (nodeF (leafF [97] [49]) (leafF [98] v), true) := by
    simp [treeOf, alP, foldR, al_split]
  unfold shownF
  rw [hf, ht]; rfl
theorem al_unlike : ¬ topF 2 (nodeF (leafF [97] [49]) (leafF [98] [51])) = topF 2 (nodeF (leafF [97] [49]) (leafF [98] [50])) := by decide +kernel
set_option maxHeartbeats 4000000
end Go.Proofs.Ytdpfjmkilbepgaa
/- ProofShort: plain law and by-value contract. -/
set_option linter.all false
namespace Go.Proofs.Ytdpfjmkilbepgaa
open Go Go.Abs Go.RowKit Go.Proofs.Ytdpfjmkilbepgaa.Ty

theorem dec_Pair {e : List I} (h : HasCs [.sl [.int .u8], .sl [.int .u8]] e) : ∃ p : PairD, e = encPr p ∧ True := by
  obtain ⟨x, _, rfl, hx, h⟩ := hasCs_cons h
  obtain ⟨y, _, rfl, hy, h⟩ := hasCs_cons h
  obtain rfl := hasCs_nil h
  obtain ⟨a, rfl⟩ := dec_B hx
  obtain ⟨b, rfl⟩ := dec_B hy
  exact ⟨⟨a, b⟩, rfl, trivial⟩
theorem dec_Pairs {x : I} (h : HasC (.sl [.sl [.int .u8], .sl [.int .u8]]) x) : ∃ l : List PairD, x = psI l := by
  obtain ⟨l, h1, _⟩ := dec_list (fun _ he => dec_Pair he) h
  exact ⟨l, h1⟩
theorem pairs_small {l : List PairD} {n : Nat} (h : bkI (psI l) ≤ n) : l.length ≤ n ∧ ∀ p ∈ l, p.k.length ≤ n ∧ p.v.length ≤ n := by
  refine ⟨Nat.le_trans (bk_len _ _) h, fun p hp => ?_⟩
  have := bk_mem encPr hp
  simp only [encPr, bkL, bk_B, psI] at this h
  omega

theorem pathF_short : ∀ (k : Nat) (l : List PairD) (i : Nat), l.length ≤ 2 ^ k → (pathF l i).length ≤ k := by
  intro k
  induction k with
  | zero => intro l i h; rw [pathF_one i (by simpa using h)]; simp
  | succ k ih =>
    intro l i h
    by_cases h1 : l.length ≤ 1
    · rw [pathF_one i h1]; simp
    · have hs := splitF_lt (n := l.length) (by omega)
      have hs2 := splitF_le (n := l.length)
      have hk : splitF l.length ≤ 2 ^ k := by
        have : 2 ^ Nat.log2 (l.length - 1) < 2 ^ (k + 1) := Nat.lt_of_lt_of_le hs.2 h
        have := (Nat.pow_lt_pow_iff_right (by decide)).1 this
        exact Nat.pow_le_pow_right (by decide) (by omega)
      by_cases hi : i < splitF l.length
      · rw [pathF_lo (by omega) hi]
        have := ih (l.take (splitF l.length)) i (by simp; omega)
        simp; omega
      · rw [pathF_hi (by omega) hi]
        have := ih (l.drop (splitF l.length)) (i - splitF l.length) (by simp; omega)
        simp; omega
theorem showF_cases (l : List PairD) (key : List UInt8) : ((showF l key).2 ≠ 0 ∧ (showF l key).1 = zeroP) ∨ ((wrongF l).1 = 0 ∧ ∃ h : placeF l key < l.length, l[placeF l key].k = key ∧ showF l key = (atF l (placeF l key) h, 0)) := by
  unfold showF
  by_cases h0 : (wrongF l).1 = 0
  · rw [if_pos h0]
    by_cases h1 : placeF l key < l.length
    · rw [dif_pos h1]
      by_cases h2 : l[placeF l key].k = key
      · rw [if_pos h2]; exact .inr ⟨h0, h1, h2, rfl⟩
      · rw [if_neg h2]; exact .inl ⟨by decide, rfl⟩
    · rw [dif_neg h1]; exact .inl ⟨by decide, rfl⟩
  · rw [if_neg h0]; exact .inl ⟨h0, rfl⟩
set_option maxHeartbeats 2000000
end Go.Proofs.Ytdpfjmkilbepgaa
/- ProofGood: plain law and by-value contract. -/
set_option linter.all false
namespace Go.Proofs.Ytdpfjmkilbepgaa
open Go Go.Abs Go.RowKit Go.Proofs.Ytdpfjmkilbepgaa.Ty

theorem path_dig : ∀ (n : Nat) (l : List PairD) (i : Nat), l.length = n → ∀ d ∈ pathF l i, d.length = 32 := by
  intro n
  induction n using Nat.strongRecOn with
  | _ n ih =>
    intro l i hn d hd
    by_cases h1 : l.length ≤ 1
    · rw [pathF_one i h1] at hd; simp at hd
    · have hs := splitF_lt (n := l.length) (by omega)
      have n1 : l.take (splitF l.length) ≠ [] := by intro hc; have := congrArg List.length hc; simp only [List.length_take, List.length_drop, List.length_nil] at this; omega
      have n2 : l.drop (splitF l.length) ≠ [] := by intro hc; have := congrArg List.length hc; simp only [List.length_take, List.length_drop, List.length_nil] at this; omega
      by_cases hi : i < splitF l.length
      · rw [pathF_lo (by omega) hi] at hd
        rcases List.mem_append.1 hd with hd | hd
        · exact ih (l.take (splitF l.length)).length (by simp; omega) _ i rfl d hd
        · simp at hd; subst hd; exact treeF_len _ n2
      · rw [pathF_hi (by omega) hi] at hd
        rcases List.mem_append.1 hd with hd | hd
        · exact ih (l.drop (splitF l.length)).length (by simp; omega) _ (i - splitF l.length) rfl d hd
        · simp at hd; subst hd; exact treeF_len _ n1
theorem fold_path : ∀ (n : Nat) (l : List PairD) (i : Nat) (hn : l.length = n) (hi : i < l.length), foldR (leafF l[i].k l[i].v) i l.length (pathF l i).reverse = (treeF l, true) := by
  intro n
  induction n using Nat.strongRecOn with
  | _ n ih =>
    intro l i hn hi
    by_cases h1 : l.length ≤ 1
    · have h : l.length = 1 := by omega
      obtain ⟨p, rfl⟩ := List.length_eq_one_iff.1 h
      have : i = 0 := by simpa using hi
      subst this
      rw [pathF_one 0 h1, treeF_one]; rfl
    · have hs := splitF_lt (n := l.length) (by omega)
      have hne : ¬ l.length = 1 := by omega
      rw [treeF_two (by omega)]
      by_cases hc : i < splitF l.length
      · rw [pathF_lo (by omega) hc]
        simp only [List.reverse_append, List.reverse_cons, List.reverse_nil, List.nil_append, List.singleton_append, foldR, if_neg hne, if_pos hc]
        have h := ih (l.take (splitF l.length)).length (by simp; omega) (l.take (splitF l.length)) i rfl (by simp; omega)
        have hk : (l.take (splitF l.length)).length = splitF l.length := by simp; omega
        have he : (l.take (splitF l.length))[i]'(by simp; omega) = l[i] := by simp
        rw [he, hk] at h
        rw [h]
      · rw [pathF_hi (by omega) hc]
        simp only [List.reverse_append, List.reverse_cons, List.reverse_nil, List.nil_append, List.singleton_append, foldR, if_neg hne, if_neg hc]
        have h := ih (l.drop (splitF l.length)).length (by simp; omega) (l.drop (splitF l.length)) (i - splitF l.length) rfl (by simp; omega)
        have hk : (l.drop (splitF l.length)).length = l.length - splitF l.length := by simp
        have he : (l.drop (splitF l.length))[i - splitF l.length]'(by simp; omega) = l[i] := by
          rw [List.getElem_drop]; congr 1; omega
        rw [he, hk] at h
        rw [h]
theorem shown_at {l : List PairD} (hr : Right l) (i : Nat) (hi : i < l.length) : shownF (rootF l) (atF l i hi) = true := by
  have hb := hr.big _ (List.getElem_mem hi)
  have hlen := hr.len
  have hp := pathF_short 8 l i (by omega)
  have hd := path_dig _ l i rfl
  have hf : formF (atF l i hi) = true := by
    simp only [formF, formG, atF, Bool.and_eq_true, Bool.not_eq_true', Bool.or_eq_false_iff, decide_eq_false_iff_not, List.all_eq_true, decide_eq_true_eq]
    refine ⟨⟨⟨⟨⟨⟨⟨?_, ?_⟩, ?_⟩, ?_⟩, ?_⟩, ?_⟩, ?_⟩, hd⟩ <;> (apply decide_eq_false; omega)
  have ht : treeOf (atF l i hi) = (treeF l, true) := by
    simp only [treeOf, atF, Int.toNat_natCast]
    exact fold_path _ l i rfl hi
  unfold shownF
  rw [hf, ht]
  simp [atF, rootF]
theorem there_iff {l : List PairD} {key : List UInt8} : thereF l key = true ↔ ∃ h : placeF l key < l.length, l[placeF l key].k = key := by
  unfold thereF
  by_cases h : placeF l key < l.length
  · rw [dif_pos h]; simp [h]
  · rw [dif_neg h]; simp [h]
theorem absent_at {l : List PairD} (hr : Right l) (key : List UInt8) (ht : thereF l key = false) : absentF (rootF l) key (gapF l key).1 = true := by
  have hz := wrong_right hr
  have hpl := placeF_le l key
  have h1 : ∀ (_ : 0 < placeF l key) (h' : placeF l key - 1 < l.length), Lib.compareBytes (l[placeF l key - 1]'h').k key < 0 := fun h h' => (placeF_iff hr key _ _).2 (by omega)
  have h2 : ∀ h : placeF l key < l.length, Lib.compareBytes key l[placeF l key].k < 0 := fun h => by
    have h3 : ¬ Lib.compareBytes l[placeF l key].k key < 0 := fun hc => by have := (placeF_iff hr key _ h).1 hc; omega
    have h4 : Lib.compareBytes l[placeF l key].k key ≠ 0 := fun hc => by
      have := there_iff.2 ⟨h, (cmp_zero _ _).1 hc⟩
      rw [ht] at this; cases this
    rw [cmp_neg]; omega
  unfold gapF
  rw [hz, if_pos rfl, ht]
  simp only [Bool.false_eq_true, if_false]
  have z1 : ∀ b i (h : i < l.length), b = true → atZ l b i = atF l i h := fun b i h hb => dif_pos ⟨hb, h⟩
  generalize placeF l key = j at *
  by_cases a : 0 < j
  · by_cases b : j < l.length
    · rw [decide_eq_true a, decide_eq_true b, z1 true (j - 1) (by omega) rfl, z1 true j b rfl]
      simp only [absentF, shown_at hr, Bool.true_and, Bool.and_true, Bool.and_eq_true, decide_eq_true_eq]
      refine ⟨⟨h1 a (by omega), h2 b⟩, ?_, ?_⟩
      · simp [atF]
      · simp only [atF]; omega
    · rw [decide_eq_true a, decide_eq_false b, z1 true (j - 1) (by omega) rfl]
      simp only [absentF, shown_at hr, Bool.true_and, Bool.and_true, Bool.and_eq_true, decide_eq_true_eq]
      refine ⟨h1 a (by omega), ?_⟩
      simp only [atF]; omega
  · by_cases b : j < l.length
    · rw [decide_eq_false a, decide_eq_true b, z1 true j b rfl]
      simp only [absentF, shown_at hr, Bool.true_and, Bool.and_true, Bool.and_eq_true, decide_eq_true_eq]
      refine ⟨h2 b, ?_⟩
      simp only [atF]; omega
    · rw [decide_eq_false a, decide_eq_false b]
      have : l = [] := List.length_eq_zero_iff.1 (by omega)
      subst this
      simp [absentF, rootF, treeF]
set_option maxHeartbeats 4000000
end Go.Proofs.Ytdpfjmkilbepgaa
/- landref5.Way, place, At, Show, ShowGap: by value. -/
set_option linter.all false
namespace Go.Proofs.Ytdpfjmkilbepgaa
open Go Go.Abs Go.RowKit Go.Proofs.Ytdpfjmkilbepgaa.Ty
theorem tyRefC0 : (type_of% @Ty.T1) ∧ (type_of% @Ty.T3) ∧ (type_of% @Ty.T4) ∧ (type_of% @Ty.T132) ∧ (type_of% @Ty.T135) := ⟨@Ty.T1, @Ty.T3, @Ty.T4, @Ty.T132, @Ty.T135⟩

structure TurnD where
  r : Bool
  fr : Nat
  n : Nat
def encT (t : TurnD) : List I := [.s (.bool t.r), .s (.int .i64 (t.fr : Int)), .s (.int .i64 (t.n : Int))]
def wayF (fr i n : Nat) : List TurnD :=
  if _h : n ≤ 1 then [] else if i < splitF n then ⟨false, fr + splitF n, n - splitF n⟩ :: wayF fr i (splitF n) else ⟨true, fr, splitF n⟩ :: wayF (fr + splitF n) (i - splitF n) (n - splitF n)
termination_by n
decreasing_by
  all_goals
    have := splitF_lt (n := n) (by omega)
    omega
theorem wayF_one {fr i n : Nat} (h : n ≤ 1) : wayF fr i n = [] := by rw [wayF, dif_pos h]
theorem wayF_lo {fr i n : Nat} (h : 2 ≤ n) (hi : i < splitF n) : wayF fr i n = ⟨false, fr + splitF n, n - splitF n⟩ :: wayF fr i (splitF n) := by rw [wayF, dif_neg (by omega), if_pos hi]
theorem wayF_hi {fr i n : Nat} (h : 2 ≤ n) (hi : ¬ i < splitF n) : wayF fr i n = ⟨true, fr, splitF n⟩ :: wayF (fr + splitF n) (i - splitF n) (n - splitF n) := by rw [wayF, dif_neg (by omega), if_neg hi]
theorem way_path (L : List PairD) : ∀ (n fr i : Nat), fr + n ≤ L.length → i < n → (wayF fr i n).reverse.map (fun t => treeF ((L.drop t.fr).take t.n)) = pathF ((L.drop fr).take n) i := by
  intro n
  induction n using Nat.strongRecOn with
  | _ n ih =>
    intro fr i hn hi
    have hlen : ((L.drop fr).take n).length = n := by simp; omega
    by_cases h1 : n ≤ 1
    · rw [wayF_one h1, pathF_one i (by omega)]; rfl
    · have hs := splitF_lt (n := n) (by omega)
      have e1 : ((L.drop fr).take n).take (splitF n) = (L.drop fr).take (splitF n) := by rw [List.take_take, Nat.min_eq_left (by omega)]
      have e2 : ((L.drop fr).take n).drop (splitF n) = (L.drop (fr + splitF n)).take (n - splitF n) := by rw [List.drop_take, List.drop_drop]
      by_cases hc : i < splitF n
      · rw [wayF_lo (by omega) hc, pathF_lo (by omega) (by rw [hlen]; exact hc), hlen, e1, e2, ← ih (splitF n) hs.2 fr i (by omega) hc]
        simp
      · rw [wayF_hi (by omega) hc, pathF_hi (by omega) (by rw [hlen]; exact hc), hlen, e1, e2, ← ih (n - splitF n) (by omega) (fr + splitF n) (i - splitF n) (by omega) (by omega)]
        simp
theorem wayF_short : ∀ (k n fr i : Nat), n ≤ 2 ^ k → (wayF fr i n).length ≤ k := by
  intro k
  induction k with
  | zero => intro n fr i h; rw [wayF_one (by simpa using h)]; simp
  | succ k ih =>
    intro n fr i h
    by_cases h1 : n ≤ 1
    · rw [wayF_one h1]; simp
    · have hs := splitF_lt (n := n) (by omega)
      have hs2 := splitF_le (n := n)
      have hk : splitF n ≤ 2 ^ k := by
        have : 2 ^ Nat.log2 (n - 1) < 2 ^ (k + 1) := Nat.lt_of_lt_of_le hs.2 h
        have := (Nat.pow_lt_pow_iff_right (by decide)).1 this
        exact Nat.pow_le_pow_right (by decide) (by omega)
      by_cases hi : i < splitF n
      · rw [wayF_lo (by omega) hi]
        have := ih (splitF n) fr i hk
        simp; omega
      · rw [wayF_hi (by omega) hi]
        have := ih (n - splitF n) (fr + splitF n) (i - splitF n) (by omega)
        simp; omega
theorem wayF_ok : ∀ (n fr i : Nat), ∀ t ∈ wayF fr i n, fr ≤ t.fr ∧ t.fr + t.n ≤ fr + n ∧ 1 ≤ t.n := by
  intro n
  induction n using Nat.strongRecOn with
  | _ n ih =>
    intro fr i t ht
    by_cases h1 : n ≤ 1
    · rw [wayF_one h1] at ht; simp at ht
    · have hs := splitF_lt (n := n) (by omega)
      by_cases hi : i < splitF n
      · rw [wayF_lo (by omega) hi] at ht
        rcases List.mem_cons.1 ht with rfl | ht
        · simp; omega
        · have := ih (splitF n) hs.2 fr i t ht; omega
      · rw [wayF_hi (by omega) hi] at ht
        rcases List.mem_cons.1 ht with rfl | ht
        · simp; omega
        · have := ih (n - splitF n) (by omega) (fr + splitF n) (i - splitF n) t ht; omega
set_option maxHeartbeats 4000000
theorem way_A (i n : Nat) (h1 : 1 ≤ n) (h2 : n ≤ 1048576) (hi : i ≤ 1048576) : PureD Try.prog 103 [intD i, intD n] (.i (.sl ((wayF 0 i n).map encT))) := by
  generalize hW : wayF 0 i n = W
  refine callD_W 42 Try.func103 rfl rfl rfl (fun _ _ => rfl) ?_
  (repeat (first | (simp -implicitDefEqProofs only [ev, mixed, Nat.reduceLT, Nat.reduceAdd, Nat.reduceMul, reduceIte, Nat.reduceEqDiff, reduceCtorEq, Nat.reducePow, Nat.reduceLeDiff, Int.reduceLE, Int.reduceLT, Int.reduceToNat, Int.reduceEq, Nat.reduceBEq, itsOf, gdA, byteI, opid, lenQ, ixQ, ldH, readAt, readCells, asCell, faQ, exQ, fldQ, partA, buildQ, slQ, stH, bslH, appH, dcells, convI, elemsOf, D.one, nilS, fillD, convN, cvH, tyRefC0, intD]) | (with_reducible refine ⟨?_, ?_⟩; (· first | (obtain ⟨rfl⟩ := ‹Hq _ _›; with_reducible refine chk_ok ?_; kernel_rfl) | kernel_rfl)) | (with_reducible intro ops hops)))
  refine W_loopI (ι := Nat × Nat × Nat × List TurnD) (fun s => W = s.2.2.2 ++ wayF s.2.2.1 s.1 s.2.1 ∧ 1 ≤ s.2.1 ∧ s.2.1 ≤ 1048576 ∧ s.1 ≤ 1048576 ∧ s.2.2.1 + s.2.1 ≤ 1048576 ∧ s.2.2.2.length + s.2.1 ≤ 1048576)
    (fun s => stOf [(0, intD s.1), (1, intD s.2.1), (5, .os 100 3 0 s.2.2.2.length), (6, intD s.2.2.1)] [(100, .arr 3 (s.2.2.2.map encT))]) (fun s => s.2.1) (i, n, 0, []) ⟨by simp [hW], h1, h2, hi, by simp; omega, by simp; omega⟩ ?_ ?_
  · refine le_stOf _ _ [] [] ?_ ?_ rfl rfl
    · simp [cv, cvL, cv1, cv0, upd, lk, srcOf, intD]
    · simp [objOk, srcOf, lk]
  · rintro ⟨i, n, fr, o⟩ ⟨hw, hn1, hn2, hi2, hfr, hol⟩
    simp only at hw hn1 hn2 hi2 hfr hol
    rw [stOf_eq]
    clear hW h1 h2 hi
    by_cases hgt : 1 < n
    · have g1 : decide ((1 : Int) < (n : Int)) = true := decide_eq_true (by omega)
      have hs := splitF_lt (n := n) (by omega)
      have hsp := half_A n hn1 hn2
      have hlo := fun h => wayF_lo (fr := fr) (i := i) (n := n) (by omega) h
      have hhi := fun h => wayF_hi (fr := fr) (i := i) (n := n) (by omega) h
      generalize splitF n = k at *
      have u1 : uni 3 (o.map encT) = true := by simp [uni, encT]
      have e3 : o.length + 1 ≤ 140737488355328 := by omega
      have e4 : (o.length + 1) * 24 ≤ 140737488355328 := by omega
      by_cases hc : i < k
      · have g3 : decide ((i : Int) < (k : Int)) = true := decide_eq_true (by omega)
        have w1 : IntKind.i64.wrap ((fr : Int) + (k : Int)) = ((fr + k : Nat) : Int) := by rw [wrap64 (by omega) (by omega)]; omega
        have w2 : IntKind.i64.wrap ((n : Int) - (k : Int)) = ((n - k : Nat) : Int) := by rw [wrap64 (by omega) (by omega)]; omega
        rw [hlo hc] at hw
        clear hlo hhi
        (repeat (first | (simp -implicitDefEqProofs only [ev, mixed, Nat.reduceLT, Nat.reduceAdd, Nat.reduceMul, reduceIte, Nat.reduceEqDiff, reduceCtorEq, Nat.reducePow, Nat.reduceLeDiff, Int.reduceLE, Int.reduceLT, Int.reduceToNat, Int.reduceEq, Nat.reduceBEq, itsOf, gdA, byteI, opid, lenQ, ixQ, ldH, readAt, readCells, asCell, faQ, exQ, fldQ, partA, buildQ, slQ, stH, bslH, appH, dcells, convI, elemsOf, D.one, nilS, fillD, convN, cvH, tyRefC0, intD, g1]) | (with_reducible refine ⟨?_, ?_⟩; (· first | (obtain ⟨rfl⟩ := ‹Hq _ _›; with_reducible refine chk_ok ?_; kernel_rfl) | kernel_rfl)) | (with_reducible intro ops hops)))
        (first | refine Call_flat [] [] (hsp) (by simp [cvAs, cvA, cvRL, cvR, cvBox, cv1, cvL, cv0, bI, byteI, intD, elemsOf, upd]) rfl ?_ | refine CallF_flat [] [] [] (hsp) (fun G _ => by simp [cvAs, cvA, cvRL, cvR, cvBox, cv1, cvL, cv0, bI, byteI, intD, elemsOf, upd]) rfl ?_)
        (repeat (first | (simp -implicitDefEqProofs only [ev, mixed, Nat.reduceLT, Nat.reduceAdd, Nat.reduceMul, reduceIte, Nat.reduceEqDiff, reduceCtorEq, Nat.reducePow, Nat.reduceLeDiff, Int.reduceLE, Int.reduceLT, Int.reduceToNat, Int.reduceEq, Nat.reduceBEq, itsOf, gdA, byteI, opid, lenQ, ixQ, ldH, readAt, readCells, asCell, faQ, exQ, fldQ, partA, buildQ, slQ, stH, bslH, appH, dcells, convI, elemsOf, D.one, nilS, fillD, convN, cvH, tyRefC0, intD, g3, w1, w2, u1, e3, e4, List.length_map]) | (with_reducible refine ⟨?_, ?_⟩; (· first | (obtain ⟨rfl⟩ := ‹Hq _ _›; with_reducible refine chk_ok ?_; kernel_rfl) | kernel_rfl)) | (with_reducible intro ops hops)))
        refine ⟨(i, k, fr, o ++ [⟨false, fr + k, n - k⟩]), ⟨by simp [hw], by simp; omega, by simp; omega, by simp; omega, by simp; omega, by simp; omega⟩, le_stOf _ _ [] [(100, 2545)] ?_ ?_ rfl rfl, by simp; omega⟩
        · simp [cv, cvL, cv1, cv0, upd, lk, srcOf, intD]
        · simp [objOk, srcOf, lk, cvO, frz, upd, hO, encT]
      · have g3 : decide ((i : Int) < (k : Int)) = false := decide_eq_false (by omega)
        have w1 : IntKind.i64.wrap ((fr : Int) + (k : Int)) = ((fr + k : Nat) : Int) := by rw [wrap64 (by omega) (by omega)]; omega
        have w2 : IntKind.i64.wrap ((n : Int) - (k : Int)) = ((n - k : Nat) : Int) := by rw [wrap64 (by omega) (by omega)]; omega
        have w3 : IntKind.i64.wrap ((i : Int) - (k : Int)) = ((i - k : Nat) : Int) := by rw [wrap64 (by omega) (by omega)]; omega
        rw [hhi hc] at hw
        clear hlo hhi
        (repeat (first | (simp -implicitDefEqProofs only [ev, mixed, Nat.reduceLT, Nat.reduceAdd, Nat.reduceMul, reduceIte, Nat.reduceEqDiff, reduceCtorEq, Nat.reducePow, Nat.reduceLeDiff, Int.reduceLE, Int.reduceLT, Int.reduceToNat, Int.reduceEq, Nat.reduceBEq, itsOf, gdA, byteI, opid, lenQ, ixQ, ldH, readAt, readCells, asCell, faQ, exQ, fldQ, partA, buildQ, slQ, stH, bslH, appH, dcells, convI, elemsOf, D.one, nilS, fillD, convN, cvH, tyRefC0, intD, g1]) | (with_reducible refine ⟨?_, ?_⟩; (· first | (obtain ⟨rfl⟩ := ‹Hq _ _›; with_reducible refine chk_ok ?_; kernel_rfl) | kernel_rfl)) | (with_reducible intro ops hops)))
        (first | refine Call_flat [] [] (hsp) (by simp [cvAs, cvA, cvRL, cvR, cvBox, cv1, cvL, cv0, bI, byteI, intD, elemsOf, upd]) rfl ?_ | refine CallF_flat [] [] [] (hsp) (fun G _ => by simp [cvAs, cvA, cvRL, cvR, cvBox, cv1, cvL, cv0, bI, byteI, intD, elemsOf, upd]) rfl ?_)
        (repeat (first | (simp -implicitDefEqProofs only [ev, mixed, Nat.reduceLT, Nat.reduceAdd, Nat.reduceMul, reduceIte, Nat.reduceEqDiff, reduceCtorEq, Nat.reducePow, Nat.reduceLeDiff, Int.reduceLE, Int.reduceLT, Int.reduceToNat, Int.reduceEq, Nat.reduceBEq, itsOf, gdA, byteI, opid, lenQ, ixQ, ldH, readAt, readCells, asCell, faQ, exQ, fldQ, partA, buildQ, slQ, stH, bslH, appH, dcells, convI, elemsOf, D.one, nilS, fillD, convN, cvH, tyRefC0, intD, g3, w1, w2, w3, u1, e3, e4, List.length_map]) | (with_reducible refine ⟨?_, ?_⟩; (· first | (obtain ⟨rfl⟩ := ‹Hq _ _›; with_reducible refine chk_ok ?_; kernel_rfl) | kernel_rfl)) | (with_reducible intro ops hops)))
        refine ⟨(i - k, n - k, fr + k, o ++ [⟨true, fr, k⟩]), ⟨by simp [hw], by simp; omega, by simp; omega, by simp; omega, by simp; omega, by simp; omega⟩, le_stOf _ _ [] [(100, 3053)] ?_ ?_ rfl rfl, by simp; omega⟩
        · simp [cv, cvL, cv1, cv0, upd, lk, srcOf, intD]
        · simp [objOk, srcOf, lk, cvO, frz, upd, hO, encT]
    · have g1 : decide ((1 : Int) < (n : Int)) = false := decide_eq_false (by omega)
      rw [wayF_one (by omega), List.append_nil] at hw
      subst hw
      (repeat (first | (simp -implicitDefEqProofs only [ev, mixed, Nat.reduceLT, Nat.reduceAdd, Nat.reduceMul, reduceIte, Nat.reduceEqDiff, reduceCtorEq, Nat.reducePow, Nat.reduceLeDiff, Int.reduceLE, Int.reduceLT, Int.reduceToNat, Int.reduceEq, Nat.reduceBEq, itsOf, gdA, byteI, opid, lenQ, ixQ, ldH, readAt, readCells, asCell, faQ, exQ, fldQ, partA, buildQ, slQ, stH, bslH, appH, dcells, convI, elemsOf, D.one, nilS, fillD, convN, cvH, tyRefC0, intD, g1]) | (with_reducible refine ⟨?_, ?_⟩; (· first | (obtain ⟨rfl⟩ := ‹Hq _ _›; with_reducible refine chk_ok ?_; kernel_rfl) | kernel_rfl)) | (with_reducible intro ops hops)))
      refine fin_ret [100] rfl ?_
      have hz : List.take W.length (W.map encT) = W.map encT := List.take_of_length_le (by simp)
      simp [cv, cv1, cv0, upd, hO, lk, elemsOf, hz]

end Go.Proofs.Ytdpfjmkilbepgaa
/- landref5.At, Show, ShowGap: by value. -/
set_option linter.all false
namespace Go.Proofs.Ytdpfjmkilbepgaa
open Go Go.Abs Go.RowKit Go.Proofs.Ytdpfjmkilbepgaa.Ty

def rpath (l : List PairD) (w : List TurnD) (m : Nat) : List (List UInt8) := (w.reverse.take m).map (fun t => treeF ((l.drop t.fr).take t.n))
theorem rpath_zero (l : List PairD) (w : List TurnD) : rpath l w 0 = [] := rfl
theorem rpath_succ (l : List PairD) {w : List TurnD} {m : Nat} (h : m < w.length) : rpath l w (m + 1) = rpath l w m ++ [treeF ((l.drop (w[w.length - 1 - m]).fr).take (w[w.length - 1 - m]).n)] := by
  unfold rpath
  rw [List.take_succ_eq_append_getElem (by simp; exact h), List.map_append, List.getElem_reverse]
  rfl
theorem rpath_all (l : List PairD) (w : List TurnD) : rpath l w w.length = w.reverse.map (fun t => treeF ((l.drop t.fr).take t.n)) := by
  unfold rpath; rw [List.take_of_length_le (by simp)]
theorem rpath_len (l : List PairD) (w : List TurnD) (m : Nat) : (rpath l w m).length ≤ w.length := by
  unfold rpath; simp; omega
set_option maxHeartbeats 4000000
end Go.Proofs.Ytdpfjmkilbepgaa
/- landref5.Shown, Absent: by value. -/
set_option linter.all false
namespace Go.Proofs.Ytdpfjmkilbepgaa
open Go Go.Abs Go.RowKit Go.Proofs.Ytdpfjmkilbepgaa.Ty
theorem tyRefE0 : (type_of% @Ty.T3) ∧ (type_of% @Ty.T4) ∧ (type_of% @Ty.T5) ∧ (type_of% @Ty.T25) ∧ (type_of% @Ty.T26) ∧ (type_of% @Ty.T28) ∧ (type_of% @Ty.T132) ∧ (type_of% @Ty.T135) := ⟨@Ty.T3, @Ty.T4, @Ty.T5, @Ty.T25, @Ty.T26, @Ty.T28, @Ty.T132, @Ty.T135⟩

def foldW (leaf : List UInt8) : List TurnD → List (List UInt8) → List UInt8
  | t :: w, d :: r => if t.r then nodeF d (foldW leaf w r) else nodeF (foldW leaf w r) d
  | _, _ => leaf
theorem foldW_len (leaf : List UInt8) (h : leaf.length ≤ 32) : ∀ (w : List TurnD) (r : List (List UInt8)), (foldW leaf w r).length ≤ 32
  | t :: w, d :: r => by
    simp only [foldW]; split <;> simp only [nodeF] <;> exact Nat.le_of_eq (sha_length _)
  | [], _ => by simp only [foldW]; exact h
  | _ :: _, [] => by simp only [foldW]; exact h
theorem foldR_way (leaf : List UInt8) : ∀ (r : List (List UInt8)) (i n fr : Nat), 1 ≤ n → ((foldR leaf i n r).2 = decide ((wayF fr i n).length = r.length)) ∧ ((wayF fr i n).length = r.length → (foldR leaf i n r).1 = foldW leaf (wayF fr i n) r) := by
  intro r
  induction r with
  | nil =>
    intro i n fr h1
    by_cases hn : n = 1
    · subst hn
      rw [wayF_one (by omega)]
      simp [foldR, foldW]
    · have hs := splitF_lt (n := n) (by omega)
      simp only [foldR, if_neg hn]
      by_cases hc : i < splitF n
      · rw [wayF_lo (by omega) hc]; simp
      · rw [wayF_hi (by omega) hc]; simp
  | cons d r ih =>
    intro i n fr h1
    by_cases hn : n = 1
    · subst hn
      rw [wayF_one (by omega)]
      simp [foldR]
    · have hs := splitF_lt (n := n) (by omega)
      simp only [foldR, if_neg hn]
      by_cases hc : i < splitF n
      · rw [wayF_lo (by omega) hc, if_pos hc]
        have := ih i (splitF n) fr (by omega)
        simp only [List.length_cons, Nat.add_right_cancel_iff, foldW, Bool.false_eq_true, if_false]
        exact ⟨this.1, fun h => by rw [this.2 h]⟩
      · rw [wayF_hi (by omega) hc, if_neg hc]
        have := ih (i - splitF n) (n - splitF n) (fr + splitF n) (by omega)
        simp only [List.length_cons, Nat.add_right_cancel_iff, foldW, if_true]
        exact ⟨this.1, fun h => by rw [this.2 h]⟩
theorem foldW_step (leaf : List UInt8) {w : List TurnD} {q : List (List UInt8)} {k : Nat} (hw : w.length = q.length) (hk : k < q.length) :
    foldW leaf (w.drop (w.length - (k + 1))) (q.take (k + 1)).reverse = if (w[w.length - 1 - k]'(by omega)).r then nodeF q[k] (foldW leaf (w.drop (w.length - k)) (q.take k).reverse) else nodeF (foldW leaf (w.drop (w.length - k)) (q.take k).reverse) q[k] := by
  rw [List.take_succ_eq_append_getElem hk, List.reverse_append, List.reverse_cons, List.reverse_nil, List.nil_append, List.singleton_append]
  have e : w.length - (k + 1) = w.length - 1 - k := by omega
  rw [e, List.drop_eq_getElem_cons (by omega), show w.length - 1 - k + 1 = w.length - k by omega]
  rfl

def rbad (p : ProofD) : Bool := decide (p.n < 1) || decide (200 < p.n) || decide (p.i < 0) || decide (p.n ≤ p.i) || decide (60 < p.k.length) || decide (200 < p.v.length)
theorem shownF_ref (root : List UInt8) (p : ProofD) : shownF root p = (!rbad p && decide ((wayF 0 p.i.toNat p.n.toNat).length = p.path.length) && (p.path.all fun d => decide (d.length = 32)) && decide (topF p.n.toNat (foldW (leafF p.k p.v) (wayF 0 p.i.toNat p.n.toNat) p.path.reverse) = root)) := by
  unfold shownF formF formG
  rw [show (decide (p.n < 1) || decide (200 < p.n) || decide (p.i < 0) || decide (p.n ≤ p.i) || decide (60 < p.k.length) || decide (200 < p.v.length)) = rbad p from rfl]
  cases hb : rbad p
  · have hb' := hb
    simp only [rbad, Bool.or_eq_false_iff] at hb'
    obtain ⟨⟨⟨⟨⟨b1, b2⟩, b3⟩, b4⟩, b5⟩, b6⟩ := hb'
    have b1 := of_decide_eq_false b1
    have b2 := of_decide_eq_false b2
    have h := foldR_way (leafF p.k p.v) p.path.reverse p.i.toNat p.n.toNat 0 (by omega)
    rw [List.length_reverse] at h
    have hw := wayF_short 8 p.n.toNat 0 p.i.toNat (by omega)
    unfold treeOf
    rw [h.1]
    by_cases hl : (wayF 0 p.i.toNat p.n.toNat).length = p.path.length
    · rw [h.2 hl, decide_eq_true hl, decide_eq_false (by omega)]
      simp only [Bool.or_self, Bool.not_false, Bool.true_and, Bool.and_true]
    · rw [decide_eq_false hl]; simp
  · simp
set_option maxHeartbeats 4000000
theorem rshown_A (root : List UInt8) (p : ProofD) (hroot : root.length ≤ 1048576) : PureD Try.prog 59 [.i (bI root), proofD p] (boolD (shownF root p)) := by
  rw [shownF_ref]
  have hN : rbad p = true → (!rbad p && decide ((wayF 0 p.i.toNat p.n.toNat).length = p.path.length) && (p.path.all fun d => decide (d.length = 32)) && decide (topF p.n.toNat (foldW (leafF p.k p.v) (wayF 0 p.i.toNat p.n.toNat) p.path.reverse) = root)) = false := fun h => by rw [h]; rfl
  generalize hR : (!rbad p && decide ((wayF 0 p.i.toNat p.n.toNat).length = p.path.length) && (p.path.all fun d => decide (d.length = 32)) && decide (topF p.n.toNat (foldW (leafF p.k p.v) (wayF 0 p.i.toNat p.n.toNat) p.path.reverse) = root)) = R at *
  have hR2 : R = (!rbad p && decide ((wayF 0 p.i.toNat p.n.toNat).length = p.path.length) && (p.path.all fun d => decide (d.length = 32)) && decide (topF p.n.toNat (foldW (leafF p.k p.v) (wayF 0 p.i.toNat p.n.toNat) p.path.reverse) = root)) := hR.symm
  clear hR
  unfold rbad at *
  obtain ⟨i, n, k, v, q⟩ := p
  simp only [proofD] at *
  have hl : (q.map fun b => [bI b]).length = q.length := by simp
  have e0 : ∀ j (h : j < q.length), (q.map fun b => [bI b])[j]? = some [bI q[j]] := fun j h => by rw [List.getElem?_map, List.getElem?_eq_getElem h]; rfl
  cases g1 : decide (n < 1)
  case true =>
    rw [hN (by simp [g1])]
    refine callD_W 90 Try.func59 rfl rfl rfl (fun _ _ => rfl) ?_
    (repeat (first | (simp -implicitDefEqProofs only [ev, mixed, Nat.reduceLT, Nat.reduceAdd, Nat.reduceMul, reduceIte, Nat.reduceEqDiff, reduceCtorEq, Nat.reducePow, Nat.reduceLeDiff, Int.reduceLE, Int.reduceLT, Int.reduceToNat, Int.reduceEq, Nat.reduceBEq, itsOf, gdA, byteI, opid, lenQ, ixQ, ldH, readAt, readCells, asCell, faQ, exQ, fldQ, partA, buildQ, slQ, stH, bslH, appH, dcells, convI, elemsOf, D.one, nilS, fillD, convN, cvH, tyRefE0, intD, g1]) | (with_reducible refine ⟨?_, ?_⟩; (· first | (obtain ⟨rfl⟩ := ‹Hq _ _›; with_reducible refine chk_ok ?_; kernel_rfl) | kernel_rfl)) | (with_reducible intro ops hops)))
    refine fin_ret [] rfl ?_
    simp [cv, cv1, cv0, upd, boolD]
  cases g2 : decide ((200 : Int) < n)
  case true =>
    rw [hN (by simp [g2])]
    refine callD_W 90 Try.func59 rfl rfl rfl (fun _ _ => rfl) ?_
    (repeat (first | (simp -implicitDefEqProofs only [ev, mixed, Nat.reduceLT, Nat.reduceAdd, Nat.reduceMul, reduceIte, Nat.reduceEqDiff, reduceCtorEq, Nat.reducePow, Nat.reduceLeDiff, Int.reduceLE, Int.reduceLT, Int.reduceToNat, Int.reduceEq, Nat.reduceBEq, itsOf, gdA, byteI, opid, lenQ, ixQ, ldH, readAt, readCells, asCell, faQ, exQ, fldQ, partA, buildQ, slQ, stH, bslH, appH, dcells, convI, elemsOf, D.one, nilS, fillD, convN, cvH, tyRefE0, intD, g1, g2]) | (with_reducible refine ⟨?_, ?_⟩; (· first | (obtain ⟨rfl⟩ := ‹Hq _ _›; with_reducible refine chk_ok ?_; kernel_rfl) | kernel_rfl)) | (with_reducible intro ops hops)))
    refine fin_ret [] rfl ?_
    simp [cv, cv1, cv0, upd, boolD]
  cases g3 : decide (i < 0)
  case true =>
    rw [hN (by simp [g3])]
    refine callD_W 90 Try.func59 rfl rfl rfl (fun _ _ => rfl) ?_
    (repeat (first | (simp -implicitDefEqProofs only [ev, mixed, Nat.reduceLT, Nat.reduceAdd, Nat.reduceMul, reduceIte, Nat.reduceEqDiff, reduceCtorEq, Nat.reducePow, Nat.reduceLeDiff, Int.reduceLE, Int.reduceLT, Int.reduceToNat, Int.reduceEq, Nat.reduceBEq, itsOf, gdA, byteI, opid, lenQ, ixQ, ldH, readAt, readCells, asCell, faQ, exQ, fldQ, partA, buildQ, slQ, stH, bslH, appH, dcells, convI, elemsOf, D.one, nilS, fillD, convN, cvH, tyRefE0, intD, g1, g2, g3]) | (with_reducible refine ⟨?_, ?_⟩; (· first | (obtain ⟨rfl⟩ := ‹Hq _ _›; with_reducible refine chk_ok ?_; kernel_rfl) | kernel_rfl)) | (with_reducible intro ops hops)))
    refine fin_ret [] rfl ?_
    simp [cv, cv1, cv0, upd, boolD]
  cases g4 : decide (n ≤ i)
  case true =>
    rw [hN (by simp [g4])]
    refine callD_W 90 Try.func59 rfl rfl rfl (fun _ _ => rfl) ?_
    (repeat (first | (simp -implicitDefEqProofs only [ev, mixed, Nat.reduceLT, Nat.reduceAdd, Nat.reduceMul, reduceIte, Nat.reduceEqDiff, reduceCtorEq, Nat.reducePow, Nat.reduceLeDiff, Int.reduceLE, Int.reduceLT, Int.reduceToNat, Int.reduceEq, Nat.reduceBEq, itsOf, gdA, byteI, opid, lenQ, ixQ, ldH, readAt, readCells, asCell, faQ, exQ, fldQ, partA, buildQ, slQ, stH, bslH, appH, dcells, convI, elemsOf, D.one, nilS, fillD, convN, cvH, tyRefE0, intD, g1, g2, g3, g4]) | (with_reducible refine ⟨?_, ?_⟩; (· first | (obtain ⟨rfl⟩ := ‹Hq _ _›; with_reducible refine chk_ok ?_; kernel_rfl) | kernel_rfl)) | (with_reducible intro ops hops)))
    refine fin_ret [] rfl ?_
    simp [cv, cv1, cv0, upd, boolD]
  cases g5 : decide ((60 : Int) < (k.length : Int))
  case true =>
    rw [hN (by simp at g5; simp; omega)]
    refine callD_W 90 Try.func59 rfl rfl rfl (fun _ _ => rfl) ?_
    (repeat (first | (simp -implicitDefEqProofs only [ev, mixed, Nat.reduceLT, Nat.reduceAdd, Nat.reduceMul, reduceIte, Nat.reduceEqDiff, reduceCtorEq, Nat.reducePow, Nat.reduceLeDiff, Int.reduceLE, Int.reduceLT, Int.reduceToNat, Int.reduceEq, Nat.reduceBEq, itsOf, gdA, byteI, opid, lenQ, ixQ, ldH, readAt, readCells, asCell, faQ, exQ, fldQ, partA, buildQ, slQ, stH, bslH, appH, dcells, convI, elemsOf, D.one, nilS, fillD, convN, cvH, tyRefE0, intD, g1, g2, g3, g4, g5, bI]) | (with_reducible refine ⟨?_, ?_⟩; (· first | (obtain ⟨rfl⟩ := ‹Hq _ _›; with_reducible refine chk_ok ?_; kernel_rfl) | kernel_rfl)) | (with_reducible intro ops hops)))
    refine fin_ret [] rfl ?_
    simp [cv, cv1, cv0, upd, boolD]
  cases g6 : decide ((200 : Int) < (v.length : Int))
  case true =>
    rw [hN (by simp at g6; simp; omega)]
    refine callD_W 90 Try.func59 rfl rfl rfl (fun _ _ => rfl) ?_
    (repeat (first | (simp -implicitDefEqProofs only [ev, mixed, Nat.reduceLT, Nat.reduceAdd, Nat.reduceMul, reduceIte, Nat.reduceEqDiff, reduceCtorEq, Nat.reducePow, Nat.reduceLeDiff, Int.reduceLE, Int.reduceLT, Int.reduceToNat, Int.reduceEq, Nat.reduceBEq, itsOf, gdA, byteI, opid, lenQ, ixQ, ldH, readAt, readCells, asCell, faQ, exQ, fldQ, partA, buildQ, slQ, stH, bslH, appH, dcells, convI, elemsOf, D.one, nilS, fillD, convN, cvH, tyRefE0, intD, g1, g2, g3, g4, g5, g6, bI]) | (with_reducible refine ⟨?_, ?_⟩; (· first | (obtain ⟨rfl⟩ := ‹Hq _ _›; with_reducible refine chk_ok ?_; kernel_rfl) | kernel_rfl)) | (with_reducible intro ops hops)))
    refine fin_ret [] rfl ?_
    simp [cv, cv1, cv0, upd, boolD]
  clear hN
  have b5 : decide (60 < k.length) = false := by simp at g5 ⊢; omega
  have b6 : decide (200 < v.length) = false := by simp at g6 ⊢; omega
  simp only [g1, g2, g3, g4, b5, b6, Bool.or_self, Bool.not_false, Bool.true_and] at hR2
  have a1 := of_decide_eq_false g1
  have a2 := of_decide_eq_false g2
  have a3 := of_decide_eq_false g3
  have a4 := of_decide_eq_false g4
  have a5 := of_decide_eq_false b5
  have a6 := of_decide_eq_false b6
  have hwy := way_A i.toNat n.toNat (by omega) (by omega) (by omega)
  have hws := wayF_short 8 n.toNat 0 i.toNat (by omega)
  rw [Int.toNat_of_nonneg (by omega : 0 ≤ i), Int.toNat_of_nonneg (by omega : 0 ≤ n)] at hwy
  generalize wayF 0 i.toNat n.toNat = W at *
  by_cases hlq : W.length = q.length
  · have g7 : decide ((W.length : Int) = (q.length : Int)) = true := decide_eq_true (by omega)
    rw [decide_eq_true hlq, Bool.true_and] at hR2
    have hlf := rleaf_A k v (by omega) (by omega)
    have hll : (leafF k v).length ≤ 32 := Nat.le_of_eq (sha_length _)
    generalize leafF k v = F at *
    have hfl := foldW_len F hll
    have hst := fun k (hk : k < q.length) => foldW_step F hlq hk
    have h0 : foldW F (W.drop (W.length - 0)) (q.take 0).reverse = F := by simp [foldW]
    have hend : foldW F (W.drop (W.length - q.length)) (q.take q.length).reverse = foldW F W q.reverse := by
      rw [hlq, Nat.sub_self, List.drop_zero, List.take_length]
    have htp := rtop_A n.toNat (foldW F W q.reverse) (by omega) (by have := hfl W q.reverse; omega)
    rw [Int.toNat_of_nonneg (by omega : 0 ≤ n)] at htp
    generalize hG : (fun k => foldW F (W.drop (W.length - k)) (q.take k).reverse) = G
    have hGk : ∀ k, foldW F (W.drop (W.length - k)) (q.take k).reverse = G k := fun k => by rw [← hG]
    have hGl : ∀ k, (G k).length ≤ 32 := fun k => by rw [← hGk]; exact hfl _ _
    clear hG
    simp only [hGk] at h0 hend hst
    clear hGk
    rw [← hend] at htp hR2
    clear hend
    refine callD_W 90 Try.func59 rfl rfl rfl (fun _ _ => rfl) ?_
    (repeat (first | (simp -implicitDefEqProofs only [ev, mixed, Nat.reduceLT, Nat.reduceAdd, Nat.reduceMul, reduceIte, Nat.reduceEqDiff, reduceCtorEq, Nat.reducePow, Nat.reduceLeDiff, Int.reduceLE, Int.reduceLT, Int.reduceToNat, Int.reduceEq, Nat.reduceBEq, itsOf, gdA, byteI, opid, lenQ, ixQ, ldH, readAt, readCells, asCell, faQ, exQ, fldQ, partA, buildQ, slQ, stH, bslH, appH, dcells, convI, elemsOf, D.one, nilS, fillD, convN, cvH, tyRefE0, intD, g1, g2, g3, g4, g5, g6, bI]) | (with_reducible refine ⟨?_, ?_⟩; (· first | (obtain ⟨rfl⟩ := ‹Hq _ _›; with_reducible refine chk_ok ?_; kernel_rfl) | kernel_rfl)) | (with_reducible intro ops hops)))
    (first | refine Call_frz [] (hwy) (by simp [cvAs, cvA, cvRL, cvR, cvBox, cv1, cvL, cv0, bI, byteI, bbI, intD, boolD, proofD, elemsOf, upd]) ?_ | refine CallF_frz [] [] (hwy) (fun G _ => by simp [cvAs, cvA, cvRL, cvR, cvBox, cv1, cvL, cv0, bI, byteI, bbI, intD, boolD, proofD, elemsOf, upd]) (by simp) ?_)
    (repeat (first | (simp -implicitDefEqProofs only [ev, mixed, Nat.reduceLT, Nat.reduceAdd, Nat.reduceMul, reduceIte, Nat.reduceEqDiff, reduceCtorEq, Nat.reducePow, Nat.reduceLeDiff, Int.reduceLE, Int.reduceLT, Int.reduceToNat, Int.reduceEq, Nat.reduceBEq, itsOf, gdA, byteI, opid, lenQ, ixQ, ldH, readAt, readCells, asCell, faQ, exQ, fldQ, partA, buildQ, slQ, stH, bslH, appH, dcells, convI, elemsOf, D.one, nilS, fillD, convN, cvH, tyRefE0, intD, bI, bbI, List.length_map, g7]) | (with_reducible refine ⟨?_, ?_⟩; (· first | (obtain ⟨rfl⟩ := ‹Hq _ _›; with_reducible refine chk_ok ?_; kernel_rfl) | kernel_rfl)) | (with_reducible intro ops hops)))
    (first | refine Call_frz [] (hlf) (by simp [cvAs, cvA, cvRL, cvR, cvBox, cv1, cvL, cv0, bI, byteI, bbI, intD, boolD, proofD, elemsOf, upd]) ?_ | refine CallF_frz [] [] (hlf) (fun G _ => by simp [cvAs, cvA, cvRL, cvR, cvBox, cv1, cvL, cv0, bI, byteI, bbI, intD, boolD, proofD, elemsOf, upd]) (by simp) ?_)
    (repeat (first | (simp -implicitDefEqProofs only [ev, mixed, Nat.reduceLT, Nat.reduceAdd, Nat.reduceMul, reduceIte, Nat.reduceEqDiff, reduceCtorEq, Nat.reducePow, Nat.reduceLeDiff, Int.reduceLE, Int.reduceLT, Int.reduceToNat, Int.reduceEq, Nat.reduceBEq, itsOf, gdA, byteI, opid, lenQ, ixQ, ldH, readAt, readCells, asCell, faQ, exQ, fldQ, partA, buildQ, slQ, stH, bslH, appH, dcells, convI, elemsOf, D.one, nilS, fillD, convN, cvH, tyRefE0, intD, bI, bbI, List.length_map]) | (with_reducible refine ⟨?_, ?_⟩; (· first | (obtain ⟨rfl⟩ := ‹Hq _ _›; with_reducible refine chk_ok ?_; kernel_rfl) | kernel_rfl)) | (with_reducible intro ops hops)))
    have hR3 : R = (((q.drop 0).all fun d => decide (d.length = 32)) && decide (topF n.toNat (G q.length) = root)) := hR2
    have hsm := same_A (topF n.toNat (G q.length)) root (by rw [topF, sha_length]; decide)
    generalize topF n.toNat (G q.length) = T at *
    clear hR2
    refine W_loopI (ι := Nat) (fun j => j ≤ q.length ∧ R = (((q.drop j).all fun d => decide (d.length = 32)) && decide (T = root)))
      (fun j => stOf [(0, .i (bI root)), (3, .pt 100 0 0 0), (5, .i (.sl (W.map encT))), (6, .i (bI (G j))), (58, .i (bbI q)), (59, intD q.length), (60, intD j)]
        [(100, .box [intD i, intD n, .i (bI k), .i (bI v), .i (bbI q)])]) (fun j => q.length - j) 0 ⟨Nat.zero_le _, hR3⟩ ?_ ?_
    · refine le_stOf _ _ [] [(100, 1000)] ?_ ?_ rfl rfl
      · simp [cv, cvL, cv1, cv0, upd, lk, srcOf, intD, bI, bbI, h0]
      · simp [objOk, srcOf, lk, cvO, cvL, cv0, frz, upd, D.one, intD, hO, bI, bbI]
    · clear hR3
      rintro j ⟨hj, hR⟩
      rw [stOf_eq]
      by_cases hlt : j < q.length
      · have g8 : decide ((j : Int) < (q.length : Int)) = true := decide_eq_true (by omega)
        have e1 := e0 j hlt
        simp only [bI] at e1
        rw [all_drop hlt] at hR
        by_cases h32 : q[j].length = 32
        · have g9 : decide ((q[j].length : Int) = 32) = true := decide_eq_true (by omega)
          rw [decide_eq_true h32, Bool.true_and] at hR
          have hjl : W.length - 1 - j < W.length := by omega
          have e2 : (W.map encT)[W.length - 1 - j]? = some [.s (.bool W[W.length - 1 - j].r), .s (.int .i64 (W[W.length - 1 - j].fr : Int)), .s (.int .i64 (W[W.length - 1 - j].n : Int))] := by rw [List.getElem?_map, List.getElem?_eq_getElem hjl]; rfl
          have w1 : IntKind.i64.wrap (IntKind.i64.wrap ((W.length : Int) - 1) - (j : Int)) = ((W.length - 1 - j : Nat) : Int) := by
            have e5 : IntKind.i64.wrap ((W.length : Int) - 1) = (W.length : Int) - 1 := wrap64 (by omega) (by omega)
            rw [e5, wrap64 (by omega) (by omega)]; omega
          have w2 : IntKind.i64.wrap ((j : Int) + 1) = ((j + 1 : Nat) : Int) := by rw [wrap64 (by omega) (by omega)]; omega
          have hstep := hst j hlt
          have hGj := hGl j
          clear hst
          generalize W[W.length - 1 - j] = t at *
          obtain ⟨tr, tf, tn⟩ := t
          generalize q[j] = d at *
          cases tr
          · simp only [Bool.false_eq_true, if_false] at hstep
            have hnd := rnode_A (G j) d (by omega) (by omega)
            rw [← hstep] at hnd
            (repeat (first | (simp -implicitDefEqProofs only [ev, mixed, Nat.reduceLT, Nat.reduceAdd, Nat.reduceMul, reduceIte, Nat.reduceEqDiff, reduceCtorEq, Nat.reducePow, Nat.reduceLeDiff, Int.reduceLE, Int.reduceLT, Int.reduceToNat, Int.reduceEq, Nat.reduceBEq, itsOf, gdA, byteI, opid, lenQ, ixQ, ldH, readAt, readCells, asCell, faQ, exQ, fldQ, partA, buildQ, slQ, stH, bslH, appH, dcells, convI, elemsOf, D.one, nilS, fillD, convN, cvH, tyRefE0, intD, bbI, bI, g8, e1]) | (with_reducible refine ⟨?_, ?_⟩; (· first | (obtain ⟨rfl⟩ := ‹Hq _ _›; with_reducible refine chk_ok ?_; kernel_rfl) | kernel_rfl)) | (with_reducible intro ops hops)))
            (repeat (first | (simp -implicitDefEqProofs only [ev, mixed, Nat.reduceLT, Nat.reduceAdd, Nat.reduceMul, reduceIte, Nat.reduceEqDiff, reduceCtorEq, Nat.reducePow, Nat.reduceLeDiff, Int.reduceLE, Int.reduceLT, Int.reduceToNat, Int.reduceEq, Nat.reduceBEq, itsOf, gdA, byteI, opid, lenQ, ixQ, ldH, readAt, readCells, asCell, faQ, exQ, fldQ, partA, buildQ, slQ, stH, bslH, appH, dcells, convI, elemsOf, D.one, nilS, fillD, convN, cvH, tyRefE0, intD, g9, e2, w1, List.length_map]) | (with_reducible refine ⟨?_, ?_⟩; (· first | (obtain ⟨rfl⟩ := ‹Hq _ _›; with_reducible refine chk_ok ?_; kernel_rfl) | kernel_rfl)) | (with_reducible intro ops hops)))
            (first | refine Call_frz [] (hnd) (by simp [cvAs, cvA, cvRL, cvR, cvBox, cv1, cvL, cv0, bI, byteI, bbI, intD, boolD, proofD, elemsOf, upd]) ?_ | refine CallF_frz [] [] (hnd) (fun G _ => by simp [cvAs, cvA, cvRL, cvR, cvBox, cv1, cvL, cv0, bI, byteI, bbI, intD, boolD, proofD, elemsOf, upd]) (by simp) ?_)
            (repeat (first | (simp -implicitDefEqProofs only [ev, mixed, Nat.reduceLT, Nat.reduceAdd, Nat.reduceMul, reduceIte, Nat.reduceEqDiff, reduceCtorEq, Nat.reducePow, Nat.reduceLeDiff, Int.reduceLE, Int.reduceLT, Int.reduceToNat, Int.reduceEq, Nat.reduceBEq, itsOf, gdA, byteI, opid, lenQ, ixQ, ldH, readAt, readCells, asCell, faQ, exQ, fldQ, partA, buildQ, slQ, stH, bslH, appH, dcells, convI, elemsOf, D.one, nilS, fillD, convN, cvH, tyRefE0, intD, bI, w2]) | (with_reducible refine ⟨?_, ?_⟩; (· first | (obtain ⟨rfl⟩ := ‹Hq _ _›; with_reducible refine chk_ok ?_; kernel_rfl) | kernel_rfl)) | (with_reducible intro ops hops)))
            refine ⟨j + 1, ⟨hlt, hR⟩, le_stOf _ _ [] [(100, 100)] ?_ ?_ rfl rfl, by simp; omega⟩
            · simp [cv, cvL, cv1, cv0, upd, lk, srcOf, intD, bI, bbI]
            · simp [objOk, srcOf, lk, cvO, cvL, cv0, frz, upd, D.one, intD, hO, bI, bbI]
          · simp only [if_true] at hstep
            have hnd := rnode_A d (G j) (by omega) (by omega)
            rw [← hstep] at hnd
            (repeat (first | (simp -implicitDefEqProofs only [ev, mixed, Nat.reduceLT, Nat.reduceAdd, Nat.reduceMul, reduceIte, Nat.reduceEqDiff, reduceCtorEq, Nat.reducePow, Nat.reduceLeDiff, Int.reduceLE, Int.reduceLT, Int.reduceToNat, Int.reduceEq, Nat.reduceBEq, itsOf, gdA, byteI, opid, lenQ, ixQ, ldH, readAt, readCells, asCell, faQ, exQ, fldQ, partA, buildQ, slQ, stH, bslH, appH, dcells, convI, elemsOf, D.one, nilS, fillD, convN, cvH, tyRefE0, intD, bbI, bI, g8, e1]) | (with_reducible refine ⟨?_, ?_⟩; (· first | (obtain ⟨rfl⟩ := ‹Hq _ _›; with_reducible refine chk_ok ?_; kernel_rfl) | kernel_rfl)) | (with_reducible intro ops hops)))
            (repeat (first | (simp -implicitDefEqProofs only [ev, mixed, Nat.reduceLT, Nat.reduceAdd, Nat.reduceMul, reduceIte, Nat.reduceEqDiff, reduceCtorEq, Nat.reducePow, Nat.reduceLeDiff, Int.reduceLE, Int.reduceLT, Int.reduceToNat, Int.reduceEq, Nat.reduceBEq, itsOf, gdA, byteI, opid, lenQ, ixQ, ldH, readAt, readCells, asCell, faQ, exQ, fldQ, partA, buildQ, slQ, stH, bslH, appH, dcells, convI, elemsOf, D.one, nilS, fillD, convN, cvH, tyRefE0, intD, g9, e2, w1, List.length_map]) | (with_reducible refine ⟨?_, ?_⟩; (· first | (obtain ⟨rfl⟩ := ‹Hq _ _›; with_reducible refine chk_ok ?_; kernel_rfl) | kernel_rfl)) | (with_reducible intro ops hops)))
            (first | refine Call_frz [] (hnd) (by simp [cvAs, cvA, cvRL, cvR, cvBox, cv1, cvL, cv0, bI, byteI, bbI, intD, boolD, proofD, elemsOf, upd]) ?_ | refine CallF_frz [] [] (hnd) (fun G _ => by simp [cvAs, cvA, cvRL, cvR, cvBox, cv1, cvL, cv0, bI, byteI, bbI, intD, boolD, proofD, elemsOf, upd]) (by simp) ?_)
            (repeat (first | (simp -implicitDefEqProofs only [ev, mixed, Nat.reduceLT, Nat.reduceAdd, Nat.reduceMul, reduceIte, Nat.reduceEqDiff, reduceCtorEq, Nat.reducePow, Nat.reduceLeDiff, Int.reduceLE, Int.reduceLT, Int.reduceToNat, Int.reduceEq, Nat.reduceBEq, itsOf, gdA, byteI, opid, lenQ, ixQ, ldH, readAt, readCells, asCell, faQ, exQ, fldQ, partA, buildQ, slQ, stH, bslH, appH, dcells, convI, elemsOf, D.one, nilS, fillD, convN, cvH, tyRefE0, intD, bI, w2]) | (with_reducible refine ⟨?_, ?_⟩; (· first | (obtain ⟨rfl⟩ := ‹Hq _ _›; with_reducible refine chk_ok ?_; kernel_rfl) | kernel_rfl)) | (with_reducible intro ops hops)))
            refine ⟨j + 1, ⟨hlt, hR⟩, le_stOf _ _ [] [(100, 100)] ?_ ?_ rfl rfl, by simp; omega⟩
            · simp [cv, cvL, cv1, cv0, upd, lk, srcOf, intD, bI, bbI]
            · simp [objOk, srcOf, lk, cvO, cvL, cv0, frz, upd, D.one, intD, hO, bI, bbI]
        · have g9 : decide ((q[j].length : Int) = 32) = false := decide_eq_false (by omega)
          rw [decide_eq_false h32, Bool.false_and, Bool.false_and] at hR
          subst hR
          generalize q[j] = d at *
          (repeat (first | (simp -implicitDefEqProofs only [ev, mixed, Nat.reduceLT, Nat.reduceAdd, Nat.reduceMul, reduceIte, Nat.reduceEqDiff, reduceCtorEq, Nat.reducePow, Nat.reduceLeDiff, Int.reduceLE, Int.reduceLT, Int.reduceToNat, Int.reduceEq, Nat.reduceBEq, itsOf, gdA, byteI, opid, lenQ, ixQ, ldH, readAt, readCells, asCell, faQ, exQ, fldQ, partA, buildQ, slQ, stH, bslH, appH, dcells, convI, elemsOf, D.one, nilS, fillD, convN, cvH, tyRefE0, intD, bbI, bI, g8, e1]) | (with_reducible refine ⟨?_, ?_⟩; (· first | (obtain ⟨rfl⟩ := ‹Hq _ _›; with_reducible refine chk_ok ?_; kernel_rfl) | kernel_rfl)) | (with_reducible intro ops hops)))
          (repeat (first | (simp -implicitDefEqProofs only [ev, mixed, Nat.reduceLT, Nat.reduceAdd, Nat.reduceMul, reduceIte, Nat.reduceEqDiff, reduceCtorEq, Nat.reducePow, Nat.reduceLeDiff, Int.reduceLE, Int.reduceLT, Int.reduceToNat, Int.reduceEq, Nat.reduceBEq, itsOf, gdA, byteI, opid, lenQ, ixQ, ldH, readAt, readCells, asCell, faQ, exQ, fldQ, partA, buildQ, slQ, stH, bslH, appH, dcells, convI, elemsOf, D.one, nilS, fillD, convN, cvH, tyRefE0, intD, g9, List.length_map]) | (with_reducible refine ⟨?_, ?_⟩; (· first | (obtain ⟨rfl⟩ := ‹Hq _ _›; with_reducible refine chk_ok ?_; kernel_rfl) | kernel_rfl)) | (with_reducible intro ops hops)))
          refine fin_ret [] rfl ?_
          simp [cv, cv1, cv0, upd, boolD]
      · have g8 : decide ((j : Int) < (q.length : Int)) = false := decide_eq_false (by omega)
        have hj' : j = q.length := by omega
        subst hj'
        rw [List.drop_eq_nil_of_le (by omega), List.all_nil, Bool.true_and] at hR
        subst hR
        (repeat (first | (simp -implicitDefEqProofs only [ev, mixed, Nat.reduceLT, Nat.reduceAdd, Nat.reduceMul, reduceIte, Nat.reduceEqDiff, reduceCtorEq, Nat.reducePow, Nat.reduceLeDiff, Int.reduceLE, Int.reduceLT, Int.reduceToNat, Int.reduceEq, Nat.reduceBEq, itsOf, gdA, byteI, opid, lenQ, ixQ, ldH, readAt, readCells, asCell, faQ, exQ, fldQ, partA, buildQ, slQ, stH, bslH, appH, dcells, convI, elemsOf, D.one, nilS, fillD, convN, cvH, tyRefE0, intD, g8, bI]) | (with_reducible refine ⟨?_, ?_⟩; (· first | (obtain ⟨rfl⟩ := ‹Hq _ _›; with_reducible refine chk_ok ?_; kernel_rfl) | kernel_rfl)) | (with_reducible intro ops hops)))
        (first | refine Call_frz [] (htp) (by simp [cvAs, cvA, cvRL, cvR, cvBox, cv1, cvL, cv0, bI, byteI, bbI, intD, boolD, proofD, elemsOf, upd]) ?_ | refine CallF_frz [] [] (htp) (fun G _ => by simp [cvAs, cvA, cvRL, cvR, cvBox, cv1, cvL, cv0, bI, byteI, bbI, intD, boolD, proofD, elemsOf, upd]) (by simp) ?_)
        (repeat (first | (simp -implicitDefEqProofs only [ev, mixed, Nat.reduceLT, Nat.reduceAdd, Nat.reduceMul, reduceIte, Nat.reduceEqDiff, reduceCtorEq, Nat.reducePow, Nat.reduceLeDiff, Int.reduceLE, Int.reduceLT, Int.reduceToNat, Int.reduceEq, Nat.reduceBEq, itsOf, gdA, byteI, opid, lenQ, ixQ, ldH, readAt, readCells, asCell, faQ, exQ, fldQ, partA, buildQ, slQ, stH, bslH, appH, dcells, convI, elemsOf, D.one, nilS, fillD, convN, cvH, tyRefE0, intD, bI]) | (with_reducible refine ⟨?_, ?_⟩; (· first | (obtain ⟨rfl⟩ := ‹Hq _ _›; with_reducible refine chk_ok ?_; kernel_rfl) | kernel_rfl)) | (with_reducible intro ops hops)))
        (first | refine Call_flat [] [] (hsm) (by simp [cvAs, cvA, cvRL, cvR, cvBox, cv1, cvL, cv0, bI, byteI, bbI, intD, boolD, proofD, elemsOf, upd]) rfl ?_ | refine CallF_flat [] [] [] (hsm) (fun G _ => by simp [cvAs, cvA, cvRL, cvR, cvBox, cv1, cvL, cv0, bI, byteI, bbI, intD, boolD, proofD, elemsOf, upd]) rfl ?_)
        (repeat (first | (simp -implicitDefEqProofs only [ev, mixed, Nat.reduceLT, Nat.reduceAdd, Nat.reduceMul, reduceIte, Nat.reduceEqDiff, reduceCtorEq, Nat.reducePow, Nat.reduceLeDiff, Int.reduceLE, Int.reduceLT, Int.reduceToNat, Int.reduceEq, Nat.reduceBEq, itsOf, gdA, byteI, opid, lenQ, ixQ, ldH, readAt, readCells, asCell, faQ, exQ, fldQ, partA, buildQ, slQ, stH, bslH, appH, dcells, convI, elemsOf, D.one, nilS, fillD, convN, cvH, tyRefE0, intD, bI]) | (with_reducible refine ⟨?_, ?_⟩; (· first | (obtain ⟨rfl⟩ := ‹Hq _ _›; with_reducible refine chk_ok ?_; kernel_rfl) | kernel_rfl)) | (with_reducible intro ops hops)))
        refine fin_ret [] rfl ?_
        simp [cv, cv1, cv0, upd, boolD]
  · have g7 : decide ((W.length : Int) = (q.length : Int)) = false := decide_eq_false (by omega)
    rw [decide_eq_false hlq, Bool.false_and, Bool.false_and] at hR2
    subst hR2
    refine callD_W 90 Try.func59 rfl rfl rfl (fun _ _ => rfl) ?_
    (repeat (first | (simp -implicitDefEqProofs only [ev, mixed, Nat.reduceLT, Nat.reduceAdd, Nat.reduceMul, reduceIte, Nat.reduceEqDiff, reduceCtorEq, Nat.reducePow, Nat.reduceLeDiff, Int.reduceLE, Int.reduceLT, Int.reduceToNat, Int.reduceEq, Nat.reduceBEq, itsOf, gdA, byteI, opid, lenQ, ixQ, ldH, readAt, readCells, asCell, faQ, exQ, fldQ, partA, buildQ, slQ, stH, bslH, appH, dcells, convI, elemsOf, D.one, nilS, fillD, convN, cvH, tyRefE0, intD, g1, g2, g3, g4, g5, g6, bI]) | (with_reducible refine ⟨?_, ?_⟩; (· first | (obtain ⟨rfl⟩ := ‹Hq _ _›; with_reducible refine chk_ok ?_; kernel_rfl) | kernel_rfl)) | (with_reducible intro ops hops)))
    (first | refine Call_frz [] (hwy) (by simp [cvAs, cvA, cvRL, cvR, cvBox, cv1, cvL, cv0, bI, byteI, bbI, intD, boolD, proofD, elemsOf, upd]) ?_ | refine CallF_frz [] [] (hwy) (fun G _ => by simp [cvAs, cvA, cvRL, cvR, cvBox, cv1, cvL, cv0, bI, byteI, bbI, intD, boolD, proofD, elemsOf, upd]) (by simp) ?_)
    (repeat (first | (simp -implicitDefEqProofs only [ev, mixed, Nat.reduceLT, Nat.reduceAdd, Nat.reduceMul, reduceIte, Nat.reduceEqDiff, reduceCtorEq, Nat.reducePow, Nat.reduceLeDiff, Int.reduceLE, Int.reduceLT, Int.reduceToNat, Int.reduceEq, Nat.reduceBEq, itsOf, gdA, byteI, opid, lenQ, ixQ, ldH, readAt, readCells, asCell, faQ, exQ, fldQ, partA, buildQ, slQ, stH, bslH, appH, dcells, convI, elemsOf, D.one, nilS, fillD, convN, cvH, tyRefE0, intD, bI, bbI, List.length_map, g7]) | (with_reducible refine ⟨?_, ?_⟩; (· first | (obtain ⟨rfl⟩ := ‹Hq _ _›; with_reducible refine chk_ok ?_; kernel_rfl) | kernel_rfl)) | (with_reducible intro ops hops)))
    refine fin_ret [] rfl ?_
    simp [cv, cv1, cv0, upd, boolD]
end Go.Proofs.Ytdpfjmkilbepgaa
/- landref5.Absent, SameProof, SameGap: by value. -/
set_option linter.all false
namespace Go.Proofs.Ytdpfjmkilbepgaa
open Go Go.Abs Go.RowKit Go.Proofs.Ytdpfjmkilbepgaa.Ty

attribute [local simp, local go_sem] proofD gapD bbI
set_option maxHeartbeats 4000000
set_option maxRecDepth 20000
theorem rabsent_A (root key : List UInt8) (g : GapD) (hroot : root.length ≤ 1048576) (hkey : key.length ≤ 1048576) : PureD Try.prog 61 [.i (bI root), .i (bI key), gapD g] (boolD (absentF root key g)) := by
  refine hide_r fun R hR => ?_
  obtain ⟨hl, hr, ⟨li, ln, lk, lv, lp⟩, ⟨ri, rn, rk, rv, rp⟩⟩ := g
  have c1 := rshown_A root ⟨li, ln, lk, lv, lp⟩ hroot
  have c2 := rshown_A root ⟨ri, rn, rk, rv, rp⟩ hroot
  have c4 := less_A key rk (by omega)
  have c5 := rtop_A 0 [] (by simp) (by simp)
  have c6 := same_A root (topF 0 []) (by omega)
  have w0 : IntKind.i64.wrap (-1 + 1) = 0 := by decide
  have fL : shownF root ⟨li, ln, lk, lv, lp⟩ = true → 1 ≤ ln ∧ ln ≤ 200 ∧ 0 ≤ li ∧ li < ln ∧ lk.length ≤ 60 := fun h => by
    obtain ⟨a1, a2, a3, a4, a5, _⟩ := formF_yes (shownF_form h)
    exact ⟨a1, a2, a3, a4, a5⟩
  cases hl <;> cases hr <;> simp only [absentF] at hR
  · clear c1 c2 fL c4
    rw [show decide (topF 0 [] = root) = decide (root = topF 0 []) from decide_eq_decide.2 eq_comm] at hR
    generalize topF 0 [] = T at *
    refine callD_W 76 Try.func61 rfl rfl rfl (fun _ _ => rfl) ?_
    exact wkl trivial
  · clear c1 fL
    rw [show decide (ri = 0) = decide (0 = ri) from decide_eq_decide.2 eq_comm] at hR
    generalize shownF root ⟨ri, rn, rk, rv, rp⟩ = S at *
    generalize Lib.compareBytes key rk = C at *
    cases S <;> by_cases q : C < 0 <;> simp only [q, decide_true, decide_false, Bool.true_and, Bool.false_and, Bool.and_false, Bool.and_true] at hR c4
    all_goals
      refine callD_W 76 Try.func61 rfl rfl rfl (fun _ _ => rfl) ?_
      exact wkl trivial
  · clear c2 c4
    rw [show decide (li = ln - 1) = decide (li + 1 = ln) from decide_eq_decide.2 (by omega)] at hR
    generalize shownF root ⟨li, ln, lk, lv, lp⟩ = S at *
    cases S
    · simp only [Bool.false_and] at hR
      refine callD_W 76 Try.func61 rfl rfl rfl (fun _ _ => rfl) ?_
      exact wkl trivial
    · have fL := fL rfl
      have c3 := less_A lk key (by omega)
      generalize Lib.compareBytes lk key = C at *
      by_cases q : C < 0 <;> simp only [q, decide_true, decide_false, Bool.true_and, Bool.false_and, Bool.and_false, Bool.and_true] at hR c3
      all_goals
        refine callD_W 76 Try.func61 rfl rfl rfl (fun _ _ => rfl) ?_
        exact wkl trivial
  · rw [show decide (ln = rn) = decide (rn = ln) from decide_eq_decide.2 eq_comm] at hR
    generalize shownF root ⟨li, ln, lk, lv, lp⟩ = S at *
    generalize shownF root ⟨ri, rn, rk, rv, rp⟩ = S' at *
    generalize Lib.compareBytes key rk = C' at *
    cases S
    · simp only [Bool.false_and] at hR
      refine callD_W 76 Try.func61 rfl rfl rfl (fun _ _ => rfl) ?_
      exact wkl trivial
    · have fL := fL rfl
      have c3 := less_A lk key (by omega)
      generalize Lib.compareBytes lk key = C at *
      by_cases q : C < 0
      · cases S' <;> by_cases q' : C' < 0 <;> simp only [q, q', decide_true, decide_false, Bool.true_and, Bool.false_and, Bool.and_false, Bool.and_true] at hR c3 c4
        all_goals
          refine callD_W 76 Try.func61 rfl rfl rfl (fun _ _ => rfl) ?_
          exact wkl trivial
      · simp only [q, decide_false, Bool.and_false, Bool.false_and] at hR c3
        refine callD_W 76 Try.func61 rfl rfl rfl (fun _ _ => rfl) ?_
        exact wkl trivial
structure OkP (p : ProofD) : Prop where
  k : p.k.length ≤ 1048576
  v : p.v.length ≤ 1048576
  q : p.path.length ≤ 1048576
  d : ∀ d ∈ p.path, d.length ≤ 1048576
theorem OkP.zero : OkP zeroP := ⟨by simp [zeroP], by simp [zeroP], by simp [zeroP], by simp [zeroP]⟩
theorem OkP.at {l : List PairD} (hl : l.length ≤ 1048576) (hb : ∀ p ∈ l, p.k.length ≤ 1048576 ∧ p.v.length ≤ 1048576) (i : Nat) (h : i < l.length) : OkP (atF l i h) :=
  ⟨(hb _ (List.getElem_mem h)).1, (hb _ (List.getElem_mem h)).2, Nat.le_trans (pathF_len _ l i rfl) hl, fun d hd => by have := path_dig _ l i rfl d hd; omega⟩
end Go.Proofs.Ytdpfjmkilbepgaa
/- landref7.Member, Missing: by value. -/
set_option linter.all false
namespace Go.Proofs.Ytdpfjmkilbepgaa
open Go Go.Abs Go.RowKit Go.Proofs.Ytdpfjmkilbepgaa.Ty

set_option maxHeartbeats 4000000
set_option maxRecDepth 20000
theorem rmember_A (c : ClientD) (now h : Int) (key val : List UInt8) (p : ProofD) (hl : c.known.length ≤ 1048576) (h1 : p.k.length ≤ 1048576) (h2 : p.v.length ≤ 1048576) :
    PureD Try.prog 17 [clientD c, intD now, intD h, .i (bI key), .i (bI val), proofD p] (intD (memberE c now h key val p)) := by
  refine hide_r fun R hR => ?_
  have c1 := raskedC_A c now hl
  unfold memberE at hR
  by_cases g1 : askedE c now = 0
  · obtain ⟨ok, hn, hfz⟩ := asked_zero.1 g1
    rw [if_pos g1] at hR
    rw [g1] at c1
    have c2 := ratC_A c h hl
    have c3 := ractC_A ok hn
    have c4 := same_A p.k key (by omega)
    have c5 := same_A p.v val (by omega)
    unfold atR at c2
    cases e2 : atC c h with
    | none =>
      rw [e2] at c2 hR
      simp only [zeroK] at c2
      clear e2 g1 ok hn hfz hl
      refine callD_W 50 Try.func17 rfl rfl rfl (fun _ _ => rfl) ?_
      exact wkl trivial
    | some k =>
      rw [e2] at c2 hR
      simp only at c2 hR
      have hk := (ok.k k (at_mem e2).1).r
      have c6 := rshown_A k.root p (by omega)
      clear e2 g1 ok hn hfz hl hk
      generalize activeC c now = A at *
      generalize shownF k.root p = B at *
      by_cases m1 : p.k = key <;> by_cases m2 : p.v = val <;> simp only [m1, m2, true_and, false_and, decide_true, decide_false, if_false] at hR c4 c5
      all_goals
        refine callD_W 50 Try.func17 rfl rfl rfl (fun _ _ => rfl) ?_
        exact wkl trivial
  · rw [if_neg g1] at hR
    generalize askedE c now = W at *
    refine callD_W 50 Try.func17 rfl rfl rfl (fun _ _ => rfl) ?_
    exact wkl trivial
theorem rmissing_A (c : ClientD) (now h : Int) (key : List UInt8) (g : GapD) (hl : c.known.length ≤ 1048576) (h1 : key.length ≤ 1048576) :
    PureD Try.prog 19 [clientD c, intD now, intD h, .i (bI key), gapD g] (intD (missingE c now h key g)) := by
  refine hide_r fun R hR => ?_
  have c1 := raskedC_A c now hl
  unfold missingE at hR
  by_cases g1 : askedE c now = 0
  · obtain ⟨ok, hn, hfz⟩ := asked_zero.1 g1
    rw [if_pos g1] at hR
    rw [g1] at c1
    have c2 := ratC_A c h hl
    have c3 := ractC_A ok hn
    unfold atR at c2
    cases e2 : atC c h with
    | none =>
      rw [e2] at c2 hR
      simp only [zeroK] at c2
      clear e2 g1 ok hn hfz hl
      refine callD_W 37 Try.func19 rfl rfl rfl (fun _ _ => rfl) ?_
      exact wkl trivial
    | some k =>
      rw [e2] at c2 hR
      simp only at c2 hR
      have hk := (ok.k k (at_mem e2).1).r
      have c6 := rabsent_A k.root key g (by omega) h1
      clear e2 g1 ok hn hfz hl hk
      generalize activeC c now = A at *
      generalize absentF k.root key g = B at *
      refine callD_W 37 Try.func19 rfl rfl rfl (fun _ _ => rfl) ?_
      exact wkl trivial
  · rw [if_neg g1] at hR
    generalize askedE c now = W at *
    refine callD_W 37 Try.func19 rfl rfl rfl (fun _ _ => rfl) ?_
    exact wkl trivial
end Go.Proofs.Ytdpfjmkilbepgaa
/- What the rows hand in: lists of bytes. -/
set_option linter.all false
namespace Go.Proofs.Ytdpfjmkilbepgaa
open Go Go.Abs Go.RowKit

theorem dec_bb {e : List I} (h : HasCs [.sl [.int .u8]] e) : ∃ b : List UInt8, e = [bI b] ∧ True := by
  obtain ⟨x, _, rfl, hx, h⟩ := hasCs_cons h
  obtain rfl := hasCs_nil h
  obtain ⟨a, rfl⟩ := dec_B hx
  exact ⟨a, rfl, trivial⟩
theorem dec_BB {x : I} (h : HasC (.sl [.sl [.int .u8]]) x) : ∃ l : List (List UInt8), x = bbI l := by
  obtain ⟨l, h1, _⟩ := dec_list (fun _ he => dec_bb he) h
  exact ⟨l, h1⟩
theorem bb_small {l : List (List UInt8)} {n : Nat} (h : bkI (bbI l) ≤ n) : l.length ≤ n ∧ ∀ b ∈ l, b.length ≤ n := by
  refine ⟨Nat.le_trans (bk_len (fun b => [bI b]) l) h, fun b hb => ?_⟩
  have h1 := bk_mem (fun b => [bI b]) hb
  have h2 := bk_B b
  simp only [bkL] at h1
  unfold bbI at h
  omega
end Go.Proofs.Ytdpfjmkilbepgaa
/- What the rows hand in: what is known, clients. -/
set_option linter.all false
namespace Go.Proofs.Ytdpfjmkilbepgaa
open Go Go.Abs Go.RowKit Go.Proofs.Ytdpfjmkilbepgaa.Ty

theorem dec_Kn {e : List I} (h : HasCs [.int .i64, .int .i64, .sl [.int .u8], .sl [.int .u8]] e) : ∃ k : KnownD, e = encK k ∧ True := by
  obtain ⟨x1, _, rfl, h1, h⟩ := hasCs_cons h
  obtain ⟨x2, _, rfl, h2, h⟩ := hasCs_cons h
  obtain ⟨x3, _, rfl, h3, h⟩ := hasCs_cons h
  obtain ⟨x4, _, rfl, h4, h⟩ := hasCs_cons h
  obtain rfl := hasCs_nil h
  obtain ⟨a, rfl, _⟩ := dec_int h1
  obtain ⟨b, rfl, _⟩ := dec_int h2
  obtain ⟨u, rfl⟩ := dec_B h3
  obtain ⟨v, rfl⟩ := dec_B h4
  exact ⟨⟨a, b, u, v⟩, rfl, trivial⟩
theorem dec_Known {e : List I} (h : HasCs [.int .i64, .int .i64, .sl [.int .u8], .sl [.int .u8]] e) : ∃ k : KnownD, e = encK k := by
  obtain ⟨k, e, _⟩ := dec_Kn h
  exact ⟨k, e⟩
theorem dec_Client {e : List I} (h : HasCs [.str, .int .i64, .bool, .sl [.int .i64, .int .i64, .sl [.int .u8], .sl [.int .u8]]] e) : ∃ c : ClientD, e = encC c := by
  obtain ⟨x1, _, rfl, h1, h⟩ := hasCs_cons h
  obtain ⟨x2, _, rfl, h2, h⟩ := hasCs_cons h
  obtain ⟨x3, _, rfl, h3, h⟩ := hasCs_cons h
  obtain ⟨x4, _, rfl, h4, h⟩ := hasCs_cons h
  obtain rfl := hasCs_nil h
  obtain ⟨a, rfl, _⟩ := dec_str h1
  obtain ⟨b, rfl, _⟩ := dec_int h2
  obtain ⟨f, rfl⟩ := dec_bool h3
  obtain ⟨l, rfl, _⟩ := dec_list (fun _ he => dec_Kn he) h4
  exact ⟨⟨a, b, f, l⟩, rfl⟩
theorem cl_agg (c : ClientD) : D.agg ((encC c).map .i) = clientD c := rfl
theorem kn_agg (k : KnownD) : D.agg ((encK k).map .i) = knownD k := rfl
theorem kn_bk (k : KnownD) : bkL (encK k) = k.root.length + k.next.length := by
  have h1 := bk_B k.root
  have h2 := bk_B k.next
  simp only [bkL, encK, bkI, h1, h2]; omega
theorem cl_sm {c : ClientD} {n : Nat} (hb : bkL (encC c) ≤ n) (hn : n ≤ 1048576) : ClSm c ∧ c.c.size ≤ 1048576 := by
  have h1 := bk_len encK c.known
  have h2 := fun k (hk : k ∈ c.known) => bk_mem encK hk
  simp only [bkL, encC, bkI, knownI] at hb h1 h2
  refine ⟨⟨by omega, fun k hk => ?_⟩, by omega⟩
  have h3 := h2 k hk
  rw [kn_bk] at h3
  exact ⟨by omega, by omega⟩
end Go.Proofs.Ytdpfjmkilbepgaa
/- A proof, a gap: from the row's data. -/
set_option linter.all false
namespace Go.Proofs.Ytdpfjmkilbepgaa
open Go Go.Abs Go.RowKit Go.Proofs.Ytdpfjmkilbepgaa.Ty

theorem dec_Proof {e : List I} (h : HasCs [.int .i64, .int .i64, .sl [.int .u8], .sl [.int .u8], .sl [.sl [.int .u8]]] e) : ∃ p : ProofD, e = formI p := by
  obtain ⟨x1, _, rfl, h1, h⟩ := hasCs_cons h
  obtain ⟨x2, _, rfl, h2, h⟩ := hasCs_cons h
  obtain ⟨x3, _, rfl, h3, h⟩ := hasCs_cons h
  obtain ⟨x4, _, rfl, h4, h⟩ := hasCs_cons h
  obtain ⟨x5, _, rfl, h5, h⟩ := hasCs_cons h
  obtain rfl := hasCs_nil h
  obtain ⟨a, rfl, _⟩ := dec_int h1
  obtain ⟨b, rfl, _⟩ := dec_int h2
  obtain ⟨c, rfl⟩ := dec_B h3
  obtain ⟨d, rfl⟩ := dec_B h4
  obtain ⟨q, rfl⟩ := dec_BB h5
  exact ⟨⟨a, b, c, d, q⟩, rfl⟩
def gapI (g : GapD) : List I := .s (.bool g.hl) :: .s (.bool g.hr) :: (formI g.left ++ formI g.right)
theorem dec_Gap {e : List I} (h : HasCs [.bool, .bool, .int .i64, .int .i64, .sl [.int .u8], .sl [.int .u8], .sl [.sl [.int .u8]], .int .i64, .int .i64, .sl [.int .u8], .sl [.int .u8], .sl [.sl [.int .u8]]] e) : ∃ g : GapD, e = gapI g := by
  obtain ⟨y1, _, rfl, k1, h⟩ := hasCs_cons h
  obtain ⟨y2, _, rfl, k2, h⟩ := hasCs_cons h
  obtain ⟨x1, _, rfl, h1, h⟩ := hasCs_cons h
  obtain ⟨x2, _, rfl, h2, h⟩ := hasCs_cons h
  obtain ⟨x3, _, rfl, h3, h⟩ := hasCs_cons h
  obtain ⟨x4, _, rfl, h4, h⟩ := hasCs_cons h
  obtain ⟨x5, _, rfl, h5, h⟩ := hasCs_cons h
  obtain ⟨p, rfl⟩ := dec_Proof h
  obtain ⟨a, rfl, _⟩ := dec_int h1
  obtain ⟨b, rfl, _⟩ := dec_int h2
  obtain ⟨c, rfl⟩ := dec_B h3
  obtain ⟨d, rfl⟩ := dec_B h4
  obtain ⟨q, rfl⟩ := dec_BB h5
  obtain ⟨u, rfl⟩ := dec_bool k1
  obtain ⟨v, rfl⟩ := dec_bool k2
  exact ⟨⟨u, v, ⟨a, b, c, d, q⟩, p⟩, rfl⟩
theorem proofD_formI (p : ProofD) : D.agg ((formI p).map .i) = proofD p := rfl
theorem gapD_gapI (g : GapD) : D.agg ((gapI g).map .i) = gapD g := rfl

end Go.Proofs.Ytdpfjmkilbepgaa
/- The law ClientShown: the walk. -/
set_option linter.all false
namespace Go.Proofs.Ytdpfjmkilbepgaa
open Go Go.Abs Go.RowKit Go.Proofs.Ytdpfjmkilbepgaa.Ty

set_option maxHeartbeats 4000000
set_option maxRecDepth 20000
theorem walk_ClientShown (y0 : List I) (c : ClientD) (e0 : y0 = encC c) (y1 : I) (now : Int) (e1 : y1 = .s (.int .i64 now) ∧ (Lit.int .i64 now).wf = true)
    (y2 : I) (h : Int) (e2 : y2 = .s (.int .i64 h) ∧ (Lit.int .i64 h).wf = true) (y3 : I) (key : List UInt8) (e3 : y3 = bI key) (y4 : I) (val : List UInt8) (e4 : y4 = bI val) (y5 : List I) (p : ProofD) (e5 : y5 = formI p) (y6 : List I) (g : GapD) (e6 : y6 = gapI g)
    (hb : bkL y0 + bkI y1 + bkI y2 + bkI y3 + bkI y4 + bkL y5 + bkL y6 ≤ 1048576) :
    ∃ Ds, PureD Try.prog 3 Ds (.i (.s (.bool true))) ∧ Ds = [.agg (y0.map .i), .i y1, .i y2, .i y3, .i y4, .agg (y5.map .i), .agg (y6.map .i)] := by
  subst e0
  obtain ⟨rfl, _⟩ := e1
  obtain ⟨rfl, _⟩ := e2
  subst e3
  subst e4
  subst e5
  subst e6
  refine ⟨_, ?_, rfl⟩
  rw [cl_agg, proofD_formI, gapD_gapI]
  have hcl := (cl_sm (c := c) (n := 1048576) (by omega) (by omega)).1.l
  have k1 := bk_B key
  have k2 := bk_B p.k
  have k3 := bk_B p.v
  have hk : key.length ≤ 1048576 := by omega
  have hp : p.k.length ≤ 1048576 ∧ p.v.length ≤ 1048576 := by
    simp only [formI, bkL, k2, k3] at hb
    omega
  clear hb k1 k2 k3
  have c1 := cmember_A c now h key val p hcl
  have c2 := rmember_A c now h key val p hcl hp.1 hp.2
  have c3 := cmissing_A c now h key g hcl
  have c4 := rmissing_A c now h key g hcl hk
  refine hide_r fun R hR => ?_
  generalize memberE c now h key val p = A at *
  generalize missingE c now h key g = B at *
  refine callD_W 45 Try.func3 rfl rfl rfl (fun _ _ => rfl) ?_
  exact wkl trivial
end Go.Proofs.Ytdpfjmkilbepgaa
/- The statement on landlaw7.ClientShown: for every input of bounded bulk it answers true and leaves its arguments as they were. -/
set_option linter.all false
namespace Go.Proofs.Ytdpfjmkilbepgaa.clientShown
open Go.ChangeShapes Go.WideShapes Go.ChangeAt Go.RowKit Go.Abs
set_option linter.unusedVariables false
set_option maxRecDepth 100000 in
theorem contract (H : Type) (enc : TypeId × Value → H) (W : World) (base : Nat) (args : Array Value) (ds gs : List (DataW H)) (before : List MemPlace)
    (hval : ∀ (j : Nat) t v, Try.f3.params[j]? = some t → args[j]? = some v → Value.okWide Try.prog W .any base t v)
    (hW : DataW.Whole enc Try.prog Try.f3.params.toList Rows.clientShownSpec.vars false W args.toList ds gs before) (hk : Rows.uptoSmall H (ds ++ gs) = true) :
    Calls Try.prog 3 args W fun e W' => ∃ v, e = .returned v ∧ Rows.clientShownSpec.post enc Try.prog Try.f3 false true false false W args v W' := by
  have hW' := hW
  obtain ⟨p, q, hA0, hV, rfl, hfz, hnd⟩ := hW'
  have hA : DataW.TrodAll enc Try.prog W 0 (fun _ => true) true Try.f3.params.toList args.toList ds p := hA0
  have hA1 := hA
  rw [Try.params3] at hA hval
  obtain ⟨v0, vs0, d0, ds0, p0, q0, hargs, rfl, rfl, h0, r0⟩ := trodAll_cons hA
  obtain ⟨v1, vs1, d1, ds1, p1, q1, rfl, rfl, rfl, h1, r1⟩ := trodAll_cons r0
  obtain ⟨v2, vs2, d2, ds2, p2, q2, rfl, rfl, rfl, h2, r2⟩ := trodAll_cons r1
  obtain ⟨v3, vs3, d3, ds3, p3, q3, rfl, rfl, rfl, h3, r3⟩ := trodAll_cons r2
  obtain ⟨v4, vs4, d4, ds4, p4, q4, rfl, rfl, rfl, h4, r4⟩ := trodAll_cons r3
  obtain ⟨v5, vs5, d5, ds5, p5, q5, rfl, rfl, rfl, h5, r5⟩ := trodAll_cons r4
  obtain ⟨v6, vs6, d6, ds6, p6, q6, rfl, rfl, rfl, h6, r6⟩ := trodAll_cons r5
  obtain ⟨rfl, rfl, rfl⟩ := trodAll_nil r6
  obtain rfl : args = #[v0, v1, v2, v3, v4, v5, v6] := by cases args; simp_all
  obtain ⟨rfl, rfl⟩ := trodVars_none hV
  have hb : Rows.uptoBulkAll (H := H) [d0, d1, d2, d3, d4, d5, d6] ≤ 1048576 := by have := of_decide_eq_true hk; simpa using this
  simp only [Rows.uptoBulkAll] at hb
  obtain ⟨y0, c0, w0, b0⟩ := open_ag R2.bulk Ty.sh24 Try.underlying24 (hval 0 24 v0 rfl rfl) h0
  obtain ⟨x0, e0⟩ := dec_Client c0
  obtain ⟨y1, c1, w1, b1⟩ := open_in R2.bulk Ty.sh3 Try.underlying3 (hval 1 3 v1 rfl rfl) h1
  obtain ⟨x1, e1⟩ := dec_int c1
  obtain ⟨y2, c2, w2, b2⟩ := open_in R2.bulk Ty.sh3 Try.underlying3 (hval 2 3 v2 rfl rfl) h2
  obtain ⟨x2, e2⟩ := dec_int c2
  obtain ⟨y3, c3, w3, b3⟩ := open_sl R2.bulk Ty.sh25 Try.underlying25 (hval 3 25 v3 rfl rfl) h3
  obtain ⟨x3, e3⟩ := dec_B c3
  obtain ⟨y4, c4, w4, b4⟩ := open_sl R2.bulk Ty.sh25 Try.underlying25 (hval 4 25 v4 rfl rfl) h4
  obtain ⟨x4, e4⟩ := dec_B c4
  obtain ⟨y5, c5, w5, b5⟩ := open_ag R2.bulk Ty.sh28 Try.underlying28 (hval 5 28 v5 rfl rfl) h5
  obtain ⟨x5, e5⟩ := dec_Proof c5
  obtain ⟨y6, c6, w6, b6⟩ := open_ag R2.bulk Ty.sh30 Try.underlying30 (hval 6 30 v6 rfl rfl) h6
  obtain ⟨x6, e6⟩ := dec_Gap c6
  have hy0 := e0
  have hy1 := e1
  have hy2 := e2
  have hy3 := e3
  have hy4 := e4
  have hy5 := e5
  have hy6 := e6
  simp only [List.append_nil] at hW
  obtain ⟨Ds, hp, hs⟩ := walk_ClientShown y0 x0 e0 y1 x1 e1 y2 x2 e2 y3 x3 e3 y4 x4 e4 y5 x5 e5 y6 x6 e6 (by omega)
  subst hs
  refine (pure_calls hp rfl (fun j d hd => ?_)).mono fun e W' ⟨he, bel⟩ => ?_
  · rcases j with _ | _ | _ | _ | _ | _ | _ | j <;> simp at hd <;> subst hd <;> assumption
  · subst he
    exact ⟨_, rfl, _, _, _, [], _, [], hW, trodAll_mk1 (shut_bool Try.underlying4 _), R2.trodAll_below hA1 bel (by rw [Try.params3]; decide +kernel), rfl, bel.frame _, fun h => by cases h⟩

set_option maxRecDepth 100000 in
theorem lifted (os : Os) (started : os.Started) (H : Type) (enc : TypeId × Value → H) (F : Stop.Interp) :
    ReturnsInHanded {} Try.checked os 3 .any ((Rows.OpenSpec.upto Rows.clientShownSpec).pre6 enc Try.prog Try.f3 Rows.clientShownUptoRow.domain false) (((Rows.OpenSpec.upto Rows.clientShownSpec).at F).post enc Try.prog Try.f3 false true false false) := by
  refine returnsInHanded_of_cond (C := Try.checked) (s := Rows.OpenSpec.upto Rows.clientShownSpec) (k := Rows.uptoSmall) rfl R2.own started (by kernel_rfl) Try.func3
    (OpenSpec.witness (enc := enc) (C := Try.checked) (s := Rows.OpenSpec.upto Rows.clientShownSpec) (k := Rows.uptoSmall) rfl false ⟨#[], #[.agg #[.string ⟨#[]⟩, .int .i64 0, .bool false, .slice none 0 0], .int .i64 0, .int .i64 0, .slice none 0 0, .slice none 0 0, .agg #[.int .i64 0, .int .i64 0, .slice none 0 0, .slice none 0 0, .slice none 0 0], .agg #[.bool false, .bool false, .int .i64 0, .int .i64 0, .slice none 0 0, .slice none 0 0, .slice none 0 0, .int .i64 0, .int .i64 0, .slice none 0 0, .slice none 0 0, .slice none 0 0]], []⟩ 20 (by kernel_rfl) (by kernel_rfl) (by kernel_rfl)
      (x := ([.agg [.lit (.string []), .lit (.int .i64 0), .lit (.bool false), .nil], .lit (.int .i64 0), .lit (.int .i64 0), .nil, .nil, .agg [.lit (.int .i64 0), .lit (.int .i64 0), .nil, .nil, .nil], .agg [.lit (.bool false), .lit (.bool false), .agg [.lit (.int .i64 0), .lit (.int .i64 0), .nil, .nil, .nil], .agg [.lit (.int .i64 0), .lit (.int .i64 0), .nil, .nil, .nil]]], [], [])) (by kernel_rfl) rfl (by kernel_rfl)) ?_
  intro W base args ds gs before hval hW _ hk _
  exact contract H enc W base args ds gs before hval hW hk

theorem over : Rows.clientShownUptoRow.holds Try.pinned (Rows.OpenSpec.upto Rows.clientShownSpec) :=
  OpenClaim.holds_of_cond 3 Try.f3 rfl rfl rfl rfl rfl rfl rfl ⟨rfl, rfl, rfl, rfl, rfl⟩ rfl rfl rfl rfl rfl (by kernel_rfl) Try.func3 (by kernel_rfl)
    (of_decide_eq_true (by kernel_rfl)) (by unfold Func.isWrapper; first | (rw [if_pos (by decide +kernel)]; kernel_rfl) | (rw [if_neg (by decide +kernel)]; exact ⟨rfl, rfl⟩))
    (fun os started H enc _ F => lifted os started H enc F)

/-- THE STATEMENT. -/
theorem proved : Rows.ClientShownUptoSaid := over
end Go.Proofs.Ytdpfjmkilbepgaa.clientShown
