/- landlaw5.alive: by value. -/
import Derived.Test.YthbnhbmakapglaaProofT
set_option linter.all false
namespace Go.Proofs.Ythbnhbmakapglaa
open Go Go.Abs Go.RowKit Go.Proofs.Ythbnhbmakapglaa.Ty

def pa : PairD := ⟨[97], [49]⟩
def pb : PairD := ⟨[98], [50]⟩
theorem al_big (a b : List UInt8) (ha : a.length ≤ 60) (hb : b.length ≤ 200) : bigP ⟨a, b⟩ = false := by simp [bigP]; omega
theorem al_right : Right [pa, pb] := by
  apply right_of
  rw [wrongF, if_neg (by decide), wrongGo, dif_pos (by decide)]
  have h0 : bigP [pa, pb][0] = false := al_big _ _ (by decide) (by decide)
  have h1 : bigP [pa, pb][1] = false := al_big _ _ (by decide) (by decide)
  rw [h0]
  simp only [Bool.false_eq_true, if_false, Nat.lt_irrefl, false_and]
  rw [wrongGo, dif_pos (by decide), h1]
  simp only [Bool.false_eq_true, if_false]
  rw [if_neg (by decide), wrongGo, dif_neg (by decide)]
def alP (v : List UInt8) : ProofD := ⟨1, 2, [98], v, [leafF [97] [49]]⟩
theorem al_split : splitF 2 = 1 := by decide
theorem al_tree : treeF [pa, pb] = nodeF (leafF [97] [49]) (leafF [98] [50]) := by
  rw [treeF_two (by decide), show [pa, pb].length = 2 from rfl, al_split]
  show nodeF (treeF [pa]) (treeF [pb]) = _
  rw [treeF_one, treeF_one]; rfl
theorem al_root : rootR [pa, pb] = topF 2 (nodeF (leafF [97] [49]) (leafF [98] [50])) := by
  rw [rootR, wrong_right al_right, if_pos rfl, rootF, al_tree]; rfl
theorem al_place : placeF [pa, pb] [98] = 1 := by decide
theorem al_show : showF [pa, pb] [98] = (alP [50], 0) := by
  unfold showF
  rw [wrong_right al_right, if_pos rfl]
  have h : placeF [pa, pb] [98] < [pa, pb].length := by rw [al_place]; decide
  rw [dif_pos h]
  have h2 : [pa, pb][placeF [pa, pb] [98]].k = [98] := by simp only [al_place]; rfl
  rw [if_pos h2]
  congr 1
  simp only [al_place, atF]
  rw [pathF_hi (by decide) (by rw [show [pa, pb].length = 2 from rfl, al_split]; decide), show [pa, pb].length = 2 from rfl, al_split]
  rw [pathF_one _ (by decide)]
  show ProofD.mk 1 2 [98] [50] ([] ++ [treeF [pa]]) = _
  rw [treeF_one]; rfl
theorem al_shown (v : List UInt8) (hv : v.length ≤ 200) (r : List UInt8) : shownF r (alP v) = decide (topF 2 (nodeF (leafF [97] [49]) (leafF [98] v)) = r) := by
  have hl : (leafF [97] [49]).length = 32 := sha_length _
  have hf : formF (alP v) = true := by simp [formF, formG, alP, hl, Nat.not_lt.2 hv]
  have ht : treeOf (alP v) = (nodeF (leafF [97] [49]) (leafF [98] v), true) := by
    simp [treeOf, alP, foldR, al_split]
  unfold shownF
  rw [hf, ht]; rfl
theorem al_unlike : ¬ topF 2 (nodeF (leafF [97] [49]) (leafF [98] [51])) = topF 2 (nodeF (leafF [97] [49]) (leafF [98] [50])) := by decide +kernel
set_option maxHeartbeats 4000000
theorem alive5_A : PureD Try.prog 14 [] (.i (.s (.bool true))) := by
  have hr := root_B [pa, pb] (by decide)
  have hs := show_A [pa, pb] [98] (by decide)
  rw [al_root, wrong_right al_right] at hr
  rw [al_show] at hs
  have s1 := shown_A (topF 2 (nodeF (leafF [97] [49]) (leafF [98] [50]))) (alP [50])
  have s2 := shown_A (topF 2 (nodeF (leafF [97] [49]) (leafF [98] [50]))) (alP [51])
  rw [al_shown _ (by decide), decide_eq_true rfl] at s1
  rw [al_shown _ (by decide), decide_eq_false al_unlike] at s2
  generalize topF 2 (nodeF (leafF [97] [49]) (leafF [98] [50])) = R at *
  have hsum := sum_D [] (by simp)
  have hl0 := sha_length []
  generalize sha [] = S at *
  unfold alP at *
  generalize leafF [97] [49] = L at *
  simp only [psI, List.map_cons, List.map_nil, encPr, pa, pb, bI, List.map_cons, List.map_nil, byteI, UInt8.reduceToNat] at hr hs
  refine callD_W 57 Try.func14 rfl rfl rfl (fun _ _ => rfl) ?_
  (repeat (first | (simp -implicitDefEqProofs only [ev1, ev2, ev3, ev4, ev5, ev6, mixed, Nat.reduceLT, Nat.reduceAdd, Nat.reduceMul, reduceIte, Nat.reduceEqDiff, reduceCtorEq, Nat.reducePow, Nat.reduceLeDiff, Int.reduceLE, Int.reduceLT, Int.reduceToNat, Int.reduceEq, Nat.reduceBEq, itsOf, gdA, byteI, opid, lenQ, ixQ, ldH, readAt, readCells, asCell, faQ, exQ, fldQ, partA, buildQ, slQ, stH, bslH, appH, dcells, convI, elemsOf, D.one, nilS, fillD, convN, cvH, T1, T2, T3, T4, T5, T22, T23, T25, T27, T28, T33, T52, convQ_none]) | (with_reducible refine ⟨?_, ?_⟩; (· first | (obtain ⟨rfl⟩ := ‹Hq _ _›; with_reducible refine chk_ok ?_; kernel_rfl) | kernel_rfl)) | (with_reducible intro ops hops)))
  (first | refine Call_frz [1266] (hr) (by simp [cvAs, cvA, cv1, cvL, cv0, bI, byteI, encPr, psI, intD, boolD, proofD, fltD, elemsOf, upd]) ?_ | refine CallF_frz [1266] [1266] (hr) (fun G hG => by (have hG1266 := hG 1266 (by simp); simp [cvAs, cvA, cv1, cvL, cv0, bI, byteI, encPr, psI, intD, boolD, proofD, fltD, elemsOf, upd, hG1266])) (by simp) ?_)
  (repeat (first | (simp -implicitDefEqProofs only [ev1, ev2, ev3, ev4, ev5, ev6, mixed, Nat.reduceLT, Nat.reduceAdd, Nat.reduceMul, reduceIte, Nat.reduceEqDiff, reduceCtorEq, Nat.reducePow, Nat.reduceLeDiff, Int.reduceLE, Int.reduceLT, Int.reduceToNat, Int.reduceEq, Nat.reduceBEq, itsOf, gdA, byteI, opid, lenQ, ixQ, ldH, readAt, readCells, asCell, faQ, exQ, fldQ, partA, buildQ, slQ, stH, bslH, appH, dcells, convI, elemsOf, D.one, nilS, fillD, convN, cvH, T1, T2, T3, T4, T5, T22, T23, T25, T27, T28, T33, T52, fltD, intD, convQ_none]) | (with_reducible refine ⟨?_, ?_⟩; (· first | (obtain ⟨rfl⟩ := ‹Hq _ _›; with_reducible refine chk_ok ?_; kernel_rfl) | kernel_rfl)) | (with_reducible intro ops hops)))
  (first | refine Call_frz [1266,1769] (hs) (by simp [cvAs, cvA, cv1, cvL, cv0, bI, byteI, encPr, psI, intD, boolD, proofD, fltD, elemsOf, upd, frz]) ?_ | refine CallF_frz [1266,1769] [1266,1769] (hs) (fun G hG => by (have hG1266 := hG 1266 (by simp); have hG1769 := hG 1769 (by simp); simp [cvAs, cvA, cv1, cvL, cv0, bI, byteI, encPr, psI, intD, boolD, proofD, fltD, elemsOf, upd, frz, hG1266, hG1769])) (by simp) ?_)
  (repeat (first | (simp -implicitDefEqProofs only [ev1, ev2, ev3, ev4, ev5, ev6, mixed, Nat.reduceLT, Nat.reduceAdd, Nat.reduceMul, reduceIte, Nat.reduceEqDiff, reduceCtorEq, Nat.reducePow, Nat.reduceLeDiff, Int.reduceLE, Int.reduceLT, Int.reduceToNat, Int.reduceEq, Nat.reduceBEq, itsOf, gdA, byteI, opid, lenQ, ixQ, ldH, readAt, readCells, asCell, faQ, exQ, fldQ, partA, buildQ, slQ, stH, bslH, appH, dcells, convI, elemsOf, D.one, nilS, fillD, convN, cvH, T1, T2, T3, T4, T5, T22, T23, T25, T27, T28, T33, T52, fltD, intD, convQ_none, proofD]) | (with_reducible refine ⟨?_, ?_⟩; (· first | (obtain ⟨rfl⟩ := ‹Hq _ _›; with_reducible refine chk_ok ?_; kernel_rfl) | kernel_rfl)) | (with_reducible intro ops hops)))
  (first | refine Call_frz [] (s1) (by simp [cvAs, cvA, cv1, cvL, cv0, bI, byteI, encPr, psI, intD, boolD, proofD, fltD, elemsOf, upd]) ?_ | refine CallF_frz [] [] (s1) (fun G _ => by simp [cvAs, cvA, cv1, cvL, cv0, bI, byteI, encPr, psI, intD, boolD, proofD, fltD, elemsOf, upd]) (by simp) ?_)
  (repeat (first | (simp -implicitDefEqProofs only [ev1, ev2, ev3, ev4, ev5, ev6, mixed, Nat.reduceLT, Nat.reduceAdd, Nat.reduceMul, reduceIte, Nat.reduceEqDiff, reduceCtorEq, Nat.reducePow, Nat.reduceLeDiff, Int.reduceLE, Int.reduceLT, Int.reduceToNat, Int.reduceEq, Nat.reduceBEq, itsOf, gdA, byteI, opid, lenQ, ixQ, ldH, readAt, readCells, asCell, faQ, exQ, fldQ, partA, buildQ, slQ, stH, bslH, appH, dcells, convI, elemsOf, D.one, nilS, fillD, convN, cvH, T1, T2, T3, T4, T5, T22, T23, T25, T27, T28, T33, T52, boolD, intD]) | (with_reducible refine ⟨?_, ?_⟩; (· first | (obtain ⟨rfl⟩ := ‹Hq _ _›; with_reducible refine chk_ok ?_; kernel_rfl) | kernel_rfl)) | (with_reducible intro ops hops)))
  (first | refine Call_frz [] (s2) (by simp [cvAs, cvA, cv1, cvL, cv0, bI, byteI, encPr, psI, intD, boolD, proofD, fltD, elemsOf, upd]) ?_ | refine CallF_frz [] [] (s2) (fun G _ => by simp [cvAs, cvA, cv1, cvL, cv0, bI, byteI, encPr, psI, intD, boolD, proofD, fltD, elemsOf, upd]) (by simp) ?_)
  (repeat (first | (simp -implicitDefEqProofs only [ev1, ev2, ev3, ev4, ev5, ev6, mixed, Nat.reduceLT, Nat.reduceAdd, Nat.reduceMul, reduceIte, Nat.reduceEqDiff, reduceCtorEq, Nat.reducePow, Nat.reduceLeDiff, Int.reduceLE, Int.reduceLT, Int.reduceToNat, Int.reduceEq, Nat.reduceBEq, itsOf, gdA, byteI, opid, lenQ, ixQ, ldH, readAt, readCells, asCell, faQ, exQ, fldQ, partA, buildQ, slQ, stH, bslH, appH, dcells, convI, elemsOf, D.one, nilS, fillD, convN, cvH, T1, T2, T3, T4, T5, T22, T23, T25, T27, T28, T33, T52, boolD, intD]) | (with_reducible refine ⟨?_, ?_⟩; (· first | (obtain ⟨rfl⟩ := ‹Hq _ _›; with_reducible refine chk_ok ?_; kernel_rfl) | kernel_rfl)) | (with_reducible intro ops hops)))
  (first | refine Call_frz [] (hsum) (by simp [cvAs, cvA, cv1, cvL, cv0, bI, byteI, encPr, psI, intD, boolD, proofD, fltD, elemsOf, upd]) ?_ | refine CallF_frz [] [] (hsum) (fun G _ => by simp [cvAs, cvA, cv1, cvL, cv0, bI, byteI, encPr, psI, intD, boolD, proofD, fltD, elemsOf, upd]) (by simp) ?_)
  (repeat (first | (simp -implicitDefEqProofs only [ev1, ev2, ev3, ev4, ev5, ev6, mixed, Nat.reduceLT, Nat.reduceAdd, Nat.reduceMul, reduceIte, Nat.reduceEqDiff, reduceCtorEq, Nat.reducePow, Nat.reduceLeDiff, Int.reduceLE, Int.reduceLT, Int.reduceToNat, Int.reduceEq, Nat.reduceBEq, itsOf, gdA, byteI, opid, lenQ, ixQ, ldH, readAt, readCells, asCell, faQ, exQ, fldQ, partA, buildQ, slQ, stH, bslH, appH, dcells, convI, elemsOf, D.one, nilS, fillD, convN, cvH, T1, T2, T3, T4, T5, T22, T23, T25, T27, T28, T33, T52, bI, hl0]) | (with_reducible refine ⟨?_, ?_⟩; (· first | (obtain ⟨rfl⟩ := ‹Hq _ _›; with_reducible refine chk_ok ?_; kernel_rfl) | kernel_rfl)) | (with_reducible intro ops hops)))
  refine fin_ret [] rfl ?_
  simp [cv, cv1, cv0, upd]
end Go.Proofs.Ythbnhbmakapglaa
