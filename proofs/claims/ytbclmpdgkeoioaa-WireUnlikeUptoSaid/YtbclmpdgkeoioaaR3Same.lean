/- Walk of landref3.Same. -/
import Derived.Test.YtbclmpdgkeoioaaR3Rd
set_option linter.all false
namespace Go.Proofs.Ytbclmpdgkeoioaa
open Go Go.Abs Go.RowKit Go.Proofs.Ytbclmpdgkeoioaa.Ty

theorem piecesSame_drop : ∀ {x y : List PieceD} {k : Nat}, k < x.length → k < y.length → piecesSame (x.drop k) (y.drop k) = (pieceSame (x.getD k ⟨0, 0, []⟩) (y.getD k ⟨0, 0, []⟩) && piecesSame (x.drop (k + 1)) (y.drop (k + 1)))
  | [], _, _, h, _ => by simp at h
  | _ :: _, [], _, _, h => by simp at h
  | a :: x, b :: y, 0, _, _ => by simp [piecesSame]
  | a :: x, b :: y, k + 1, h, h' => by simpa using piecesSame_drop (x := x) (y := y) (k := k) (by simpa using h) (by simpa using h')

set_option maxHeartbeats 2000000
theorem same3_A (x y : List PieceD) (hx : x.length ≤ 1048576) (hxb : ∀ p ∈ x, p.b.length ≤ 1048576) : PureD Try.prog 23 [.i (.sl (x.map encP)), .i (.sl (y.map encP))] (.i (.s (.bool (piecesSame x y)))) := by
  generalize hq : piecesSame x y = q
  refine callD_W 71 Try.func23 rfl rfl rfl (fun _ _ => rfl) ?_
  (repeat (first | (simp -implicitDefEqProofs only [ev1, ev2, ev3, ev4, ev5, mixed, Nat.reduceLT, Nat.reduceAdd, Nat.reduceMul, reduceIte, Nat.reduceEqDiff, reduceCtorEq, Nat.reducePow, Nat.reduceLeDiff, Int.reduceLE, Int.reduceLT, Int.reduceToNat, Int.reduceEq, itsOf, gdA, byteI, opid, lenQ, ixQ, ldH, readAt, readCells, asCell, faQ, exQ, fldQ, partA, buildQ, slQ, stH, bslH, appH, dcells, convI, elemsOf, D.one, nilS, fillD, convN, T3, T4, T5, T24, T33, T44, T58]) | (with_reducible refine ⟨?_, ?_⟩; (· first | (obtain ⟨rfl⟩ := ‹Hq _ _›; with_reducible refine chk_ok ?_; kernel_rfl) | kernel_rfl)) | (with_reducible intro ops hops)))
  refine Wc_split (fun h => ?_) (fun h => ?_)
  · have h1 : x.length ≠ y.length := by intro e; simp [e] at h
    (repeat (first | (simp -implicitDefEqProofs only [ev1, ev2, ev3, ev4, ev5, mixed, Nat.reduceLT, Nat.reduceAdd, Nat.reduceMul, reduceIte, Nat.reduceEqDiff, reduceCtorEq, Nat.reducePow, Nat.reduceLeDiff, Int.reduceLE, Int.reduceLT, Int.reduceToNat, Int.reduceEq, itsOf, gdA, byteI, opid, lenQ, ixQ, ldH, readAt, readCells, asCell, faQ, exQ, fldQ, partA, buildQ, slQ, stH, bslH, appH, dcells, convI, elemsOf, D.one, nilS, fillD, convN, T3, T4, T5, T24, T33, T44, T58]) | (with_reducible refine ⟨?_, ?_⟩; (· first | (obtain ⟨rfl⟩ := ‹Hq _ _›; with_reducible refine chk_ok ?_; kernel_rfl) | kernel_rfl)) | (with_reducible intro ops hops)))
    refine fin_ret [] rfl ?_
    have : q = false := by
      cases q
      · rfl
      · exact absurd (same_len_pieces hq) h1
    simp [cv, cv1, cv0, upd, this]
  · have h1 : x.length = y.length := by simp at h; omega
    clear h
    (repeat (first | (simp -implicitDefEqProofs only [ev1, ev2, ev3, ev4, ev5, mixed, Nat.reduceLT, Nat.reduceAdd, Nat.reduceMul, reduceIte, Nat.reduceEqDiff, reduceCtorEq, Nat.reducePow, Nat.reduceLeDiff, Int.reduceLE, Int.reduceLT, Int.reduceToNat, Int.reduceEq, itsOf, gdA, byteI, opid, lenQ, ixQ, ldH, readAt, readCells, asCell, faQ, exQ, fldQ, partA, buildQ, slQ, stH, bslH, appH, dcells, convI, elemsOf, D.one, nilS, fillD, convN, T3, T4, T5, T24, T33, T44, T58]) | (with_reducible refine ⟨?_, ?_⟩; (· first | (obtain ⟨rfl⟩ := ‹Hq _ _›; with_reducible refine chk_ok ?_; kernel_rfl) | kernel_rfl)) | (with_reducible intro ops hops)))
    refine W_loopI (ι := Nat) (fun k => k ≤ x.length ∧ piecesSame (x.drop k) (y.drop k) = q)
      (fun k => stOf [(0, .i (.sl (x.map encP))), (1, .i (.sl (y.map encP))), (12, .i (.s (.int .i64 (x.length : Nat)))), (13, .i (.s (.int .i64 (k : Nat))))] []) (fun k => x.length - k) 0 ⟨by simp, by simpa using hq⟩ ?_ ?_
    · refine le_stOf _ _ [] [] ?_ ?_ rfl rfl
      · simp [cv, cv1, cv0, upd, lk, srcOf, h1]
      · simp
    · rintro k ⟨hk, hq'⟩
      rw [stOf_eq]
      (repeat (first | (simp -implicitDefEqProofs only [ev1, ev2, ev3, ev4, ev5, mixed, Nat.reduceLT, Nat.reduceAdd, Nat.reduceMul, reduceIte, Nat.reduceEqDiff, reduceCtorEq, Nat.reducePow, Nat.reduceLeDiff, Int.reduceLE, Int.reduceLT, Int.reduceToNat, Int.reduceEq, itsOf, gdA, byteI, opid, lenQ, ixQ, ldH, readAt, readCells, asCell, faQ, exQ, fldQ, partA, buildQ, slQ, stH, bslH, appH, dcells, convI, elemsOf, D.one, nilS, fillD, convN, T3, T4, T5, T24, T33, T44, T58]) | (with_reducible refine ⟨?_, ?_⟩; (· first | (obtain ⟨rfl⟩ := ‹Hq _ _›; with_reducible refine chk_ok ?_; kernel_rfl) | kernel_rfl)) | (with_reducible intro ops hops)))
      refine Wc_split (fun h => ?_) (fun h => ?_)
      · have h2 : k < x.length := by simp at h; omega
        have h3 : k < y.length := by omega
        clear h
        rw [piecesSame_drop h2 h3] at hq'
        have e1 : x.getD k ⟨0, 0, []⟩ = x[k] := by simp [h2]
        have e2 : y.getD k ⟨0, 0, []⟩ = y[k] := by simp [h3]
        rw [e1, e2] at hq'
        have hpb := hxb _ (List.getElem_mem h2)
        have x1 : (x.map encP)[k]? = some (encP x[k]) := by simp [h2]
        have y1 : (y.map encP)[k]? = some (encP y[k]) := by simp [h3]
        generalize x[k] = p at hq' x1 hpb e1
        generalize y[k] = p' at hq' y1 e2
        rw [encP] at x1 y1
        have w1 : IntKind.i64.wrap ((k : Int) + 1) = ((k + 1 : Nat) : Int) := by rw [wrap64 (by omega) (by omega)]; omega
        have cont : q = (pieceSame p p' && piecesSame (x.drop (k + 1)) (y.drop (k + 1))) := hq'.symm
        cases g1 : decide (p.kind = p'.kind)
        · have hs : q = false := by rw [cont]; simp [pieceSame, g1]
          (repeat (first | (simp -implicitDefEqProofs only [ev1, ev2, ev3, ev4, ev5, mixed, Nat.reduceLT, Nat.reduceAdd, Nat.reduceMul, reduceIte, Nat.reduceEqDiff, reduceCtorEq, Nat.reducePow, Nat.reduceLeDiff, Int.reduceLE, Int.reduceLT, Int.reduceToNat, Int.reduceEq, itsOf, gdA, byteI, opid, lenQ, ixQ, ldH, readAt, readCells, asCell, faQ, exQ, fldQ, partA, buildQ, slQ, stH, bslH, appH, dcells, convI, elemsOf, D.one, nilS, fillD, convN, T3, T4, T5, T24, T33, T44, T58, x1, y1, g1]) | (with_reducible refine ⟨?_, ?_⟩; (· first | (obtain ⟨rfl⟩ := ‹Hq _ _›; with_reducible refine chk_ok ?_; kernel_rfl) | kernel_rfl)) | (with_reducible intro ops hops)))
          refine fin_ret [] rfl ?_
          simp [cv, cv1, cv0, upd, hs]
        · cases g2 : decide (p.kind = 1)
          · have n2 : ¬ p.kind = 1 := by simpa using g2
            cases g4 : decide (p.kind = 2)
            · have n4 : ¬ p.kind = 2 := by simpa using g4
              have hps : pieceSame p p' = true := by simp at g1; rw [g1] at n2 n4; simp [pieceSame, g1, n2, n4]
              (repeat (first | (simp -implicitDefEqProofs only [ev1, ev2, ev3, ev4, ev5, mixed, Nat.reduceLT, Nat.reduceAdd, Nat.reduceMul, reduceIte, Nat.reduceEqDiff, reduceCtorEq, Nat.reducePow, Nat.reduceLeDiff, Int.reduceLE, Int.reduceLT, Int.reduceToNat, Int.reduceEq, itsOf, gdA, byteI, opid, lenQ, ixQ, ldH, readAt, readCells, asCell, faQ, exQ, fldQ, partA, buildQ, slQ, stH, bslH, appH, dcells, convI, elemsOf, D.one, nilS, fillD, convN, T3, T4, T5, T24, T33, T44, T58, x1, y1, g1, g2, g4, w1]) | (with_reducible refine ⟨?_, ?_⟩; (· first | (obtain ⟨rfl⟩ := ‹Hq _ _›; with_reducible refine chk_ok ?_; kernel_rfl) | kernel_rfl)) | (with_reducible intro ops hops)))
              refine ⟨k + 1, ⟨h2, by rw [cont, hps, Bool.true_and]⟩, le_stOf _ _ [] [] ?_ ?_ rfl rfl, ?_⟩
              · simp [cv, cv1, cv0, upd, lk]
              · simp
              · simp; omega
            · have n4 : p.kind = 2 := by simpa using g4
              (repeat (first | (simp -implicitDefEqProofs only [ev1, ev2, ev3, ev4, ev5, mixed, Nat.reduceLT, Nat.reduceAdd, Nat.reduceMul, reduceIte, Nat.reduceEqDiff, reduceCtorEq, Nat.reducePow, Nat.reduceLeDiff, Int.reduceLE, Int.reduceLT, Int.reduceToNat, Int.reduceEq, itsOf, gdA, byteI, opid, lenQ, ixQ, ldH, readAt, readCells, asCell, faQ, exQ, fldQ, partA, buildQ, slQ, stH, bslH, appH, dcells, convI, elemsOf, D.one, nilS, fillD, convN, T3, T4, T5, T24, T33, T44, T58, x1, y1, g1, g2, g4]) | (with_reducible refine ⟨?_, ?_⟩; (· first | (obtain ⟨rfl⟩ := ‹Hq _ _›; with_reducible refine chk_ok ?_; kernel_rfl) | kernel_rfl)) | (with_reducible intro ops hops)))
              refine CallF_flat [] [] [] (same_A p.b p'.b (by omega)) (fun G _ => by simp [cvAs, cvA, cv1, cv0, bI]) rfl ?_
              cases g5 : decide (p.b = p'.b)
              · have hs : q = false := by rw [cont]; simp at g5; simp [pieceSame, n4, g5]
                (repeat (first | (simp -implicitDefEqProofs only [ev1, ev2, ev3, ev4, ev5, mixed, Nat.reduceLT, Nat.reduceAdd, Nat.reduceMul, reduceIte, Nat.reduceEqDiff, reduceCtorEq, Nat.reducePow, Nat.reduceLeDiff, Int.reduceLE, Int.reduceLT, Int.reduceToNat, Int.reduceEq, itsOf, gdA, byteI, opid, lenQ, ixQ, ldH, readAt, readCells, asCell, faQ, exQ, fldQ, partA, buildQ, slQ, stH, bslH, appH, dcells, convI, elemsOf, D.one, nilS, fillD, convN, T3, T4, T5, T24, T33, T44, T58]) | (with_reducible refine ⟨?_, ?_⟩; (· first | (obtain ⟨rfl⟩ := ‹Hq _ _›; with_reducible refine chk_ok ?_; kernel_rfl) | kernel_rfl)) | (with_reducible intro ops hops)))
                refine fin_ret [] rfl ?_
                simp [cv, cv1, cv0, upd, hs]
              · have hps : pieceSame p p' = true := by simp at g5 g1; rw [g1] at n2; simp [pieceSame, g1, g5, n2]
                (repeat (first | (simp -implicitDefEqProofs only [ev1, ev2, ev3, ev4, ev5, mixed, Nat.reduceLT, Nat.reduceAdd, Nat.reduceMul, reduceIte, Nat.reduceEqDiff, reduceCtorEq, Nat.reducePow, Nat.reduceLeDiff, Int.reduceLE, Int.reduceLT, Int.reduceToNat, Int.reduceEq, itsOf, gdA, byteI, opid, lenQ, ixQ, ldH, readAt, readCells, asCell, faQ, exQ, fldQ, partA, buildQ, slQ, stH, bslH, appH, dcells, convI, elemsOf, D.one, nilS, fillD, convN, T3, T4, T5, T24, T33, T44, T58, w1]) | (with_reducible refine ⟨?_, ?_⟩; (· first | (obtain ⟨rfl⟩ := ‹Hq _ _›; with_reducible refine chk_ok ?_; kernel_rfl) | kernel_rfl)) | (with_reducible intro ops hops)))
                refine ⟨k + 1, ⟨h2, by rw [cont, hps, Bool.true_and]⟩, le_stOf _ _ [] [] ?_ ?_ rfl rfl, ?_⟩
                · simp [cv, cv1, cv0, upd, lk]
                · simp
                · simp; omega
          · have n2 : p.kind = 1 := by simpa using g2
            have g4 : decide (p.kind = 2) = false := by rw [n2]; rfl
            cases g3 : decide ((p.n : Int) = (p'.n : Int))
            · have hs : q = false := by
                have e : p.n ≠ p'.n := by simp at g3; omega
                rw [cont]; simp [pieceSame, n2, e]
              (repeat (first | (simp -implicitDefEqProofs only [ev1, ev2, ev3, ev4, ev5, mixed, Nat.reduceLT, Nat.reduceAdd, Nat.reduceMul, reduceIte, Nat.reduceEqDiff, reduceCtorEq, Nat.reducePow, Nat.reduceLeDiff, Int.reduceLE, Int.reduceLT, Int.reduceToNat, Int.reduceEq, itsOf, gdA, byteI, opid, lenQ, ixQ, ldH, readAt, readCells, asCell, faQ, exQ, fldQ, partA, buildQ, slQ, stH, bslH, appH, dcells, convI, elemsOf, D.one, nilS, fillD, convN, T3, T4, T5, T24, T33, T44, T58, x1, y1, g1, g2, g3]) | (with_reducible refine ⟨?_, ?_⟩; (· first | (obtain ⟨rfl⟩ := ‹Hq _ _›; with_reducible refine chk_ok ?_; kernel_rfl) | kernel_rfl)) | (with_reducible intro ops hops)))
              refine fin_ret [] rfl ?_
              simp [cv, cv1, cv0, upd, hs]
            · have hps : pieceSame p p' = true := by
                have e : p.n = p'.n := by simp at g3; omega
                have e1 : p.kind = p'.kind := by simpa using g1
                simp [pieceSame, e, ← e1, n2]
              (repeat (first | (simp -implicitDefEqProofs only [ev1, ev2, ev3, ev4, ev5, mixed, Nat.reduceLT, Nat.reduceAdd, Nat.reduceMul, reduceIte, Nat.reduceEqDiff, reduceCtorEq, Nat.reducePow, Nat.reduceLeDiff, Int.reduceLE, Int.reduceLT, Int.reduceToNat, Int.reduceEq, itsOf, gdA, byteI, opid, lenQ, ixQ, ldH, readAt, readCells, asCell, faQ, exQ, fldQ, partA, buildQ, slQ, stH, bslH, appH, dcells, convI, elemsOf, D.one, nilS, fillD, convN, T3, T4, T5, T24, T33, T44, T58, x1, y1, g1, g2, g3, g4, w1]) | (with_reducible refine ⟨?_, ?_⟩; (· first | (obtain ⟨rfl⟩ := ‹Hq _ _›; with_reducible refine chk_ok ?_; kernel_rfl) | kernel_rfl)) | (with_reducible intro ops hops)))
              refine ⟨k + 1, ⟨h2, by rw [cont, hps, Bool.true_and]⟩, le_stOf _ _ [] [] ?_ ?_ rfl rfl, ?_⟩
              · simp [cv, cv1, cv0, upd, lk]
              · simp
              · simp; omega
      · have h2 : k = x.length := by simp at h; omega
        subst h2
        have hs : q = true := by rw [← hq', List.drop_length, List.drop_eq_nil_of_le (by omega)]; rfl
        (repeat (first | (simp -implicitDefEqProofs only [ev1, ev2, ev3, ev4, ev5, mixed, Nat.reduceLT, Nat.reduceAdd, Nat.reduceMul, reduceIte, Nat.reduceEqDiff, reduceCtorEq, Nat.reducePow, Nat.reduceLeDiff, Int.reduceLE, Int.reduceLT, Int.reduceToNat, Int.reduceEq, itsOf, gdA, byteI, opid, lenQ, ixQ, ldH, readAt, readCells, asCell, faQ, exQ, fldQ, partA, buildQ, slQ, stH, bslH, appH, dcells, convI, elemsOf, D.one, nilS, fillD, convN, T3, T4, T5, T24, T33, T44, T58]) | (with_reducible refine ⟨?_, ?_⟩; (· first | (obtain ⟨rfl⟩ := ‹Hq _ _›; with_reducible refine chk_ok ?_; kernel_rfl) | kernel_rfl)) | (with_reducible intro ops hops)))
        refine fin_ret [] rfl ?_
        simp [cv, cv1, cv0, upd, hs]
end Go.Proofs.Ytbclmpdgkeoioaa
