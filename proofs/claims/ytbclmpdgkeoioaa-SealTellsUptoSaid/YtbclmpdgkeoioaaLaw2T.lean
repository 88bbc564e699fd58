/- The law SealTells. -/
import Derived.Test.YtbclmpdgkeoioaaLaw2
import Derived.Test.YtbclmpdgkeoioaaR2C
set_option linter.all false
namespace Go.Proofs.Ytbclmpdgkeoioaa
open Go Go.Abs Go.RowKit Go.Proofs.Ytbclmpdgkeoioaa.Ty

theorem dec_Seal {e : List I} (h : HasCs [.int .u64, .int .u64] e) : ∃ p : Nat × Nat, e = [.s (.int .u64 (p.1 : Int)), .s (.int .u64 (p.2 : Int))] ∧ p.1 < 18446744073709551616 ∧ p.2 < 18446744073709551616 := by
  obtain ⟨x, _, rfl, hx, h⟩ := hasCs_cons h
  obtain ⟨y, _, rfl, hy, h⟩ := hasCs_cons h
  obtain rfl := hasCs_nil h
  obtain ⟨a, rfl, ha⟩ := dec_u64 hx
  obtain ⟨b, rfl, hb⟩ := dec_u64 hy
  exact ⟨(a, b), rfl, ha, hb⟩
set_option maxHeartbeats 2000000
theorem walk_SealTells (y0 : I) (seed : List UInt8) (e0 : y0 = bI seed) (y1 : I) (m : List UInt8) (e1 : y1 = bI m) (y2 : I) (key : Nat) (e2 : y2 = .s (.int .u64 (key : Int)) ∧ key < 18446744073709551616)
    (y3 : List I) (s : Nat × Nat) (e3 : y3 = [.s (.int .u64 (s.1 : Int)), .s (.int .u64 (s.2 : Int))] ∧ s.1 < 18446744073709551616 ∧ s.2 < 18446744073709551616) (hb : bkI y0 + bkI y1 ≤ 1048576) :
    ∃ Ds, PureD Try.prog 13 Ds (.i (.s (.bool true))) ∧ Ds = [.i y0, .i y1, .i y2, .agg (y3.map .i)] := by
  subst e0; subst e1
  obtain ⟨rfl, hk⟩ := e2
  obtain ⟨rfl, hr, hs⟩ := e3
  rw [bk_B, bk_B] at hb
  refine ⟨_, ?_, rfl⟩
  have h1 := key_A seed (by omega)
  have h2 := rkey_A seed (by omega)
  have h3 := sign_A seed m (by omega) (by omega)
  have h4 := rsign_A seed m (by omega) (by omega)
  have h5 := good_A key m s.1 s.2 hk hr hs (by omega)
  have h6 := rgood_A key m s.1 s.2 hk hr hs (by omega)
  generalize keyF seed = K at *
  generalize sigR seed m = R at *
  generalize sigS seed m = S at *
  generalize goodF key m s.1 s.2 = G at *
  have gb : (G == G) = true := by cases G <;> rfl
  obtain ⟨r, s⟩ := s
  simp only at *
  refine callD_W 34 Try.func13 rfl rfl rfl (fun _ _ => rfl) ?_
  (repeat (first | (simp -implicitDefEqProofs only [ev1, ev2, ev3, ev4, ev5, mixed, Nat.reduceLT, Nat.reduceAdd, Nat.reduceMul, reduceIte, Nat.reduceEqDiff, reduceCtorEq, Nat.reducePow, Nat.reduceLeDiff, Int.reduceLE, Int.reduceLT, Int.reduceToNat, Int.reduceEq, itsOf, gdA, byteI, opid, lenQ, ixQ, ldH, readAt, readCells, asCell, faQ, exQ, fldQ, partA, buildQ, slQ, stH, bslH, appH, dcells, convI, elemsOf, D.one, nilS, fillD, convN, cvH, List.contains_nil, List.contains_cons, Nat.reduceBEq, Bool.or_self, Bool.or_false, T4, T5, T24, T44, T47, bI, List.map_cons, List.map_nil]) | (with_reducible refine ⟨?_, ?_⟩; (· first | (obtain ⟨rfl⟩ := ‹Hq _ _›; with_reducible refine chk_ok ?_; kernel_rfl) | kernel_rfl)) | (with_reducible intro ops hops)))
  (first | refine Call_flat [] [] (h1) (by simp [cvAs, cvA, cv1, cvL, cv0, bI, byteI, u64D, sealD, elemsOf, upd]) rfl ?_ | refine CallF_flat [] [] [] (h1) (fun G _ => by simp [cvAs, cvA, cv1, cvL, cv0, bI, byteI, u64D, sealD, elemsOf, upd]) rfl ?_)
  (repeat (first | (simp -implicitDefEqProofs only [ev1, ev2, ev3, ev4, ev5, mixed, Nat.reduceLT, Nat.reduceAdd, Nat.reduceMul, reduceIte, Nat.reduceEqDiff, reduceCtorEq, Nat.reducePow, Nat.reduceLeDiff, Int.reduceLE, Int.reduceLT, Int.reduceToNat, Int.reduceEq, itsOf, gdA, byteI, opid, lenQ, ixQ, ldH, readAt, readCells, asCell, faQ, exQ, fldQ, partA, buildQ, slQ, stH, bslH, appH, dcells, convI, elemsOf, D.one, nilS, fillD, convN, cvH, List.contains_nil, List.contains_cons, Nat.reduceBEq, Bool.or_self, Bool.or_false, T4, T5, T24, T44, T47, bI, u64D]) | (with_reducible refine ⟨?_, ?_⟩; (· first | (obtain ⟨rfl⟩ := ‹Hq _ _›; with_reducible refine chk_ok ?_; kernel_rfl) | kernel_rfl)) | (with_reducible intro ops hops)))
  (first | refine Call_frz [] (h2) (by simp [cvAs, cvA, cv1, cvL, cv0, bI, byteI, u64D, sealD, elemsOf, upd]) ?_ | refine CallF_frz [] [] (h2) (fun G _ => by simp [cvAs, cvA, cv1, cvL, cv0, bI, byteI, u64D, sealD, elemsOf, upd]) (by simp) ?_)
  (repeat (first | (simp -implicitDefEqProofs only [ev1, ev2, ev3, ev4, ev5, mixed, Nat.reduceLT, Nat.reduceAdd, Nat.reduceMul, reduceIte, Nat.reduceEqDiff, reduceCtorEq, Nat.reducePow, Nat.reduceLeDiff, Int.reduceLE, Int.reduceLT, Int.reduceToNat, Int.reduceEq, itsOf, gdA, byteI, opid, lenQ, ixQ, ldH, readAt, readCells, asCell, faQ, exQ, fldQ, partA, buildQ, slQ, stH, bslH, appH, dcells, convI, elemsOf, D.one, nilS, fillD, convN, cvH, List.contains_nil, List.contains_cons, Nat.reduceBEq, Bool.or_self, Bool.or_false, T4, T5, T24, T44, T47, bI, u64D]) | (with_reducible refine ⟨?_, ?_⟩; (· first | (obtain ⟨rfl⟩ := ‹Hq _ _›; with_reducible refine chk_ok ?_; kernel_rfl) | kernel_rfl)) | (with_reducible intro ops hops)))
  (first | refine Call_flat [] [] (h3) (by simp [cvAs, cvA, cv1, cvL, cv0, bI, byteI, u64D, sealD, elemsOf, upd]) rfl ?_ | refine CallF_flat [] [] [] (h3) (fun G _ => by simp [cvAs, cvA, cv1, cvL, cv0, bI, byteI, u64D, sealD, elemsOf, upd]) rfl ?_)
  (repeat (first | (simp -implicitDefEqProofs only [ev1, ev2, ev3, ev4, ev5, mixed, Nat.reduceLT, Nat.reduceAdd, Nat.reduceMul, reduceIte, Nat.reduceEqDiff, reduceCtorEq, Nat.reducePow, Nat.reduceLeDiff, Int.reduceLE, Int.reduceLT, Int.reduceToNat, Int.reduceEq, itsOf, gdA, byteI, opid, lenQ, ixQ, ldH, readAt, readCells, asCell, faQ, exQ, fldQ, partA, buildQ, slQ, stH, bslH, appH, dcells, convI, elemsOf, D.one, nilS, fillD, convN, cvH, List.contains_nil, List.contains_cons, Nat.reduceBEq, Bool.or_self, Bool.or_false, T4, T5, T24, T44, T47, bI, u64D, sealD]) | (with_reducible refine ⟨?_, ?_⟩; (· first | (obtain ⟨rfl⟩ := ‹Hq _ _›; with_reducible refine chk_ok ?_; kernel_rfl) | kernel_rfl)) | (with_reducible intro ops hops)))
  (first | refine Call_frz [] (h4) (by simp [cvAs, cvA, cv1, cvL, cv0, bI, byteI, u64D, sealD, elemsOf, upd]) ?_ | refine CallF_frz [] [] (h4) (fun G _ => by simp [cvAs, cvA, cv1, cvL, cv0, bI, byteI, u64D, sealD, elemsOf, upd]) (by simp) ?_)
  (repeat (first | (simp -implicitDefEqProofs only [ev1, ev2, ev3, ev4, ev5, mixed, Nat.reduceLT, Nat.reduceAdd, Nat.reduceMul, reduceIte, Nat.reduceEqDiff, reduceCtorEq, Nat.reducePow, Nat.reduceLeDiff, Int.reduceLE, Int.reduceLT, Int.reduceToNat, Int.reduceEq, itsOf, gdA, byteI, opid, lenQ, ixQ, ldH, readAt, readCells, asCell, faQ, exQ, fldQ, partA, buildQ, slQ, stH, bslH, appH, dcells, convI, elemsOf, D.one, nilS, fillD, convN, cvH, List.contains_nil, List.contains_cons, Nat.reduceBEq, Bool.or_self, Bool.or_false, T4, T5, T24, T44, T47, bI, u64D, sealD]) | (with_reducible refine ⟨?_, ?_⟩; (· first | (obtain ⟨rfl⟩ := ‹Hq _ _›; with_reducible refine chk_ok ?_; kernel_rfl) | kernel_rfl)) | (with_reducible intro ops hops)))
  (first | refine Call_flat [] [] (h5) (by simp [cvAs, cvA, cv1, cvL, cv0, bI, byteI, u64D, sealD, elemsOf, upd]) rfl ?_ | refine CallF_flat [] [] [] (h5) (fun G _ => by simp [cvAs, cvA, cv1, cvL, cv0, bI, byteI, u64D, sealD, elemsOf, upd]) rfl ?_)
  (repeat (first | (simp -implicitDefEqProofs only [ev1, ev2, ev3, ev4, ev5, mixed, Nat.reduceLT, Nat.reduceAdd, Nat.reduceMul, reduceIte, Nat.reduceEqDiff, reduceCtorEq, Nat.reducePow, Nat.reduceLeDiff, Int.reduceLE, Int.reduceLT, Int.reduceToNat, Int.reduceEq, itsOf, gdA, byteI, opid, lenQ, ixQ, ldH, readAt, readCells, asCell, faQ, exQ, fldQ, partA, buildQ, slQ, stH, bslH, appH, dcells, convI, elemsOf, D.one, nilS, fillD, convN, cvH, List.contains_nil, List.contains_cons, Nat.reduceBEq, Bool.or_self, Bool.or_false, T4, T5, T24, T44, T47, bI, u64D, sealD]) | (with_reducible refine ⟨?_, ?_⟩; (· first | (obtain ⟨rfl⟩ := ‹Hq _ _›; with_reducible refine chk_ok ?_; kernel_rfl) | kernel_rfl)) | (with_reducible intro ops hops)))
  (first | refine Call_frz [] (h6) (by simp [cvAs, cvA, cv1, cvL, cv0, bI, byteI, u64D, sealD, elemsOf, upd]) ?_ | refine CallF_frz [] [] (h6) (fun G _ => by simp [cvAs, cvA, cv1, cvL, cv0, bI, byteI, u64D, sealD, elemsOf, upd]) (by simp) ?_)
  (repeat (first | (simp -implicitDefEqProofs only [ev1, ev2, ev3, ev4, ev5, mixed, Nat.reduceLT, Nat.reduceAdd, Nat.reduceMul, reduceIte, Nat.reduceEqDiff, reduceCtorEq, Nat.reducePow, Nat.reduceLeDiff, Int.reduceLE, Int.reduceLT, Int.reduceToNat, Int.reduceEq, itsOf, gdA, byteI, opid, lenQ, ixQ, ldH, readAt, readCells, asCell, faQ, exQ, fldQ, partA, buildQ, slQ, stH, bslH, appH, dcells, convI, elemsOf, D.one, nilS, fillD, convN, cvH, List.contains_nil, List.contains_cons, Nat.reduceBEq, Bool.or_self, Bool.or_false, T4, T5, T24, T44, T47, gb]) | (with_reducible refine ⟨?_, ?_⟩; (· first | (obtain ⟨rfl⟩ := ‹Hq _ _›; with_reducible refine chk_ok ?_; kernel_rfl) | kernel_rfl)) | (with_reducible intro ops hops)))
  refine fin_ret [] rfl ?_
  simp [cv, cv1, cv0, upd]
end Go.Proofs.Ytbclmpdgkeoioaa
