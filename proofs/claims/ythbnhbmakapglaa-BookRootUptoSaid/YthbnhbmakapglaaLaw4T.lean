/- BookTells: by-value contract. -/
import Derived.Test.YthbnhbmakapglaaBookS
import Derived.Test.YthbnhbmakapglaaAbs4
set_option linter.all false
namespace Go.Proofs.Ythbnhbmakapglaa
open Go Go.Abs Go.RowKit Go.Proofs.Ythbnhbmakapglaa.Ty

theorem dec_Pair {e : List I} (h : HasCs [.sl [.int .u8], .sl [.int .u8]] e) : ∃ p : PairD, e = encPr p ∧ True := by
  obtain ⟨x, _, rfl, hx, h⟩ := hasCs_cons h
  obtain ⟨y, _, rfl, hy, h⟩ := hasCs_cons h
  obtain rfl := hasCs_nil h
  obtain ⟨a, rfl⟩ := dec_B hx
  obtain ⟨b, rfl⟩ := dec_B hy
  exact ⟨⟨a, b⟩, rfl, trivial⟩
theorem dec_Pairs {x : I} (h : HasC (.sl [.sl [.int .u8], .sl [.int .u8]]) x) : ∃ l : List PairD, x = psI l := by
  obtain ⟨l, h1, _⟩ := dec_list (fun _ he => dec_Pair he) h
  exact ⟨l, h1⟩
theorem pairs_small {l : List PairD} {n : Nat} (h : bkI (psI l) ≤ n) : l.length ≤ n ∧ ∀ p ∈ l, p.k.length ≤ n ∧ p.v.length ≤ n := by
  refine ⟨Nat.le_trans (bk_len _ _) h, fun p hp => ?_⟩
  have := bk_mem encPr hp
  simp only [encPr, bkL, bk_B, psI] at this h
  omega
theorem dec_Do {e : List I} (h : HasCs [.sl [.int .u8], .sl [.int .u8], .bool] e) : ∃ d : DoD, e = encDo d ∧ True := by
  obtain ⟨x, _, rfl, hx, h⟩ := hasCs_cons h
  obtain ⟨y, _, rfl, hy, h⟩ := hasCs_cons h
  obtain ⟨z, _, rfl, hz, h⟩ := hasCs_cons h
  obtain rfl := hasCs_nil h
  obtain ⟨a, rfl⟩ := dec_B hx
  obtain ⟨b, rfl⟩ := dec_B hy
  obtain ⟨c, rfl⟩ := dec_bool hz
  exact ⟨⟨a, b, c⟩, rfl, trivial⟩
theorem dec_Doing {e : List I} (h : HasCs [.sl [.int .u8], .sl [.int .u8], .bool] e) : ∃ d : DoD, e = encDo d := by
  obtain ⟨d, h1, _⟩ := dec_Do h
  exact ⟨d, h1⟩
theorem dec_Doings {x : I} (h : HasC (.sl [.sl [.int .u8], .sl [.int .u8], .bool]) x) : ∃ l : List DoD, x = doI l := by
  obtain ⟨l, h1, _⟩ := dec_list (fun _ he => dec_Do he) h
  exact ⟨l, h1⟩
theorem doings_small {l : List DoD} {n : Nat} (h : bkI (doI l) ≤ n) : l.length ≤ n ∧ ∀ p ∈ l, p.k.length ≤ n ∧ p.v.length ≤ n := by
  refine ⟨Nat.le_trans (bk_len _ _) h, fun p hp => ?_⟩
  have := bk_mem encDo hp
  simp only [encDo, bkL, bk_B, doI] at this h
  omega
set_option maxHeartbeats 4000000
theorem walk_BookTells (y0 : I) (ds : List DoD) (e0 : y0 = doI ds) (y1 : I) (b : List PairD) (e1 : y1 = psI b) (y2 : I) (key : List UInt8) (e2 : y2 = bI key) (hb : bkI y0 + bkI y1 + bkI y2 ≤ 1048576) :
    ∃ Ds, PureD Try.prog 12 Ds (.i (.s (.bool true))) ∧ Ds = [.i y0, .i y1, .i y2] := by
  subst e0 e1 e2
  refine ⟨_, ?_, rfl⟩
  have hds := doings_small (l := ds) (n := 1048576) (by omega)
  have hps := pairs_small (l := b) (n := 1048576) (by omega)
  have hp := play_A ds (by omega) hds.2
  have hrp := rplay_A ds (by omega)
  have hright := play_right ds [] 0 right_nil
  generalize playGo [] 0 ds = X at *
  have hsm := rsame_A X.1 (by have := hright.len; omega) (fun p hp => by have := hright.big p hp; omega)
  have hw := wrong_A b hps.1
  have hrw := rwrong_A b hps.1 (fun p hp => (hps.2 p hp).1)
  have hrt := root_B b hps.1
  have hrr := rroot_A b hps.1 hps.2
  have hrl : (rootR b).length ≤ 1048576 := by unfold rootR; split; rw [rootF, topF, sha_length]; decide; simp
  have hss := same_A (rootR b) (rootR b) (by omega)
  rw [decide_eq_true rfl] at hss
  generalize rootR b = R at *
  obtain ⟨xl, xe, xi⟩ := X
  simp only at *
  by_cases h0 : (wrongF b).1 = 0
  · have hr := right_of h0
    have hz := wrong_zero h0
    have hg := get_A b key hr
    have hrg := rget_A b key hps.1 (fun p hp => (hps.2 p hp).1) (srt_of hr)
    have hgl : (getF b key).1.length ≤ 1048576 := by
      unfold getF; split
      · split
        · rename_i h1 _; have := (hr.big _ (List.getElem_mem h1)).2; show (b[placeF b key].v).length ≤ _; omega
        · simp
      · simp
    have hgs := same_A (getF b key).1 (getF b key).1 (by omega)
    rw [decide_eq_true rfl] at hgs
    rw [hz] at hw hrw hrt hrr
    generalize getF b key = V at *
    obtain ⟨v, ok⟩ := V
    simp only at *
    cases ok <;>
    (refine callD_W 85 Try.func12 rfl rfl rfl (fun _ _ => rfl) ?_
     (repeat (first | (simp -implicitDefEqProofs only [ev1, ev2, ev3, ev4, ev5, ev6, mixed, Nat.reduceLT, Nat.reduceAdd, Nat.reduceMul, reduceIte, Nat.reduceEqDiff, reduceCtorEq, Nat.reducePow, Nat.reduceLeDiff, Int.reduceLE, Int.reduceLT, Int.reduceToNat, Int.reduceEq, Nat.reduceBEq, itsOf, gdA, byteI, opid, lenQ, ixQ, ldH, readAt, readCells, asCell, faQ, exQ, fldQ, partA, buildQ, slQ, stH, bslH, appH, dcells, convI, elemsOf, D.one, nilS, fillD, convN, cvH, T3, T4, T5, T22, T23, T28, T33, T52, T55, T57, psI, doI]) | (with_reducible refine ⟨?_, ?_⟩; (· first | (obtain ⟨rfl⟩ := ‹Hq _ _›; with_reducible refine chk_ok ?_; kernel_rfl) | kernel_rfl)) | (with_reducible intro ops hops)))
     (first | refine Call_frz [] (hp) (by simp [cvAs, cvA, cv1, cvL, cv0, bI, byteI, encPr, psI, intD, boolD, fltD, doI, elemsOf, upd]) ?_ | refine CallF_frz [] [] (hp) (fun G _ => by simp [cvAs, cvA, cv1, cvL, cv0, bI, byteI, encPr, psI, intD, boolD, fltD, doI, elemsOf, upd]) (by simp) ?_)
     (repeat (first | (simp -implicitDefEqProofs only [ev1, ev2, ev3, ev4, ev5, ev6, mixed, Nat.reduceLT, Nat.reduceAdd, Nat.reduceMul, reduceIte, Nat.reduceEqDiff, reduceCtorEq, Nat.reducePow, Nat.reduceLeDiff, Int.reduceLE, Int.reduceLT, Int.reduceToNat, Int.reduceEq, Nat.reduceBEq, itsOf, gdA, byteI, opid, lenQ, ixQ, ldH, readAt, readCells, asCell, faQ, exQ, fldQ, partA, buildQ, slQ, stH, bslH, appH, dcells, convI, elemsOf, D.one, nilS, fillD, convN, cvH, T3, T4, T5, T22, T23, T28, T33, T52, T55, T57, psI, doI, fltD, intD]) | (with_reducible refine ⟨?_, ?_⟩; (· first | (obtain ⟨rfl⟩ := ‹Hq _ _›; with_reducible refine chk_ok ?_; kernel_rfl) | kernel_rfl)) | (with_reducible intro ops hops)))
     (first | refine Call_frz [] (hrp) (by simp [cvAs, cvA, cv1, cvL, cv0, bI, byteI, encPr, psI, intD, boolD, fltD, doI, elemsOf, upd]) ?_ | refine CallF_frz [] [] (hrp) (fun G _ => by simp [cvAs, cvA, cv1, cvL, cv0, bI, byteI, encPr, psI, intD, boolD, fltD, doI, elemsOf, upd]) (by simp) ?_)
     (repeat (first | (simp -implicitDefEqProofs only [ev1, ev2, ev3, ev4, ev5, ev6, mixed, Nat.reduceLT, Nat.reduceAdd, Nat.reduceMul, reduceIte, Nat.reduceEqDiff, reduceCtorEq, Nat.reducePow, Nat.reduceLeDiff, Int.reduceLE, Int.reduceLT, Int.reduceToNat, Int.reduceEq, Nat.reduceBEq, itsOf, gdA, byteI, opid, lenQ, ixQ, ldH, readAt, readCells, asCell, faQ, exQ, fldQ, partA, buildQ, slQ, stH, bslH, appH, dcells, convI, elemsOf, D.one, nilS, fillD, convN, cvH, T3, T4, T5, T22, T23, T28, T33, T52, T55, T57, psI, doI, fltD, intD]) | (with_reducible refine ⟨?_, ?_⟩; (· first | (obtain ⟨rfl⟩ := ‹Hq _ _›; with_reducible refine chk_ok ?_; kernel_rfl) | kernel_rfl)) | (with_reducible intro ops hops)))
     (first | refine Call_flat [] [] (hsm) (by simp [cvAs, cvA, cv1, cvL, cv0, bI, byteI, encPr, psI, intD, boolD, fltD, doI, elemsOf, upd]) rfl ?_ | refine CallF_flat [] [] [] (hsm) (fun G _ => by simp [cvAs, cvA, cv1, cvL, cv0, bI, byteI, encPr, psI, intD, boolD, fltD, doI, elemsOf, upd]) rfl ?_)
     (repeat (first | (simp -implicitDefEqProofs only [ev1, ev2, ev3, ev4, ev5, ev6, mixed, Nat.reduceLT, Nat.reduceAdd, Nat.reduceMul, reduceIte, Nat.reduceEqDiff, reduceCtorEq, Nat.reducePow, Nat.reduceLeDiff, Int.reduceLE, Int.reduceLT, Int.reduceToNat, Int.reduceEq, Nat.reduceBEq, itsOf, gdA, byteI, opid, lenQ, ixQ, ldH, readAt, readCells, asCell, faQ, exQ, fldQ, partA, buildQ, slQ, stH, bslH, appH, dcells, convI, elemsOf, D.one, nilS, fillD, convN, cvH, T3, T4, T5, T22, T23, T28, T33, T52, T55, T57, psI, doI, fltD, intD, boolD]) | (with_reducible refine ⟨?_, ?_⟩; (· first | (obtain ⟨rfl⟩ := ‹Hq _ _›; with_reducible refine chk_ok ?_; kernel_rfl) | kernel_rfl)) | (with_reducible intro ops hops)))
     (first | refine Call_flat [] [] (hw) (by simp [cvAs, cvA, cv1, cvL, cv0, bI, byteI, encPr, psI, intD, boolD, fltD, doI, elemsOf, upd]) rfl ?_ | refine CallF_flat [] [] [] (hw) (fun G _ => by simp [cvAs, cvA, cv1, cvL, cv0, bI, byteI, encPr, psI, intD, boolD, fltD, doI, elemsOf, upd]) rfl ?_)
     (repeat (first | (simp -implicitDefEqProofs only [ev1, ev2, ev3, ev4, ev5, ev6, mixed, Nat.reduceLT, Nat.reduceAdd, Nat.reduceMul, reduceIte, Nat.reduceEqDiff, reduceCtorEq, Nat.reducePow, Nat.reduceLeDiff, Int.reduceLE, Int.reduceLT, Int.reduceToNat, Int.reduceEq, Nat.reduceBEq, itsOf, gdA, byteI, opid, lenQ, ixQ, ldH, readAt, readCells, asCell, faQ, exQ, fldQ, partA, buildQ, slQ, stH, bslH, appH, dcells, convI, elemsOf, D.one, nilS, fillD, convN, cvH, T3, T4, T5, T22, T23, T28, T33, T52, T55, T57, psI, doI, fltD, intD, boolD]) | (with_reducible refine ⟨?_, ?_⟩; (· first | (obtain ⟨rfl⟩ := ‹Hq _ _›; with_reducible refine chk_ok ?_; kernel_rfl) | kernel_rfl)) | (with_reducible intro ops hops)))
     (first | refine Call_flat [] [] (hrw) (by simp [cvAs, cvA, cv1, cvL, cv0, bI, byteI, encPr, psI, intD, boolD, fltD, doI, elemsOf, upd]) rfl ?_ | refine CallF_flat [] [] [] (hrw) (fun G _ => by simp [cvAs, cvA, cv1, cvL, cv0, bI, byteI, encPr, psI, intD, boolD, fltD, doI, elemsOf, upd]) rfl ?_)
     (repeat (first | (simp -implicitDefEqProofs only [ev1, ev2, ev3, ev4, ev5, ev6, mixed, Nat.reduceLT, Nat.reduceAdd, Nat.reduceMul, reduceIte, Nat.reduceEqDiff, reduceCtorEq, Nat.reducePow, Nat.reduceLeDiff, Int.reduceLE, Int.reduceLT, Int.reduceToNat, Int.reduceEq, Nat.reduceBEq, itsOf, gdA, byteI, opid, lenQ, ixQ, ldH, readAt, readCells, asCell, faQ, exQ, fldQ, partA, buildQ, slQ, stH, bslH, appH, dcells, convI, elemsOf, D.one, nilS, fillD, convN, cvH, T3, T4, T5, T22, T23, T28, T33, T52, T55, T57, psI, doI, fltD, intD, boolD]) | (with_reducible refine ⟨?_, ?_⟩; (· first | (obtain ⟨rfl⟩ := ‹Hq _ _›; with_reducible refine chk_ok ?_; kernel_rfl) | kernel_rfl)) | (with_reducible intro ops hops)))
     (first | refine Call_frz [] (hrt) (by simp [cvAs, cvA, cv1, cvL, cv0, bI, byteI, encPr, psI, intD, boolD, fltD, doI, elemsOf, upd]) ?_ | refine CallF_frz [] [] (hrt) (fun G _ => by simp [cvAs, cvA, cv1, cvL, cv0, bI, byteI, encPr, psI, intD, boolD, fltD, doI, elemsOf, upd]) (by simp) ?_)
     (repeat (first | (simp -implicitDefEqProofs only [ev1, ev2, ev3, ev4, ev5, ev6, mixed, Nat.reduceLT, Nat.reduceAdd, Nat.reduceMul, reduceIte, Nat.reduceEqDiff, reduceCtorEq, Nat.reducePow, Nat.reduceLeDiff, Int.reduceLE, Int.reduceLT, Int.reduceToNat, Int.reduceEq, Nat.reduceBEq, itsOf, gdA, byteI, opid, lenQ, ixQ, ldH, readAt, readCells, asCell, faQ, exQ, fldQ, partA, buildQ, slQ, stH, bslH, appH, dcells, convI, elemsOf, D.one, nilS, fillD, convN, cvH, T3, T4, T5, T22, T23, T28, T33, T52, T55, T57, psI, doI, fltD, intD, boolD]) | (with_reducible refine ⟨?_, ?_⟩; (· first | (obtain ⟨rfl⟩ := ‹Hq _ _›; with_reducible refine chk_ok ?_; kernel_rfl) | kernel_rfl)) | (with_reducible intro ops hops)))
     (first | refine Call_frz [] (hrr) (by simp [cvAs, cvA, cv1, cvL, cv0, bI, byteI, encPr, psI, intD, boolD, fltD, doI, elemsOf, upd]) ?_ | refine CallF_frz [] [] (hrr) (fun G _ => by simp [cvAs, cvA, cv1, cvL, cv0, bI, byteI, encPr, psI, intD, boolD, fltD, doI, elemsOf, upd]) (by simp) ?_)
     (repeat (first | (simp -implicitDefEqProofs only [ev1, ev2, ev3, ev4, ev5, ev6, mixed, Nat.reduceLT, Nat.reduceAdd, Nat.reduceMul, reduceIte, Nat.reduceEqDiff, reduceCtorEq, Nat.reducePow, Nat.reduceLeDiff, Int.reduceLE, Int.reduceLT, Int.reduceToNat, Int.reduceEq, Nat.reduceBEq, itsOf, gdA, byteI, opid, lenQ, ixQ, ldH, readAt, readCells, asCell, faQ, exQ, fldQ, partA, buildQ, slQ, stH, bslH, appH, dcells, convI, elemsOf, D.one, nilS, fillD, convN, cvH, T3, T4, T5, T22, T23, T28, T33, T52, T55, T57, psI, doI, fltD, intD, boolD]) | (with_reducible refine ⟨?_, ?_⟩; (· first | (obtain ⟨rfl⟩ := ‹Hq _ _›; with_reducible refine chk_ok ?_; kernel_rfl) | kernel_rfl)) | (with_reducible intro ops hops)))
     (first | refine Call_flat [] [] (hss) (by simp [cvAs, cvA, cv1, cvL, cv0, bI, byteI, encPr, psI, intD, boolD, fltD, doI, elemsOf, upd]) rfl ?_ | refine CallF_flat [] [] [] (hss) (fun G _ => by simp [cvAs, cvA, cv1, cvL, cv0, bI, byteI, encPr, psI, intD, boolD, fltD, doI, elemsOf, upd]) rfl ?_)
     (repeat (first | (simp -implicitDefEqProofs only [ev1, ev2, ev3, ev4, ev5, ev6, mixed, Nat.reduceLT, Nat.reduceAdd, Nat.reduceMul, reduceIte, Nat.reduceEqDiff, reduceCtorEq, Nat.reducePow, Nat.reduceLeDiff, Int.reduceLE, Int.reduceLT, Int.reduceToNat, Int.reduceEq, Nat.reduceBEq, itsOf, gdA, byteI, opid, lenQ, ixQ, ldH, readAt, readCells, asCell, faQ, exQ, fldQ, partA, buildQ, slQ, stH, bslH, appH, dcells, convI, elemsOf, D.one, nilS, fillD, convN, cvH, T3, T4, T5, T22, T23, T28, T33, T52, T55, T57, psI, doI, fltD, intD, boolD]) | (with_reducible refine ⟨?_, ?_⟩; (· first | (obtain ⟨rfl⟩ := ‹Hq _ _›; with_reducible refine chk_ok ?_; kernel_rfl) | kernel_rfl)) | (with_reducible intro ops hops)))
     (first | refine Call_frz [] (hg) (by simp [cvAs, cvA, cv1, cvL, cv0, bI, byteI, encPr, psI, intD, boolD, fltD, doI, elemsOf, upd]) ?_ | refine CallF_frz [] [] (hg) (fun G _ => by simp [cvAs, cvA, cv1, cvL, cv0, bI, byteI, encPr, psI, intD, boolD, fltD, doI, elemsOf, upd]) (by simp) ?_)
     (repeat (first | (simp -implicitDefEqProofs only [ev1, ev2, ev3, ev4, ev5, ev6, mixed, Nat.reduceLT, Nat.reduceAdd, Nat.reduceMul, reduceIte, Nat.reduceEqDiff, reduceCtorEq, Nat.reducePow, Nat.reduceLeDiff, Int.reduceLE, Int.reduceLT, Int.reduceToNat, Int.reduceEq, Nat.reduceBEq, itsOf, gdA, byteI, opid, lenQ, ixQ, ldH, readAt, readCells, asCell, faQ, exQ, fldQ, partA, buildQ, slQ, stH, bslH, appH, dcells, convI, elemsOf, D.one, nilS, fillD, convN, cvH, T3, T4, T5, T22, T23, T28, T33, T52, T55, T57, psI, doI, fltD, intD, boolD]) | (with_reducible refine ⟨?_, ?_⟩; (· first | (obtain ⟨rfl⟩ := ‹Hq _ _›; with_reducible refine chk_ok ?_; kernel_rfl) | kernel_rfl)) | (with_reducible intro ops hops)))
     (first | refine Call_frz [] (hrg) (by simp [cvAs, cvA, cv1, cvL, cv0, bI, byteI, encPr, psI, intD, boolD, fltD, doI, elemsOf, upd]) ?_ | refine CallF_frz [] [] (hrg) (fun G _ => by simp [cvAs, cvA, cv1, cvL, cv0, bI, byteI, encPr, psI, intD, boolD, fltD, doI, elemsOf, upd]) (by simp) ?_)
     (repeat (first | (simp -implicitDefEqProofs only [ev1, ev2, ev3, ev4, ev5, ev6, mixed, Nat.reduceLT, Nat.reduceAdd, Nat.reduceMul, reduceIte, Nat.reduceEqDiff, reduceCtorEq, Nat.reducePow, Nat.reduceLeDiff, Int.reduceLE, Int.reduceLT, Int.reduceToNat, Int.reduceEq, Nat.reduceBEq, itsOf, gdA, byteI, opid, lenQ, ixQ, ldH, readAt, readCells, asCell, faQ, exQ, fldQ, partA, buildQ, slQ, stH, bslH, appH, dcells, convI, elemsOf, D.one, nilS, fillD, convN, cvH, T3, T4, T5, T22, T23, T28, T33, T52, T55, T57, psI, doI, fltD, intD, boolD]) | (with_reducible refine ⟨?_, ?_⟩; (· first | (obtain ⟨rfl⟩ := ‹Hq _ _›; with_reducible refine chk_ok ?_; kernel_rfl) | kernel_rfl)) | (with_reducible intro ops hops)))
     (first | refine Call_flat [] [] (hgs) (by simp [cvAs, cvA, cv1, cvL, cv0, bI, byteI, encPr, psI, intD, boolD, fltD, doI, elemsOf, upd]) rfl ?_ | refine CallF_flat [] [] [] (hgs) (fun G _ => by simp [cvAs, cvA, cv1, cvL, cv0, bI, byteI, encPr, psI, intD, boolD, fltD, doI, elemsOf, upd]) rfl ?_)
     (repeat (first | (simp -implicitDefEqProofs only [ev1, ev2, ev3, ev4, ev5, ev6, mixed, Nat.reduceLT, Nat.reduceAdd, Nat.reduceMul, reduceIte, Nat.reduceEqDiff, reduceCtorEq, Nat.reducePow, Nat.reduceLeDiff, Int.reduceLE, Int.reduceLT, Int.reduceToNat, Int.reduceEq, Nat.reduceBEq, itsOf, gdA, byteI, opid, lenQ, ixQ, ldH, readAt, readCells, asCell, faQ, exQ, fldQ, partA, buildQ, slQ, stH, bslH, appH, dcells, convI, elemsOf, D.one, nilS, fillD, convN, cvH, T3, T4, T5, T22, T23, T28, T33, T52, T55, T57, psI, doI, fltD, intD, boolD]) | (with_reducible refine ⟨?_, ?_⟩; (· first | (obtain ⟨rfl⟩ := ‹Hq _ _›; with_reducible refine chk_ok ?_; kernel_rfl) | kernel_rfl)) | (with_reducible intro ops hops)))
     refine fin_ret [] rfl ?_
     simp [cv, cv1, cv0, upd])
  · generalize wrongF b = W at *
    obtain ⟨we, wi⟩ := W
    simp only at *
    have g1 : decide ((we : Int) = 0) = false := by simp; omega
    refine callD_W 85 Try.func12 rfl rfl rfl (fun _ _ => rfl) ?_
    (repeat (first | (simp -implicitDefEqProofs only [ev1, ev2, ev3, ev4, ev5, ev6, mixed, Nat.reduceLT, Nat.reduceAdd, Nat.reduceMul, reduceIte, Nat.reduceEqDiff, reduceCtorEq, Nat.reducePow, Nat.reduceLeDiff, Int.reduceLE, Int.reduceLT, Int.reduceToNat, Int.reduceEq, Nat.reduceBEq, itsOf, gdA, byteI, opid, lenQ, ixQ, ldH, readAt, readCells, asCell, faQ, exQ, fldQ, partA, buildQ, slQ, stH, bslH, appH, dcells, convI, elemsOf, D.one, nilS, fillD, convN, cvH, T3, T4, T5, T22, T23, T28, T33, T52, T55, T57, psI, doI, fltD, intD, boolD]) | (with_reducible refine ⟨?_, ?_⟩; (· first | (obtain ⟨rfl⟩ := ‹Hq _ _›; with_reducible refine chk_ok ?_; kernel_rfl) | kernel_rfl)) | (with_reducible intro ops hops)))
    (first | refine Call_frz [] (hp) (by simp [cvAs, cvA, cv1, cvL, cv0, bI, byteI, encPr, psI, intD, boolD, fltD, doI, elemsOf, upd]) ?_ | refine CallF_frz [] [] (hp) (fun G _ => by simp [cvAs, cvA, cv1, cvL, cv0, bI, byteI, encPr, psI, intD, boolD, fltD, doI, elemsOf, upd]) (by simp) ?_)
    (repeat (first | (simp -implicitDefEqProofs only [ev1, ev2, ev3, ev4, ev5, ev6, mixed, Nat.reduceLT, Nat.reduceAdd, Nat.reduceMul, reduceIte, Nat.reduceEqDiff, reduceCtorEq, Nat.reducePow, Nat.reduceLeDiff, Int.reduceLE, Int.reduceLT, Int.reduceToNat, Int.reduceEq, Nat.reduceBEq, itsOf, gdA, byteI, opid, lenQ, ixQ, ldH, readAt, readCells, asCell, faQ, exQ, fldQ, partA, buildQ, slQ, stH, bslH, appH, dcells, convI, elemsOf, D.one, nilS, fillD, convN, cvH, T3, T4, T5, T22, T23, T28, T33, T52, T55, T57, psI, doI, fltD, intD, boolD]) | (with_reducible refine ⟨?_, ?_⟩; (· first | (obtain ⟨rfl⟩ := ‹Hq _ _›; with_reducible refine chk_ok ?_; kernel_rfl) | kernel_rfl)) | (with_reducible intro ops hops)))
    (first | refine Call_frz [] (hrp) (by simp [cvAs, cvA, cv1, cvL, cv0, bI, byteI, encPr, psI, intD, boolD, fltD, doI, elemsOf, upd]) ?_ | refine CallF_frz [] [] (hrp) (fun G _ => by simp [cvAs, cvA, cv1, cvL, cv0, bI, byteI, encPr, psI, intD, boolD, fltD, doI, elemsOf, upd]) (by simp) ?_)
    (repeat (first | (simp -implicitDefEqProofs only [ev1, ev2, ev3, ev4, ev5, ev6, mixed, Nat.reduceLT, Nat.reduceAdd, Nat.reduceMul, reduceIte, Nat.reduceEqDiff, reduceCtorEq, Nat.reducePow, Nat.reduceLeDiff, Int.reduceLE, Int.reduceLT, Int.reduceToNat, Int.reduceEq, Nat.reduceBEq, itsOf, gdA, byteI, opid, lenQ, ixQ, ldH, readAt, readCells, asCell, faQ, exQ, fldQ, partA, buildQ, slQ, stH, bslH, appH, dcells, convI, elemsOf, D.one, nilS, fillD, convN, cvH, T3, T4, T5, T22, T23, T28, T33, T52, T55, T57, psI, doI, fltD, intD, boolD]) | (with_reducible refine ⟨?_, ?_⟩; (· first | (obtain ⟨rfl⟩ := ‹Hq _ _›; with_reducible refine chk_ok ?_; kernel_rfl) | kernel_rfl)) | (with_reducible intro ops hops)))
    (first | refine Call_flat [] [] (hsm) (by simp [cvAs, cvA, cv1, cvL, cv0, bI, byteI, encPr, psI, intD, boolD, fltD, doI, elemsOf, upd]) rfl ?_ | refine CallF_flat [] [] [] (hsm) (fun G _ => by simp [cvAs, cvA, cv1, cvL, cv0, bI, byteI, encPr, psI, intD, boolD, fltD, doI, elemsOf, upd]) rfl ?_)
    (repeat (first | (simp -implicitDefEqProofs only [ev1, ev2, ev3, ev4, ev5, ev6, mixed, Nat.reduceLT, Nat.reduceAdd, Nat.reduceMul, reduceIte, Nat.reduceEqDiff, reduceCtorEq, Nat.reducePow, Nat.reduceLeDiff, Int.reduceLE, Int.reduceLT, Int.reduceToNat, Int.reduceEq, Nat.reduceBEq, itsOf, gdA, byteI, opid, lenQ, ixQ, ldH, readAt, readCells, asCell, faQ, exQ, fldQ, partA, buildQ, slQ, stH, bslH, appH, dcells, convI, elemsOf, D.one, nilS, fillD, convN, cvH, T3, T4, T5, T22, T23, T28, T33, T52, T55, T57, psI, doI, fltD, intD, boolD]) | (with_reducible refine ⟨?_, ?_⟩; (· first | (obtain ⟨rfl⟩ := ‹Hq _ _›; with_reducible refine chk_ok ?_; kernel_rfl) | kernel_rfl)) | (with_reducible intro ops hops)))
    (first | refine Call_flat [] [] (hw) (by simp [cvAs, cvA, cv1, cvL, cv0, bI, byteI, encPr, psI, intD, boolD, fltD, doI, elemsOf, upd]) rfl ?_ | refine CallF_flat [] [] [] (hw) (fun G _ => by simp [cvAs, cvA, cv1, cvL, cv0, bI, byteI, encPr, psI, intD, boolD, fltD, doI, elemsOf, upd]) rfl ?_)
    (repeat (first | (simp -implicitDefEqProofs only [ev1, ev2, ev3, ev4, ev5, ev6, mixed, Nat.reduceLT, Nat.reduceAdd, Nat.reduceMul, reduceIte, Nat.reduceEqDiff, reduceCtorEq, Nat.reducePow, Nat.reduceLeDiff, Int.reduceLE, Int.reduceLT, Int.reduceToNat, Int.reduceEq, Nat.reduceBEq, itsOf, gdA, byteI, opid, lenQ, ixQ, ldH, readAt, readCells, asCell, faQ, exQ, fldQ, partA, buildQ, slQ, stH, bslH, appH, dcells, convI, elemsOf, D.one, nilS, fillD, convN, cvH, T3, T4, T5, T22, T23, T28, T33, T52, T55, T57, psI, doI, fltD, intD, boolD]) | (with_reducible refine ⟨?_, ?_⟩; (· first | (obtain ⟨rfl⟩ := ‹Hq _ _›; with_reducible refine chk_ok ?_; kernel_rfl) | kernel_rfl)) | (with_reducible intro ops hops)))
    (first | refine Call_flat [] [] (hrw) (by simp [cvAs, cvA, cv1, cvL, cv0, bI, byteI, encPr, psI, intD, boolD, fltD, doI, elemsOf, upd]) rfl ?_ | refine CallF_flat [] [] [] (hrw) (fun G _ => by simp [cvAs, cvA, cv1, cvL, cv0, bI, byteI, encPr, psI, intD, boolD, fltD, doI, elemsOf, upd]) rfl ?_)
    (repeat (first | (simp -implicitDefEqProofs only [ev1, ev2, ev3, ev4, ev5, ev6, mixed, Nat.reduceLT, Nat.reduceAdd, Nat.reduceMul, reduceIte, Nat.reduceEqDiff, reduceCtorEq, Nat.reducePow, Nat.reduceLeDiff, Int.reduceLE, Int.reduceLT, Int.reduceToNat, Int.reduceEq, Nat.reduceBEq, itsOf, gdA, byteI, opid, lenQ, ixQ, ldH, readAt, readCells, asCell, faQ, exQ, fldQ, partA, buildQ, slQ, stH, bslH, appH, dcells, convI, elemsOf, D.one, nilS, fillD, convN, cvH, T3, T4, T5, T22, T23, T28, T33, T52, T55, T57, psI, doI, fltD, intD, boolD]) | (with_reducible refine ⟨?_, ?_⟩; (· first | (obtain ⟨rfl⟩ := ‹Hq _ _›; with_reducible refine chk_ok ?_; kernel_rfl) | kernel_rfl)) | (with_reducible intro ops hops)))
    (first | refine Call_frz [] (hrt) (by simp [cvAs, cvA, cv1, cvL, cv0, bI, byteI, encPr, psI, intD, boolD, fltD, doI, elemsOf, upd]) ?_ | refine CallF_frz [] [] (hrt) (fun G _ => by simp [cvAs, cvA, cv1, cvL, cv0, bI, byteI, encPr, psI, intD, boolD, fltD, doI, elemsOf, upd]) (by simp) ?_)
    (repeat (first | (simp -implicitDefEqProofs only [ev1, ev2, ev3, ev4, ev5, ev6, mixed, Nat.reduceLT, Nat.reduceAdd, Nat.reduceMul, reduceIte, Nat.reduceEqDiff, reduceCtorEq, Nat.reducePow, Nat.reduceLeDiff, Int.reduceLE, Int.reduceLT, Int.reduceToNat, Int.reduceEq, Nat.reduceBEq, itsOf, gdA, byteI, opid, lenQ, ixQ, ldH, readAt, readCells, asCell, faQ, exQ, fldQ, partA, buildQ, slQ, stH, bslH, appH, dcells, convI, elemsOf, D.one, nilS, fillD, convN, cvH, T3, T4, T5, T22, T23, T28, T33, T52, T55, T57, psI, doI, fltD, intD, boolD]) | (with_reducible refine ⟨?_, ?_⟩; (· first | (obtain ⟨rfl⟩ := ‹Hq _ _›; with_reducible refine chk_ok ?_; kernel_rfl) | kernel_rfl)) | (with_reducible intro ops hops)))
    (first | refine Call_frz [] (hrr) (by simp [cvAs, cvA, cv1, cvL, cv0, bI, byteI, encPr, psI, intD, boolD, fltD, doI, elemsOf, upd]) ?_ | refine CallF_frz [] [] (hrr) (fun G _ => by simp [cvAs, cvA, cv1, cvL, cv0, bI, byteI, encPr, psI, intD, boolD, fltD, doI, elemsOf, upd]) (by simp) ?_)
    (repeat (first | (simp -implicitDefEqProofs only [ev1, ev2, ev3, ev4, ev5, ev6, mixed, Nat.reduceLT, Nat.reduceAdd, Nat.reduceMul, reduceIte, Nat.reduceEqDiff, reduceCtorEq, Nat.reducePow, Nat.reduceLeDiff, Int.reduceLE, Int.reduceLT, Int.reduceToNat, Int.reduceEq, Nat.reduceBEq, itsOf, gdA, byteI, opid, lenQ, ixQ, ldH, readAt, readCells, asCell, faQ, exQ, fldQ, partA, buildQ, slQ, stH, bslH, appH, dcells, convI, elemsOf, D.one, nilS, fillD, convN, cvH, T3, T4, T5, T22, T23, T28, T33, T52, T55, T57, psI, doI, fltD, intD, boolD]) | (with_reducible refine ⟨?_, ?_⟩; (· first | (obtain ⟨rfl⟩ := ‹Hq _ _›; with_reducible refine chk_ok ?_; kernel_rfl) | kernel_rfl)) | (with_reducible intro ops hops)))
    (first | refine Call_flat [] [] (hss) (by simp [cvAs, cvA, cv1, cvL, cv0, bI, byteI, encPr, psI, intD, boolD, fltD, doI, elemsOf, upd]) rfl ?_ | refine CallF_flat [] [] [] (hss) (fun G _ => by simp [cvAs, cvA, cv1, cvL, cv0, bI, byteI, encPr, psI, intD, boolD, fltD, doI, elemsOf, upd]) rfl ?_)
    (repeat (first | (simp -implicitDefEqProofs only [ev1, ev2, ev3, ev4, ev5, ev6, mixed, Nat.reduceLT, Nat.reduceAdd, Nat.reduceMul, reduceIte, Nat.reduceEqDiff, reduceCtorEq, Nat.reducePow, Nat.reduceLeDiff, Int.reduceLE, Int.reduceLT, Int.reduceToNat, Int.reduceEq, Nat.reduceBEq, itsOf, gdA, byteI, opid, lenQ, ixQ, ldH, readAt, readCells, asCell, faQ, exQ, fldQ, partA, buildQ, slQ, stH, bslH, appH, dcells, convI, elemsOf, D.one, nilS, fillD, convN, cvH, T3, T4, T5, T22, T23, T28, T33, T52, T55, T57, psI, doI, fltD, intD, boolD, g1]) | (with_reducible refine ⟨?_, ?_⟩; (· first | (obtain ⟨rfl⟩ := ‹Hq _ _›; with_reducible refine chk_ok ?_; kernel_rfl) | kernel_rfl)) | (with_reducible intro ops hops)))
    refine fin_ret [] rfl ?_
    simp [cv, cv1, cv0, upd]
end Go.Proofs.Ythbnhbmakapglaa
