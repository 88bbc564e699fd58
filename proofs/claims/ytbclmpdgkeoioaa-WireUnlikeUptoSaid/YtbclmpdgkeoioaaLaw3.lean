/- The laws on wire: by-value contracts. -/
import Derived.Test.YtbclmpdgkeoioaaR3Same
set_option linter.all false
namespace Go.Proofs.Ytbclmpdgkeoioaa
open Go Go.Abs Go.RowKit Go.Proofs.Ytbclmpdgkeoioaa.Ty

theorem dec_piece {e : List I} (h : HasCs [.int .i64, .int .u64, .sl [.int .u8]] e) : ∃ p : PieceD, e = encP p ∧ p.n < 18446744073709551616 := by
  obtain ⟨x, _, rfl, hx, h⟩ := hasCs_cons h
  obtain ⟨y, _, rfl, hy, h⟩ := hasCs_cons h
  obtain ⟨z, _, rfl, hz, h⟩ := hasCs_cons h
  obtain rfl := hasCs_nil h
  obtain ⟨a, rfl, _⟩ := dec_int hx
  obtain ⟨b, rfl, hb⟩ := dec_u64 hy
  obtain ⟨l, rfl⟩ := dec_B hz
  exact ⟨⟨a, b, l⟩, rfl, hb⟩
theorem dec_Pieces {x : I} (h : HasC (.sl [.int .i64, .int .u64, .sl [.int .u8]]) x) : ∃ l : List PieceD, x = .sl (l.map encP) ∧ n64s l :=
  dec_list (fun _ he => dec_piece he) h
theorem pieces_small {l : List PieceD} {n : Nat} (h : bkI (.sl (l.map encP)) ≤ n) : l.length ≤ n ∧ ∀ p ∈ l, p.b.length ≤ n := by
  refine ⟨Nat.le_trans (bk_len _ _) h, fun p hp => ?_⟩
  have := bk_mem encP hp
  simp only [encP, bkL, bk_B] at this
  omega

theorem writeGo_len : ∀ (l : List PieceD) (acc : List UInt8) (i : Nat), acc.length ≤ 20000 → (writeGo acc i l).1.length ≤ 20000
  | [], acc, i, h => h
  | p :: r, acc, i, h => by
    rw [writeGo]
    split
    · simp
    · split
      · simp
      · exact writeGo_len r _ _ (by omega)
theorem writeF_len {l : List PieceD} {x : List UInt8} {f a : Nat} (h : writeF l = (x, f, a)) : x.length ≤ 20000 := by
  rw [writeF] at h
  split at h
  · cases h; simp
  · have := writeGo_len l (vnum l.length) 0 (by have := vnum_len_le l.length; omega)
    rw [h] at this; exact this
theorem takeN_len {i a : Nat} {b : List UInt8} {v : Nat} {r : List UInt8} (h : takeN i a b = some (v, r)) : r.length < b.length := by
  induction b generalizing i a with
  | nil => simp [takeN] at h
  | cons c s ih =>
    rw [takeN] at h
    split at h
    · cases h
    · split at h
      · cases h; simp
      · have := ih h; simp; omega
theorem readGo_small : ∀ (k : Nat) (r : List UInt8) (m : List PieceD), readGo k r = some m → m.length ≤ r.length ∧ ∀ p ∈ m, p.b.length ≤ r.length
  | 0, r, m, h => by
    rw [readGo] at h; split at h <;> simp at h; subst h; simp
  | k + 1, [], m, h => by simp [readGo] at h
  | k + 1, c :: r, m, h => by
    rw [readGo] at h
    split at h
    · cases h
    · rename_i v r' ht
      have hl := takeN_len ht
      split at h
      · simp only [Option.map_eq_some_iff] at h
        obtain ⟨m', h1, rfl⟩ := h
        obtain ⟨g1, g2⟩ := readGo_small k r' m' h1
        refine ⟨by simp; omega, fun p hp => ?_⟩
        rcases List.mem_cons.1 hp with rfl | hp
        · simp
        · have := g2 p hp; simp; omega
      · split at h
        · split at h
          · cases h
          · simp only [Option.map_eq_some_iff] at h
            obtain ⟨m', h1, rfl⟩ := h
            obtain ⟨g1, g2⟩ := readGo_small k _ m' h1
            simp only [List.length_drop] at g1 g2
            refine ⟨by simp; omega, fun p hp => ?_⟩
            rcases List.mem_cons.1 hp with rfl | hp
            · simp; omega
            · have := g2 p hp; simp; omega
        · cases h
theorem readF_small {b : List UInt8} {m : List PieceD} {e : Nat} (h : readF b = (m, e)) (hb : b.length ≤ 1048576) : m.length ≤ 1048576 ∧ ∀ p ∈ m, p.b.length ≤ 1048576 := by
  rw [readF] at h
  split at h
  · cases h; simp
  · split at h
    · cases h; simp
    · rename_i n r ht
      have hl := takeN_len ht
      split at h
      · cases h; simp
      · split at h
        · cases h; simp
        · rename_i l hr
          cases h
          obtain ⟨g1, g2⟩ := readGo_small _ _ _ hr
          exact ⟨by omega, fun p hp => by have := g2 p hp; omega⟩
theorem alive3_w : writeF [⟨1, 300, []⟩] = ([1, 0, 172, 2], 0, 0) := by decide +kernel
theorem alive3_r : readF [1, 0, 172, 2] = ([⟨1, 300, []⟩], 0) := by kernel_rfl

set_option maxHeartbeats 2000000
theorem alive3_A : PureD Try.prog 24 [] (.i (.s (.bool true))) := by
  refine callD_W 40 Try.func24 rfl rfl rfl (fun _ _ => rfl) ?_
  (repeat (first | (simp -implicitDefEqProofs only [ev1, ev2, ev3, ev4, ev5, mixed, Nat.reduceLT, Nat.reduceAdd, Nat.reduceMul, reduceIte, Nat.reduceEqDiff, reduceCtorEq, Nat.reducePow, Nat.reduceLeDiff, Int.reduceLE, Int.reduceLT, Int.reduceToNat, Int.reduceEq, itsOf, gdA, byteI, opid, lenQ, ixQ, ldH, readAt, readCells, asCell, faQ, exQ, fldQ, partA, buildQ, slQ, stH, bslH, appH, dcells, convI, elemsOf, D.one, nilS, fillD, convN, T1, T3, T5, T24, T33, T34, T36, T44, T58]) | (with_reducible refine ⟨?_, ?_⟩; (· first | (obtain ⟨rfl⟩ := ‹Hq _ _›; with_reducible refine chk_ok ?_; kernel_rfl) | kernel_rfl)) | (with_reducible intro ops hops)))
  have h1 := write_A [⟨1, 300, []⟩] (by simp) (by simp) (by intro p hp; simp at hp; subst hp; decide)
  rw [alive3_w] at h1
  have h2 := read_A [1, 0, 172, 2] (by simp)
  rw [alive3_r] at h2
  refine Call_frz [1257] h1 (by simp [cvAs, cvA, cv1, cv0, bI, encP, elemsOf, upd]) ?_
  (repeat (first | (simp -implicitDefEqProofs only [ev1, ev2, ev3, ev4, ev5, mixed, Nat.reduceLT, Nat.reduceAdd, Nat.reduceMul, reduceIte, Nat.reduceEqDiff, reduceCtorEq, Nat.reducePow, Nat.reduceLeDiff, Int.reduceLE, Int.reduceLT, Int.reduceToNat, Int.reduceEq, itsOf, gdA, byteI, opid, lenQ, ixQ, ldH, readAt, readCells, asCell, faQ, exQ, fldQ, partA, buildQ, slQ, stH, bslH, appH, dcells, convI, elemsOf, D.one, nilS, fillD, convN, T1, T3, T5, T24, T33, T34, T36, T44, T58, faultD]) | (with_reducible refine ⟨?_, ?_⟩; (· first | (obtain ⟨rfl⟩ := ‹Hq _ _›; with_reducible refine chk_ok ?_; kernel_rfl) | kernel_rfl)) | (with_reducible intro ops hops)))
  refine Call_frz [] h2 (by simp [cvAs, cvA, cv1, cv0]) ?_
  (repeat (first | (simp -implicitDefEqProofs only [ev1, ev2, ev3, ev4, ev5, mixed, Nat.reduceLT, Nat.reduceAdd, Nat.reduceMul, reduceIte, Nat.reduceEqDiff, reduceCtorEq, Nat.reducePow, Nat.reduceLeDiff, Int.reduceLE, Int.reduceLT, Int.reduceToNat, Int.reduceEq, itsOf, gdA, byteI, opid, lenQ, ixQ, ldH, readAt, readCells, asCell, faQ, exQ, fldQ, partA, buildQ, slQ, stH, bslH, appH, dcells, convI, elemsOf, D.one, nilS, fillD, convN, T1, T3, T5, T24, T33, T34, T36, T44, T58, pairR, encP, bI]) | (with_reducible refine ⟨?_, ?_⟩; (· first | (obtain ⟨rfl⟩ := ‹Hq _ _›; with_reducible refine chk_ok ?_; kernel_rfl) | kernel_rfl)) | (with_reducible intro ops hops)))
  refine fin_ret [] rfl ?_
  simp [cv, cv1, cv0, upd]

theorem walk_WireTells (y0 : I) (l : List PieceD) (e0 : y0 = .sl (l.map encP) ∧ n64s l) (y1 : I) (b : List UInt8) (e1 : y1 = bI b) (hb : bkI y0 + bkI y1 ≤ 1048576) : ∃ Ds, PureD Try.prog 6 Ds (.i (.s (.bool true))) ∧ Ds = [.i y0, .i y1] := by
  obtain ⟨rfl, hn⟩ := e0
  subst e1
  obtain ⟨s1, s2⟩ := pieces_small (l := l) (n := 1048576) (by omega)
  rw [bk_B] at hb
  refine ⟨_, ?_, rfl⟩
  refine callD_W 50 Try.func6 rfl rfl rfl (fun _ _ => rfl) ?_
  (repeat (first | (simp -implicitDefEqProofs only [ev1, ev2, ev3, ev4, ev5, mixed, Nat.reduceLT, Nat.reduceAdd, Nat.reduceMul, reduceIte, Nat.reduceEqDiff, reduceCtorEq, Nat.reducePow, Nat.reduceLeDiff, Int.reduceLE, Int.reduceLT, Int.reduceToNat, Int.reduceEq, itsOf, gdA, byteI, opid, lenQ, ixQ, ldH, readAt, readCells, asCell, faQ, exQ, fldQ, partA, buildQ, slQ, stH, bslH, appH, dcells, convI, elemsOf, D.one, nilS, fillD, convN, T3, T4, T5, T24, T33, T34, T36, T44, T58, bI]) | (with_reducible refine ⟨?_, ?_⟩; (· first | (obtain ⟨rfl⟩ := ‹Hq _ _›; with_reducible refine chk_ok ?_; kernel_rfl) | kernel_rfl)) | (with_reducible intro ops hops)))
  refine Call_frz [] (write_A l s1 s2 hn) (by simp [cvAs, cvA, cv1, cv0]) ?_
  (repeat (first | (simp -implicitDefEqProofs only [ev1, ev2, ev3, ev4, ev5, mixed, Nat.reduceLT, Nat.reduceAdd, Nat.reduceMul, reduceIte, Nat.reduceEqDiff, reduceCtorEq, Nat.reducePow, Nat.reduceLeDiff, Int.reduceLE, Int.reduceLT, Int.reduceToNat, Int.reduceEq, itsOf, gdA, byteI, opid, lenQ, ixQ, ldH, readAt, readCells, asCell, faQ, exQ, fldQ, partA, buildQ, slQ, stH, bslH, appH, dcells, convI, elemsOf, D.one, nilS, fillD, convN, T3, T4, T5, T24, T33, T34, T36, T44, T58, bI, faultD]) | (with_reducible refine ⟨?_, ?_⟩; (· first | (obtain ⟨rfl⟩ := ‹Hq _ _›; with_reducible refine chk_ok ?_; kernel_rfl) | kernel_rfl)) | (with_reducible intro ops hops)))
  refine Call_frz [] (write3_A l s1 s2 hn) (by simp [cvAs, cvA, cv1, cv0]) ?_
  generalize hq : writeF l = q
  obtain ⟨x, f, a⟩ := q
  have hxl : x.length ≤ 20000 := writeF_len hq
  (repeat (first | (simp -implicitDefEqProofs only [ev1, ev2, ev3, ev4, ev5, mixed, Nat.reduceLT, Nat.reduceAdd, Nat.reduceMul, reduceIte, Nat.reduceEqDiff, reduceCtorEq, Nat.reducePow, Nat.reduceLeDiff, Int.reduceLE, Int.reduceLT, Int.reduceToNat, Int.reduceEq, itsOf, gdA, byteI, opid, lenQ, ixQ, ldH, readAt, readCells, asCell, faQ, exQ, fldQ, partA, buildQ, slQ, stH, bslH, appH, dcells, convI, elemsOf, D.one, nilS, fillD, convN, T3, T4, T5, T24, T33, T34, T36, T44, T58, bI, faultD]) | (with_reducible refine ⟨?_, ?_⟩; (· first | (obtain ⟨rfl⟩ := ‹Hq _ _›; with_reducible refine chk_ok ?_; kernel_rfl) | kernel_rfl)) | (with_reducible intro ops hops)))
  (first | refine Call_flat [] [] (same_A x x (by omega)) (by simp [cvAs, cvA, cv1, cv0, bI, encP, elemsOf, upd]) rfl ?_ | refine CallF_flat [] [] [] (same_A x x (by omega)) (fun G _ => by simp [cvAs, cvA, cv1, cv0, bI, encP, elemsOf, upd]) rfl ?_)
  (repeat (first | (simp -implicitDefEqProofs only [ev1, ev2, ev3, ev4, ev5, mixed, Nat.reduceLT, Nat.reduceAdd, Nat.reduceMul, reduceIte, Nat.reduceEqDiff, reduceCtorEq, Nat.reducePow, Nat.reduceLeDiff, Int.reduceLE, Int.reduceLT, Int.reduceToNat, Int.reduceEq, itsOf, gdA, byteI, opid, lenQ, ixQ, ldH, readAt, readCells, asCell, faQ, exQ, fldQ, partA, buildQ, slQ, stH, bslH, appH, dcells, convI, elemsOf, D.one, nilS, fillD, convN, T3, T4, T5, T24, T33, T34, T36, T44, T58, bI, faultD]) | (with_reducible refine ⟨?_, ?_⟩; (· first | (obtain ⟨rfl⟩ := ‹Hq _ _›; with_reducible refine chk_ok ?_; kernel_rfl) | kernel_rfl)) | (with_reducible intro ops hops)))
  refine Call_frz [] (read_A b (by omega)) (by simp [cvAs, cvA, cv1, cv0, bI]) ?_
  (repeat (first | (simp -implicitDefEqProofs only [ev1, ev2, ev3, ev4, ev5, mixed, Nat.reduceLT, Nat.reduceAdd, Nat.reduceMul, reduceIte, Nat.reduceEqDiff, reduceCtorEq, Nat.reducePow, Nat.reduceLeDiff, Int.reduceLE, Int.reduceLT, Int.reduceToNat, Int.reduceEq, itsOf, gdA, byteI, opid, lenQ, ixQ, ldH, readAt, readCells, asCell, faQ, exQ, fldQ, partA, buildQ, slQ, stH, bslH, appH, dcells, convI, elemsOf, D.one, nilS, fillD, convN, T3, T4, T5, T24, T33, T34, T36, T44, T58, bI, pairR]) | (with_reducible refine ⟨?_, ?_⟩; (· first | (obtain ⟨rfl⟩ := ‹Hq _ _›; with_reducible refine chk_ok ?_; kernel_rfl) | kernel_rfl)) | (with_reducible intro ops hops)))
  refine Call_frz [] (read3_A b (by omega)) (by simp [cvAs, cvA, cv1, cv0, bI]) ?_
  generalize hq2 : readF b = q2
  obtain ⟨m, e⟩ := q2
  obtain ⟨m1, m2⟩ := readF_small hq2 (by omega)
  (repeat (first | (simp -implicitDefEqProofs only [ev1, ev2, ev3, ev4, ev5, mixed, Nat.reduceLT, Nat.reduceAdd, Nat.reduceMul, reduceIte, Nat.reduceEqDiff, reduceCtorEq, Nat.reducePow, Nat.reduceLeDiff, Int.reduceLE, Int.reduceLT, Int.reduceToNat, Int.reduceEq, itsOf, gdA, byteI, opid, lenQ, ixQ, ldH, readAt, readCells, asCell, faQ, exQ, fldQ, partA, buildQ, slQ, stH, bslH, appH, dcells, convI, elemsOf, D.one, nilS, fillD, convN, T3, T4, T5, T24, T33, T34, T36, T44, T58, bI, pairR]) | (with_reducible refine ⟨?_, ?_⟩; (· first | (obtain ⟨rfl⟩ := ‹Hq _ _›; with_reducible refine chk_ok ?_; kernel_rfl) | kernel_rfl)) | (with_reducible intro ops hops)))
  (first | refine Call_flat [] [] (same3_A m m m1 m2) (by simp [cvAs, cvA, cv1, cv0, bI, encP, elemsOf, upd]) rfl ?_ | refine CallF_flat [] [] [] (same3_A m m m1 m2) (fun G _ => by simp [cvAs, cvA, cv1, cv0, bI, encP, elemsOf, upd]) rfl ?_)
  (repeat (first | (simp -implicitDefEqProofs only [ev1, ev2, ev3, ev4, ev5, mixed, Nat.reduceLT, Nat.reduceAdd, Nat.reduceMul, reduceIte, Nat.reduceEqDiff, reduceCtorEq, Nat.reducePow, Nat.reduceLeDiff, Int.reduceLE, Int.reduceLT, Int.reduceToNat, Int.reduceEq, itsOf, gdA, byteI, opid, lenQ, ixQ, ldH, readAt, readCells, asCell, faQ, exQ, fldQ, partA, buildQ, slQ, stH, bslH, appH, dcells, convI, elemsOf, D.one, nilS, fillD, convN, T3, T4, T5, T24, T33, T34, T36, T44, T58, piecesSame_refl]) | (with_reducible refine ⟨?_, ?_⟩; (· first | (obtain ⟨rfl⟩ := ‹Hq _ _›; with_reducible refine chk_ok ?_; kernel_rfl) | kernel_rfl)) | (with_reducible intro ops hops)))
  refine fin_ret [] rfl ?_
  simp [cv, cv1, cv0, upd]

theorem walk_WireTurns (y0 : I) (l : List PieceD) (e0 : y0 = .sl (l.map encP) ∧ n64s l) (y1 : I) (b : List UInt8) (e1 : y1 = bI b) (hb : bkI y0 + bkI y1 ≤ 1048576) : ∃ Ds, PureD Try.prog 7 Ds (.i (.s (.bool true))) ∧ Ds = [.i y0, .i y1] := by
  obtain ⟨rfl, hn⟩ := e0
  subst e1
  obtain ⟨s1, s2⟩ := pieces_small (l := l) (n := 1048576) (by omega)
  rw [bk_B] at hb
  refine ⟨_, ?_, rfl⟩
  refine callD_W 59 Try.func7 rfl rfl rfl (fun _ _ => rfl) ?_
  (repeat (first | (simp -implicitDefEqProofs only [ev1, ev2, ev3, ev4, ev5, mixed, Nat.reduceLT, Nat.reduceAdd, Nat.reduceMul, reduceIte, Nat.reduceEqDiff, reduceCtorEq, Nat.reducePow, Nat.reduceLeDiff, Int.reduceLE, Int.reduceLT, Int.reduceToNat, Int.reduceEq, itsOf, gdA, byteI, opid, lenQ, ixQ, ldH, readAt, readCells, asCell, faQ, exQ, fldQ, partA, buildQ, slQ, stH, bslH, appH, dcells, convI, elemsOf, D.one, nilS, fillD, convN, T3, T4, T5, T24, T33, T34, T36, T44, T58, bI]) | (with_reducible refine ⟨?_, ?_⟩; (· first | (obtain ⟨rfl⟩ := ‹Hq _ _›; with_reducible refine chk_ok ?_; kernel_rfl) | kernel_rfl)) | (with_reducible intro ops hops)))
  (first | refine Call_flat [] [] (alive3_A) (by simp [cvAs, cvA, cv1, cv0, bI, encP, elemsOf, upd]) rfl ?_ | refine CallF_flat [] [] [] (alive3_A) (fun G _ => by simp [cvAs, cvA, cv1, cv0, bI, encP, elemsOf, upd]) rfl ?_)
  (repeat (first | (simp -implicitDefEqProofs only [ev1, ev2, ev3, ev4, ev5, mixed, Nat.reduceLT, Nat.reduceAdd, Nat.reduceMul, reduceIte, Nat.reduceEqDiff, reduceCtorEq, Nat.reducePow, Nat.reduceLeDiff, Int.reduceLE, Int.reduceLT, Int.reduceToNat, Int.reduceEq, itsOf, gdA, byteI, opid, lenQ, ixQ, ldH, readAt, readCells, asCell, faQ, exQ, fldQ, partA, buildQ, slQ, stH, bslH, appH, dcells, convI, elemsOf, D.one, nilS, fillD, convN, T3, T4, T5, T24, T33, T34, T36, T44, T58, bI]) | (with_reducible refine ⟨?_, ?_⟩; (· first | (obtain ⟨rfl⟩ := ‹Hq _ _›; with_reducible refine chk_ok ?_; kernel_rfl) | kernel_rfl)) | (with_reducible intro ops hops)))
  (first | refine Call_frz [] (write_A l s1 s2 hn) (by simp [cvAs, cvA, cv1, cv0, bI, encP, elemsOf, upd]) ?_ | refine CallF_frz [] [] (write_A l s1 s2 hn) (fun G _ => by simp [cvAs, cvA, cv1, cv0, bI, encP, elemsOf, upd]) (by simp) ?_)
  generalize hq : writeF l = q
  obtain ⟨x, f, a⟩ := q
  have hxl : x.length ≤ 20000 := writeF_len hq
  (repeat (first | (simp -implicitDefEqProofs only [ev1, ev2, ev3, ev4, ev5, mixed, Nat.reduceLT, Nat.reduceAdd, Nat.reduceMul, reduceIte, Nat.reduceEqDiff, reduceCtorEq, Nat.reducePow, Nat.reduceLeDiff, Int.reduceLE, Int.reduceLT, Int.reduceToNat, Int.reduceEq, itsOf, gdA, byteI, opid, lenQ, ixQ, ldH, readAt, readCells, asCell, faQ, exQ, fldQ, partA, buildQ, slQ, stH, bslH, appH, dcells, convI, elemsOf, D.one, nilS, fillD, convN, T3, T4, T5, T24, T33, T34, T36, T44, T58, bI, faultD]) | (with_reducible refine ⟨?_, ?_⟩; (· first | (obtain ⟨rfl⟩ := ‹Hq _ _›; with_reducible refine chk_ok ?_; kernel_rfl) | kernel_rfl)) | (with_reducible intro ops hops)))
  cases g1 : decide ((f : Int) = 0)
  case' true =>
    obtain rfl : f = 0 := by simp at g1; omega
    obtain ⟨m, hr, hs⟩ := write_read hq hn
    (repeat (first | (simp -implicitDefEqProofs only [ev1, ev2, ev3, ev4, ev5, mixed, Nat.reduceLT, Nat.reduceAdd, Nat.reduceMul, reduceIte, Nat.reduceEqDiff, reduceCtorEq, Nat.reducePow, Nat.reduceLeDiff, Int.reduceLE, Int.reduceLT, Int.reduceToNat, Int.reduceEq, itsOf, gdA, byteI, opid, lenQ, ixQ, ldH, readAt, readCells, asCell, faQ, exQ, fldQ, partA, buildQ, slQ, stH, bslH, appH, dcells, convI, elemsOf, D.one, nilS, fillD, convN, T3, T4, T5, T24, T33, T34, T36, T44, T58, bI, faultD]) | (with_reducible refine ⟨?_, ?_⟩; (· first | (obtain ⟨rfl⟩ := ‹Hq _ _›; with_reducible refine chk_ok ?_; kernel_rfl) | kernel_rfl)) | (with_reducible intro ops hops)))
    (first | refine Call_frz [] (read_A x (by omega)) (by simp [cvAs, cvA, cv1, cv0, bI, encP, elemsOf, upd]) ?_ | refine CallF_frz [] [] (read_A x (by omega)) (fun G _ => by simp [cvAs, cvA, cv1, cv0, bI, encP, elemsOf, upd]) (by simp) ?_)
    rw [hr]
    (repeat (first | (simp -implicitDefEqProofs only [ev1, ev2, ev3, ev4, ev5, mixed, Nat.reduceLT, Nat.reduceAdd, Nat.reduceMul, reduceIte, Nat.reduceEqDiff, reduceCtorEq, Nat.reducePow, Nat.reduceLeDiff, Int.reduceLE, Int.reduceLT, Int.reduceToNat, Int.reduceEq, itsOf, gdA, byteI, opid, lenQ, ixQ, ldH, readAt, readCells, asCell, faQ, exQ, fldQ, partA, buildQ, slQ, stH, bslH, appH, dcells, convI, elemsOf, D.one, nilS, fillD, convN, T3, T4, T5, T24, T33, T34, T36, T44, T58, bI, pairR]) | (with_reducible refine ⟨?_, ?_⟩; (· first | (obtain ⟨rfl⟩ := ‹Hq _ _›; with_reducible refine chk_ok ?_; kernel_rfl) | kernel_rfl)) | (with_reducible intro ops hops)))
    (first | refine Call_flat [] [] (same3_A l m s1 s2) (by simp [cvAs, cvA, cv1, cv0, bI, encP, elemsOf, upd]) rfl ?_ | refine CallF_flat [] [] [] (same3_A l m s1 s2) (fun G _ => by simp [cvAs, cvA, cv1, cv0, bI, encP, elemsOf, upd]) rfl ?_)
    rw [hs]
    (repeat (first | (simp -implicitDefEqProofs only [ev1, ev2, ev3, ev4, ev5, mixed, Nat.reduceLT, Nat.reduceAdd, Nat.reduceMul, reduceIte, Nat.reduceEqDiff, reduceCtorEq, Nat.reducePow, Nat.reduceLeDiff, Int.reduceLE, Int.reduceLT, Int.reduceToNat, Int.reduceEq, itsOf, gdA, byteI, opid, lenQ, ixQ, ldH, readAt, readCells, asCell, faQ, exQ, fldQ, partA, buildQ, slQ, stH, bslH, appH, dcells, convI, elemsOf, D.one, nilS, fillD, convN, T3, T4, T5, T24, T33, T34, T36, T44, T58]) | (with_reducible refine ⟨?_, ?_⟩; (· first | (obtain ⟨rfl⟩ := ‹Hq _ _›; with_reducible refine chk_ok ?_; kernel_rfl) | kernel_rfl)) | (with_reducible intro ops hops)))
  case' false => (repeat (first | (simp -implicitDefEqProofs only [ev1, ev2, ev3, ev4, ev5, mixed, Nat.reduceLT, Nat.reduceAdd, Nat.reduceMul, reduceIte, Nat.reduceEqDiff, reduceCtorEq, Nat.reducePow, Nat.reduceLeDiff, Int.reduceLE, Int.reduceLT, Int.reduceToNat, Int.reduceEq, itsOf, gdA, byteI, opid, lenQ, ixQ, ldH, readAt, readCells, asCell, faQ, exQ, fldQ, partA, buildQ, slQ, stH, bslH, appH, dcells, convI, elemsOf, D.one, nilS, fillD, convN, T3, T4, T5, T24, T33, T34, T36, T44, T58, bI, faultD]) | (with_reducible refine ⟨?_, ?_⟩; (· first | (obtain ⟨rfl⟩ := ‹Hq _ _›; with_reducible refine chk_ok ?_; kernel_rfl) | kernel_rfl)) | (with_reducible intro ops hops)))
  all_goals
    (first | refine Call_frz [] (read_A b (by omega)) (by simp [cvAs, cvA, cv1, cv0, bI, encP, elemsOf, upd]) ?_ | refine CallF_frz [] [] (read_A b (by omega)) (fun G _ => by simp [cvAs, cvA, cv1, cv0, bI, encP, elemsOf, upd]) (by simp) ?_)
    generalize hq2 : readF b = q2
    obtain ⟨m', e⟩ := q2
    obtain ⟨m1, m2⟩ := readF_small hq2 (by omega)
    (repeat (first | (simp -implicitDefEqProofs only [ev1, ev2, ev3, ev4, ev5, mixed, Nat.reduceLT, Nat.reduceAdd, Nat.reduceMul, reduceIte, Nat.reduceEqDiff, reduceCtorEq, Nat.reducePow, Nat.reduceLeDiff, Int.reduceLE, Int.reduceLT, Int.reduceToNat, Int.reduceEq, itsOf, gdA, byteI, opid, lenQ, ixQ, ldH, readAt, readCells, asCell, faQ, exQ, fldQ, partA, buildQ, slQ, stH, bslH, appH, dcells, convI, elemsOf, D.one, nilS, fillD, convN, T3, T4, T5, T24, T33, T34, T36, T44, T58, bI, pairR]) | (with_reducible refine ⟨?_, ?_⟩; (· first | (obtain ⟨rfl⟩ := ‹Hq _ _›; with_reducible refine chk_ok ?_; kernel_rfl) | kernel_rfl)) | (with_reducible intro ops hops)))
    cases g2 : decide ((e : Int) = 0)
    · have he : e ≠ 0 := by simp at g2; omega
      obtain rfl := read_no hq2 he
      (repeat (first | (simp -implicitDefEqProofs only [ev1, ev2, ev3, ev4, ev5, mixed, Nat.reduceLT, Nat.reduceAdd, Nat.reduceMul, reduceIte, Nat.reduceEqDiff, reduceCtorEq, Nat.reducePow, Nat.reduceLeDiff, Int.reduceLE, Int.reduceLT, Int.reduceToNat, Int.reduceEq, itsOf, gdA, byteI, opid, lenQ, ixQ, ldH, readAt, readCells, asCell, faQ, exQ, fldQ, partA, buildQ, slQ, stH, bslH, appH, dcells, convI, elemsOf, D.one, nilS, fillD, convN, T3, T4, T5, T24, T33, T34, T36, T44, T58]) | (with_reducible refine ⟨?_, ?_⟩; (· first | (obtain ⟨rfl⟩ := ‹Hq _ _›; with_reducible refine chk_ok ?_; kernel_rfl) | kernel_rfl)) | (with_reducible intro ops hops)))
      refine fin_ret [] rfl ?_
      simp [cv, cv1, cv0, upd]
    · obtain rfl : e = 0 := by simp at g2; omega
      obtain ⟨hw, hn2⟩ := read_write hq2
      (repeat (first | (simp -implicitDefEqProofs only [ev1, ev2, ev3, ev4, ev5, mixed, Nat.reduceLT, Nat.reduceAdd, Nat.reduceMul, reduceIte, Nat.reduceEqDiff, reduceCtorEq, Nat.reducePow, Nat.reduceLeDiff, Int.reduceLE, Int.reduceLT, Int.reduceToNat, Int.reduceEq, itsOf, gdA, byteI, opid, lenQ, ixQ, ldH, readAt, readCells, asCell, faQ, exQ, fldQ, partA, buildQ, slQ, stH, bslH, appH, dcells, convI, elemsOf, D.one, nilS, fillD, convN, T3, T4, T5, T24, T33, T34, T36, T44, T58]) | (with_reducible refine ⟨?_, ?_⟩; (· first | (obtain ⟨rfl⟩ := ‹Hq _ _›; with_reducible refine chk_ok ?_; kernel_rfl) | kernel_rfl)) | (with_reducible intro ops hops)))
      (first | refine Call_frz [] (write_A m' m1 m2 hn2) (by simp [cvAs, cvA, cv1, cv0, bI, encP, elemsOf, upd]) ?_ | refine CallF_frz [] [] (write_A m' m1 m2 hn2) (fun G _ => by simp [cvAs, cvA, cv1, cv0, bI, encP, elemsOf, upd]) (by simp) ?_)
      rw [hw]
      (repeat (first | (simp -implicitDefEqProofs only [ev1, ev2, ev3, ev4, ev5, mixed, Nat.reduceLT, Nat.reduceAdd, Nat.reduceMul, reduceIte, Nat.reduceEqDiff, reduceCtorEq, Nat.reducePow, Nat.reduceLeDiff, Int.reduceLE, Int.reduceLT, Int.reduceToNat, Int.reduceEq, itsOf, gdA, byteI, opid, lenQ, ixQ, ldH, readAt, readCells, asCell, faQ, exQ, fldQ, partA, buildQ, slQ, stH, bslH, appH, dcells, convI, elemsOf, D.one, nilS, fillD, convN, T3, T4, T5, T24, T33, T34, T36, T44, T58, bI, faultD]) | (with_reducible refine ⟨?_, ?_⟩; (· first | (obtain ⟨rfl⟩ := ‹Hq _ _›; with_reducible refine chk_ok ?_; kernel_rfl) | kernel_rfl)) | (with_reducible intro ops hops)))
      (first | refine Call_flat [] [] (same_A b b (by omega)) (by simp [cvAs, cvA, cv1, cv0, bI, encP, elemsOf, upd]) rfl ?_ | refine CallF_flat [] [] [] (same_A b b (by omega)) (fun G _ => by simp [cvAs, cvA, cv1, cv0, bI, encP, elemsOf, upd]) rfl ?_)
      (repeat (first | (simp -implicitDefEqProofs only [ev1, ev2, ev3, ev4, ev5, mixed, Nat.reduceLT, Nat.reduceAdd, Nat.reduceMul, reduceIte, Nat.reduceEqDiff, reduceCtorEq, Nat.reducePow, Nat.reduceLeDiff, Int.reduceLE, Int.reduceLT, Int.reduceToNat, Int.reduceEq, itsOf, gdA, byteI, opid, lenQ, ixQ, ldH, readAt, readCells, asCell, faQ, exQ, fldQ, partA, buildQ, slQ, stH, bslH, appH, dcells, convI, elemsOf, D.one, nilS, fillD, convN, T3, T4, T5, T24, T33, T34, T36, T44, T58]) | (with_reducible refine ⟨?_, ?_⟩; (· first | (obtain ⟨rfl⟩ := ‹Hq _ _›; with_reducible refine chk_ok ?_; kernel_rfl) | kernel_rfl)) | (with_reducible intro ops hops)))
      refine fin_ret [] rfl ?_
      simp [cv, cv1, cv0, upd]

theorem walk_WireUnlike (y0 : I) (l : List PieceD) (e0 : y0 = .sl (l.map encP) ∧ n64s l) (y1 : I) (m : List PieceD) (e1 : y1 = .sl (m.map encP) ∧ n64s m) (hb : bkI y0 + bkI y1 ≤ 1048576) : ∃ Ds, PureD Try.prog 8 Ds (.i (.s (.bool true))) ∧ Ds = [.i y0, .i y1] := by
  obtain ⟨rfl, hn⟩ := e0
  obtain ⟨rfl, hm⟩ := e1
  obtain ⟨s1, s2⟩ := pieces_small (l := l) (n := 1048576) (by omega)
  obtain ⟨r1, r2⟩ := pieces_small (l := m) (n := 1048576) (by omega)
  refine ⟨_, ?_, rfl⟩
  refine callD_W 38 Try.func8 rfl rfl rfl (fun _ _ => rfl) ?_
  (repeat (first | (simp -implicitDefEqProofs only [ev1, ev2, ev3, ev4, ev5, mixed, Nat.reduceLT, Nat.reduceAdd, Nat.reduceMul, reduceIte, Nat.reduceEqDiff, reduceCtorEq, Nat.reducePow, Nat.reduceLeDiff, Int.reduceLE, Int.reduceLT, Int.reduceToNat, Int.reduceEq, itsOf, gdA, byteI, opid, lenQ, ixQ, ldH, readAt, readCells, asCell, faQ, exQ, fldQ, partA, buildQ, slQ, stH, bslH, appH, dcells, convI, elemsOf, D.one, nilS, fillD, convN, T3, T4, T5, T24, T33, T34, T36, T44, T58, bI]) | (with_reducible refine ⟨?_, ?_⟩; (· first | (obtain ⟨rfl⟩ := ‹Hq _ _›; with_reducible refine chk_ok ?_; kernel_rfl) | kernel_rfl)) | (with_reducible intro ops hops)))
  (first | refine Call_flat [] [] (alive3_A) (by simp [cvAs, cvA, cv1, cv0, bI, encP, elemsOf, upd]) rfl ?_ | refine CallF_flat [] [] [] (alive3_A) (fun G _ => by simp [cvAs, cvA, cv1, cv0, bI, encP, elemsOf, upd]) rfl ?_)
  (repeat (first | (simp -implicitDefEqProofs only [ev1, ev2, ev3, ev4, ev5, mixed, Nat.reduceLT, Nat.reduceAdd, Nat.reduceMul, reduceIte, Nat.reduceEqDiff, reduceCtorEq, Nat.reducePow, Nat.reduceLeDiff, Int.reduceLE, Int.reduceLT, Int.reduceToNat, Int.reduceEq, itsOf, gdA, byteI, opid, lenQ, ixQ, ldH, readAt, readCells, asCell, faQ, exQ, fldQ, partA, buildQ, slQ, stH, bslH, appH, dcells, convI, elemsOf, D.one, nilS, fillD, convN, T3, T4, T5, T24, T33, T34, T36, T44, T58, bI]) | (with_reducible refine ⟨?_, ?_⟩; (· first | (obtain ⟨rfl⟩ := ‹Hq _ _›; with_reducible refine chk_ok ?_; kernel_rfl) | kernel_rfl)) | (with_reducible intro ops hops)))
  (first | refine Call_frz [] (write_A l s1 s2 hn) (by simp [cvAs, cvA, cv1, cv0, bI, encP, elemsOf, upd]) ?_ | refine CallF_frz [] [] (write_A l s1 s2 hn) (fun G _ => by simp [cvAs, cvA, cv1, cv0, bI, encP, elemsOf, upd]) (by simp) ?_)
  generalize hq : writeF l = q
  obtain ⟨x, f, a⟩ := q
  have hxl : x.length ≤ 20000 := writeF_len hq
  (repeat (first | (simp -implicitDefEqProofs only [ev1, ev2, ev3, ev4, ev5, mixed, Nat.reduceLT, Nat.reduceAdd, Nat.reduceMul, reduceIte, Nat.reduceEqDiff, reduceCtorEq, Nat.reducePow, Nat.reduceLeDiff, Int.reduceLE, Int.reduceLT, Int.reduceToNat, Int.reduceEq, itsOf, gdA, byteI, opid, lenQ, ixQ, ldH, readAt, readCells, asCell, faQ, exQ, fldQ, partA, buildQ, slQ, stH, bslH, appH, dcells, convI, elemsOf, D.one, nilS, fillD, convN, T3, T4, T5, T24, T33, T34, T36, T44, T58, bI, faultD]) | (with_reducible refine ⟨?_, ?_⟩; (· first | (obtain ⟨rfl⟩ := ‹Hq _ _›; with_reducible refine chk_ok ?_; kernel_rfl) | kernel_rfl)) | (with_reducible intro ops hops)))
  (first | refine Call_frz [] (write_A m r1 r2 hm) (by simp [cvAs, cvA, cv1, cv0, bI, encP, elemsOf, upd]) ?_ | refine CallF_frz [] [] (write_A m r1 r2 hm) (fun G _ => by simp [cvAs, cvA, cv1, cv0, bI, encP, elemsOf, upd]) (by simp) ?_)
  generalize hq2 : writeF m = q2
  obtain ⟨y, g, c⟩ := q2
  (repeat (first | (simp -implicitDefEqProofs only [ev1, ev2, ev3, ev4, ev5, mixed, Nat.reduceLT, Nat.reduceAdd, Nat.reduceMul, reduceIte, Nat.reduceEqDiff, reduceCtorEq, Nat.reducePow, Nat.reduceLeDiff, Int.reduceLE, Int.reduceLT, Int.reduceToNat, Int.reduceEq, itsOf, gdA, byteI, opid, lenQ, ixQ, ldH, readAt, readCells, asCell, faQ, exQ, fldQ, partA, buildQ, slQ, stH, bslH, appH, dcells, convI, elemsOf, D.one, nilS, fillD, convN, T3, T4, T5, T24, T33, T34, T36, T44, T58, bI, faultD]) | (with_reducible refine ⟨?_, ?_⟩; (· first | (obtain ⟨rfl⟩ := ‹Hq _ _›; with_reducible refine chk_ok ?_; kernel_rfl) | kernel_rfl)) | (with_reducible intro ops hops)))
  cases g1 : decide ((f : Int) = 0)
  · (repeat (first | (simp -implicitDefEqProofs only [ev1, ev2, ev3, ev4, ev5, mixed, Nat.reduceLT, Nat.reduceAdd, Nat.reduceMul, reduceIte, Nat.reduceEqDiff, reduceCtorEq, Nat.reducePow, Nat.reduceLeDiff, Int.reduceLE, Int.reduceLT, Int.reduceToNat, Int.reduceEq, itsOf, gdA, byteI, opid, lenQ, ixQ, ldH, readAt, readCells, asCell, faQ, exQ, fldQ, partA, buildQ, slQ, stH, bslH, appH, dcells, convI, elemsOf, D.one, nilS, fillD, convN, T3, T4, T5, T24, T33, T34, T36, T44, T58, g1]) | (with_reducible refine ⟨?_, ?_⟩; (· first | (obtain ⟨rfl⟩ := ‹Hq _ _›; with_reducible refine chk_ok ?_; kernel_rfl) | kernel_rfl)) | (with_reducible intro ops hops)))
    refine fin_ret [] rfl ?_
    simp [cv, cv1, cv0, upd]
  · cases g2 : decide ((g : Int) = 0)
    · (repeat (first | (simp -implicitDefEqProofs only [ev1, ev2, ev3, ev4, ev5, mixed, Nat.reduceLT, Nat.reduceAdd, Nat.reduceMul, reduceIte, Nat.reduceEqDiff, reduceCtorEq, Nat.reducePow, Nat.reduceLeDiff, Int.reduceLE, Int.reduceLT, Int.reduceToNat, Int.reduceEq, itsOf, gdA, byteI, opid, lenQ, ixQ, ldH, readAt, readCells, asCell, faQ, exQ, fldQ, partA, buildQ, slQ, stH, bslH, appH, dcells, convI, elemsOf, D.one, nilS, fillD, convN, T3, T4, T5, T24, T33, T34, T36, T44, T58, g1, g2]) | (with_reducible refine ⟨?_, ?_⟩; (· first | (obtain ⟨rfl⟩ := ‹Hq _ _›; with_reducible refine chk_ok ?_; kernel_rfl) | kernel_rfl)) | (with_reducible intro ops hops)))
      refine fin_ret [] rfl ?_
      simp [cv, cv1, cv0, upd]
    · obtain rfl : f = 0 := by simp at g1; omega
      obtain rfl : g = 0 := by simp at g2; omega
      have hu := write_unlike hq hq2 hn hm
      (repeat (first | (simp -implicitDefEqProofs only [ev1, ev2, ev3, ev4, ev5, mixed, Nat.reduceLT, Nat.reduceAdd, Nat.reduceMul, reduceIte, Nat.reduceEqDiff, reduceCtorEq, Nat.reducePow, Nat.reduceLeDiff, Int.reduceLE, Int.reduceLT, Int.reduceToNat, Int.reduceEq, itsOf, gdA, byteI, opid, lenQ, ixQ, ldH, readAt, readCells, asCell, faQ, exQ, fldQ, partA, buildQ, slQ, stH, bslH, appH, dcells, convI, elemsOf, D.one, nilS, fillD, convN, T3, T4, T5, T24, T33, T34, T36, T44, T58]) | (with_reducible refine ⟨?_, ?_⟩; (· first | (obtain ⟨rfl⟩ := ‹Hq _ _›; with_reducible refine chk_ok ?_; kernel_rfl) | kernel_rfl)) | (with_reducible intro ops hops)))
      (first | refine Call_flat [] [] (same_A x y (by omega)) (by simp [cvAs, cvA, cv1, cv0, bI, encP, elemsOf, upd]) rfl ?_ | refine CallF_flat [] [] [] (same_A x y (by omega)) (fun G _ => by simp [cvAs, cvA, cv1, cv0, bI, encP, elemsOf, upd]) rfl ?_)
      (repeat (first | (simp -implicitDefEqProofs only [ev1, ev2, ev3, ev4, ev5, mixed, Nat.reduceLT, Nat.reduceAdd, Nat.reduceMul, reduceIte, Nat.reduceEqDiff, reduceCtorEq, Nat.reducePow, Nat.reduceLeDiff, Int.reduceLE, Int.reduceLT, Int.reduceToNat, Int.reduceEq, itsOf, gdA, byteI, opid, lenQ, ixQ, ldH, readAt, readCells, asCell, faQ, exQ, fldQ, partA, buildQ, slQ, stH, bslH, appH, dcells, convI, elemsOf, D.one, nilS, fillD, convN, T3, T4, T5, T24, T33, T34, T36, T44, T58]) | (with_reducible refine ⟨?_, ?_⟩; (· first | (obtain ⟨rfl⟩ := ‹Hq _ _›; with_reducible refine chk_ok ?_; kernel_rfl) | kernel_rfl)) | (with_reducible intro ops hops)))
      (first | refine Call_flat [] [] (same3_A l m s1 s2) (by simp [cvAs, cvA, cv1, cv0, bI, encP, elemsOf, upd]) rfl ?_ | refine CallF_flat [] [] [] (same3_A l m s1 s2) (fun G _ => by simp [cvAs, cvA, cv1, cv0, bI, encP, elemsOf, upd]) rfl ?_)
      rw [hu]
      (repeat (first | (simp -implicitDefEqProofs only [ev1, ev2, ev3, ev4, ev5, mixed, Nat.reduceLT, Nat.reduceAdd, Nat.reduceMul, reduceIte, Nat.reduceEqDiff, reduceCtorEq, Nat.reducePow, Nat.reduceLeDiff, Int.reduceLE, Int.reduceLT, Int.reduceToNat, Int.reduceEq, itsOf, gdA, byteI, opid, lenQ, ixQ, ldH, readAt, readCells, asCell, faQ, exQ, fldQ, partA, buildQ, slQ, stH, bslH, appH, dcells, convI, elemsOf, D.one, nilS, fillD, convN, T3, T4, T5, T24, T33, T34, T36, T44, T58]) | (with_reducible refine ⟨?_, ?_⟩; (· first | (obtain ⟨rfl⟩ := ‹Hq _ _›; with_reducible refine chk_ok ?_; kernel_rfl) | kernel_rfl)) | (with_reducible intro ops hops)))
      refine fin_ret [] rfl ?_
      simp [cv, cv1, cv0, upd]
end Go.Proofs.Ytbclmpdgkeoioaa
