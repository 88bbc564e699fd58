/- bytes.Join, without a separator; proof.four, leafBytes, nodeBytes, topBytes, clash: by value. -/
import Derived.Test.YthbnhbmakapglaaRefB
import Derived.Test.YthbnhbmakapglaaAbs4
import Derived.Lib.MakeNoZero
set_option linter.all false
namespace Go.Proofs.Ythbnhbmakapglaa
open Go Go.Abs Go.RowKit Go.Proofs.Ythbnhbmakapglaa.Ty

theorem makeNoZero_D (n o : Nat) (hn : n ≤ 281474976710656) {G : Nat → Ob} (hf : G o = .fresh) :
    DirD Try.prog 88 [intD n] G (.os o 1 0 n) (upd G o (.arr 1 [])) := by
  intro K0 T K vs hr hrd
  obtain ⟨hs, hg⟩ := hrd
  have e : vs = #[vs.getD 0 undef] := by
    apply Array.ext
    · simpa using hs
    · intro i h1 h2
      simp at hs
      have : i = 0 := by omega
      subst this; simp [Array.getD, hs]
  have hv := conc_ok (hg 0 _ rfl) (v' := .int .i64 (n : Int)) rfl
  rw [hv] at e
  rw [e]
  obtain ⟨cs, hrun, hcs, _⟩ := Lib.run_makeNoZero (P := Try.prog) K.w #[3] 23 5 Try.underlying23 n hn
  have hr' : HR K0 T (K.world K.w.drew.drew) G := hr.world rfl rfl rfl rfl
  have he' : Ext K (K.world K.w.drew.drew) := Ext.world rfl
  obtain ⟨a1, a2, a3⟩ := newArr (K := K.world K.w.drew.drew) hr' (id := o) hf 5 (row := cs) (sz := 1) (es := []) (Nat.succ_pos _) (by simp) (by simp) (by simp) n cs.size hcs (by omega)
  refine ⟨_, _, ?_, he'.trans a1, a2, a3⟩
  rw [run_callFunc_extern Try.func88 (by kernel_rfl) (by kernel_rfl) (by kernel_rfl) (e := Extern.BytealgMakeNoZero.makeNoZero #[3] #[23]) (by kernel_rfl), hrun]
  rfl

theorem over_end {es E : List (List I)} {off : Nat} (h : off = es.length) : over es off E = es ++ E := by
  subst h
  unfold over
  rw [List.take_length, List.drop_eq_nil_of_le (by omega), List.append_nil]
theorem jk_mono (ls : List (List UInt8)) (j : Nat) : (jk ls j).length ≤ ls.flatten.length := jk_le ls j
set_option maxHeartbeats 4000000
theorem joinB_A (ls : List (List UInt8)) (h1 : ls.flatten.length ≤ 1099511627776) (h2 : ls.length ≤ 1048576) (h3 : 2 ≤ ls.length) : PureD Try.prog 80 [.i (bbI ls), .i (bI [])] (.i (bI ls.flatten)) := by
  have hl : (ls.map fun b => [bI b]).length = ls.length := by simp
  have e0 : ∀ j (h : j < ls.length), (ls.map fun b => [bI b])[j]? = some [bI ls[j]] := fun j h => by rw [List.getElem?_map, List.getElem?_eq_getElem h]; rfl
  have hbb : bbI ls = .sl (ls.map fun b => [bI b]) := rfl
  have hun : uni 1 (ls.map fun b => [bI b]) = true := by simp [uni]
  rw [hbb]
  generalize (ls.map fun b => [bI b]) = L at *
  have hall := jk_all ls
  have hle := jk_le ls
  have hjs : ∀ j (h : j < ls.length), jk ls (j + 1) = jk ls j ++ ls[j] := fun j h => jk_succ h
  generalize ls.flatten = Z at *
  have g0 : decide ((ls.length : Int) = 0) = false := decide_eq_false (by omega)
  have g1 : decide ((ls.length : Int) = 1) = false := decide_eq_false (by omega)
  refine callD_W 92 Try.func80 rfl rfl rfl (fun _ _ => rfl) ?_
  (repeat (first | (simp -implicitDefEqProofs only [ev1, ev2, ev3, ev4, ev5, ev6, mixed, Nat.reduceLT, Nat.reduceAdd, Nat.reduceMul, reduceIte, Nat.reduceEqDiff, reduceCtorEq, Nat.reducePow, Nat.reduceLeDiff, Int.reduceLE, Int.reduceLT, Int.reduceToNat, Int.reduceEq, Nat.reduceBEq, itsOf, gdA, byteI, opid, lenQ, ixQ, ldH, readAt, readCells, asCell, faQ, exQ, fldQ, partA, buildQ, slQ, stH, bslH, appH, dcells, convI, elemsOf, D.one, nilS, fillD, convN, cvH, T0, T3, T5, T23, T25, hl, g0, g1, bI, List.map_nil]) | (with_reducible refine ⟨?_, ?_⟩; (· first | (obtain ⟨rfl⟩ := ‹Hq _ _›; with_reducible refine chk_ok ?_; kernel_rfl) | kernel_rfl)) | (with_reducible intro ops hops)))
  refine W_loopI (ι := Nat) (fun j => j ≤ ls.length)
    (fun j => stOf [(0, .i (.sl L)), (1, .i (.sl [])), (5, intD (jk ls j).length), (42, .i (.sl L)), (43, intD ls.length), (44, intD j)] []) (fun j => ls.length - j) 0 (Nat.zero_le _) ?_ ?_
  · refine le_stOf _ _ [] [] ?_ ?_ rfl rfl
    · simp [cv, cvL, cv1, cv0, upd, lk, srcOf, intD, jk_zero]
    · simp
  · rintro j hj
    rw [stOf_eq]
    by_cases hlt : j < ls.length
    · have g2 : decide ((j : Int) < (ls.length : Int)) = true := decide_eq_true (by omega)
      have e1 := e0 j hlt
      have w1 : IntKind.i64.wrap ((j : Int) + 1) = ((j + 1 : Nat) : Int) := by rw [wrap64 (by omega) (by omega)]; omega
      have hj2 := hjs j hlt
      have hl1 := hle (j + 1)
      rw [hj2, List.length_append] at hl1
      have hl2 : (jk ls (j + 1)).length = (jk ls j).length + ls[j].length := by rw [hj2, List.length_append]
      have w2 : IntKind.i64.wrap (9223372036854775807 - ((jk ls j).length : Int)) = 9223372036854775807 - ((jk ls j).length : Int) := wrap64 (by omega) (by omega)
      have g3 : decide (9223372036854775807 - ((jk ls j).length : Int) < (ls[j].length : Int)) = false := decide_eq_false (by omega)
      have w3 : IntKind.i64.wrap (((jk ls j).length : Int) + (ls[j].length : Int)) = ((jk ls (j + 1)).length : Int) := by rw [hl2, wrap64 (by omega) (by omega)]; omega
      simp only [bI] at e1
      generalize ls[j] = b at *
      (repeat (first | (simp -implicitDefEqProofs only [ev1, ev2, ev3, ev4, ev5, ev6, mixed, Nat.reduceLT, Nat.reduceAdd, Nat.reduceMul, reduceIte, Nat.reduceEqDiff, reduceCtorEq, Nat.reducePow, Nat.reduceLeDiff, Int.reduceLE, Int.reduceLT, Int.reduceToNat, Int.reduceEq, Nat.reduceBEq, itsOf, gdA, byteI, opid, lenQ, ixQ, ldH, readAt, readCells, asCell, faQ, exQ, fldQ, partA, buildQ, slQ, stH, bslH, appH, dcells, convI, elemsOf, D.one, nilS, fillD, convN, cvH, T0, T3, T5, T23, T25, intD, g2, e1, w1, w2, w3, g3, List.length_map]) | (with_reducible refine ⟨?_, ?_⟩; (· first | (obtain ⟨rfl⟩ := ‹Hq _ _›; with_reducible refine chk_ok ?_; kernel_rfl) | kernel_rfl)) | (with_reducible intro ops hops)))
      refine ⟨j + 1, hlt, le_stOf _ _ [] [] ?_ ?_ rfl rfl, by simp; omega⟩
      · simp [cv, cvL, cv1, cv0, upd, lk, srcOf, intD]
      · simp
    · have g2 : decide ((j : Int) < (ls.length : Int)) = false := decide_eq_false (by omega)
      have hj' : j = ls.length := by omega
      subst hj'
      have e1 := e0 0 (by omega)
      simp only [bI] at e1
      have hj1 := hjs 0 (by omega)
      rw [jk_zero, List.nil_append] at hj1
      have hl1 := hle 1
      rw [hj1] at hl1
      have hz1 : jk ls (0 + 1) = ls[0] := hj1
      rw [hall]
      generalize hb0 : ls[0] = b0 at *
      have m1 : min b0.length Z.length = b0.length := by omega
      have c1 : (1 ≤ (ls.length : Int)) = True := eq_true (by omega)
      have hlen1 : (L.drop 1).length = ls.length - 1 := by rw [List.length_drop, hl]
      (repeat (first | (simp -implicitDefEqProofs only [ev1, ev2, ev3, ev4, ev5, ev6, mixed, Nat.reduceLT, Nat.reduceAdd, Nat.reduceMul, reduceIte, Nat.reduceEqDiff, reduceCtorEq, Nat.reducePow, Nat.reduceLeDiff, Int.reduceLE, Int.reduceLT, Int.reduceToNat, Int.reduceEq, Nat.reduceBEq, itsOf, gdA, byteI, opid, lenQ, ixQ, ldH, readAt, readCells, asCell, faQ, exQ, fldQ, partA, buildQ, slQ, stH, bslH, appH, dcells, convI, elemsOf, D.one, nilS, fillD, convN, cvH, T0, T3, T5, T23, T25, intD, g2]) | (with_reducible refine ⟨?_, ?_⟩; (· first | (obtain ⟨rfl⟩ := ‹Hq _ _›; with_reducible refine chk_ok ?_; kernel_rfl) | kernel_rfl)) | (with_reducible intro ops hops)))
      refine ⟨_, _, .inr (makeNoZero_D Z.length 5353 (by omega) (by simp [hO, lk])), ?_⟩
      (repeat (first | (simp -implicitDefEqProofs only [ev1, ev2, ev3, ev4, ev5, ev6, mixed, Nat.reduceLT, Nat.reduceAdd, Nat.reduceMul, reduceIte, Nat.reduceEqDiff, reduceCtorEq, Nat.reducePow, Nat.reduceLeDiff, Int.reduceLE, Int.reduceLT, Int.reduceToNat, Int.reduceEq, Nat.reduceBEq, itsOf, gdA, byteI, opid, lenQ, ixQ, ldH, readAt, readCells, asCell, faQ, exQ, fldQ, partA, buildQ, slQ, stH, bslH, appH, dcells, convI, elemsOf, D.one, nilS, fillD, convN, cvH, T0, T3, T5, T23, T25, intD, slX, cpX, dstX, lenS, srcX, hl, e1, m1, Nat.sub_zero, Nat.zero_le, Nat.le_refl, List.length_map, c1, hun, or_true, true_or, Int.le_refl, Option.map_some]) | (with_reducible refine ⟨?_, ?_⟩; (· first | (obtain ⟨rfl⟩ := ‹Hq _ _›; with_reducible refine chk_ok ?_; kernel_rfl) | kernel_rfl)) | (with_reducible intro ops hops)))
      refine W_loopI (ι := Nat) (fun k => k + 1 ≤ ls.length)
        (fun k => stOf [(1, .i (.sl [])), (8, .os 100 1 0 Z.length), (9, intD (jk ls (k + 1)).length), (70, .i (.sl (L.drop 1))), (71, intD ((ls.length - 1 : Nat) : Int)), (72, intD k)] [(100, .arr 1 ((jk ls (k + 1)).map byteI))]) (fun k => ls.length - k) 0 (by omega) ?_ ?_
      · refine le_stOf _ _ [] [(100, 5353)] ?_ ?_ rfl rfl
        · simp [cv, cvL, cv1, cv0, upd, lk, srcOf, intD, hl, hj1]
        · simp [objOk, srcOf, lk, cvO, frz, hO, hj1, over, upd]
      · rintro k hk
        rw [stOf_eq]
        by_cases hlt : k < ls.length - 1
        · have g3 : decide ((k : Int) < ((ls.length - 1 : Nat) : Int)) = true := decide_eq_true (by omega)
          have e2 : (L.drop 1)[k]? = some [bI ls[k + 1]] := by rw [List.getElem?_drop, Nat.add_comm]; exact e0 (k + 1) (by omega)
          have hj2 := hjs (k + 1) (by omega)
          have hl2 := hle (k + 1 + 1)
          simp only [bI] at e2
          have w1 : IntKind.i64.wrap ((k : Int) + 1) = ((k + 1 : Nat) : Int) := by rw [wrap64 (by omega) (by omega)]; omega
          have hl3 := hl2
          rw [hj2, List.length_append] at hl3
          have hl4 : (jk ls (k + 1 + 1)).length = (jk ls (k + 1)).length + ls[k + 1].length := by rw [hj2, List.length_append]
          generalize ls[k + 1] = b at *
          generalize hX : jk ls (k + 1) = X at *
          generalize hY : jk ls (k + 1 + 1) = Y at *
          have w2 : IntKind.i64.wrap ((X.length : Int) + 0) = (X.length : Int) := by rw [wrap64 (by omega) (by omega)]; omega
          have w3 : IntKind.i64.wrap ((X.length : Int) + (b.length : Int)) = (Y.length : Int) := by rw [hl4, wrap64 (by omega) (by omega)]; omega
          have m1 : min b.length (Z.length - X.length) = b.length := by omega
          have m0 : min 0 (Z.length - X.length) = 0 := by omega
          have m2 : min (Z.length - X.length) 0 = 0 := by omega
          have c2 : ((X.length : Int) ≤ (Z.length : Int)) = True := eq_true (by omega)
          have c3 : (X.length ≤ Z.length) = True := eq_true (by omega)
          have ov : over (X.map byteI) X.length (b.map byteI) = Y.map byteI := by rw [over_end (by simp), hj2, List.map_append]
          (repeat (first | (simp -implicitDefEqProofs only [ev1, ev2, ev3, ev4, ev5, ev6, mixed, Nat.reduceLT, Nat.reduceAdd, Nat.reduceMul, reduceIte, Nat.reduceEqDiff, reduceCtorEq, Nat.reducePow, Nat.reduceLeDiff, Int.reduceLE, Int.reduceLT, Int.reduceToNat, Int.reduceEq, Nat.reduceBEq, itsOf, gdA, byteI, opid, lenQ, ixQ, ldH, readAt, readCells, asCell, faQ, exQ, fldQ, partA, buildQ, slQ, stH, bslH, appH, dcells, convI, elemsOf, D.one, nilS, fillD, convN, cvH, T0, T3, T5, T23, T25, intD, g3, e2, w1, w2, w3, slX, cpX, dstX, lenS, srcX, m0, m1, m2, c2, c3, Nat.zero_le, Nat.le_refl, List.length_nil, List.length_map, or_true, true_or, over_nil, List.take_nil, Option.map_some, ov]) | (with_reducible refine ⟨?_, ?_⟩; (· first | (obtain ⟨rfl⟩ := ‹Hq _ _›; with_reducible refine chk_ok ?_; kernel_rfl) | kernel_rfl)) | (with_reducible intro ops hops)))
          refine ⟨k + 1, by omega, le_stOf _ _ [] [(100, 100)] ?_ ?_ rfl rfl, by simp; omega⟩
          · simp [cv, cvL, cv1, cv0, upd, lk, srcOf, intD, hY]
          · simp [objOk, srcOf, lk, cvO, frz, hO, hY, upd]
        · have hk' : k = ls.length - 1 := by omega
          subst hk'
          have g3 : decide (((ls.length - 1 : Nat) : Int) < ((ls.length - 1 : Nat) : Int)) = false := decide_eq_false (by omega)
          have hq : ls.length - 1 + 1 = ls.length := by omega
          rw [hq, hall]
          (repeat (first | (simp -implicitDefEqProofs only [ev1, ev2, ev3, ev4, ev5, ev6, mixed, Nat.reduceLT, Nat.reduceAdd, Nat.reduceMul, reduceIte, Nat.reduceEqDiff, reduceCtorEq, Nat.reducePow, Nat.reduceLeDiff, Int.reduceLE, Int.reduceLT, Int.reduceToNat, Int.reduceEq, Nat.reduceBEq, itsOf, gdA, byteI, opid, lenQ, ixQ, ldH, readAt, readCells, asCell, faQ, exQ, fldQ, partA, buildQ, slQ, stH, bslH, appH, dcells, convI, elemsOf, D.one, nilS, fillD, convN, cvH, T0, T3, T5, T23, T25, intD, g3]) | (with_reducible refine ⟨?_, ?_⟩; (· first | (obtain ⟨rfl⟩ := ‹Hq _ _›; with_reducible refine chk_ok ?_; kernel_rfl) | kernel_rfl)) | (with_reducible intro ops hops)))
          refine fin_ret [100] rfl ?_
          simp [cv, cv1, cv0, upd, hO, lk, elemsOf, take_len_map]
end Go.Proofs.Ythbnhbmakapglaa
