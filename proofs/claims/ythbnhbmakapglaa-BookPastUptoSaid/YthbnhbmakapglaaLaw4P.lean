/- BookPast: by-value contract. -/
import Derived.Test.YthbnhbmakapglaaLaw4R
set_option linter.all false
namespace Go.Proofs.Ythbnhbmakapglaa
open Go Go.Abs Go.RowKit Go.Proofs.Ythbnhbmakapglaa.Ty

def backP (x : List PairD) (m : Nat) : List DoD := (x.reverse.take m).map fun p => ⟨p.k, p.v, false⟩
theorem back_zero (x : List PairD) : backP x 0 = [] := rfl
theorem back_succ {x : List PairD} {m : Nat} (h : m < x.length) : backP x (m + 1) = backP x m ++ [⟨x[x.length - 1 - m].k, x[x.length - 1 - m].v, false⟩] := by
  unfold backP
  rw [List.take_succ_eq_append_getElem (by simp; exact h), List.map_append, List.getElem_reverse]; rfl
theorem back_len {x : List PairD} {m : Nat} (h : m ≤ x.length) : (backP x m).length = m := by unfold backP; simp; omega
theorem back_all {x : List PairD} (h : Right x) : playGo [] 0 (backP x x.length) = (x, 0, 0) := by
  have := play_back x.length x [] 0 rfl (by rw [List.append_nil]; exact h)
  rw [List.append_nil] at this
  rw [← this]; unfold backP; rw [List.take_of_length_le (by simp)]
set_option maxHeartbeats 4000000
theorem walk_BookPast (y0 : I) (ds : List DoD) (e0 : y0 = doI ds) (y1 : List I) (a : DoD) (e1 : y1 = encDo a) (y2 : List I) (b : DoD) (e2 : y2 = encDo b) (hb : bkI y0 + bkL y1 + bkL y2 ≤ 1048576) :
    ∃ Ds, PureD Try.prog 8 Ds (.i (.s (.bool true))) ∧ Ds = [.i y0, .agg (y1.map .i), .agg (y2.map .i)] := by
  subst e0 e1 e2
  refine ⟨_, ?_, rfl⟩
  rw [do_agg, do_agg]
  have hds := doings_small (l := ds) (n := 1048576) (by omega)
  have hak : a.k.length ≤ 1048576 ∧ a.v.length ≤ 1048576 := by simp only [encDo, bkL, bk_B] at hb; omega
  have hbk : b.k.length ≤ 1048576 ∧ b.v.length ≤ 1048576 := by simp only [encDo, bkL, bk_B] at hb; omega
  have hsk := same_A a.k b.k (by omega)
  have hall : ∀ (u v : DoD), (u = a ∨ u = b) → (v = a ∨ v = b) → ∀ x ∈ ds ++ [u, v], x.k.length ≤ 1048576 ∧ x.v.length ≤ 1048576 := by
    intro u v hu hv x hx
    rcases List.mem_append.1 hx with h | h
    · exact hds.2 x h
    · simp at h
      rcases h with rfl | rfl
      · rcases hu with rfl | rfl; exact hak; exact hbk
      · rcases hv with rfl | rfl; exact hak; exact hbk
  have hp := play_A (ds ++ [a, b]) (by simp; omega) (hall a b (.inl rfl) (.inr rfl))
  have hp2 := play_A (ds ++ [b, a]) (by simp; omega) (hall b a (.inr rfl) (.inl rfl))
  have hrx := play_right (ds ++ [a, b]) [] 0 right_nil
  have hm := play_right ds [] 0 right_nil
  have hax := play_ok_append ds [a, b] [] 0
  have hay := play_ok_append ds [b, a] [] 0
  have hu1 := uni_do ds
  have e3 : ds.length ≤ 140737488355328 := by omega
  have e4 : ds.length * 56 ≤ 140737488355328 := by omega
  have e5 : ds.length + 2 ≤ 140737488355328 := by omega
  have e6 : (ds.length + 2) * 56 ≤ 140737488355328 := by omega
  have hz : ds.map encDo ++ [encDo a, encDo b] = (ds ++ [a, b]).map encDo := by simp
  have hz2 : ds.map encDo ++ [encDo b, encDo a] = (ds ++ [b, a]).map encDo := by simp
  have hzl : (ds ++ [a, b]).length = ds.length + 2 := by simp
  have hzl2 : (ds ++ [b, a]).length = ds.length + 2 := by simp
  have hxy : (playGo [] 0 (ds ++ [a, b])).2.1 = 0 → (playGo [] 0 (ds ++ [b, a])).2.1 = 0 → a.k ≠ b.k → (playGo [] 0 (ds ++ [b, a])).1 = (playGo [] 0 (ds ++ [a, b])).1 := by
    intro h1 h2 hne
    obtain ⟨_, q1⟩ := hax h1
    obtain ⟨_, q2⟩ := hay h2
    rw [q1] at h1 ⊢
    rw [q2] at h2 ⊢
    rw [play_two h1, play_two h2, step_comm (srt_of hm) hne]
  clear hax hay hall
  generalize playGo [] 0 (ds ++ [a, b]) = X at *
  generalize playGo [] 0 (ds ++ [b, a]) = Y at *
  generalize ds ++ [a, b] = Z at *
  generalize ds ++ [b, a] = Z2 at *
  obtain ⟨x, fe, fi⟩ := X
  obtain ⟨y, ge, gi⟩ := Y
  simp only at *
  have ht : List.take (ds.length + 2) (Z.map encDo) = Z.map encDo := List.take_of_length_le (by simp; omega)
  have ht2 : List.take (ds.length + 2) (Z2.map encDo) = Z2.map encDo := List.take_of_length_le (by simp; omega)
  have hle : ds.length + 2 ≤ Z.length := by omega
  have hle2 : ds.length + 2 ≤ Z2.length := by omega
  obtain ⟨ak, av, ag⟩ := a
  obtain ⟨bk, bv, bg⟩ := b
  simp only [encDo, bI] at hz hz2
  simp only at *
  by_cases hfe : fe = 0
  · by_cases hge : ge = 0
    · subst hfe hge
      have hxl := hrx.len
      have hsx := rsame_A x (by omega) (fun p hp => by have := hrx.big p hp; omega)
      have hback := play_A (backP x x.length) (by rw [back_len (Nat.le_refl _)]; omega) (by
        intro d hd
        unfold backP at hd
        simp only [List.mem_map] at hd
        obtain ⟨q, hq, rfl⟩ := hd
        have := hrx.big q (by have := List.mem_of_mem_take hq; simpa using this)
        simp; omega)
      rw [back_all hrx] at hback
      have hxy2 := hxy rfl rfl
      have w0 : IntKind.i64.wrap ((x.length : Int) - 1) = (x.length : Int) - 1 - ((0 : Nat) : Int) := by rw [wrap64 (by omega) (by omega)]; omega
      by_cases hk : ak = bk
      · rw [decide_eq_true hk] at hsk
        refine callD_W 92 Try.func8 rfl rfl rfl (fun _ _ => rfl) ?_
        (repeat (first | (simp -implicitDefEqProofs only [ev1, ev2, ev3, ev4, ev5, ev6, mixed, Nat.reduceLT, Nat.reduceAdd, Nat.reduceMul, reduceIte, Nat.reduceEqDiff, reduceCtorEq, Nat.reducePow, Nat.reduceLeDiff, Int.reduceLE, Int.reduceLT, Int.reduceToNat, Int.reduceEq, Nat.reduceBEq, itsOf, gdA, byteI, opid, lenQ, ixQ, ldH, readAt, readCells, asCell, faQ, exQ, fldQ, partA, buildQ, slQ, stH, bslH, appH, dcells, convI, elemsOf, D.one, nilS, fillD, convN, cvH, T0, T1, T2, T3, T4, T5, T22, T23, T28, T33, T52, T55, T57, psI, doI, bI, fltD, intD, boolD, hu1, e3, e4, e5, e6, hz, hz2, hzl, hzl2, ht, ht2, Nat.zero_mul, Nat.zero_le, List.length_map]) | (with_reducible refine ⟨?_, ?_⟩; (· first | (obtain ⟨rfl⟩ := ‹Hq _ _›; with_reducible refine chk_ok ?_; kernel_rfl) | kernel_rfl)) | (with_reducible intro ops hops)))
        (first | refine Call_flat [] [] (alive4_A) (by simp [cvAs, cvA, cv1, cvL, cv0, bI, byteI, encPr, psI, intD, boolD, fltD, doI, elemsOf, upd]) rfl ?_ | refine CallF_flat [] [] [] (alive4_A) (fun G _ => by simp [cvAs, cvA, cv1, cvL, cv0, bI, byteI, encPr, psI, intD, boolD, fltD, doI, elemsOf, upd]) rfl ?_)
        (repeat (first | (simp -implicitDefEqProofs only [ev1, ev2, ev3, ev4, ev5, ev6, mixed, Nat.reduceLT, Nat.reduceAdd, Nat.reduceMul, reduceIte, Nat.reduceEqDiff, reduceCtorEq, Nat.reducePow, Nat.reduceLeDiff, Int.reduceLE, Int.reduceLT, Int.reduceToNat, Int.reduceEq, Nat.reduceBEq, itsOf, gdA, byteI, opid, lenQ, ixQ, ldH, readAt, readCells, asCell, faQ, exQ, fldQ, partA, buildQ, slQ, stH, bslH, appH, dcells, convI, elemsOf, D.one, nilS, fillD, convN, cvH, T0, T1, T2, T3, T4, T5, T22, T23, T28, T33, T52, T55, T57, psI, doI, bI, fltD, intD, boolD, hu1, e3, e4, e5, e6, hz, hz2, hzl, hzl2, ht, ht2, Nat.zero_mul, Nat.zero_le, List.length_map]) | (with_reducible refine ⟨?_, ?_⟩; (· first | (obtain ⟨rfl⟩ := ‹Hq _ _›; with_reducible refine chk_ok ?_; kernel_rfl) | kernel_rfl)) | (with_reducible intro ops hops)))
        (first | refine Call_frz [1774] (hp) (by simp [cvAs, cvA, cv1, cvL, cv0, bI, byteI, encPr, psI, intD, boolD, fltD, doI, elemsOf, upd, frz, ht, hle]) ?_ | refine CallF_frz [1774] [1774] (hp) (fun G hG => by (have hG1774 := hG 1774 (by simp); simp [cvAs, cvA, cv1, cvL, cv0, bI, byteI, encPr, psI, intD, boolD, fltD, doI, elemsOf, upd, frz, ht, hle, hG1774])) (by simp) ?_)
        (repeat (first | (simp -implicitDefEqProofs only [ev1, ev2, ev3, ev4, ev5, ev6, mixed, Nat.reduceLT, Nat.reduceAdd, Nat.reduceMul, reduceIte, Nat.reduceEqDiff, reduceCtorEq, Nat.reducePow, Nat.reduceLeDiff, Int.reduceLE, Int.reduceLT, Int.reduceToNat, Int.reduceEq, Nat.reduceBEq, itsOf, gdA, byteI, opid, lenQ, ixQ, ldH, readAt, readCells, asCell, faQ, exQ, fldQ, partA, buildQ, slQ, stH, bslH, appH, dcells, convI, elemsOf, D.one, nilS, fillD, convN, cvH, T0, T1, T2, T3, T4, T5, T22, T23, T28, T33, T52, T55, T57, psI, doI, bI, fltD, intD, boolD, hu1, e3, e4, e5, e6, hz, hz2, hzl, hzl2, ht, ht2, Nat.zero_mul, Nat.zero_le, List.length_map]) | (with_reducible refine ⟨?_, ?_⟩; (· first | (obtain ⟨rfl⟩ := ‹Hq _ _›; with_reducible refine chk_ok ?_; kernel_rfl) | kernel_rfl)) | (with_reducible intro ops hops)))
        (first | refine Call_frz [2030] (hp2) (by simp [cvAs, cvA, cv1, cvL, cv0, bI, byteI, encPr, psI, intD, boolD, fltD, doI, elemsOf, upd, frz, ht2, hle2]) ?_ | refine CallF_frz [2030] [2030] (hp2) (fun G hG => by (have hG2030 := hG 2030 (by simp); simp [cvAs, cvA, cv1, cvL, cv0, bI, byteI, encPr, psI, intD, boolD, fltD, doI, elemsOf, upd, frz, ht2, hle2, hG2030])) (by simp) ?_)
        (repeat (first | (simp -implicitDefEqProofs only [ev1, ev2, ev3, ev4, ev5, ev6, mixed, Nat.reduceLT, Nat.reduceAdd, Nat.reduceMul, reduceIte, Nat.reduceEqDiff, reduceCtorEq, Nat.reducePow, Nat.reduceLeDiff, Int.reduceLE, Int.reduceLT, Int.reduceToNat, Int.reduceEq, Nat.reduceBEq, itsOf, gdA, byteI, opid, lenQ, ixQ, ldH, readAt, readCells, asCell, faQ, exQ, fldQ, partA, buildQ, slQ, stH, bslH, appH, dcells, convI, elemsOf, D.one, nilS, fillD, convN, cvH, T0, T1, T2, T3, T4, T5, T22, T23, T28, T33, T52, T55, T57, psI, doI, bI, fltD, intD, boolD, hu1, e3, e4, e5, e6, hz, hz2, hzl, hzl2, ht, ht2, Nat.zero_mul, Nat.zero_le, List.length_map]) | (with_reducible refine ⟨?_, ?_⟩; (· first | (obtain ⟨rfl⟩ := ‹Hq _ _›; with_reducible refine chk_ok ?_; kernel_rfl) | kernel_rfl)) | (with_reducible intro ops hops)))
        (first | refine Call_flat [] [] (hsk) (by simp [cvAs, cvA, cv1, cvL, cv0, bI, byteI, encPr, psI, intD, boolD, fltD, doI, elemsOf, upd]) rfl ?_ | refine CallF_flat [] [] [] (hsk) (fun G _ => by simp [cvAs, cvA, cv1, cvL, cv0, bI, byteI, encPr, psI, intD, boolD, fltD, doI, elemsOf, upd]) rfl ?_)
        (repeat (first | (simp -implicitDefEqProofs only [ev1, ev2, ev3, ev4, ev5, ev6, mixed, Nat.reduceLT, Nat.reduceAdd, Nat.reduceMul, reduceIte, Nat.reduceEqDiff, reduceCtorEq, Nat.reducePow, Nat.reduceLeDiff, Int.reduceLE, Int.reduceLT, Int.reduceToNat, Int.reduceEq, Nat.reduceBEq, itsOf, gdA, byteI, opid, lenQ, ixQ, ldH, readAt, readCells, asCell, faQ, exQ, fldQ, partA, buildQ, slQ, stH, bslH, appH, dcells, convI, elemsOf, D.one, nilS, fillD, convN, cvH, T0, T1, T2, T3, T4, T5, T22, T23, T28, T33, T52, T55, T57, psI, doI, bI, fltD, intD, boolD, hu1, e3, e4, e5, e6, hz, hz2, hzl, hzl2, ht, ht2, w0, Nat.zero_mul, Nat.zero_le, List.length_map]) | (with_reducible refine ⟨?_, ?_⟩; (· first | (obtain ⟨rfl⟩ := ‹Hq _ _›; with_reducible refine chk_ok ?_; kernel_rfl) | kernel_rfl)) | (with_reducible intro ops hops)))
        refine W_loopI (ι := Nat) (fun m => m ≤ x.length)
          (fun m => stOf [(7, .i (psI x)), (8, .pt 102 0 0 0), (11, .os 100 3 0 m), (12, intD ((x.length : Int) - 1 - (m : Int)))]
            [(100, .arr 3 ((backP x m).map encDo)), (102, .box [intD 0, intD fi])]) (fun m => x.length - m) 0 (Nat.zero_le _) ?_ ?_
        · refine le_stOf _ _ [] [(102, 1779)] ?_ ?_ rfl rfl
          · simp [cv, cvL, cv1, cv0, upd, lk, srcOf, intD, psI]
          · simp [objOk, srcOf, lk, cvO, cvL, cv0, frz, upd, D.one, intD, hO, back_zero]
        · rintro m hm2
          rw [stOf_eq]
          have hbl := back_len hm2
          by_cases hlt : m < x.length
          · have g1 : decide ((0 : Int) ≤ (x.length : Int) - 1 - (m : Int)) = true := decide_eq_true (by omega)
            have hj : (x.length : Int) - 1 - (m : Int) = ((x.length - 1 - m : Nat) : Int) := by omega
            have hjl : x.length - 1 - m < x.length := by omega
            have w1 : IntKind.i64.wrap (((x.length - 1 - m : Nat) : Int) - 1) = (x.length : Int) - 1 - ((m + 1 : Nat) : Int) := by rw [wrap64 (by omega) (by omega)]; omega
            have e1 : (x.map encPr)[x.length - 1 - m]? = some [bI x[x.length - 1 - m].k, bI x[x.length - 1 - m].v] := by rw [List.getElem?_map, List.getElem?_eq_getElem hjl]; rfl
            have hbs := back_succ hlt
            generalize x[x.length - 1 - m] = q at *
            generalize backP x m = B at *
            have u1 := uni_do B
            have e7 : m + 1 ≤ 140737488355328 := by omega
            have e8 : (m + 1) * 56 ≤ 140737488355328 := by omega
            (repeat (first | (simp -implicitDefEqProofs only [ev1, ev2, ev3, ev4, ev5, ev6, mixed, Nat.reduceLT, Nat.reduceAdd, Nat.reduceMul, reduceIte, Nat.reduceEqDiff, reduceCtorEq, Nat.reducePow, Nat.reduceLeDiff, Int.reduceLE, Int.reduceLT, Int.reduceToNat, Int.reduceEq, Nat.reduceBEq, itsOf, gdA, byteI, opid, lenQ, ixQ, ldH, readAt, readCells, asCell, faQ, exQ, fldQ, partA, buildQ, slQ, stH, bslH, appH, dcells, convI, elemsOf, D.one, nilS, fillD, convN, cvH, T0, T1, T2, T3, T4, T5, T22, T23, T28, T33, T52, T55, T57, intD, psI, g1]) | (with_reducible refine ⟨?_, ?_⟩; (· first | (obtain ⟨rfl⟩ := ‹Hq _ _›; with_reducible refine chk_ok ?_; kernel_rfl) | kernel_rfl)) | (with_reducible intro ops hops)))
            rw [hj]
            (repeat (first | (simp -implicitDefEqProofs only [ev1, ev2, ev3, ev4, ev5, ev6, mixed, Nat.reduceLT, Nat.reduceAdd, Nat.reduceMul, reduceIte, Nat.reduceEqDiff, reduceCtorEq, Nat.reducePow, Nat.reduceLeDiff, Int.reduceLE, Int.reduceLT, Int.reduceToNat, Int.reduceEq, Nat.reduceBEq, itsOf, gdA, byteI, opid, lenQ, ixQ, ldH, readAt, readCells, asCell, faQ, exQ, fldQ, partA, buildQ, slQ, stH, bslH, appH, dcells, convI, elemsOf, D.one, nilS, fillD, convN, cvH, T0, T1, T2, T3, T4, T5, T22, T23, T28, T33, T52, T55, T57, intD, psI, e1, bI, u1, e7, e8, hbl, List.length_map, w1]) | (with_reducible refine ⟨?_, ?_⟩; (· first | (obtain ⟨rfl⟩ := ‹Hq _ _›; with_reducible refine chk_ok ?_; kernel_rfl) | kernel_rfl)) | (with_reducible intro ops hops)))
            refine ⟨m + 1, hlt, le_stOf _ _ [] [(100, 4341), (102, 102)] ?_ ?_ rfl rfl, by simp; omega⟩
            · simp [cv, cvL, cv1, cv0, upd, lk, srcOf, intD, psI]
            · simp [objOk, srcOf, lk, cvO, cvL, cv0, frz, upd, D.one, intD, hO, hbs, encDo, bI]
          · have g1 : decide ((0 : Int) ≤ (x.length : Int) - 1 - (m : Int)) = false := decide_eq_false (by omega)
            have hm' : m = x.length := by omega
            subst hm'
            generalize backP x x.length = B at *
            have ht3 : List.take x.length (B.map encDo) = B.map encDo := List.take_of_length_le (by simp; omega)
            have hle3 : x.length ≤ B.length := by omega
            (repeat (first | (simp -implicitDefEqProofs only [ev1, ev2, ev3, ev4, ev5, ev6, mixed, Nat.reduceLT, Nat.reduceAdd, Nat.reduceMul, reduceIte, Nat.reduceEqDiff, reduceCtorEq, Nat.reducePow, Nat.reduceLeDiff, Int.reduceLE, Int.reduceLT, Int.reduceToNat, Int.reduceEq, Nat.reduceBEq, itsOf, gdA, byteI, opid, lenQ, ixQ, ldH, readAt, readCells, asCell, faQ, exQ, fldQ, partA, buildQ, slQ, stH, bslH, appH, dcells, convI, elemsOf, D.one, nilS, fillD, convN, cvH, T0, T1, T2, T3, T4, T5, T22, T23, T28, T33, T52, T55, T57, intD, psI, g1]) | (with_reducible refine ⟨?_, ?_⟩; (· first | (obtain ⟨rfl⟩ := ‹Hq _ _›; with_reducible refine chk_ok ?_; kernel_rfl) | kernel_rfl)) | (with_reducible intro ops hops)))
            (first | refine Call_frz [100] (hback) (by simp [cvAs, cvA, cv1, cvL, cv0, bI, byteI, encPr, psI, intD, boolD, fltD, doI, elemsOf, upd, frz, ht3, hO, lk, hle3]) ?_ | refine CallF_frz [100] [100] (hback) (fun G hG => by (have hG100 := hG 100 (by simp); simp [cvAs, cvA, cv1, cvL, cv0, bI, byteI, encPr, psI, intD, boolD, fltD, doI, elemsOf, upd, frz, ht3, hO, lk, hle3, hG100])) (by simp) ?_)
            (repeat (first | (simp -implicitDefEqProofs only [ev1, ev2, ev3, ev4, ev5, ev6, mixed, Nat.reduceLT, Nat.reduceAdd, Nat.reduceMul, reduceIte, Nat.reduceEqDiff, reduceCtorEq, Nat.reducePow, Nat.reduceLeDiff, Int.reduceLE, Int.reduceLT, Int.reduceToNat, Int.reduceEq, Nat.reduceBEq, itsOf, gdA, byteI, opid, lenQ, ixQ, ldH, readAt, readCells, asCell, faQ, exQ, fldQ, partA, buildQ, slQ, stH, bslH, appH, dcells, convI, elemsOf, D.one, nilS, fillD, convN, cvH, T0, T1, T2, T3, T4, T5, T22, T23, T28, T33, T52, T55, T57, intD, psI, fltD, boolD]) | (with_reducible refine ⟨?_, ?_⟩; (· first | (obtain ⟨rfl⟩ := ‹Hq _ _›; with_reducible refine chk_ok ?_; kernel_rfl) | kernel_rfl)) | (with_reducible intro ops hops)))
            (first | refine Call_flat [] [] (hsx) (by simp [cvAs, cvA, cv1, cvL, cv0, bI, byteI, encPr, psI, intD, boolD, fltD, doI, elemsOf, upd]) rfl ?_ | refine CallF_flat [] [] [] (hsx) (fun G _ => by simp [cvAs, cvA, cv1, cvL, cv0, bI, byteI, encPr, psI, intD, boolD, fltD, doI, elemsOf, upd]) rfl ?_)
            (repeat (first | (simp -implicitDefEqProofs only [ev1, ev2, ev3, ev4, ev5, ev6, mixed, Nat.reduceLT, Nat.reduceAdd, Nat.reduceMul, reduceIte, Nat.reduceEqDiff, reduceCtorEq, Nat.reducePow, Nat.reduceLeDiff, Int.reduceLE, Int.reduceLT, Int.reduceToNat, Int.reduceEq, Nat.reduceBEq, itsOf, gdA, byteI, opid, lenQ, ixQ, ldH, readAt, readCells, asCell, faQ, exQ, fldQ, partA, buildQ, slQ, stH, bslH, appH, dcells, convI, elemsOf, D.one, nilS, fillD, convN, cvH, T0, T1, T2, T3, T4, T5, T22, T23, T28, T33, T52, T55, T57, intD, psI, fltD, boolD]) | (with_reducible refine ⟨?_, ?_⟩; (· first | (obtain ⟨rfl⟩ := ‹Hq _ _›; with_reducible refine chk_ok ?_; kernel_rfl) | kernel_rfl)) | (with_reducible intro ops hops)))
            refine fin_ret [] rfl ?_
            simp [cv, cv1, cv0, upd]
      · rw [decide_eq_false hk] at hsk
        have := (hxy2 hk).symm
        subst this
        refine callD_W 92 Try.func8 rfl rfl rfl (fun _ _ => rfl) ?_
        (repeat (first | (simp -implicitDefEqProofs only [ev1, ev2, ev3, ev4, ev5, ev6, mixed, Nat.reduceLT, Nat.reduceAdd, Nat.reduceMul, reduceIte, Nat.reduceEqDiff, reduceCtorEq, Nat.reducePow, Nat.reduceLeDiff, Int.reduceLE, Int.reduceLT, Int.reduceToNat, Int.reduceEq, Nat.reduceBEq, itsOf, gdA, byteI, opid, lenQ, ixQ, ldH, readAt, readCells, asCell, faQ, exQ, fldQ, partA, buildQ, slQ, stH, bslH, appH, dcells, convI, elemsOf, D.one, nilS, fillD, convN, cvH, T0, T1, T2, T3, T4, T5, T22, T23, T28, T33, T52, T55, T57, psI, doI, bI, fltD, intD, boolD, hu1, e3, e4, e5, e6, hz, hz2, hzl, hzl2, ht, ht2, Nat.zero_mul, Nat.zero_le, List.length_map]) | (with_reducible refine ⟨?_, ?_⟩; (· first | (obtain ⟨rfl⟩ := ‹Hq _ _›; with_reducible refine chk_ok ?_; kernel_rfl) | kernel_rfl)) | (with_reducible intro ops hops)))
        (first | refine Call_flat [] [] (alive4_A) (by simp [cvAs, cvA, cv1, cvL, cv0, bI, byteI, encPr, psI, intD, boolD, fltD, doI, elemsOf, upd]) rfl ?_ | refine CallF_flat [] [] [] (alive4_A) (fun G _ => by simp [cvAs, cvA, cv1, cvL, cv0, bI, byteI, encPr, psI, intD, boolD, fltD, doI, elemsOf, upd]) rfl ?_)
        (repeat (first | (simp -implicitDefEqProofs only [ev1, ev2, ev3, ev4, ev5, ev6, mixed, Nat.reduceLT, Nat.reduceAdd, Nat.reduceMul, reduceIte, Nat.reduceEqDiff, reduceCtorEq, Nat.reducePow, Nat.reduceLeDiff, Int.reduceLE, Int.reduceLT, Int.reduceToNat, Int.reduceEq, Nat.reduceBEq, itsOf, gdA, byteI, opid, lenQ, ixQ, ldH, readAt, readCells, asCell, faQ, exQ, fldQ, partA, buildQ, slQ, stH, bslH, appH, dcells, convI, elemsOf, D.one, nilS, fillD, convN, cvH, T0, T1, T2, T3, T4, T5, T22, T23, T28, T33, T52, T55, T57, psI, doI, bI, fltD, intD, boolD, hu1, e3, e4, e5, e6, hz, hz2, hzl, hzl2, ht, ht2, Nat.zero_mul, Nat.zero_le, List.length_map]) | (with_reducible refine ⟨?_, ?_⟩; (· first | (obtain ⟨rfl⟩ := ‹Hq _ _›; with_reducible refine chk_ok ?_; kernel_rfl) | kernel_rfl)) | (with_reducible intro ops hops)))
        (first | refine Call_frz [1774] (hp) (by simp [cvAs, cvA, cv1, cvL, cv0, bI, byteI, encPr, psI, intD, boolD, fltD, doI, elemsOf, upd, frz, ht, hle]) ?_ | refine CallF_frz [1774] [1774] (hp) (fun G hG => by (have hG1774 := hG 1774 (by simp); simp [cvAs, cvA, cv1, cvL, cv0, bI, byteI, encPr, psI, intD, boolD, fltD, doI, elemsOf, upd, frz, ht, hle, hG1774])) (by simp) ?_)
        (repeat (first | (simp -implicitDefEqProofs only [ev1, ev2, ev3, ev4, ev5, ev6, mixed, Nat.reduceLT, Nat.reduceAdd, Nat.reduceMul, reduceIte, Nat.reduceEqDiff, reduceCtorEq, Nat.reducePow, Nat.reduceLeDiff, Int.reduceLE, Int.reduceLT, Int.reduceToNat, Int.reduceEq, Nat.reduceBEq, itsOf, gdA, byteI, opid, lenQ, ixQ, ldH, readAt, readCells, asCell, faQ, exQ, fldQ, partA, buildQ, slQ, stH, bslH, appH, dcells, convI, elemsOf, D.one, nilS, fillD, convN, cvH, T0, T1, T2, T3, T4, T5, T22, T23, T28, T33, T52, T55, T57, psI, doI, bI, fltD, intD, boolD, hu1, e3, e4, e5, e6, hz, hz2, hzl, hzl2, ht, ht2, Nat.zero_mul, Nat.zero_le, List.length_map]) | (with_reducible refine ⟨?_, ?_⟩; (· first | (obtain ⟨rfl⟩ := ‹Hq _ _›; with_reducible refine chk_ok ?_; kernel_rfl) | kernel_rfl)) | (with_reducible intro ops hops)))
        (first | refine Call_frz [2030] (hp2) (by simp [cvAs, cvA, cv1, cvL, cv0, bI, byteI, encPr, psI, intD, boolD, fltD, doI, elemsOf, upd, frz, ht2, hle2]) ?_ | refine CallF_frz [2030] [2030] (hp2) (fun G hG => by (have hG2030 := hG 2030 (by simp); simp [cvAs, cvA, cv1, cvL, cv0, bI, byteI, encPr, psI, intD, boolD, fltD, doI, elemsOf, upd, frz, ht2, hle2, hG2030])) (by simp) ?_)
        (repeat (first | (simp -implicitDefEqProofs only [ev1, ev2, ev3, ev4, ev5, ev6, mixed, Nat.reduceLT, Nat.reduceAdd, Nat.reduceMul, reduceIte, Nat.reduceEqDiff, reduceCtorEq, Nat.reducePow, Nat.reduceLeDiff, Int.reduceLE, Int.reduceLT, Int.reduceToNat, Int.reduceEq, Nat.reduceBEq, itsOf, gdA, byteI, opid, lenQ, ixQ, ldH, readAt, readCells, asCell, faQ, exQ, fldQ, partA, buildQ, slQ, stH, bslH, appH, dcells, convI, elemsOf, D.one, nilS, fillD, convN, cvH, T0, T1, T2, T3, T4, T5, T22, T23, T28, T33, T52, T55, T57, psI, doI, bI, fltD, intD, boolD, hu1, e3, e4, e5, e6, hz, hz2, hzl, hzl2, ht, ht2, Nat.zero_mul, Nat.zero_le, List.length_map]) | (with_reducible refine ⟨?_, ?_⟩; (· first | (obtain ⟨rfl⟩ := ‹Hq _ _›; with_reducible refine chk_ok ?_; kernel_rfl) | kernel_rfl)) | (with_reducible intro ops hops)))
        (first | refine Call_flat [] [] (hsk) (by simp [cvAs, cvA, cv1, cvL, cv0, bI, byteI, encPr, psI, intD, boolD, fltD, doI, elemsOf, upd]) rfl ?_ | refine CallF_flat [] [] [] (hsk) (fun G _ => by simp [cvAs, cvA, cv1, cvL, cv0, bI, byteI, encPr, psI, intD, boolD, fltD, doI, elemsOf, upd]) rfl ?_)
        (repeat (first | (simp -implicitDefEqProofs only [ev1, ev2, ev3, ev4, ev5, ev6, mixed, Nat.reduceLT, Nat.reduceAdd, Nat.reduceMul, reduceIte, Nat.reduceEqDiff, reduceCtorEq, Nat.reducePow, Nat.reduceLeDiff, Int.reduceLE, Int.reduceLT, Int.reduceToNat, Int.reduceEq, Nat.reduceBEq, itsOf, gdA, byteI, opid, lenQ, ixQ, ldH, readAt, readCells, asCell, faQ, exQ, fldQ, partA, buildQ, slQ, stH, bslH, appH, dcells, convI, elemsOf, D.one, nilS, fillD, convN, cvH, T0, T1, T2, T3, T4, T5, T22, T23, T28, T33, T52, T55, T57, psI, doI, bI, fltD, intD, boolD, hu1, e3, e4, e5, e6, hz, hz2, hzl, hzl2, ht, ht2, w0, Nat.zero_mul, Nat.zero_le, List.length_map]) | (with_reducible refine ⟨?_, ?_⟩; (· first | (obtain ⟨rfl⟩ := ‹Hq _ _›; with_reducible refine chk_ok ?_; kernel_rfl) | kernel_rfl)) | (with_reducible intro ops hops)))
        (first | refine Call_flat [] [] (hsx) (by simp [cvAs, cvA, cv1, cvL, cv0, bI, byteI, encPr, psI, intD, boolD, fltD, doI, elemsOf, upd]) rfl ?_ | refine CallF_flat [] [] [] (hsx) (fun G _ => by simp [cvAs, cvA, cv1, cvL, cv0, bI, byteI, encPr, psI, intD, boolD, fltD, doI, elemsOf, upd]) rfl ?_)
        (repeat (first | (simp -implicitDefEqProofs only [ev1, ev2, ev3, ev4, ev5, ev6, mixed, Nat.reduceLT, Nat.reduceAdd, Nat.reduceMul, reduceIte, Nat.reduceEqDiff, reduceCtorEq, Nat.reducePow, Nat.reduceLeDiff, Int.reduceLE, Int.reduceLT, Int.reduceToNat, Int.reduceEq, Nat.reduceBEq, itsOf, gdA, byteI, opid, lenQ, ixQ, ldH, readAt, readCells, asCell, faQ, exQ, fldQ, partA, buildQ, slQ, stH, bslH, appH, dcells, convI, elemsOf, D.one, nilS, fillD, convN, cvH, T0, T1, T2, T3, T4, T5, T22, T23, T28, T33, T52, T55, T57, psI, doI, bI, fltD, intD, boolD, hu1, e3, e4, e5, e6, hz, hz2, hzl, hzl2, ht, ht2, w0, Nat.zero_mul, Nat.zero_le, List.length_map]) | (with_reducible refine ⟨?_, ?_⟩; (· first | (obtain ⟨rfl⟩ := ‹Hq _ _›; with_reducible refine chk_ok ?_; kernel_rfl) | kernel_rfl)) | (with_reducible intro ops hops)))
        refine W_loopI (ι := Nat) (fun m => m ≤ x.length)
          (fun m => stOf [(7, .i (psI x)), (8, .pt 102 0 0 0), (11, .os 100 3 0 m), (12, intD ((x.length : Int) - 1 - (m : Int)))]
            [(100, .arr 3 ((backP x m).map encDo)), (102, .box [intD 0, intD fi])]) (fun m => x.length - m) 0 (Nat.zero_le _) ?_ ?_
        · refine le_stOf _ _ [] [(102, 1779)] ?_ ?_ rfl rfl
          · simp [cv, cvL, cv1, cv0, upd, lk, srcOf, intD, psI]
          · simp [objOk, srcOf, lk, cvO, cvL, cv0, frz, upd, D.one, intD, hO, back_zero]
        · rintro m hm2
          rw [stOf_eq]
          have hbl := back_len hm2
          by_cases hlt : m < x.length
          · have g1 : decide ((0 : Int) ≤ (x.length : Int) - 1 - (m : Int)) = true := decide_eq_true (by omega)
            have hj : (x.length : Int) - 1 - (m : Int) = ((x.length - 1 - m : Nat) : Int) := by omega
            have hjl : x.length - 1 - m < x.length := by omega
            have w1 : IntKind.i64.wrap (((x.length - 1 - m : Nat) : Int) - 1) = (x.length : Int) - 1 - ((m + 1 : Nat) : Int) := by rw [wrap64 (by omega) (by omega)]; omega
            have e1 : (x.map encPr)[x.length - 1 - m]? = some [bI x[x.length - 1 - m].k, bI x[x.length - 1 - m].v] := by rw [List.getElem?_map, List.getElem?_eq_getElem hjl]; rfl
            have hbs := back_succ hlt
            generalize x[x.length - 1 - m] = q at *
            generalize backP x m = B at *
            have u1 := uni_do B
            have e7 : m + 1 ≤ 140737488355328 := by omega
            have e8 : (m + 1) * 56 ≤ 140737488355328 := by omega
            (repeat (first | (simp -implicitDefEqProofs only [ev1, ev2, ev3, ev4, ev5, ev6, mixed, Nat.reduceLT, Nat.reduceAdd, Nat.reduceMul, reduceIte, Nat.reduceEqDiff, reduceCtorEq, Nat.reducePow, Nat.reduceLeDiff, Int.reduceLE, Int.reduceLT, Int.reduceToNat, Int.reduceEq, Nat.reduceBEq, itsOf, gdA, byteI, opid, lenQ, ixQ, ldH, readAt, readCells, asCell, faQ, exQ, fldQ, partA, buildQ, slQ, stH, bslH, appH, dcells, convI, elemsOf, D.one, nilS, fillD, convN, cvH, T0, T1, T2, T3, T4, T5, T22, T23, T28, T33, T52, T55, T57, intD, psI, g1]) | (with_reducible refine ⟨?_, ?_⟩; (· first | (obtain ⟨rfl⟩ := ‹Hq _ _›; with_reducible refine chk_ok ?_; kernel_rfl) | kernel_rfl)) | (with_reducible intro ops hops)))
            rw [hj]
            (repeat (first | (simp -implicitDefEqProofs only [ev1, ev2, ev3, ev4, ev5, ev6, mixed, Nat.reduceLT, Nat.reduceAdd, Nat.reduceMul, reduceIte, Nat.reduceEqDiff, reduceCtorEq, Nat.reducePow, Nat.reduceLeDiff, Int.reduceLE, Int.reduceLT, Int.reduceToNat, Int.reduceEq, Nat.reduceBEq, itsOf, gdA, byteI, opid, lenQ, ixQ, ldH, readAt, readCells, asCell, faQ, exQ, fldQ, partA, buildQ, slQ, stH, bslH, appH, dcells, convI, elemsOf, D.one, nilS, fillD, convN, cvH, T0, T1, T2, T3, T4, T5, T22, T23, T28, T33, T52, T55, T57, intD, psI, e1, bI, u1, e7, e8, hbl, List.length_map, w1]) | (with_reducible refine ⟨?_, ?_⟩; (· first | (obtain ⟨rfl⟩ := ‹Hq _ _›; with_reducible refine chk_ok ?_; kernel_rfl) | kernel_rfl)) | (with_reducible intro ops hops)))
            refine ⟨m + 1, hlt, le_stOf _ _ [] [(100, 4341), (102, 102)] ?_ ?_ rfl rfl, by simp; omega⟩
            · simp [cv, cvL, cv1, cv0, upd, lk, srcOf, intD, psI]
            · simp [objOk, srcOf, lk, cvO, cvL, cv0, frz, upd, D.one, intD, hO, hbs, encDo, bI]
          · have g1 : decide ((0 : Int) ≤ (x.length : Int) - 1 - (m : Int)) = false := decide_eq_false (by omega)
            have hm' : m = x.length := by omega
            subst hm'
            generalize backP x x.length = B at *
            have ht3 : List.take x.length (B.map encDo) = B.map encDo := List.take_of_length_le (by simp; omega)
            have hle3 : x.length ≤ B.length := by omega
            (repeat (first | (simp -implicitDefEqProofs only [ev1, ev2, ev3, ev4, ev5, ev6, mixed, Nat.reduceLT, Nat.reduceAdd, Nat.reduceMul, reduceIte, Nat.reduceEqDiff, reduceCtorEq, Nat.reducePow, Nat.reduceLeDiff, Int.reduceLE, Int.reduceLT, Int.reduceToNat, Int.reduceEq, Nat.reduceBEq, itsOf, gdA, byteI, opid, lenQ, ixQ, ldH, readAt, readCells, asCell, faQ, exQ, fldQ, partA, buildQ, slQ, stH, bslH, appH, dcells, convI, elemsOf, D.one, nilS, fillD, convN, cvH, T0, T1, T2, T3, T4, T5, T22, T23, T28, T33, T52, T55, T57, intD, psI, g1]) | (with_reducible refine ⟨?_, ?_⟩; (· first | (obtain ⟨rfl⟩ := ‹Hq _ _›; with_reducible refine chk_ok ?_; kernel_rfl) | kernel_rfl)) | (with_reducible intro ops hops)))
            (first | refine Call_frz [100] (hback) (by simp [cvAs, cvA, cv1, cvL, cv0, bI, byteI, encPr, psI, intD, boolD, fltD, doI, elemsOf, upd, frz, ht3, hO, lk, hle3]) ?_ | refine CallF_frz [100] [100] (hback) (fun G hG => by (have hG100 := hG 100 (by simp); simp [cvAs, cvA, cv1, cvL, cv0, bI, byteI, encPr, psI, intD, boolD, fltD, doI, elemsOf, upd, frz, ht3, hO, lk, hle3, hG100])) (by simp) ?_)
            (repeat (first | (simp -implicitDefEqProofs only [ev1, ev2, ev3, ev4, ev5, ev6, mixed, Nat.reduceLT, Nat.reduceAdd, Nat.reduceMul, reduceIte, Nat.reduceEqDiff, reduceCtorEq, Nat.reducePow, Nat.reduceLeDiff, Int.reduceLE, Int.reduceLT, Int.reduceToNat, Int.reduceEq, Nat.reduceBEq, itsOf, gdA, byteI, opid, lenQ, ixQ, ldH, readAt, readCells, asCell, faQ, exQ, fldQ, partA, buildQ, slQ, stH, bslH, appH, dcells, convI, elemsOf, D.one, nilS, fillD, convN, cvH, T0, T1, T2, T3, T4, T5, T22, T23, T28, T33, T52, T55, T57, intD, psI, fltD, boolD]) | (with_reducible refine ⟨?_, ?_⟩; (· first | (obtain ⟨rfl⟩ := ‹Hq _ _›; with_reducible refine chk_ok ?_; kernel_rfl) | kernel_rfl)) | (with_reducible intro ops hops)))
            (first | refine Call_flat [] [] (hsx) (by simp [cvAs, cvA, cv1, cvL, cv0, bI, byteI, encPr, psI, intD, boolD, fltD, doI, elemsOf, upd]) rfl ?_ | refine CallF_flat [] [] [] (hsx) (fun G _ => by simp [cvAs, cvA, cv1, cvL, cv0, bI, byteI, encPr, psI, intD, boolD, fltD, doI, elemsOf, upd]) rfl ?_)
            (repeat (first | (simp -implicitDefEqProofs only [ev1, ev2, ev3, ev4, ev5, ev6, mixed, Nat.reduceLT, Nat.reduceAdd, Nat.reduceMul, reduceIte, Nat.reduceEqDiff, reduceCtorEq, Nat.reducePow, Nat.reduceLeDiff, Int.reduceLE, Int.reduceLT, Int.reduceToNat, Int.reduceEq, Nat.reduceBEq, itsOf, gdA, byteI, opid, lenQ, ixQ, ldH, readAt, readCells, asCell, faQ, exQ, fldQ, partA, buildQ, slQ, stH, bslH, appH, dcells, convI, elemsOf, D.one, nilS, fillD, convN, cvH, T0, T1, T2, T3, T4, T5, T22, T23, T28, T33, T52, T55, T57, intD, psI, fltD, boolD]) | (with_reducible refine ⟨?_, ?_⟩; (· first | (obtain ⟨rfl⟩ := ‹Hq _ _›; with_reducible refine chk_ok ?_; kernel_rfl) | kernel_rfl)) | (with_reducible intro ops hops)))
            refine fin_ret [] rfl ?_
            simp [cv, cv1, cv0, upd]
    · have g1 : decide ((ge : Int) = 0) = false := by simp; omega
      subst hfe
      refine callD_W 92 Try.func8 rfl rfl rfl (fun _ _ => rfl) ?_
      (repeat (first | (simp -implicitDefEqProofs only [ev1, ev2, ev3, ev4, ev5, ev6, mixed, Nat.reduceLT, Nat.reduceAdd, Nat.reduceMul, reduceIte, Nat.reduceEqDiff, reduceCtorEq, Nat.reducePow, Nat.reduceLeDiff, Int.reduceLE, Int.reduceLT, Int.reduceToNat, Int.reduceEq, Nat.reduceBEq, itsOf, gdA, byteI, opid, lenQ, ixQ, ldH, readAt, readCells, asCell, faQ, exQ, fldQ, partA, buildQ, slQ, stH, bslH, appH, dcells, convI, elemsOf, D.one, nilS, fillD, convN, cvH, T0, T1, T2, T3, T4, T5, T22, T23, T28, T33, T52, T55, T57, psI, doI, bI, fltD, intD, boolD, hu1, e3, e4, e5, e6, hz, hz2, hzl, hzl2, ht, ht2, Nat.zero_mul, Nat.zero_le, List.length_map]) | (with_reducible refine ⟨?_, ?_⟩; (· first | (obtain ⟨rfl⟩ := ‹Hq _ _›; with_reducible refine chk_ok ?_; kernel_rfl) | kernel_rfl)) | (with_reducible intro ops hops)))
      (first | refine Call_flat [] [] (alive4_A) (by simp [cvAs, cvA, cv1, cvL, cv0, bI, byteI, encPr, psI, intD, boolD, fltD, doI, elemsOf, upd]) rfl ?_ | refine CallF_flat [] [] [] (alive4_A) (fun G _ => by simp [cvAs, cvA, cv1, cvL, cv0, bI, byteI, encPr, psI, intD, boolD, fltD, doI, elemsOf, upd]) rfl ?_)
      (repeat (first | (simp -implicitDefEqProofs only [ev1, ev2, ev3, ev4, ev5, ev6, mixed, Nat.reduceLT, Nat.reduceAdd, Nat.reduceMul, reduceIte, Nat.reduceEqDiff, reduceCtorEq, Nat.reducePow, Nat.reduceLeDiff, Int.reduceLE, Int.reduceLT, Int.reduceToNat, Int.reduceEq, Nat.reduceBEq, itsOf, gdA, byteI, opid, lenQ, ixQ, ldH, readAt, readCells, asCell, faQ, exQ, fldQ, partA, buildQ, slQ, stH, bslH, appH, dcells, convI, elemsOf, D.one, nilS, fillD, convN, cvH, T0, T1, T2, T3, T4, T5, T22, T23, T28, T33, T52, T55, T57, psI, doI, bI, fltD, intD, boolD, hu1, e3, e4, e5, e6, hz, hz2, hzl, hzl2, ht, ht2, Nat.zero_mul, Nat.zero_le, List.length_map]) | (with_reducible refine ⟨?_, ?_⟩; (· first | (obtain ⟨rfl⟩ := ‹Hq _ _›; with_reducible refine chk_ok ?_; kernel_rfl) | kernel_rfl)) | (with_reducible intro ops hops)))
      (first | refine Call_frz [1774] (hp) (by simp [cvAs, cvA, cv1, cvL, cv0, bI, byteI, encPr, psI, intD, boolD, fltD, doI, elemsOf, upd, frz, ht, hle]) ?_ | refine CallF_frz [1774] [1774] (hp) (fun G hG => by (have hG1774 := hG 1774 (by simp); simp [cvAs, cvA, cv1, cvL, cv0, bI, byteI, encPr, psI, intD, boolD, fltD, doI, elemsOf, upd, frz, ht, hle, hG1774])) (by simp) ?_)
      (repeat (first | (simp -implicitDefEqProofs only [ev1, ev2, ev3, ev4, ev5, ev6, mixed, Nat.reduceLT, Nat.reduceAdd, Nat.reduceMul, reduceIte, Nat.reduceEqDiff, reduceCtorEq, Nat.reducePow, Nat.reduceLeDiff, Int.reduceLE, Int.reduceLT, Int.reduceToNat, Int.reduceEq, Nat.reduceBEq, itsOf, gdA, byteI, opid, lenQ, ixQ, ldH, readAt, readCells, asCell, faQ, exQ, fldQ, partA, buildQ, slQ, stH, bslH, appH, dcells, convI, elemsOf, D.one, nilS, fillD, convN, cvH, T0, T1, T2, T3, T4, T5, T22, T23, T28, T33, T52, T55, T57, psI, doI, bI, fltD, intD, boolD, hu1, e3, e4, e5, e6, hz, hz2, hzl, hzl2, ht, ht2, Nat.zero_mul, Nat.zero_le, List.length_map]) | (with_reducible refine ⟨?_, ?_⟩; (· first | (obtain ⟨rfl⟩ := ‹Hq _ _›; with_reducible refine chk_ok ?_; kernel_rfl) | kernel_rfl)) | (with_reducible intro ops hops)))
      (first | refine Call_frz [2030] (hp2) (by simp [cvAs, cvA, cv1, cvL, cv0, bI, byteI, encPr, psI, intD, boolD, fltD, doI, elemsOf, upd, frz, ht2, hle2]) ?_ | refine CallF_frz [2030] [2030] (hp2) (fun G hG => by (have hG2030 := hG 2030 (by simp); simp [cvAs, cvA, cv1, cvL, cv0, bI, byteI, encPr, psI, intD, boolD, fltD, doI, elemsOf, upd, frz, ht2, hle2, hG2030])) (by simp) ?_)
      (repeat (first | (simp -implicitDefEqProofs only [ev1, ev2, ev3, ev4, ev5, ev6, mixed, Nat.reduceLT, Nat.reduceAdd, Nat.reduceMul, reduceIte, Nat.reduceEqDiff, reduceCtorEq, Nat.reducePow, Nat.reduceLeDiff, Int.reduceLE, Int.reduceLT, Int.reduceToNat, Int.reduceEq, Nat.reduceBEq, itsOf, gdA, byteI, opid, lenQ, ixQ, ldH, readAt, readCells, asCell, faQ, exQ, fldQ, partA, buildQ, slQ, stH, bslH, appH, dcells, convI, elemsOf, D.one, nilS, fillD, convN, cvH, T0, T1, T2, T3, T4, T5, T22, T23, T28, T33, T52, T55, T57, psI, doI, bI, fltD, intD, boolD, hu1, e3, e4, e5, e6, hz, hz2, hzl, hzl2, ht, ht2, Nat.zero_mul, Nat.zero_le, List.length_map, g1]) | (with_reducible refine ⟨?_, ?_⟩; (· first | (obtain ⟨rfl⟩ := ‹Hq _ _›; with_reducible refine chk_ok ?_; kernel_rfl) | kernel_rfl)) | (with_reducible intro ops hops)))
      refine fin_ret [] rfl ?_
      simp [cv, cv1, cv0, upd]
  · have g1 : decide ((fe : Int) = 0) = false := by simp; omega
    refine callD_W 92 Try.func8 rfl rfl rfl (fun _ _ => rfl) ?_
    (repeat (first | (simp -implicitDefEqProofs only [ev1, ev2, ev3, ev4, ev5, ev6, mixed, Nat.reduceLT, Nat.reduceAdd, Nat.reduceMul, reduceIte, Nat.reduceEqDiff, reduceCtorEq, Nat.reducePow, Nat.reduceLeDiff, Int.reduceLE, Int.reduceLT, Int.reduceToNat, Int.reduceEq, Nat.reduceBEq, itsOf, gdA, byteI, opid, lenQ, ixQ, ldH, readAt, readCells, asCell, faQ, exQ, fldQ, partA, buildQ, slQ, stH, bslH, appH, dcells, convI, elemsOf, D.one, nilS, fillD, convN, cvH, T0, T1, T2, T3, T4, T5, T22, T23, T28, T33, T52, T55, T57, psI, doI, bI, fltD, intD, boolD, hu1, e3, e4, e5, e6, hz, hz2, hzl, hzl2, ht, ht2, Nat.zero_mul, Nat.zero_le, List.length_map]) | (with_reducible refine ⟨?_, ?_⟩; (· first | (obtain ⟨rfl⟩ := ‹Hq _ _›; with_reducible refine chk_ok ?_; kernel_rfl) | kernel_rfl)) | (with_reducible intro ops hops)))
    (first | refine Call_flat [] [] (alive4_A) (by simp [cvAs, cvA, cv1, cvL, cv0, bI, byteI, encPr, psI, intD, boolD, fltD, doI, elemsOf, upd]) rfl ?_ | refine CallF_flat [] [] [] (alive4_A) (fun G _ => by simp [cvAs, cvA, cv1, cvL, cv0, bI, byteI, encPr, psI, intD, boolD, fltD, doI, elemsOf, upd]) rfl ?_)
    (repeat (first | (simp -implicitDefEqProofs only [ev1, ev2, ev3, ev4, ev5, ev6, mixed, Nat.reduceLT, Nat.reduceAdd, Nat.reduceMul, reduceIte, Nat.reduceEqDiff, reduceCtorEq, Nat.reducePow, Nat.reduceLeDiff, Int.reduceLE, Int.reduceLT, Int.reduceToNat, Int.reduceEq, Nat.reduceBEq, itsOf, gdA, byteI, opid, lenQ, ixQ, ldH, readAt, readCells, asCell, faQ, exQ, fldQ, partA, buildQ, slQ, stH, bslH, appH, dcells, convI, elemsOf, D.one, nilS, fillD, convN, cvH, T0, T1, T2, T3, T4, T5, T22, T23, T28, T33, T52, T55, T57, psI, doI, bI, fltD, intD, boolD, hu1, e3, e4, e5, e6, hz, hz2, hzl, hzl2, ht, ht2, Nat.zero_mul, Nat.zero_le, List.length_map]) | (with_reducible refine ⟨?_, ?_⟩; (· first | (obtain ⟨rfl⟩ := ‹Hq _ _›; with_reducible refine chk_ok ?_; kernel_rfl) | kernel_rfl)) | (with_reducible intro ops hops)))
    (first | refine Call_frz [1774] (hp) (by simp [cvAs, cvA, cv1, cvL, cv0, bI, byteI, encPr, psI, intD, boolD, fltD, doI, elemsOf, upd, frz, ht, hle]) ?_ | refine CallF_frz [1774] [1774] (hp) (fun G hG => by (have hG1774 := hG 1774 (by simp); simp [cvAs, cvA, cv1, cvL, cv0, bI, byteI, encPr, psI, intD, boolD, fltD, doI, elemsOf, upd, frz, ht, hle, hG1774])) (by simp) ?_)
    (repeat (first | (simp -implicitDefEqProofs only [ev1, ev2, ev3, ev4, ev5, ev6, mixed, Nat.reduceLT, Nat.reduceAdd, Nat.reduceMul, reduceIte, Nat.reduceEqDiff, reduceCtorEq, Nat.reducePow, Nat.reduceLeDiff, Int.reduceLE, Int.reduceLT, Int.reduceToNat, Int.reduceEq, Nat.reduceBEq, itsOf, gdA, byteI, opid, lenQ, ixQ, ldH, readAt, readCells, asCell, faQ, exQ, fldQ, partA, buildQ, slQ, stH, bslH, appH, dcells, convI, elemsOf, D.one, nilS, fillD, convN, cvH, T0, T1, T2, T3, T4, T5, T22, T23, T28, T33, T52, T55, T57, psI, doI, bI, fltD, intD, boolD, hu1, e3, e4, e5, e6, hz, hz2, hzl, hzl2, ht, ht2, Nat.zero_mul, Nat.zero_le, List.length_map]) | (with_reducible refine ⟨?_, ?_⟩; (· first | (obtain ⟨rfl⟩ := ‹Hq _ _›; with_reducible refine chk_ok ?_; kernel_rfl) | kernel_rfl)) | (with_reducible intro ops hops)))
    (first | refine Call_frz [2030] (hp2) (by simp [cvAs, cvA, cv1, cvL, cv0, bI, byteI, encPr, psI, intD, boolD, fltD, doI, elemsOf, upd, frz, ht2, hle2]) ?_ | refine CallF_frz [2030] [2030] (hp2) (fun G hG => by (have hG2030 := hG 2030 (by simp); simp [cvAs, cvA, cv1, cvL, cv0, bI, byteI, encPr, psI, intD, boolD, fltD, doI, elemsOf, upd, frz, ht2, hle2, hG2030])) (by simp) ?_)
    (repeat (first | (simp -implicitDefEqProofs only [ev1, ev2, ev3, ev4, ev5, ev6, mixed, Nat.reduceLT, Nat.reduceAdd, Nat.reduceMul, reduceIte, Nat.reduceEqDiff, reduceCtorEq, Nat.reducePow, Nat.reduceLeDiff, Int.reduceLE, Int.reduceLT, Int.reduceToNat, Int.reduceEq, Nat.reduceBEq, itsOf, gdA, byteI, opid, lenQ, ixQ, ldH, readAt, readCells, asCell, faQ, exQ, fldQ, partA, buildQ, slQ, stH, bslH, appH, dcells, convI, elemsOf, D.one, nilS, fillD, convN, cvH, T0, T1, T2, T3, T4, T5, T22, T23, T28, T33, T52, T55, T57, psI, doI, bI, fltD, intD, boolD, hu1, e3, e4, e5, e6, hz, hz2, hzl, hzl2, ht, ht2, Nat.zero_mul, Nat.zero_le, List.length_map, g1]) | (with_reducible refine ⟨?_, ?_⟩; (· first | (obtain ⟨rfl⟩ := ‹Hq _ _›; with_reducible refine chk_ok ?_; kernel_rfl) | kernel_rfl)) | (with_reducible intro ops hops)))
    refine fin_ret [] rfl ?_
    simp [cv, cv1, cv0, upd]
end Go.Proofs.Ythbnhbmakapglaa
