/- landref4.Drop, Set, Get, Same, Root, Play: by value. -/
import Derived.Test.YthbnhbmakapglaaBookQ
import Derived.Test.YthbnhbmakapglaaRefB
set_option linter.all false
namespace Go.Proofs.Ythbnhbmakapglaa
open Go Go.Abs Go.RowKit Go.Proofs.Ythbnhbmakapglaa.Ty

set_option maxHeartbeats 4000000
theorem uni_pr (l : List PairD) : uni 2 (l.map encPr) = true := by simp [uni, encPr]
theorem drop_A (l : List PairD) (key : List UInt8) (hl : l.length ≤ 1048576) (hb : ∀ p ∈ l, p.k.length ≤ 1048576) :
    PureD Try.prog 72 [.i (psI l), .i (bI key)] (.i (psI (rmP l key))) := by
  generalize hR : rmP l key = R
  refine callD_W 25 Try.func72 rfl rfl rfl (fun _ _ => rfl) ?_
  (repeat (first | (simp -implicitDefEqProofs only [ev1, ev2, ev3, ev4, ev5, ev6, mixed, Nat.reduceLT, Nat.reduceAdd, Nat.reduceMul, reduceIte, Nat.reduceEqDiff, reduceCtorEq, Nat.reducePow, Nat.reduceLeDiff, Int.reduceLE, Int.reduceLT, Int.reduceToNat, Int.reduceEq, Nat.reduceBEq, itsOf, gdA, byteI, opid, lenQ, ixQ, ldH, readAt, readCells, asCell, faQ, exQ, fldQ, partA, buildQ, slQ, stH, bslH, appH, dcells, convI, elemsOf, D.one, nilS, fillD, convN, cvH, T1, T3, T4, T5, T22, T23, T52, psI]) | (with_reducible refine ⟨?_, ?_⟩; (· first | (obtain ⟨rfl⟩ := ‹Hq _ _›; with_reducible refine chk_ok ?_; kernel_rfl) | kernel_rfl)) | (with_reducible intro ops hops)))
  refine W_loopI (ι := Nat × List PairD) (fun s => s.1 ≤ l.length ∧ s.2 ++ rmP (l.drop s.1) key = R ∧ s.2.length ≤ s.1)
    (fun s => stOf [(1, .i (bI key)), (5, .os 100 2 0 s.2.length), (8, .i (psI l)), (9, intD l.length), (10, intD s.1)] [(100, .arr 2 (s.2.map encPr))]) (fun s => l.length - s.1) (0, []) ⟨Nat.zero_le _, by simpa using hR, Nat.le_refl _⟩ ?_ ?_
  · refine le_stOf _ _ [] [] ?_ ?_ rfl rfl
    · simp [cv, cvL, cv1, cv0, upd, lk, srcOf, intD, psI]
    · simp [objOk, srcOf, lk]
  · rintro ⟨i, o⟩ ⟨hi, ho, hol⟩
    simp only at hi ho hol
    rw [stOf_eq]
    clear hR
    by_cases hlt : i < l.length
    · have g1 : decide ((i : Int) < (l.length : Int)) = true := decide_eq_true (by omega)
      have e1 : (l.map encPr)[i]? = some [bI l[i].k, bI l[i].v] := by rw [List.getElem?_map, List.getElem?_eq_getElem hlt]; rfl
      have w1 : IntKind.i64.wrap ((i : Int) + 1) = ((i + 1 : Nat) : Int) := by rw [wrap64 (by omega) (by omega)]; omega
      rw [List.drop_eq_getElem_cons hlt] at ho
      have hs := same_A l[i].k key (by have := hb _ (List.getElem_mem hlt); omega)
      generalize l[i] = q at *
      have e3 : o.length + 1 ≤ 140737488355328 := by omega
      have e4 : (o.length + 1) * 48 ≤ 140737488355328 := by omega
      have hu := uni_pr o
      by_cases hk : q.k = key
      · rw [decide_eq_true hk] at hs
        have ho2 : o ++ rmP (l.drop (i + 1)) key = R := by rw [← ho]; simp [rmP, hk]
        (repeat (first | (simp -implicitDefEqProofs only [ev1, ev2, ev3, ev4, ev5, ev6, mixed, Nat.reduceLT, Nat.reduceAdd, Nat.reduceMul, reduceIte, Nat.reduceEqDiff, reduceCtorEq, Nat.reducePow, Nat.reduceLeDiff, Int.reduceLE, Int.reduceLT, Int.reduceToNat, Int.reduceEq, Nat.reduceBEq, itsOf, gdA, byteI, opid, lenQ, ixQ, ldH, readAt, readCells, asCell, faQ, exQ, fldQ, partA, buildQ, slQ, stH, bslH, appH, dcells, convI, elemsOf, D.one, nilS, fillD, convN, cvH, T1, T3, T4, T5, T22, T23, T52, intD, psI, g1, e1]) | (with_reducible refine ⟨?_, ?_⟩; (· first | (obtain ⟨rfl⟩ := ‹Hq _ _›; with_reducible refine chk_ok ?_; kernel_rfl) | kernel_rfl)) | (with_reducible intro ops hops)))
        (first | refine Call_flat [] [] (hs) (by simp [cvAs, cvA, cv1, cvL, cv0, bI, byteI, encPr, prD, psI, intD, boolD, elemsOf, upd]) rfl ?_ | refine CallF_flat [] [] [] (hs) (fun G _ => by simp [cvAs, cvA, cv1, cvL, cv0, bI, byteI, encPr, prD, psI, intD, boolD, elemsOf, upd]) rfl ?_)
        (repeat (first | (simp -implicitDefEqProofs only [ev1, ev2, ev3, ev4, ev5, ev6, mixed, Nat.reduceLT, Nat.reduceAdd, Nat.reduceMul, reduceIte, Nat.reduceEqDiff, reduceCtorEq, Nat.reducePow, Nat.reduceLeDiff, Int.reduceLE, Int.reduceLT, Int.reduceToNat, Int.reduceEq, Nat.reduceBEq, itsOf, gdA, byteI, opid, lenQ, ixQ, ldH, readAt, readCells, asCell, faQ, exQ, fldQ, partA, buildQ, slQ, stH, bslH, appH, dcells, convI, elemsOf, D.one, nilS, fillD, convN, cvH, T1, T3, T4, T5, T22, T23, T52, w1]) | (with_reducible refine ⟨?_, ?_⟩; (· first | (obtain ⟨rfl⟩ := ‹Hq _ _›; with_reducible refine chk_ok ?_; kernel_rfl) | kernel_rfl)) | (with_reducible intro ops hops)))
        refine ⟨(i + 1, o), ⟨hlt, ho2, by simp; omega⟩, le_stOf _ _ [] [(100, 100)] ?_ ?_ rfl rfl, by simp; omega⟩
        · simp [cv, cvL, cv1, cv0, upd, lk, srcOf, intD, psI]
        · simp [objOk, srcOf, lk, cvO, frz, upd, hO]
      · rw [decide_eq_false hk] at hs
        have ho2 : (o ++ [q]) ++ rmP (l.drop (i + 1)) key = R := by rw [← ho]; simp [rmP, hk]
        (repeat (first | (simp -implicitDefEqProofs only [ev1, ev2, ev3, ev4, ev5, ev6, mixed, Nat.reduceLT, Nat.reduceAdd, Nat.reduceMul, reduceIte, Nat.reduceEqDiff, reduceCtorEq, Nat.reducePow, Nat.reduceLeDiff, Int.reduceLE, Int.reduceLT, Int.reduceToNat, Int.reduceEq, Nat.reduceBEq, itsOf, gdA, byteI, opid, lenQ, ixQ, ldH, readAt, readCells, asCell, faQ, exQ, fldQ, partA, buildQ, slQ, stH, bslH, appH, dcells, convI, elemsOf, D.one, nilS, fillD, convN, cvH, T1, T3, T4, T5, T22, T23, T52, intD, psI, g1, e1]) | (with_reducible refine ⟨?_, ?_⟩; (· first | (obtain ⟨rfl⟩ := ‹Hq _ _›; with_reducible refine chk_ok ?_; kernel_rfl) | kernel_rfl)) | (with_reducible intro ops hops)))
        (first | refine Call_flat [] [] (hs) (by simp [cvAs, cvA, cv1, cvL, cv0, bI, byteI, encPr, prD, psI, intD, boolD, elemsOf, upd]) rfl ?_ | refine CallF_flat [] [] [] (hs) (fun G _ => by simp [cvAs, cvA, cv1, cvL, cv0, bI, byteI, encPr, prD, psI, intD, boolD, elemsOf, upd]) rfl ?_)
        (repeat (first | (simp -implicitDefEqProofs only [ev1, ev2, ev3, ev4, ev5, ev6, mixed, Nat.reduceLT, Nat.reduceAdd, Nat.reduceMul, reduceIte, Nat.reduceEqDiff, reduceCtorEq, Nat.reducePow, Nat.reduceLeDiff, Int.reduceLE, Int.reduceLT, Int.reduceToNat, Int.reduceEq, Nat.reduceBEq, itsOf, gdA, byteI, opid, lenQ, ixQ, ldH, readAt, readCells, asCell, faQ, exQ, fldQ, partA, buildQ, slQ, stH, bslH, appH, dcells, convI, elemsOf, D.one, nilS, fillD, convN, cvH, T1, T3, T4, T5, T22, T23, T52, w1, e3, e4, hu, bI, List.length_map]) | (with_reducible refine ⟨?_, ?_⟩; (· first | (obtain ⟨rfl⟩ := ‹Hq _ _›; with_reducible refine chk_ok ?_; kernel_rfl) | kernel_rfl)) | (with_reducible intro ops hops)))
        refine ⟨(i + 1, o ++ [q]), ⟨hlt, ho2, by simp; omega⟩, le_stOf _ _ [] [(100, 2539)] ?_ ?_ rfl rfl, by simp; omega⟩
        · simp [cv, cvL, cv1, cv0, upd, lk, srcOf, intD, psI, bI]
        · simp [objOk, srcOf, lk, cvO, frz, upd, hO, encPr, bI]
    · have g1 : decide ((i : Int) < (l.length : Int)) = false := decide_eq_false (by omega)
      rw [List.drop_eq_nil_of_le (by omega)] at ho
      have : o = R := by rw [← ho]; simp [rmP]
      subst this
      (repeat (first | (simp -implicitDefEqProofs only [ev1, ev2, ev3, ev4, ev5, ev6, mixed, Nat.reduceLT, Nat.reduceAdd, Nat.reduceMul, reduceIte, Nat.reduceEqDiff, reduceCtorEq, Nat.reducePow, Nat.reduceLeDiff, Int.reduceLE, Int.reduceLT, Int.reduceToNat, Int.reduceEq, Nat.reduceBEq, itsOf, gdA, byteI, opid, lenQ, ixQ, ldH, readAt, readCells, asCell, faQ, exQ, fldQ, partA, buildQ, slQ, stH, bslH, appH, dcells, convI, elemsOf, D.one, nilS, fillD, convN, cvH, T1, T3, T4, T5, T22, T23, T52, intD, g1]) | (with_reducible refine ⟨?_, ?_⟩; (· first | (obtain ⟨rfl⟩ := ‹Hq _ _›; with_reducible refine chk_ok ?_; kernel_rfl) | kernel_rfl)) | (with_reducible intro ops hops)))
      refine fin_ret [100] rfl ?_
      simp [cv, cv1, cv0, upd, psI, hO, lk, elemsOf, take_len_map]

theorem set_A (l : List PairD) (p : PairD) (hs : Srt l) (hl : l.length ≤ 1048576) (hb : ∀ p ∈ l, p.k.length ≤ 1048576) :
    PureD Try.prog 73 [.i (psI l), prD p] (.i (psI (putP l p))) := by
  have hd := drop_A l p.k hl hb
  have hml := rm_len l p.k
  have hmb : ∀ q ∈ rmP l p.k, q.k.length ≤ 1048576 := fun q hq => hb q (mem_rm.1 hq).1
  have hms := srt_rm hs p.k
  have hth := there_rm (l := l) (key := p.k)
  rw [← put_rm hs p]
  generalize rmP l p.k = m at *
  rw [← put_new hms hth]
  have hpl := placeF_le m p.k
  have hiff := place_iff_srt hms p.k
  generalize placeF m p.k = j at *
  clear hth
  obtain ⟨pk, pv⟩ := p
  simp only at *
  refine callD_W 39 Try.func73 rfl rfl rfl (fun _ _ => rfl) ?_
  (repeat (first | (simp -implicitDefEqProofs only [ev1, ev2, ev3, ev4, ev5, ev6, mixed, Nat.reduceLT, Nat.reduceAdd, Nat.reduceMul, reduceIte, Nat.reduceEqDiff, reduceCtorEq, Nat.reducePow, Nat.reduceLeDiff, Int.reduceLE, Int.reduceLT, Int.reduceToNat, Int.reduceEq, Nat.reduceBEq, itsOf, gdA, byteI, opid, lenQ, ixQ, ldH, readAt, readCells, asCell, faQ, exQ, fldQ, partA, buildQ, slQ, stH, bslH, appH, dcells, convI, elemsOf, D.one, nilS, fillD, convN, cvH, T0, T1, T3, T5, T22, T23, T52, psI, prD]) | (with_reducible refine ⟨?_, ?_⟩; (· first | (obtain ⟨rfl⟩ := ‹Hq _ _›; with_reducible refine chk_ok ?_; kernel_rfl) | kernel_rfl)) | (with_reducible intro ops hops)))
  (first | refine Call_frz [] (hd) (by simp [cvAs, cvA, cv1, cvL, cv0, bI, byteI, encPr, prD, psI, intD, boolD, elemsOf, upd]) ?_ | refine CallF_frz [] [] (hd) (fun G _ => by simp [cvAs, cvA, cv1, cvL, cv0, bI, byteI, encPr, prD, psI, intD, boolD, elemsOf, upd]) (by simp) ?_)
  (repeat (first | (simp -implicitDefEqProofs only [ev1, ev2, ev3, ev4, ev5, ev6, mixed, Nat.reduceLT, Nat.reduceAdd, Nat.reduceMul, reduceIte, Nat.reduceEqDiff, reduceCtorEq, Nat.reducePow, Nat.reduceLeDiff, Int.reduceLE, Int.reduceLT, Int.reduceToNat, Int.reduceEq, Nat.reduceBEq, itsOf, gdA, byteI, opid, lenQ, ixQ, ldH, readAt, readCells, asCell, faQ, exQ, fldQ, partA, buildQ, slQ, stH, bslH, appH, dcells, convI, elemsOf, D.one, nilS, fillD, convN, cvH, T0, T1, T3, T5, T22, T23, T52, psI]) | (with_reducible refine ⟨?_, ?_⟩; (· first | (obtain ⟨rfl⟩ := ‹Hq _ _›; with_reducible refine chk_ok ?_; kernel_rfl) | kernel_rfl)) | (with_reducible intro ops hops)))
  refine W_loopI (ι := Nat) (fun k => k ≤ j)
    (fun k => stOf [(3, .pt 100 0 0 0), (5, .i (psI m)), (6, intD k)] [(100, .box [.i (bI pk), .i (bI pv)])]) (fun k => j - k) 0 (Nat.zero_le _) ?_ ?_
  · refine le_stOf _ _ [] [(100, 1000)] ?_ ?_ rfl rfl
    · simp [cv, cvL, cv1, cv0, upd, lk, srcOf, intD, psI]
    · simp [objOk, srcOf, lk, cvO, cvL, cv0, frz, upd, D.one, intD, hO]
  · rintro k hk
    rw [stOf_eq]
    have hu1 := uni_pr m
    have finish : ∀ hh : k = j, True := fun _ => trivial
    by_cases h1 : k < m.length
    · have g1 : decide ((k : Int) < (m.length : Int)) = true := decide_eq_true (by omega)
      have e1 : (m.map encPr)[k]? = some [bI m[k].k, bI m[k].v] := by rw [List.getElem?_map, List.getElem?_eq_getElem h1]; rfl
      have hls := less_A m[k].k pk (by have := hmb _ (List.getElem_mem h1); omega)
      by_cases h2 : k < j
      · rw [decide_eq_true ((hiff k h1).2 h2)] at hls
        have w1 : IntKind.i64.wrap ((k : Int) + 1) = ((k + 1 : Nat) : Int) := by rw [wrap64 (by omega) (by omega)]; omega
        generalize m[k] = q at *
        (repeat (first | (simp -implicitDefEqProofs only [ev1, ev2, ev3, ev4, ev5, ev6, mixed, Nat.reduceLT, Nat.reduceAdd, Nat.reduceMul, reduceIte, Nat.reduceEqDiff, reduceCtorEq, Nat.reducePow, Nat.reduceLeDiff, Int.reduceLE, Int.reduceLT, Int.reduceToNat, Int.reduceEq, Nat.reduceBEq, itsOf, gdA, byteI, opid, lenQ, ixQ, ldH, readAt, readCells, asCell, faQ, exQ, fldQ, partA, buildQ, slQ, stH, bslH, appH, dcells, convI, elemsOf, D.one, nilS, fillD, convN, cvH, T0, T1, T3, T5, T22, T23, T52, psI, intD, g1, e1]) | (with_reducible refine ⟨?_, ?_⟩; (· first | (obtain ⟨rfl⟩ := ‹Hq _ _›; with_reducible refine chk_ok ?_; kernel_rfl) | kernel_rfl)) | (with_reducible intro ops hops)))
        (first | refine Call_flat [] [] (hls) (by simp [cvAs, cvA, cv1, cvL, cv0, bI, byteI, encPr, prD, psI, intD, boolD, elemsOf, upd]) rfl ?_ | refine CallF_flat [] [] [] (hls) (fun G _ => by simp [cvAs, cvA, cv1, cvL, cv0, bI, byteI, encPr, prD, psI, intD, boolD, elemsOf, upd]) rfl ?_)
        (repeat (first | (simp -implicitDefEqProofs only [ev1, ev2, ev3, ev4, ev5, ev6, mixed, Nat.reduceLT, Nat.reduceAdd, Nat.reduceMul, reduceIte, Nat.reduceEqDiff, reduceCtorEq, Nat.reducePow, Nat.reduceLeDiff, Int.reduceLE, Int.reduceLT, Int.reduceToNat, Int.reduceEq, Nat.reduceBEq, itsOf, gdA, byteI, opid, lenQ, ixQ, ldH, readAt, readCells, asCell, faQ, exQ, fldQ, partA, buildQ, slQ, stH, bslH, appH, dcells, convI, elemsOf, D.one, nilS, fillD, convN, cvH, T0, T1, T3, T5, T22, T23, T52, boolD, w1]) | (with_reducible refine ⟨?_, ?_⟩; (· first | (obtain ⟨rfl⟩ := ‹Hq _ _›; with_reducible refine chk_ok ?_; kernel_rfl) | kernel_rfl)) | (with_reducible intro ops hops)))
        refine ⟨k + 1, h2, le_stOf _ _ [] [(100, 100)] ?_ ?_ rfl rfl, by simp; omega⟩
        · simp [cv, cvL, cv1, cv0, upd, lk, srcOf, intD, psI]
        · simp [objOk, srcOf, lk, cvO, cvL, cv0, frz, upd, D.one, intD, hO]
      · have hkj : k = j := by omega
        subst hkj
        rw [decide_eq_false (fun hc => by have := (hiff k h1).1 hc; omega)] at hls
        clear hiff finish
        generalize m[k] = q at *
        have L1 : ((k : Int) ≤ (m.length : Int)) = True := eq_true (by omega)
        have m1 : min k m.length = k := by omega
        have e3 : k + 1 + (m.length - k) ≤ 140737488355328 := by omega
        have e4 : (k + 1 + (m.length - k)) * 48 ≤ 140737488355328 := by omega
        have e5 : k ≤ 140737488355328 := by omega
        have e6 : k * 48 ≤ 140737488355328 := by omega
        have e7 : k + 1 ≤ 140737488355328 := by omega
        have e8 : (k + 1) * 48 ≤ 140737488355328 := by omega
        have u1 : uni 2 ((m.map encPr).take k) = true := by rw [← List.map_take]; exact uni_pr _
        have u2 : uni 2 ((m.map encPr).drop k) = true := by rw [← List.map_drop]; exact uni_pr _
        have hz : (m.map encPr).take k ++ [bI pk, bI pv] :: (m.map encPr).drop k = (m.take k ++ ⟨pk, pv⟩ :: m.drop k).map encPr := by rw [List.map_append, List.map_cons, List.map_take, List.map_drop]; rfl
        have hzl : (m.take k ++ ⟨pk, pv⟩ :: m.drop k).length = k + 1 + (m.length - k) := by simp; omega
        generalize m.take k ++ ⟨pk, pv⟩ :: m.drop k = Z at *
        have ht : List.take (k + 1 + (m.length - k)) (Z.map encPr) = Z.map encPr := List.take_of_length_le (by simp; omega)
        simp only [bI] at hz
        (repeat (first | (simp -implicitDefEqProofs only [ev1, ev2, ev3, ev4, ev5, ev6, mixed, Nat.reduceLT, Nat.reduceAdd, Nat.reduceMul, reduceIte, Nat.reduceEqDiff, reduceCtorEq, Nat.reducePow, Nat.reduceLeDiff, Int.reduceLE, Int.reduceLT, Int.reduceToNat, Int.reduceEq, Nat.reduceBEq, itsOf, gdA, byteI, opid, lenQ, ixQ, ldH, readAt, readCells, asCell, faQ, exQ, fldQ, partA, buildQ, slQ, stH, bslH, appH, dcells, convI, elemsOf, D.one, nilS, fillD, convN, cvH, T0, T1, T3, T5, T22, T23, T52, psI, intD, g1, e1]) | (with_reducible refine ⟨?_, ?_⟩; (· first | (obtain ⟨rfl⟩ := ‹Hq _ _›; with_reducible refine chk_ok ?_; kernel_rfl) | kernel_rfl)) | (with_reducible intro ops hops)))
        (first | refine Call_flat [] [] (hls) (by simp [cvAs, cvA, cv1, cvL, cv0, bI, byteI, encPr, prD, psI, intD, boolD, elemsOf, upd]) rfl ?_ | refine CallF_flat [] [] [] (hls) (fun G _ => by simp [cvAs, cvA, cv1, cvL, cv0, bI, byteI, encPr, prD, psI, intD, boolD, elemsOf, upd]) rfl ?_)
        (repeat (first | (simp -implicitDefEqProofs only [ev1, ev2, ev3, ev4, ev5, ev6, mixed, Nat.reduceLT, Nat.reduceAdd, Nat.reduceMul, reduceIte, Nat.reduceEqDiff, reduceCtorEq, Nat.reducePow, Nat.reduceLeDiff, Int.reduceLE, Int.reduceLT, Int.reduceToNat, Int.reduceEq, Nat.reduceBEq, itsOf, gdA, byteI, opid, lenQ, ixQ, ldH, readAt, readCells, asCell, faQ, exQ, fldQ, partA, buildQ, slQ, stH, bslH, appH, dcells, convI, elemsOf, D.one, nilS, fillD, convN, cvH, T0, T1, T3, T5, T22, T23, T52, boolD, psI, bI, L1, hu1, e3, e4, e5, e6, e7, e8, List.length_take, List.length_drop, List.length_map, m1, u1, u2, Nat.zero_mul, Nat.zero_le]) | (with_reducible refine ⟨?_, ?_⟩; (· first | (obtain ⟨rfl⟩ := ‹Hq _ _›; with_reducible refine chk_ok ?_; kernel_rfl) | kernel_rfl)) | (with_reducible intro ops hops)))
        refine fin_ret [2291] rfl ?_
        simp only [cv, cv1, cv0]
        refine .inr (.inr ⟨2291, 2, 0, k + 1 + (m.length - k), _, by simp [upd], by simp, ?_, rfl⟩)
        simp [elemsOf, upd, hz, hzl, ht]
    · have g1 : decide ((k : Int) < (m.length : Int)) = false := decide_eq_false (by omega)
      have hkj : k = j := by omega
      subst hkj
      clear hiff finish
      have L1 : ((k : Int) ≤ (m.length : Int)) = True := eq_true (by omega)
      have m1 : min k m.length = k := by omega
      have e3 : k + 1 + (m.length - k) ≤ 140737488355328 := by omega
      have e4 : (k + 1 + (m.length - k)) * 48 ≤ 140737488355328 := by omega
      have e5 : k ≤ 140737488355328 := by omega
      have e6 : k * 48 ≤ 140737488355328 := by omega
      have e7 : k + 1 ≤ 140737488355328 := by omega
      have e8 : (k + 1) * 48 ≤ 140737488355328 := by omega
      have u1 : uni 2 ((m.map encPr).take k) = true := by rw [← List.map_take]; exact uni_pr _
      have u2 : uni 2 ((m.map encPr).drop k) = true := by rw [← List.map_drop]; exact uni_pr _
      have hz : (m.map encPr).take k ++ [bI pk, bI pv] :: (m.map encPr).drop k = (m.take k ++ ⟨pk, pv⟩ :: m.drop k).map encPr := by rw [List.map_append, List.map_cons, List.map_take, List.map_drop]; rfl
      have hzl : (m.take k ++ ⟨pk, pv⟩ :: m.drop k).length = k + 1 + (m.length - k) := by simp; omega
      generalize m.take k ++ ⟨pk, pv⟩ :: m.drop k = Z at *
      have ht : List.take (k + 1 + (m.length - k)) (Z.map encPr) = Z.map encPr := List.take_of_length_le (by simp; omega)
      simp only [bI] at hz
      (repeat (first | (simp -implicitDefEqProofs only [ev1, ev2, ev3, ev4, ev5, ev6, mixed, Nat.reduceLT, Nat.reduceAdd, Nat.reduceMul, reduceIte, Nat.reduceEqDiff, reduceCtorEq, Nat.reducePow, Nat.reduceLeDiff, Int.reduceLE, Int.reduceLT, Int.reduceToNat, Int.reduceEq, Nat.reduceBEq, itsOf, gdA, byteI, opid, lenQ, ixQ, ldH, readAt, readCells, asCell, faQ, exQ, fldQ, partA, buildQ, slQ, stH, bslH, appH, dcells, convI, elemsOf, D.one, nilS, fillD, convN, cvH, T0, T1, T3, T5, T22, T23, T52, psI, intD, g1, bI, L1, hu1, e3, e4, e5, e6, e7, e8, List.length_take, List.length_drop, List.length_map, m1, u1, u2, Nat.zero_mul, Nat.zero_le]) | (with_reducible refine ⟨?_, ?_⟩; (· first | (obtain ⟨rfl⟩ := ‹Hq _ _›; with_reducible refine chk_ok ?_; kernel_rfl) | kernel_rfl)) | (with_reducible intro ops hops)))
      refine fin_ret [2291] rfl ?_
      simp only [cv, cv1, cv0]
      refine .inr (.inr ⟨2291, 2, 0, k + 1 + (m.length - k), _, by simp [upd], by simp, ?_, rfl⟩)
      simp [elemsOf, upd, hz, hzl, ht]
end Go.Proofs.Ythbnhbmakapglaa
