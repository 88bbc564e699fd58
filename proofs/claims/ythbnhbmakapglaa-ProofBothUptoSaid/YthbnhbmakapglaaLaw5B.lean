/- ProofBoth: plain law and by-value contract. -/
import Derived.Test.YthbnhbmakapglaaLaw5C
import Derived.Test.YthbnhbmakapglaaRefB
set_option linter.all false
namespace Go.Proofs.Ythbnhbmakapglaa
open Go Go.Abs Go.RowKit Go.Proofs.Ythbnhbmakapglaa.Ty

theorem ord_lt {l : List PairD} (hr : Right l) {a b : Nat} (ha : a < l.length) (hb : b < l.length) (h : Lib.compareBytes l[a].k l[b].k < 0) : a < b := by
  rcases Nat.lt_trichotomy a b with h1 | h1 | h1
  · exact h1
  · subst h1
    have := (cmp_zero l[a].k l[a].k).2 rfl
    omega
  · have h2 := hr.ord b a hb ha h1
    rw [cmp_neg] at h2
    omega
theorem clash_yes {l : List PairD} (hr : Right l) (q : ProofD) (h : (clashF l q).2.2 = true) : (clashF l q).1 ≠ (clashF l q).2.1 ∧ sha (clashF l q).1 = sha (clashF l q).2.1 := by
  by_cases hs : shownF (rootF l) q = true
  · exact (clash_told hr hs).1 h
  · rw [clash_not (fun hc => hs hc.2)] at h; cases h
theorem clash_no {l : List PairD} (hr : Right l) {q : ProofD} (hs : shownF (rootF l) q = true) (h : (clashF l q).2.2 = false) : q.n = l.length ∧ 0 ≤ q.i ∧ ∃ hi : q.i.toNat < l.length, l[q.i.toNat].k = q.k := by
  obtain ⟨h1, h2, h3, _⟩ := (clash_told hr hs).2 h
  obtain ⟨a1, a2, a3, a4, _⟩ := formF_yes (shownF_all hs).1
  exact ⟨h1, a3, h2, h3⟩
theorem both_not {l : List PairD} (hr : Right l) {p : ProofD} {g : GapD} (hs : shownF (rootF l) p = true) (ha : absentF (rootF l) p.k g = true)
    (c1 : (clashF l p).2.2 = false) (c2 : (clashF l g.left).2.2 = false) (c3 : (clashF l g.right).2.2 = false) :
    g.hl = false ∧ g.hr = false ∧ l ≠ [] ∧ sha (topB l.length (treeF l)) = sha [2, 0, 0, 0, 0] ∧ topB l.length (treeF l) ≠ [2, 0, 0, 0, 0] := by
  obtain ⟨n1, p1, i1, k1⟩ := clash_no hr hs c1
  unfold absentF at ha
  cases hl : g.hl <;> cases hh : g.hr <;> rw [hl, hh] at ha <;> simp only [Bool.and_eq_true, decide_eq_true_eq] at ha
  · refine ⟨rfl, rfl, ?_, ha.symm, ?_⟩
    · intro hc; subst hc; simp at i1
    · intro hc
      have hn : l ≠ [] := by intro hc; subst hc; simp at i1
      have h1 : (topB l.length (treeF l)).length = 5 := by rw [hc]; rfl
      have h2 := treeF_len l hn
      have h4 : (four l.length).length = 4 := rfl
      have h3 : (topB l.length (treeF l)).length = 1 + (4 + (treeF l).length) := by simp [topB, h4]; omega
      omega
  · obtain ⟨⟨hsr, ho⟩, hz⟩ := ha
    obtain ⟨n3, p3, i3, k3⟩ := clash_no hr hsr c3
    rw [← k1, ← k3] at ho
    have := ord_lt hr _ _ ho
    omega
  · obtain ⟨⟨hsl, ho⟩, hz⟩ := ha
    obtain ⟨n2, p2, i2, k2⟩ := clash_no hr hsl c2
    rw [← k1, ← k2] at ho
    have := ord_lt hr _ _ ho
    omega
  · obtain ⟨⟨⟨hsl, ho⟩, hsr, ho2⟩, hz1, hz2⟩ := ha
    obtain ⟨n2, p2, i2, k2⟩ := clash_no hr hsl c2
    obtain ⟨n3, p3, i3, k3⟩ := clash_no hr hsr c3
    rw [← k1, ← k2] at ho
    rw [← k1, ← k3] at ho2
    have := ord_lt hr _ _ ho
    have := ord_lt hr _ _ ho2
    omega
set_option maxHeartbeats 8000000
theorem walk_ProofBoth (y0 : I) (l : List PairD) (e0 : y0 = psI l) (y1 : List I) (p : ProofD) (e1 : y1 = formI p) (y2 : List I) (g : GapD) (e2 : y2 = gapI g) (hb : bkI y0 ≤ 1048576) :
    ∃ Ds, PureD Try.prog 13 Ds (.i (.s (.bool true))) ∧ Ds = [.i y0, .agg (y1.map .i), .agg (y2.map .i)] := by
  subst e0; subst e1; subst e2
  refine ⟨_, ?_, rfl⟩
  rw [proofD_formI, gapD_gapI]
  have hps := pairs_small (l := l) (n := 1048576) (by omega)
  have hl := hps.1
  have hrt := root_B l hl
  by_cases h0 : (wrongF l).1 = 0
  case neg =>
    generalize wrongF l = W at *
    generalize rootR l = R0 at *
    obtain ⟨pi, pn, pk, pv, pq⟩ := p
    obtain ⟨ghl, ghr, ⟨ai, an, ak, av, aq⟩, ⟨bi, bn, bk, bv, bq⟩⟩ := g
    have g1 : decide ((W.1 : Int) = 0) = false := by simp; omega
    refine callD_W 97 Try.func13 rfl rfl rfl (fun _ _ => rfl) ?_
    (repeat (first | (simp -implicitDefEqProofs only [ev1, ev2, ev3, ev4, ev5, ev6, mixed, Nat.reduceLT, Nat.reduceAdd, Nat.reduceMul, reduceIte, Nat.reduceEqDiff, reduceCtorEq, Nat.reducePow, Nat.reduceLeDiff, Int.reduceLE, Int.reduceLT, Int.reduceToNat, Int.reduceEq, Nat.reduceBEq, itsOf, gdA, byteI, opid, lenQ, ixQ, ldH, readAt, readCells, asCell, faQ, exQ, fldQ, partA, buildQ, slQ, stH, bslH, appH, dcells, convI, elemsOf, D.one, nilS, fillD, convN, cvH, T1, T3, T4, T5, T22, T23, T25, T27, T28, T33, T39, T52, T68, proofD, gapD, intD, boolD]) | (with_reducible refine ⟨?_, ?_⟩; (· first | (obtain ⟨rfl⟩ := ‹Hq _ _›; with_reducible refine chk_ok ?_; kernel_rfl) | kernel_rfl)) | (with_reducible intro ops hops)))
    (first | refine Call_flat [] [] (alive5_A) (by simp [cvAs, cvA, cv1, cvL, cv0, bI, byteI, bbI, psI, intD, boolD, proofD, fltD, elemsOf, upd]) rfl ?_ | refine CallF_flat [] [] [] (alive5_A) (fun G _ => by simp [cvAs, cvA, cv1, cvL, cv0, bI, byteI, bbI, psI, intD, boolD, proofD, fltD, elemsOf, upd]) rfl ?_)
    (repeat (first | (simp -implicitDefEqProofs only [ev1, ev2, ev3, ev4, ev5, ev6, mixed, Nat.reduceLT, Nat.reduceAdd, Nat.reduceMul, reduceIte, Nat.reduceEqDiff, reduceCtorEq, Nat.reducePow, Nat.reduceLeDiff, Int.reduceLE, Int.reduceLT, Int.reduceToNat, Int.reduceEq, Nat.reduceBEq, itsOf, gdA, byteI, opid, lenQ, ixQ, ldH, readAt, readCells, asCell, faQ, exQ, fldQ, partA, buildQ, slQ, stH, bslH, appH, dcells, convI, elemsOf, D.one, nilS, fillD, convN, cvH, T1, T3, T4, T5, T22, T23, T25, T27, T28, T33, T39, T52, T68, psI, bI]) | (with_reducible refine ⟨?_, ?_⟩; (· first | (obtain ⟨rfl⟩ := ‹Hq _ _›; with_reducible refine chk_ok ?_; kernel_rfl) | kernel_rfl)) | (with_reducible intro ops hops)))
    (first | refine Call_frz [] (hrt) (by simp [cvAs, cvA, cv1, cvL, cv0, bI, byteI, bbI, psI, intD, boolD, proofD, fltD, elemsOf, upd]) ?_ | refine CallF_frz [] [] (hrt) (fun G _ => by simp [cvAs, cvA, cv1, cvL, cv0, bI, byteI, bbI, psI, intD, boolD, proofD, fltD, elemsOf, upd]) (by simp) ?_)
    (repeat (first | (simp -implicitDefEqProofs only [ev1, ev2, ev3, ev4, ev5, ev6, mixed, Nat.reduceLT, Nat.reduceAdd, Nat.reduceMul, reduceIte, Nat.reduceEqDiff, reduceCtorEq, Nat.reducePow, Nat.reduceLeDiff, Int.reduceLE, Int.reduceLT, Int.reduceToNat, Int.reduceEq, Nat.reduceBEq, itsOf, gdA, byteI, opid, lenQ, ixQ, ldH, readAt, readCells, asCell, faQ, exQ, fldQ, partA, buildQ, slQ, stH, bslH, appH, dcells, convI, elemsOf, D.one, nilS, fillD, convN, cvH, T1, T3, T4, T5, T22, T23, T25, T27, T28, T33, T39, T52, T68, fltD, intD, psI, bI, g1]) | (with_reducible refine ⟨?_, ?_⟩; (· first | (obtain ⟨rfl⟩ := ‹Hq _ _›; with_reducible refine chk_ok ?_; kernel_rfl) | kernel_rfl)) | (with_reducible intro ops hops)))
    refine fin_ret [] rfl ?_
    simp [cv, cv1, cv0, upd]
  have hr := right_of h0
  have hz := wrong_zero h0
  rw [show rootR l = rootF l by rw [rootR, if_pos h0], hz] at hrt
  have hsh := shown_A (rootF l) p
  by_cases hs : shownF (rootF l) p = true
  case neg =>
    rw [show shownF (rootF l) p = false by simpa using hs] at hsh
    clear hs
    generalize rootF l = R0 at *
    obtain ⟨pi, pn, pk, pv, pq⟩ := p
    obtain ⟨ghl, ghr, ⟨ai, an, ak, av, aq⟩, ⟨bi, bn, bk, bv, bq⟩⟩ := g
    simp only [proofD] at hsh
    refine callD_W 97 Try.func13 rfl rfl rfl (fun _ _ => rfl) ?_
    (repeat (first | (simp -implicitDefEqProofs only [ev1, ev2, ev3, ev4, ev5, ev6, mixed, Nat.reduceLT, Nat.reduceAdd, Nat.reduceMul, reduceIte, Nat.reduceEqDiff, reduceCtorEq, Nat.reducePow, Nat.reduceLeDiff, Int.reduceLE, Int.reduceLT, Int.reduceToNat, Int.reduceEq, Nat.reduceBEq, itsOf, gdA, byteI, opid, lenQ, ixQ, ldH, readAt, readCells, asCell, faQ, exQ, fldQ, partA, buildQ, slQ, stH, bslH, appH, dcells, convI, elemsOf, D.one, nilS, fillD, convN, cvH, T1, T3, T4, T5, T22, T23, T25, T27, T28, T33, T39, T52, T68, proofD, gapD, intD, boolD]) | (with_reducible refine ⟨?_, ?_⟩; (· first | (obtain ⟨rfl⟩ := ‹Hq _ _›; with_reducible refine chk_ok ?_; kernel_rfl) | kernel_rfl)) | (with_reducible intro ops hops)))
    (first | refine Call_flat [] [] (alive5_A) (by simp [cvAs, cvA, cv1, cvL, cv0, bI, byteI, bbI, psI, intD, boolD, proofD, fltD, elemsOf, upd]) rfl ?_ | refine CallF_flat [] [] [] (alive5_A) (fun G _ => by simp [cvAs, cvA, cv1, cvL, cv0, bI, byteI, bbI, psI, intD, boolD, proofD, fltD, elemsOf, upd]) rfl ?_)
    (repeat (first | (simp -implicitDefEqProofs only [ev1, ev2, ev3, ev4, ev5, ev6, mixed, Nat.reduceLT, Nat.reduceAdd, Nat.reduceMul, reduceIte, Nat.reduceEqDiff, reduceCtorEq, Nat.reducePow, Nat.reduceLeDiff, Int.reduceLE, Int.reduceLT, Int.reduceToNat, Int.reduceEq, Nat.reduceBEq, itsOf, gdA, byteI, opid, lenQ, ixQ, ldH, readAt, readCells, asCell, faQ, exQ, fldQ, partA, buildQ, slQ, stH, bslH, appH, dcells, convI, elemsOf, D.one, nilS, fillD, convN, cvH, T1, T3, T4, T5, T22, T23, T25, T27, T28, T33, T39, T52, T68, psI, bI]) | (with_reducible refine ⟨?_, ?_⟩; (· first | (obtain ⟨rfl⟩ := ‹Hq _ _›; with_reducible refine chk_ok ?_; kernel_rfl) | kernel_rfl)) | (with_reducible intro ops hops)))
    (first | refine Call_frz [] (hrt) (by simp [cvAs, cvA, cv1, cvL, cv0, bI, byteI, bbI, psI, intD, boolD, proofD, fltD, elemsOf, upd]) ?_ | refine CallF_frz [] [] (hrt) (fun G _ => by simp [cvAs, cvA, cv1, cvL, cv0, bI, byteI, bbI, psI, intD, boolD, proofD, fltD, elemsOf, upd]) (by simp) ?_)
    (repeat (first | (simp -implicitDefEqProofs only [ev1, ev2, ev3, ev4, ev5, ev6, mixed, Nat.reduceLT, Nat.reduceAdd, Nat.reduceMul, reduceIte, Nat.reduceEqDiff, reduceCtorEq, Nat.reducePow, Nat.reduceLeDiff, Int.reduceLE, Int.reduceLT, Int.reduceToNat, Int.reduceEq, Nat.reduceBEq, itsOf, gdA, byteI, opid, lenQ, ixQ, ldH, readAt, readCells, asCell, faQ, exQ, fldQ, partA, buildQ, slQ, stH, bslH, appH, dcells, convI, elemsOf, D.one, nilS, fillD, convN, cvH, T1, T3, T4, T5, T22, T23, T25, T27, T28, T33, T39, T52, T68, fltD, intD, psI, bI]) | (with_reducible refine ⟨?_, ?_⟩; (· first | (obtain ⟨rfl⟩ := ‹Hq _ _›; with_reducible refine chk_ok ?_; kernel_rfl) | kernel_rfl)) | (with_reducible intro ops hops)))
    (first | refine Call_flat [] [] (hsh) (by simp [cvAs, cvA, cv1, cvL, cv0, bI, byteI, bbI, psI, intD, boolD, proofD, fltD, elemsOf, upd]) rfl ?_ | refine CallF_flat [] [] [] (hsh) (fun G _ => by simp [cvAs, cvA, cv1, cvL, cv0, bI, byteI, bbI, psI, intD, boolD, proofD, fltD, elemsOf, upd]) rfl ?_)
    (repeat (first | (simp -implicitDefEqProofs only [ev1, ev2, ev3, ev4, ev5, ev6, mixed, Nat.reduceLT, Nat.reduceAdd, Nat.reduceMul, reduceIte, Nat.reduceEqDiff, reduceCtorEq, Nat.reducePow, Nat.reduceLeDiff, Int.reduceLE, Int.reduceLT, Int.reduceToNat, Int.reduceEq, Nat.reduceBEq, itsOf, gdA, byteI, opid, lenQ, ixQ, ldH, readAt, readCells, asCell, faQ, exQ, fldQ, partA, buildQ, slQ, stH, bslH, appH, dcells, convI, elemsOf, D.one, nilS, fillD, convN, cvH, T1, T3, T4, T5, T22, T23, T25, T27, T28, T33, T39, T52, T68, boolD]) | (with_reducible refine ⟨?_, ?_⟩; (· first | (obtain ⟨rfl⟩ := ‹Hq _ _›; with_reducible refine chk_ok ?_; kernel_rfl) | kernel_rfl)) | (with_reducible intro ops hops)))
    refine fin_ret [] rfl ?_
    simp [cv, cv1, cv0, upd]
  have hab := absent_A (rootF l) p.k g
  by_cases ha : absentF (rootF l) p.k g = true
  case neg =>
    rw [show absentF (rootF l) p.k g = false by simpa using ha] at hab
    rw [hs] at hsh
    clear hs ha
    generalize rootF l = R0 at *
    obtain ⟨pi, pn, pk, pv, pq⟩ := p
    obtain ⟨ghl, ghr, ⟨ai, an, ak, av, aq⟩, ⟨bi, bn, bk, bv, bq⟩⟩ := g
    simp only [proofD, gapD] at hsh hab
    refine callD_W 97 Try.func13 rfl rfl rfl (fun _ _ => rfl) ?_
    (repeat (first | (simp -implicitDefEqProofs only [ev1, ev2, ev3, ev4, ev5, ev6, mixed, Nat.reduceLT, Nat.reduceAdd, Nat.reduceMul, reduceIte, Nat.reduceEqDiff, reduceCtorEq, Nat.reducePow, Nat.reduceLeDiff, Int.reduceLE, Int.reduceLT, Int.reduceToNat, Int.reduceEq, Nat.reduceBEq, itsOf, gdA, byteI, opid, lenQ, ixQ, ldH, readAt, readCells, asCell, faQ, exQ, fldQ, partA, buildQ, slQ, stH, bslH, appH, dcells, convI, elemsOf, D.one, nilS, fillD, convN, cvH, T1, T3, T4, T5, T22, T23, T25, T27, T28, T33, T39, T52, T68, proofD, gapD, intD, boolD]) | (with_reducible refine ⟨?_, ?_⟩; (· first | (obtain ⟨rfl⟩ := ‹Hq _ _›; with_reducible refine chk_ok ?_; kernel_rfl) | kernel_rfl)) | (with_reducible intro ops hops)))
    (first | refine Call_flat [] [] (alive5_A) (by simp [cvAs, cvA, cv1, cvL, cv0, bI, byteI, bbI, psI, intD, boolD, proofD, fltD, elemsOf, upd]) rfl ?_ | refine CallF_flat [] [] [] (alive5_A) (fun G _ => by simp [cvAs, cvA, cv1, cvL, cv0, bI, byteI, bbI, psI, intD, boolD, proofD, fltD, elemsOf, upd]) rfl ?_)
    (repeat (first | (simp -implicitDefEqProofs only [ev1, ev2, ev3, ev4, ev5, ev6, mixed, Nat.reduceLT, Nat.reduceAdd, Nat.reduceMul, reduceIte, Nat.reduceEqDiff, reduceCtorEq, Nat.reducePow, Nat.reduceLeDiff, Int.reduceLE, Int.reduceLT, Int.reduceToNat, Int.reduceEq, Nat.reduceBEq, itsOf, gdA, byteI, opid, lenQ, ixQ, ldH, readAt, readCells, asCell, faQ, exQ, fldQ, partA, buildQ, slQ, stH, bslH, appH, dcells, convI, elemsOf, D.one, nilS, fillD, convN, cvH, T1, T3, T4, T5, T22, T23, T25, T27, T28, T33, T39, T52, T68, psI, bI]) | (with_reducible refine ⟨?_, ?_⟩; (· first | (obtain ⟨rfl⟩ := ‹Hq _ _›; with_reducible refine chk_ok ?_; kernel_rfl) | kernel_rfl)) | (with_reducible intro ops hops)))
    (first | refine Call_frz [] (hrt) (by simp [cvAs, cvA, cv1, cvL, cv0, bI, byteI, bbI, psI, intD, boolD, proofD, fltD, elemsOf, upd]) ?_ | refine CallF_frz [] [] (hrt) (fun G _ => by simp [cvAs, cvA, cv1, cvL, cv0, bI, byteI, bbI, psI, intD, boolD, proofD, fltD, elemsOf, upd]) (by simp) ?_)
    (repeat (first | (simp -implicitDefEqProofs only [ev1, ev2, ev3, ev4, ev5, ev6, mixed, Nat.reduceLT, Nat.reduceAdd, Nat.reduceMul, reduceIte, Nat.reduceEqDiff, reduceCtorEq, Nat.reducePow, Nat.reduceLeDiff, Int.reduceLE, Int.reduceLT, Int.reduceToNat, Int.reduceEq, Nat.reduceBEq, itsOf, gdA, byteI, opid, lenQ, ixQ, ldH, readAt, readCells, asCell, faQ, exQ, fldQ, partA, buildQ, slQ, stH, bslH, appH, dcells, convI, elemsOf, D.one, nilS, fillD, convN, cvH, T1, T3, T4, T5, T22, T23, T25, T27, T28, T33, T39, T52, T68, fltD, intD, psI, bI]) | (with_reducible refine ⟨?_, ?_⟩; (· first | (obtain ⟨rfl⟩ := ‹Hq _ _›; with_reducible refine chk_ok ?_; kernel_rfl) | kernel_rfl)) | (with_reducible intro ops hops)))
    (first | refine Call_flat [] [] (hsh) (by simp [cvAs, cvA, cv1, cvL, cv0, bI, byteI, bbI, psI, intD, boolD, proofD, fltD, elemsOf, upd]) rfl ?_ | refine CallF_flat [] [] [] (hsh) (fun G _ => by simp [cvAs, cvA, cv1, cvL, cv0, bI, byteI, bbI, psI, intD, boolD, proofD, fltD, elemsOf, upd]) rfl ?_)
    (repeat (first | (simp -implicitDefEqProofs only [ev1, ev2, ev3, ev4, ev5, ev6, mixed, Nat.reduceLT, Nat.reduceAdd, Nat.reduceMul, reduceIte, Nat.reduceEqDiff, reduceCtorEq, Nat.reducePow, Nat.reduceLeDiff, Int.reduceLE, Int.reduceLT, Int.reduceToNat, Int.reduceEq, Nat.reduceBEq, itsOf, gdA, byteI, opid, lenQ, ixQ, ldH, readAt, readCells, asCell, faQ, exQ, fldQ, partA, buildQ, slQ, stH, bslH, appH, dcells, convI, elemsOf, D.one, nilS, fillD, convN, cvH, T1, T3, T4, T5, T22, T23, T25, T27, T28, T33, T39, T52, T68, boolD, intD, bI]) | (with_reducible refine ⟨?_, ?_⟩; (· first | (obtain ⟨rfl⟩ := ‹Hq _ _›; with_reducible refine chk_ok ?_; kernel_rfl) | kernel_rfl)) | (with_reducible intro ops hops)))
    (first | refine Call_flat [] [] (hab) (by simp [cvAs, cvA, cv1, cvL, cv0, bI, byteI, bbI, psI, intD, boolD, proofD, fltD, elemsOf, upd]) rfl ?_ | refine CallF_flat [] [] [] (hab) (fun G _ => by simp [cvAs, cvA, cv1, cvL, cv0, bI, byteI, bbI, psI, intD, boolD, proofD, fltD, elemsOf, upd]) rfl ?_)
    (repeat (first | (simp -implicitDefEqProofs only [ev1, ev2, ev3, ev4, ev5, ev6, mixed, Nat.reduceLT, Nat.reduceAdd, Nat.reduceMul, reduceIte, Nat.reduceEqDiff, reduceCtorEq, Nat.reducePow, Nat.reduceLeDiff, Int.reduceLE, Int.reduceLT, Int.reduceToNat, Int.reduceEq, Nat.reduceBEq, itsOf, gdA, byteI, opid, lenQ, ixQ, ldH, readAt, readCells, asCell, faQ, exQ, fldQ, partA, buildQ, slQ, stH, bslH, appH, dcells, convI, elemsOf, D.one, nilS, fillD, convN, cvH, T1, T3, T4, T5, T22, T23, T25, T27, T28, T33, T39, T52, T68, boolD]) | (with_reducible refine ⟨?_, ?_⟩; (· first | (obtain ⟨rfl⟩ := ‹Hq _ _›; with_reducible refine chk_ok ?_; kernel_rfl) | kernel_rfl)) | (with_reducible intro ops hops)))
    refine fin_ret [] rfl ?_
    simp [cv, cv1, cv0, upd]
  have hnot := both_not hr hs ha
  rw [hs] at hsh
  rw [ha] at hab
  have hcl : ∀ q, PureD Try.prog 28 [.i (psI l), proofD q] (crD (clashF l q)) := fun q => Clash_A l q hl
  have hsm : ∀ q, SmallC (clashF l q) := fun q => clash_small
  have hye := clash_yes hr
  have hfour := rfour_A l.length (by omega)
  have htree := rtree_A _ l rfl hl hps.2
  have hfl : (four l.length).length = 4 := rfl
  have htl := treeF_le l
  have hff : [[2], four l.length, treeF l].flatten = topB l.length (treeF l) := by simp [topB]
  have hjn := join_A [[2], four l.length, treeF l] (by rw [hff]; simp [topB]; omega) (by simp)
  rw [hff] at hjn
  have htb : (topB l.length (treeF l)).length ≤ 1000 := by simp [topB]; omega
  generalize topB l.length (treeF l) = TB at *
  generalize four l.length = FR at *
  generalize treeF l = TR at *
  generalize rootF l = R0 at *
  generalize clashF l = cf at *
  obtain ⟨ghl, ghr, L, R⟩ := g
  obtain ⟨qs, hqs⟩ : ∃ qs, qs = [p, L, R] := ⟨_, rfl⟩
  have hq0 : ∀ h : 0 < qs.length, qs[0] = p := fun h => by subst hqs; rfl
  have hq1 : ∀ h : 1 < qs.length, qs[1] = L := fun h => by subst hqs; rfl
  have hq2 : ∀ h : 2 < qs.length, qs[2] = R := fun h => by subst hqs; rfl
  have hqn : qs.length = 3 := by subst hqs; rfl
  have hqf : [formI p, formI L, formI R] = qs.map formI := by subst hqs; rfl
  simp only at hnot
  obtain ⟨pi, pn, pk, pv, pq⟩ := p
  obtain ⟨ai, an, ak, av, aq⟩ := L
  obtain ⟨bi, bn, bk, bv, bq⟩ := R
  simp only [proofD, gapD, formI] at hsh hab hqf
  try simp only at hnot
  clear hqs
  refine callD_W 97 Try.func13 rfl rfl rfl (fun _ _ => rfl) ?_
  (repeat (first | (simp -implicitDefEqProofs only [ev1, ev2, ev3, ev4, ev5, ev6, mixed, Nat.reduceLT, Nat.reduceAdd, Nat.reduceMul, reduceIte, Nat.reduceEqDiff, reduceCtorEq, Nat.reducePow, Nat.reduceLeDiff, Int.reduceLE, Int.reduceLT, Int.reduceToNat, Int.reduceEq, Nat.reduceBEq, itsOf, gdA, byteI, opid, lenQ, ixQ, ldH, readAt, readCells, asCell, faQ, exQ, fldQ, partA, buildQ, slQ, stH, bslH, appH, dcells, convI, elemsOf, D.one, nilS, fillD, convN, cvH, T1, T3, T4, T5, T22, T23, T25, T27, T28, T33, T39, T52, T68, proofD, gapD, intD, boolD]) | (with_reducible refine ⟨?_, ?_⟩; (· first | (obtain ⟨rfl⟩ := ‹Hq _ _›; with_reducible refine chk_ok ?_; kernel_rfl) | kernel_rfl)) | (with_reducible intro ops hops)))
  (first | refine Call_flat [] [] (alive5_A) (by simp [cvAs, cvA, cv1, cvL, cv0, bI, byteI, bbI, psI, intD, boolD, proofD, fltD, elemsOf, upd]) rfl ?_ | refine CallF_flat [] [] [] (alive5_A) (fun G _ => by simp [cvAs, cvA, cv1, cvL, cv0, bI, byteI, bbI, psI, intD, boolD, proofD, fltD, elemsOf, upd]) rfl ?_)
  (repeat (first | (simp -implicitDefEqProofs only [ev1, ev2, ev3, ev4, ev5, ev6, mixed, Nat.reduceLT, Nat.reduceAdd, Nat.reduceMul, reduceIte, Nat.reduceEqDiff, reduceCtorEq, Nat.reducePow, Nat.reduceLeDiff, Int.reduceLE, Int.reduceLT, Int.reduceToNat, Int.reduceEq, Nat.reduceBEq, itsOf, gdA, byteI, opid, lenQ, ixQ, ldH, readAt, readCells, asCell, faQ, exQ, fldQ, partA, buildQ, slQ, stH, bslH, appH, dcells, convI, elemsOf, D.one, nilS, fillD, convN, cvH, T1, T3, T4, T5, T22, T23, T25, T27, T28, T33, T39, T52, T68, psI, bI]) | (with_reducible refine ⟨?_, ?_⟩; (· first | (obtain ⟨rfl⟩ := ‹Hq _ _›; with_reducible refine chk_ok ?_; kernel_rfl) | kernel_rfl)) | (with_reducible intro ops hops)))
  (first | refine Call_frz [] (hrt) (by simp [cvAs, cvA, cv1, cvL, cv0, bI, byteI, bbI, psI, intD, boolD, proofD, fltD, elemsOf, upd]) ?_ | refine CallF_frz [] [] (hrt) (fun G _ => by simp [cvAs, cvA, cv1, cvL, cv0, bI, byteI, bbI, psI, intD, boolD, proofD, fltD, elemsOf, upd]) (by simp) ?_)
  (repeat (first | (simp -implicitDefEqProofs only [ev1, ev2, ev3, ev4, ev5, ev6, mixed, Nat.reduceLT, Nat.reduceAdd, Nat.reduceMul, reduceIte, Nat.reduceEqDiff, reduceCtorEq, Nat.reducePow, Nat.reduceLeDiff, Int.reduceLE, Int.reduceLT, Int.reduceToNat, Int.reduceEq, Nat.reduceBEq, itsOf, gdA, byteI, opid, lenQ, ixQ, ldH, readAt, readCells, asCell, faQ, exQ, fldQ, partA, buildQ, slQ, stH, bslH, appH, dcells, convI, elemsOf, D.one, nilS, fillD, convN, cvH, T1, T3, T4, T5, T22, T23, T25, T27, T28, T33, T39, T52, T68, fltD, intD, psI, bI]) | (with_reducible refine ⟨?_, ?_⟩; (· first | (obtain ⟨rfl⟩ := ‹Hq _ _›; with_reducible refine chk_ok ?_; kernel_rfl) | kernel_rfl)) | (with_reducible intro ops hops)))
  (first | refine Call_flat [] [] (hsh) (by simp [cvAs, cvA, cv1, cvL, cv0, bI, byteI, bbI, psI, intD, boolD, proofD, fltD, elemsOf, upd]) rfl ?_ | refine CallF_flat [] [] [] (hsh) (fun G _ => by simp [cvAs, cvA, cv1, cvL, cv0, bI, byteI, bbI, psI, intD, boolD, proofD, fltD, elemsOf, upd]) rfl ?_)
  (repeat (first | (simp -implicitDefEqProofs only [ev1, ev2, ev3, ev4, ev5, ev6, mixed, Nat.reduceLT, Nat.reduceAdd, Nat.reduceMul, reduceIte, Nat.reduceEqDiff, reduceCtorEq, Nat.reducePow, Nat.reduceLeDiff, Int.reduceLE, Int.reduceLT, Int.reduceToNat, Int.reduceEq, Nat.reduceBEq, itsOf, gdA, byteI, opid, lenQ, ixQ, ldH, readAt, readCells, asCell, faQ, exQ, fldQ, partA, buildQ, slQ, stH, bslH, appH, dcells, convI, elemsOf, D.one, nilS, fillD, convN, cvH, T1, T3, T4, T5, T22, T23, T25, T27, T28, T33, T39, T52, T68, boolD, intD, bI]) | (with_reducible refine ⟨?_, ?_⟩; (· first | (obtain ⟨rfl⟩ := ‹Hq _ _›; with_reducible refine chk_ok ?_; kernel_rfl) | kernel_rfl)) | (with_reducible intro ops hops)))
  (first | refine Call_flat [] [] (hab) (by simp [cvAs, cvA, cv1, cvL, cv0, bI, byteI, bbI, psI, intD, boolD, proofD, fltD, elemsOf, upd]) rfl ?_ | refine CallF_flat [] [] [] (hab) (fun G _ => by simp [cvAs, cvA, cv1, cvL, cv0, bI, byteI, bbI, psI, intD, boolD, proofD, fltD, elemsOf, upd]) rfl ?_)
  (repeat (first | (simp -implicitDefEqProofs only [ev1, ev2, ev3, ev4, ev5, ev6, mixed, Nat.reduceLT, Nat.reduceAdd, Nat.reduceMul, reduceIte, Nat.reduceEqDiff, reduceCtorEq, Nat.reducePow, Nat.reduceLeDiff, Int.reduceLE, Int.reduceLT, Int.reduceToNat, Int.reduceEq, Nat.reduceBEq, itsOf, gdA, byteI, opid, lenQ, ixQ, ldH, readAt, readCells, asCell, faQ, exQ, fldQ, partA, buildQ, slQ, stH, bslH, appH, dcells, convI, elemsOf, D.one, nilS, fillD, convN, cvH, T1, T3, T4, T5, T22, T23, T25, T27, T28, T33, T39, T52, T68, boolD, intD, bI]) | (with_reducible refine ⟨?_, ?_⟩; (· first | (obtain ⟨rfl⟩ := ‹Hq _ _›; with_reducible refine chk_ok ?_; kernel_rfl) | kernel_rfl)) | (with_reducible intro ops hops)))
  refine W_loopI (ι := Nat) (fun k => k ≤ 3 ∧ ∀ j (h : j < qs.length), j < k → (cf qs[j]).2.2 = false)
    (fun k => stOf [(0, .i (psI l)), (5, .pt 100 0 0 0), (45, .os 101 5 0 3), (46, intD 3), (47, intD k)]
      [(100, .box [boolD ghl, boolD ghr, intD ai, intD an, .i (bI ak), .i (bI av), .i (bbI aq), intD bi, intD bn, .i (bI bk), .i (bI bv), .i (bbI bq)]), (101, .arr 5 (qs.map formI))]) (fun k => 3 - k) 0 ⟨by omega, fun j h hc => by omega⟩ ?_ ?_
  · refine le_stOf _ _ [] [(100, 1001), (101, 2541)] ?_ ?_ rfl rfl
    · simp [cv, cvL, cv1, cv0, upd, lk, srcOf, intD, psI]
    · rw [← hqf]; simp [objOk, srcOf, lk, cvO, cvL, cv0, frz, hO, intD, boolD, bI, bbI, nrmI, upd, D.one, D.ids1]
  · rintro k ⟨hk, hinv⟩
    rw [stOf_eq]
    by_cases hlt : k < 3
    · have g1 : decide ((k : Int) < 3) = true := decide_eq_true (by omega)
      have e1 : (qs.map formI)[k]? = some (formI (qs[k]'(by omega))) := by rw [List.getElem?_map, List.getElem?_eq_getElem (by omega)]; rfl
      have w1 : IntKind.i64.wrap ((k : Int) + 1) = ((k + 1 : Nat) : Int) := by rw [wrap64 (by omega) (by omega)]; omega
      have c5 : (0 ≤ (k : Int)) = True := eq_true (by omega)
      have c6 : ((k : Int) < 3) = True := eq_true (by omega)
      have c7 : (k < 3) = True := eq_true (by omega)
      have hcq := hcl (qs[k]'(by omega))
      have hsq := hsm (qs[k]'(by omega))
      have hyq := hye (qs[k]'(by omega))
      have hinv' : (cf (qs[k]'(by omega))).2.2 = false → ∀ j (h : j < qs.length), j < k + 1 → (cf qs[j]).2.2 = false := fun hz j h hj => by
        by_cases he : j = k
        · subst he; exact hz
        · exact hinv j h (by omega)
      clear hcl hsm hye hnot hrt hsh hab hfour htree hjn hinv
      generalize cf (qs[k]'(by omega)) = C at *
      generalize (qs[k]'(by omega)) = q at *
      obtain ⟨qi, qn, qk, qv, qq⟩ := q
      obtain ⟨X, Y, ok⟩ := C
      obtain ⟨c1, c2⟩ := hsq
      simp only [proofD, crD] at hcq
      simp only [formI] at e1
      simp only at hyq hinv' c1 c2
      cases ok
      · (repeat (first | (simp -implicitDefEqProofs only [ev1, ev2, ev3, ev4, ev5, ev6, mixed, Nat.reduceLT, Nat.reduceAdd, Nat.reduceMul, reduceIte, Nat.reduceEqDiff, reduceCtorEq, Nat.reducePow, Nat.reduceLeDiff, Int.reduceLE, Int.reduceLT, Int.reduceToNat, Int.reduceEq, Nat.reduceBEq, itsOf, gdA, byteI, opid, lenQ, ixQ, ldH, readAt, readCells, asCell, faQ, exQ, fldQ, partA, buildQ, slQ, stH, bslH, appH, dcells, convI, elemsOf, D.one, nilS, fillD, convN, cvH, T1, T3, T4, T5, T22, T23, T25, T27, T28, T33, T39, T52, T68, intD, g1, e1, c5, c6, c7]) | (with_reducible refine ⟨?_, ?_⟩; (· first | (obtain ⟨rfl⟩ := ‹Hq _ _›; with_reducible refine chk_ok ?_; kernel_rfl) | kernel_rfl)) | (with_reducible intro ops hops)))
        (first | refine Call_frz [] (hcq) (by simp [cvAs, cvA, cv1, cvL, cv0, bI, byteI, bbI, psI, intD, boolD, proofD, fltD, elemsOf, upd]) ?_ | refine CallF_frz [] [] (hcq) (fun G _ => by simp [cvAs, cvA, cv1, cvL, cv0, bI, byteI, bbI, psI, intD, boolD, proofD, fltD, elemsOf, upd]) (by simp) ?_)
        (repeat (first | (simp -implicitDefEqProofs only [ev1, ev2, ev3, ev4, ev5, ev6, mixed, Nat.reduceLT, Nat.reduceAdd, Nat.reduceMul, reduceIte, Nat.reduceEqDiff, reduceCtorEq, Nat.reducePow, Nat.reduceLeDiff, Int.reduceLE, Int.reduceLT, Int.reduceToNat, Int.reduceEq, Nat.reduceBEq, itsOf, gdA, byteI, opid, lenQ, ixQ, ldH, readAt, readCells, asCell, faQ, exQ, fldQ, partA, buildQ, slQ, stH, bslH, appH, dcells, convI, elemsOf, D.one, nilS, fillD, convN, cvH, T1, T3, T4, T5, T22, T23, T25, T27, T28, T33, T39, T52, T68, intD, boolD, psI, w1]) | (with_reducible refine ⟨?_, ?_⟩; (· first | (obtain ⟨rfl⟩ := ‹Hq _ _›; with_reducible refine chk_ok ?_; kernel_rfl) | kernel_rfl)) | (with_reducible intro ops hops)))
        refine ⟨k + 1, ⟨hlt, hinv' rfl⟩, le_stOf _ _ [] [(100, 100), (101, 101)] ?_ ?_ rfl rfl, by simp; omega⟩
        · simp [cv, cvL, cv1, cv0, upd, lk, srcOf, intD, psI]
        · simp [objOk, srcOf, lk, cvO, cvL, cv0, frz, hO, intD, boolD, bI, upd, D.one, D.ids1]
      · obtain ⟨q1, q2⟩ := hyq rfl
        have t1 := same_A X Y (by omega)
        rw [decide_eq_false q1] at t1
        have d1 := sum_D X (by omega)
        have d2 := sum_D Y (by omega)
        have t2 := same_A (sha X) (sha Y) (by rw [sha_length]; omega)
        rw [decide_eq_true q2] at t2
        clear hyq hinv' q2
        generalize sha X = SX at *
        generalize sha Y = SY at *
        (repeat (first | (simp -implicitDefEqProofs only [ev1, ev2, ev3, ev4, ev5, ev6, mixed, Nat.reduceLT, Nat.reduceAdd, Nat.reduceMul, reduceIte, Nat.reduceEqDiff, reduceCtorEq, Nat.reducePow, Nat.reduceLeDiff, Int.reduceLE, Int.reduceLT, Int.reduceToNat, Int.reduceEq, Nat.reduceBEq, itsOf, gdA, byteI, opid, lenQ, ixQ, ldH, readAt, readCells, asCell, faQ, exQ, fldQ, partA, buildQ, slQ, stH, bslH, appH, dcells, convI, elemsOf, D.one, nilS, fillD, convN, cvH, T1, T3, T4, T5, T22, T23, T25, T27, T28, T33, T39, T52, T68, intD, g1, e1, c5, c6, c7]) | (with_reducible refine ⟨?_, ?_⟩; (· first | (obtain ⟨rfl⟩ := ‹Hq _ _›; with_reducible refine chk_ok ?_; kernel_rfl) | kernel_rfl)) | (with_reducible intro ops hops)))
        (first | refine Call_frz [] (hcq) (by simp [cvAs, cvA, cv1, cvL, cv0, bI, byteI, bbI, psI, intD, boolD, proofD, fltD, elemsOf, upd]) ?_ | refine CallF_frz [] [] (hcq) (fun G _ => by simp [cvAs, cvA, cv1, cvL, cv0, bI, byteI, bbI, psI, intD, boolD, proofD, fltD, elemsOf, upd]) (by simp) ?_)
        (repeat (first | (simp -implicitDefEqProofs only [ev1, ev2, ev3, ev4, ev5, ev6, mixed, Nat.reduceLT, Nat.reduceAdd, Nat.reduceMul, reduceIte, Nat.reduceEqDiff, reduceCtorEq, Nat.reducePow, Nat.reduceLeDiff, Int.reduceLE, Int.reduceLT, Int.reduceToNat, Int.reduceEq, Nat.reduceBEq, itsOf, gdA, byteI, opid, lenQ, ixQ, ldH, readAt, readCells, asCell, faQ, exQ, fldQ, partA, buildQ, slQ, stH, bslH, appH, dcells, convI, elemsOf, D.one, nilS, fillD, convN, cvH, T1, T3, T4, T5, T22, T23, T25, T27, T28, T33, T39, T52, T68, intD, boolD, psI, bI]) | (with_reducible refine ⟨?_, ?_⟩; (· first | (obtain ⟨rfl⟩ := ‹Hq _ _›; with_reducible refine chk_ok ?_; kernel_rfl) | kernel_rfl)) | (with_reducible intro ops hops)))
        (first | refine Call_flat [] [] (t1) (by simp [cvAs, cvA, cv1, cvL, cv0, bI, byteI, bbI, psI, intD, boolD, proofD, fltD, elemsOf, upd]) rfl ?_ | refine CallF_flat [] [] [] (t1) (fun G _ => by simp [cvAs, cvA, cv1, cvL, cv0, bI, byteI, bbI, psI, intD, boolD, proofD, fltD, elemsOf, upd]) rfl ?_)
        (repeat (first | (simp -implicitDefEqProofs only [ev1, ev2, ev3, ev4, ev5, ev6, mixed, Nat.reduceLT, Nat.reduceAdd, Nat.reduceMul, reduceIte, Nat.reduceEqDiff, reduceCtorEq, Nat.reducePow, Nat.reduceLeDiff, Int.reduceLE, Int.reduceLT, Int.reduceToNat, Int.reduceEq, Nat.reduceBEq, itsOf, gdA, byteI, opid, lenQ, ixQ, ldH, readAt, readCells, asCell, faQ, exQ, fldQ, partA, buildQ, slQ, stH, bslH, appH, dcells, convI, elemsOf, D.one, nilS, fillD, convN, cvH, T1, T3, T4, T5, T22, T23, T25, T27, T28, T33, T39, T52, T68, boolD, intD, bI]) | (with_reducible refine ⟨?_, ?_⟩; (· first | (obtain ⟨rfl⟩ := ‹Hq _ _›; with_reducible refine chk_ok ?_; kernel_rfl) | kernel_rfl)) | (with_reducible intro ops hops)))
        (first | refine Call_frz [] (d1) (by simp [cvAs, cvA, cv1, cvL, cv0, bI, byteI, bbI, psI, intD, boolD, proofD, fltD, elemsOf, upd]) ?_ | refine CallF_frz [] [] (d1) (fun G _ => by simp [cvAs, cvA, cv1, cvL, cv0, bI, byteI, bbI, psI, intD, boolD, proofD, fltD, elemsOf, upd]) (by simp) ?_)
        (repeat (first | (simp -implicitDefEqProofs only [ev1, ev2, ev3, ev4, ev5, ev6, mixed, Nat.reduceLT, Nat.reduceAdd, Nat.reduceMul, reduceIte, Nat.reduceEqDiff, reduceCtorEq, Nat.reducePow, Nat.reduceLeDiff, Int.reduceLE, Int.reduceLT, Int.reduceToNat, Int.reduceEq, Nat.reduceBEq, itsOf, gdA, byteI, opid, lenQ, ixQ, ldH, readAt, readCells, asCell, faQ, exQ, fldQ, partA, buildQ, slQ, stH, bslH, appH, dcells, convI, elemsOf, D.one, nilS, fillD, convN, cvH, T1, T3, T4, T5, T22, T23, T25, T27, T28, T33, T39, T52, T68, boolD, intD, bI]) | (with_reducible refine ⟨?_, ?_⟩; (· first | (obtain ⟨rfl⟩ := ‹Hq _ _›; with_reducible refine chk_ok ?_; kernel_rfl) | kernel_rfl)) | (with_reducible intro ops hops)))
        (first | refine Call_frz [] (d2) (by simp [cvAs, cvA, cv1, cvL, cv0, bI, byteI, bbI, psI, intD, boolD, proofD, fltD, elemsOf, upd]) ?_ | refine CallF_frz [] [] (d2) (fun G _ => by simp [cvAs, cvA, cv1, cvL, cv0, bI, byteI, bbI, psI, intD, boolD, proofD, fltD, elemsOf, upd]) (by simp) ?_)
        (repeat (first | (simp -implicitDefEqProofs only [ev1, ev2, ev3, ev4, ev5, ev6, mixed, Nat.reduceLT, Nat.reduceAdd, Nat.reduceMul, reduceIte, Nat.reduceEqDiff, reduceCtorEq, Nat.reducePow, Nat.reduceLeDiff, Int.reduceLE, Int.reduceLT, Int.reduceToNat, Int.reduceEq, Nat.reduceBEq, itsOf, gdA, byteI, opid, lenQ, ixQ, ldH, readAt, readCells, asCell, faQ, exQ, fldQ, partA, buildQ, slQ, stH, bslH, appH, dcells, convI, elemsOf, D.one, nilS, fillD, convN, cvH, T1, T3, T4, T5, T22, T23, T25, T27, T28, T33, T39, T52, T68, boolD, intD, bI]) | (with_reducible refine ⟨?_, ?_⟩; (· first | (obtain ⟨rfl⟩ := ‹Hq _ _›; with_reducible refine chk_ok ?_; kernel_rfl) | kernel_rfl)) | (with_reducible intro ops hops)))
        (first | refine Call_flat [] [] (t2) (by simp [cvAs, cvA, cv1, cvL, cv0, bI, byteI, bbI, psI, intD, boolD, proofD, fltD, elemsOf, upd]) rfl ?_ | refine CallF_flat [] [] [] (t2) (fun G _ => by simp [cvAs, cvA, cv1, cvL, cv0, bI, byteI, bbI, psI, intD, boolD, proofD, fltD, elemsOf, upd]) rfl ?_)
        (repeat (first | (simp -implicitDefEqProofs only [ev1, ev2, ev3, ev4, ev5, ev6, mixed, Nat.reduceLT, Nat.reduceAdd, Nat.reduceMul, reduceIte, Nat.reduceEqDiff, reduceCtorEq, Nat.reducePow, Nat.reduceLeDiff, Int.reduceLE, Int.reduceLT, Int.reduceToNat, Int.reduceEq, Nat.reduceBEq, itsOf, gdA, byteI, opid, lenQ, ixQ, ldH, readAt, readCells, asCell, faQ, exQ, fldQ, partA, buildQ, slQ, stH, bslH, appH, dcells, convI, elemsOf, D.one, nilS, fillD, convN, cvH, T1, T3, T4, T5, T22, T23, T25, T27, T28, T33, T39, T52, T68, boolD, intD]) | (with_reducible refine ⟨?_, ?_⟩; (· first | (obtain ⟨rfl⟩ := ‹Hq _ _›; with_reducible refine chk_ok ?_; kernel_rfl) | kernel_rfl)) | (with_reducible intro ops hops)))
        refine fin_ret [] rfl ?_
        simp [cv, cv1, cv0, upd]
    · have hk3 : k = 3 := by omega
      subst hk3
      have g1 : decide (((3 : Nat) : Int) < 3) = false := by decide
      have z0 := hinv 0 (by omega) (by omega)
      have z1 := hinv 1 (by omega) (by omega)
      have z2 := hinv 2 (by omega) (by omega)
      rw [hq0] at z0
      rw [hq1] at z1
      rw [hq2] at z2
      obtain ⟨rfl, rfl, _, q2, q1⟩ := hnot z0 z1 z2
      have t1 := same_A TB [2, 0, 0, 0, 0] (by omega)
      rw [decide_eq_false q1] at t1
      have d1 := sum_D TB (by omega)
      have d2 := sum_D [2, 0, 0, 0, 0] (by simp)
      have t2 := same_A (sha TB) (sha [2, 0, 0, 0, 0]) (by rw [sha_length]; omega)
      rw [decide_eq_true q2] at t2
      clear hcl hsm hye hnot hrt hsh hab hinv q1 q2
      generalize sha TB = SX at *
      generalize sha [2, 0, 0, 0, 0] = SY at *
      (repeat (first | (simp -implicitDefEqProofs only [ev1, ev2, ev3, ev4, ev5, ev6, mixed, Nat.reduceLT, Nat.reduceAdd, Nat.reduceMul, reduceIte, Nat.reduceEqDiff, reduceCtorEq, Nat.reducePow, Nat.reduceLeDiff, Int.reduceLE, Int.reduceLT, Int.reduceToNat, Int.reduceEq, Nat.reduceBEq, itsOf, gdA, byteI, opid, lenQ, ixQ, ldH, readAt, readCells, asCell, faQ, exQ, fldQ, partA, buildQ, slQ, stH, bslH, appH, dcells, convI, elemsOf, D.one, nilS, fillD, convN, cvH, T1, T3, T4, T5, T22, T23, T25, T27, T28, T33, T39, T52, T68, intD, boolD, g1, psI, List.length_map]) | (with_reducible refine ⟨?_, ?_⟩; (· first | (obtain ⟨rfl⟩ := ‹Hq _ _›; with_reducible refine chk_ok ?_; kernel_rfl) | kernel_rfl)) | (with_reducible intro ops hops)))
      (first | refine Call_frz [] (hfour) (by simp [cvAs, cvA, cv1, cvL, cv0, bI, byteI, bbI, psI, intD, boolD, proofD, fltD, elemsOf, upd]) ?_ | refine CallF_frz [] [] (hfour) (fun G _ => by simp [cvAs, cvA, cv1, cvL, cv0, bI, byteI, bbI, psI, intD, boolD, proofD, fltD, elemsOf, upd]) (by simp) ?_)
      (repeat (first | (simp -implicitDefEqProofs only [ev1, ev2, ev3, ev4, ev5, ev6, mixed, Nat.reduceLT, Nat.reduceAdd, Nat.reduceMul, reduceIte, Nat.reduceEqDiff, reduceCtorEq, Nat.reducePow, Nat.reduceLeDiff, Int.reduceLE, Int.reduceLT, Int.reduceToNat, Int.reduceEq, Nat.reduceBEq, itsOf, gdA, byteI, opid, lenQ, ixQ, ldH, readAt, readCells, asCell, faQ, exQ, fldQ, partA, buildQ, slQ, stH, bslH, appH, dcells, convI, elemsOf, D.one, nilS, fillD, convN, cvH, T1, T3, T4, T5, T22, T23, T25, T27, T28, T33, T39, T52, T68, intD, boolD, psI, bI]) | (with_reducible refine ⟨?_, ?_⟩; (· first | (obtain ⟨rfl⟩ := ‹Hq _ _›; with_reducible refine chk_ok ?_; kernel_rfl) | kernel_rfl)) | (with_reducible intro ops hops)))
      (first | refine Call_frz [] (htree) (by simp [cvAs, cvA, cv1, cvL, cv0, bI, byteI, bbI, psI, intD, boolD, proofD, fltD, elemsOf, upd]) ?_ | refine CallF_frz [] [] (htree) (fun G _ => by simp [cvAs, cvA, cv1, cvL, cv0, bI, byteI, bbI, psI, intD, boolD, proofD, fltD, elemsOf, upd]) (by simp) ?_)
      (repeat (first | (simp -implicitDefEqProofs only [ev1, ev2, ev3, ev4, ev5, ev6, mixed, Nat.reduceLT, Nat.reduceAdd, Nat.reduceMul, reduceIte, Nat.reduceEqDiff, reduceCtorEq, Nat.reducePow, Nat.reduceLeDiff, Int.reduceLE, Int.reduceLT, Int.reduceToNat, Int.reduceEq, Nat.reduceBEq, itsOf, gdA, byteI, opid, lenQ, ixQ, ldH, readAt, readCells, asCell, faQ, exQ, fldQ, partA, buildQ, slQ, stH, bslH, appH, dcells, convI, elemsOf, D.one, nilS, fillD, convN, cvH, T1, T3, T4, T5, T22, T23, T25, T27, T28, T33, T39, T52, T68, intD, boolD, psI, bI]) | (with_reducible refine ⟨?_, ?_⟩; (· first | (obtain ⟨rfl⟩ := ‹Hq _ _›; with_reducible refine chk_ok ?_; kernel_rfl) | kernel_rfl)) | (with_reducible intro ops hops)))
      (first | refine Call_frz [4846] (hjn) (by simp [cvAs, cvA, cv1, cvL, cv0, bI, byteI, bbI, psI, intD, boolD, proofD, fltD, elemsOf, upd, frz, bbI]) ?_ | refine CallF_frz [4846] [4846] (hjn) (fun G hG => by (have hG4846 := hG 4846 (by simp); simp [cvAs, cvA, cv1, cvL, cv0, bI, byteI, bbI, psI, intD, boolD, proofD, fltD, elemsOf, upd, frz, bbI, hG4846])) (by simp) ?_)
      (repeat (first | (simp -implicitDefEqProofs only [ev1, ev2, ev3, ev4, ev5, ev6, mixed, Nat.reduceLT, Nat.reduceAdd, Nat.reduceMul, reduceIte, Nat.reduceEqDiff, reduceCtorEq, Nat.reducePow, Nat.reduceLeDiff, Int.reduceLE, Int.reduceLT, Int.reduceToNat, Int.reduceEq, Nat.reduceBEq, itsOf, gdA, byteI, opid, lenQ, ixQ, ldH, readAt, readCells, asCell, faQ, exQ, fldQ, partA, buildQ, slQ, stH, bslH, appH, dcells, convI, elemsOf, D.one, nilS, fillD, convN, cvH, T1, T3, T4, T5, T22, T23, T25, T27, T28, T33, T39, T52, T68, intD, boolD, psI, bI]) | (with_reducible refine ⟨?_, ?_⟩; (· first | (obtain ⟨rfl⟩ := ‹Hq _ _›; with_reducible refine chk_ok ?_; kernel_rfl) | kernel_rfl)) | (with_reducible intro ops hops)))
      (first | refine Call_flat [4848] [] (t1) (by simp [cvAs, cvA, cv1, cvL, cv0, bI, byteI, bbI, psI, intD, boolD, proofD, fltD, elemsOf, upd]) rfl ?_ | refine CallF_flat [4848] [] [4848] (t1) (fun G hG => by (have hG4848 := hG 4848 (by simp); simp [cvAs, cvA, cv1, cvL, cv0, bI, byteI, bbI, psI, intD, boolD, proofD, fltD, elemsOf, upd, hG4848])) rfl ?_)
      (repeat (first | (simp -implicitDefEqProofs only [ev1, ev2, ev3, ev4, ev5, ev6, mixed, Nat.reduceLT, Nat.reduceAdd, Nat.reduceMul, reduceIte, Nat.reduceEqDiff, reduceCtorEq, Nat.reducePow, Nat.reduceLeDiff, Int.reduceLE, Int.reduceLT, Int.reduceToNat, Int.reduceEq, Nat.reduceBEq, itsOf, gdA, byteI, opid, lenQ, ixQ, ldH, readAt, readCells, asCell, faQ, exQ, fldQ, partA, buildQ, slQ, stH, bslH, appH, dcells, convI, elemsOf, D.one, nilS, fillD, convN, cvH, T1, T3, T4, T5, T22, T23, T25, T27, T28, T33, T39, T52, T68, intD, boolD, bI]) | (with_reducible refine ⟨?_, ?_⟩; (· first | (obtain ⟨rfl⟩ := ‹Hq _ _›; with_reducible refine chk_ok ?_; kernel_rfl) | kernel_rfl)) | (with_reducible intro ops hops)))
      (first | refine Call_frz [] (d1) (by simp [cvAs, cvA, cv1, cvL, cv0, bI, byteI, bbI, psI, intD, boolD, proofD, fltD, elemsOf, upd]) ?_ | refine CallF_frz [] [] (d1) (fun G _ => by simp [cvAs, cvA, cv1, cvL, cv0, bI, byteI, bbI, psI, intD, boolD, proofD, fltD, elemsOf, upd]) (by simp) ?_)
      (repeat (first | (simp -implicitDefEqProofs only [ev1, ev2, ev3, ev4, ev5, ev6, mixed, Nat.reduceLT, Nat.reduceAdd, Nat.reduceMul, reduceIte, Nat.reduceEqDiff, reduceCtorEq, Nat.reducePow, Nat.reduceLeDiff, Int.reduceLE, Int.reduceLT, Int.reduceToNat, Int.reduceEq, Nat.reduceBEq, itsOf, gdA, byteI, opid, lenQ, ixQ, ldH, readAt, readCells, asCell, faQ, exQ, fldQ, partA, buildQ, slQ, stH, bslH, appH, dcells, convI, elemsOf, D.one, nilS, fillD, convN, cvH, T1, T3, T4, T5, T22, T23, T25, T27, T28, T33, T39, T52, T68, intD, boolD, bI]) | (with_reducible refine ⟨?_, ?_⟩; (· first | (obtain ⟨rfl⟩ := ‹Hq _ _›; with_reducible refine chk_ok ?_; kernel_rfl) | kernel_rfl)) | (with_reducible intro ops hops)))
      (first | refine Call_frz [4848] (d2) (by simp [cvAs, cvA, cv1, cvL, cv0, bI, byteI, bbI, psI, intD, boolD, proofD, fltD, elemsOf, upd]) ?_ | refine CallF_frz [4848] [4848] (d2) (fun G hG => by (have hG4848 := hG 4848 (by simp); simp [cvAs, cvA, cv1, cvL, cv0, bI, byteI, bbI, psI, intD, boolD, proofD, fltD, elemsOf, upd, hG4848])) (by simp) ?_)
      (repeat (first | (simp -implicitDefEqProofs only [ev1, ev2, ev3, ev4, ev5, ev6, mixed, Nat.reduceLT, Nat.reduceAdd, Nat.reduceMul, reduceIte, Nat.reduceEqDiff, reduceCtorEq, Nat.reducePow, Nat.reduceLeDiff, Int.reduceLE, Int.reduceLT, Int.reduceToNat, Int.reduceEq, Nat.reduceBEq, itsOf, gdA, byteI, opid, lenQ, ixQ, ldH, readAt, readCells, asCell, faQ, exQ, fldQ, partA, buildQ, slQ, stH, bslH, appH, dcells, convI, elemsOf, D.one, nilS, fillD, convN, cvH, T1, T3, T4, T5, T22, T23, T25, T27, T28, T33, T39, T52, T68, intD, boolD, bI]) | (with_reducible refine ⟨?_, ?_⟩; (· first | (obtain ⟨rfl⟩ := ‹Hq _ _›; with_reducible refine chk_ok ?_; kernel_rfl) | kernel_rfl)) | (with_reducible intro ops hops)))
      (first | refine Call_flat [] [] (t2) (by simp [cvAs, cvA, cv1, cvL, cv0, bI, byteI, bbI, psI, intD, boolD, proofD, fltD, elemsOf, upd]) rfl ?_ | refine CallF_flat [] [] [] (t2) (fun G _ => by simp [cvAs, cvA, cv1, cvL, cv0, bI, byteI, bbI, psI, intD, boolD, proofD, fltD, elemsOf, upd]) rfl ?_)
      (repeat (first | (simp -implicitDefEqProofs only [ev1, ev2, ev3, ev4, ev5, ev6, mixed, Nat.reduceLT, Nat.reduceAdd, Nat.reduceMul, reduceIte, Nat.reduceEqDiff, reduceCtorEq, Nat.reducePow, Nat.reduceLeDiff, Int.reduceLE, Int.reduceLT, Int.reduceToNat, Int.reduceEq, Nat.reduceBEq, itsOf, gdA, byteI, opid, lenQ, ixQ, ldH, readAt, readCells, asCell, faQ, exQ, fldQ, partA, buildQ, slQ, stH, bslH, appH, dcells, convI, elemsOf, D.one, nilS, fillD, convN, cvH, T1, T3, T4, T5, T22, T23, T25, T27, T28, T33, T39, T52, T68, boolD, intD]) | (with_reducible refine ⟨?_, ?_⟩; (· first | (obtain ⟨rfl⟩ := ‹Hq _ _›; with_reducible refine chk_ok ?_; kernel_rfl) | kernel_rfl)) | (with_reducible intro ops hops)))
      refine fin_ret [] rfl ?_
      simp [cv, cv1, cv0, upd]
end Go.Proofs.Ythbnhbmakapglaa
