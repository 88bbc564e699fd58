/- ProofTells: by-value contract. -/
import Derived.Test.YthbnhbmakapglaaRefF
set_option linter.all false
namespace Go.Proofs.Ythbnhbmakapglaa
open Go Go.Abs Go.RowKit Go.Proofs.Ythbnhbmakapglaa.Ty

theorem dec_bb {e : List I} (h : HasCs [.sl [.int .u8]] e) : ∃ b : List UInt8, e = [bI b] ∧ True := by
  obtain ⟨x, _, rfl, hx, h⟩ := hasCs_cons h
  obtain rfl := hasCs_nil h
  obtain ⟨a, rfl⟩ := dec_B hx
  exact ⟨a, rfl, trivial⟩
theorem dec_BB {x : I} (h : HasC (.sl [.sl [.int .u8]]) x) : ∃ l : List (List UInt8), x = bbI l := by
  obtain ⟨l, h1, _⟩ := dec_list (fun _ he => dec_bb he) h
  exact ⟨l, h1⟩
theorem dec_Proof {e : List I} (h : HasCs [.int .i64, .int .i64, .sl [.int .u8], .sl [.int .u8], .sl [.sl [.int .u8]]] e) : ∃ p : ProofD, e = formI p := by
  obtain ⟨x1, _, rfl, h1, h⟩ := hasCs_cons h
  obtain ⟨x2, _, rfl, h2, h⟩ := hasCs_cons h
  obtain ⟨x3, _, rfl, h3, h⟩ := hasCs_cons h
  obtain ⟨x4, _, rfl, h4, h⟩ := hasCs_cons h
  obtain ⟨x5, _, rfl, h5, h⟩ := hasCs_cons h
  obtain rfl := hasCs_nil h
  obtain ⟨a, rfl, _⟩ := dec_int h1
  obtain ⟨b, rfl, _⟩ := dec_int h2
  obtain ⟨c, rfl⟩ := dec_B h3
  obtain ⟨d, rfl⟩ := dec_B h4
  obtain ⟨q, rfl⟩ := dec_BB h5
  exact ⟨⟨a, b, c, d, q⟩, rfl⟩
def gapI (g : GapD) : List I := .s (.bool g.hl) :: .s (.bool g.hr) :: (formI g.left ++ formI g.right)
theorem dec_Gap {e : List I} (h : HasCs [.bool, .bool, .int .i64, .int .i64, .sl [.int .u8], .sl [.int .u8], .sl [.sl [.int .u8]], .int .i64, .int .i64, .sl [.int .u8], .sl [.int .u8], .sl [.sl [.int .u8]]] e) : ∃ g : GapD, e = gapI g := by
  obtain ⟨y1, _, rfl, k1, h⟩ := hasCs_cons h
  obtain ⟨y2, _, rfl, k2, h⟩ := hasCs_cons h
  obtain ⟨x1, _, rfl, h1, h⟩ := hasCs_cons h
  obtain ⟨x2, _, rfl, h2, h⟩ := hasCs_cons h
  obtain ⟨x3, _, rfl, h3, h⟩ := hasCs_cons h
  obtain ⟨x4, _, rfl, h4, h⟩ := hasCs_cons h
  obtain ⟨x5, _, rfl, h5, h⟩ := hasCs_cons h
  obtain ⟨p, rfl⟩ := dec_Proof h
  obtain ⟨a, rfl, _⟩ := dec_int h1
  obtain ⟨b, rfl, _⟩ := dec_int h2
  obtain ⟨c, rfl⟩ := dec_B h3
  obtain ⟨d, rfl⟩ := dec_B h4
  obtain ⟨q, rfl⟩ := dec_BB h5
  obtain ⟨u, rfl⟩ := dec_bool k1
  obtain ⟨v, rfl⟩ := dec_bool k2
  exact ⟨⟨u, v, ⟨a, b, c, d, q⟩, p⟩, rfl⟩
theorem proofD_formI (p : ProofD) : D.agg ((formI p).map .i) = proofD p := rfl
theorem gapD_gapI (g : GapD) : D.agg ((gapI g).map .i) = gapD g := rfl

theorem show_ok (l : List PairD) (key : List UInt8) (hl : l.length ≤ 1048576) (hb : ∀ p ∈ l, p.k.length ≤ 1048576 ∧ p.v.length ≤ 1048576) : OkP (showF l key).1 := by
  rcases showF_cases l key with h | ⟨_, h3, _, h4⟩
  · rw [h.2]; exact .zero
  · rw [h4]; exact .at hl hb _ h3
theorem gap_ok (l : List PairD) (key : List UInt8) (hl : l.length ≤ 1048576) (hb : ∀ p ∈ l, p.k.length ≤ 1048576 ∧ p.v.length ≤ 1048576) : OkP (gapF l key).1.left ∧ OkP (gapF l key).1.right := by
  have hz : ∀ b i, OkP (atZ l b i) := fun b i => by
    unfold atZ; split
    · exact .at hl hb _ _
    · exact .zero
  unfold gapF
  split
  · split
    · exact ⟨.zero, .zero⟩
    · exact ⟨hz _ _, hz _ _⟩
  · exact ⟨.zero, .zero⟩
set_option maxHeartbeats 4000000
theorem walk_ProofTells (y0 : I) (l : List PairD) (e0 : y0 = psI l) (y1 : I) (key : List UInt8) (e1 : y1 = bI key) (y2 : I) (root : List UInt8) (e2 : y2 = bI root)
    (y3 : List I) (p : ProofD) (e3 : y3 = formI p) (y4 : List I) (g : GapD) (e4 : y4 = gapI g) (hb : bkI y0 + bkI y1 + bkI y2 ≤ 1048576) :
    ∃ Ds, PureD Try.prog 5 Ds (.i (.s (.bool true))) ∧ Ds = [.i y0, .i y1, .i y2, .agg (y3.map .i), .agg (y4.map .i)] := by
  subst e0 e1 e2 e3 e4
  refine ⟨_, ?_, rfl⟩
  rw [proofD_formI, gapD_gapI]
  have hps := pairs_small (l := l) (n := 1048576) (by omega)
  have hroot : root.length ≤ 1048576 := by rw [bk_B, bk_B] at hb; omega
  have hkey : key.length ≤ 1048576 := by rw [bk_B, bk_B] at hb; omega
  have hs := show_A l key hps.1
  have hrs := rshow_A l key hps.1 (fun p hp => (hps.2 p hp).1)
  have hg := gap_A l key hps.1
  have hrg := rgap_A l key hps.1 (fun p hp => (hps.2 p hp).1)
  have hsp := sameproof_A (showF l key).1 (show_ok l key hps.1 hps.2)
  have hsg := samegap_A (gapF l key).1 (gap_ok l key hps.1 hps.2).1 (gap_ok l key hps.1 hps.2).2
  have s1 := shown_A root p
  have s2 := rshown_A root p hroot
  have a1 := absent_A root key g
  have a2 := rabsent_A root key g hroot hkey
  generalize showF l key = S at *
  generalize gapF l key = G at *
  generalize shownF root p = B1 at *
  generalize absentF root key g = B2 at *
  obtain ⟨⟨si, sn, sk, sv, sq⟩, e⟩ := S
  obtain ⟨⟨ghl, ghr, ⟨ai, an, ak, av, aq⟩, ⟨bi, bn, bk, bv, bq⟩⟩, w⟩ := G
  obtain ⟨pi, pn, pk, pv, pq⟩ := p
  obtain ⟨hl', hr', ⟨ci, cn, ck, cv', cq⟩, ⟨di, dn, dk, dv, dq⟩⟩ := g
  simp only [proofD, gapD] at *
  have g1 : decide ((e : Int) = (e : Int)) = true := decide_eq_true rfl
  have g2 : decide ((w : Int) = (w : Int)) = true := decide_eq_true rfl
  cases B1 <;> cases B2 <;>
  (refine callD_W 78 Try.func5 rfl rfl rfl (fun _ _ => rfl) ?_
   (repeat (first | (simp -implicitDefEqProofs only [ev1, ev2, ev3, ev4, ev5, mixed, Nat.reduceLT, Nat.reduceAdd, Nat.reduceMul, reduceIte, Nat.reduceEqDiff, reduceCtorEq, Nat.reducePow, Nat.reduceLeDiff, Int.reduceLE, Int.reduceLT, Int.reduceToNat, Int.reduceEq, itsOf, gdA, byteI, opid, lenQ, ixQ, ldH, readAt, readCells, asCell, faQ, exQ, fldQ, partA, buildQ, slQ, stH, bslH, appH, dcells, convI, elemsOf, D.one, nilS, fillD, convN, cvH, List.contains_nil, List.contains_cons, Nat.reduceBEq, Bool.or_self, Bool.or_false, bx_some, bx_none, isSl_sl, isNil_nil, longD_sl, longD_os, conc_sl', nilEq_eql, nilEq_neq, T3, T4, T5, T22, T23, T25, T27, T28, T39, T52, psI, bI, intD, boolD]) | (with_reducible refine ⟨?_, ?_⟩; (· first | (obtain ⟨rfl⟩ := ‹Hq _ _›; with_reducible refine chk_ok ?_; kernel_rfl) | kernel_rfl)) | (with_reducible intro ops hops)))
   (first | refine Call_frz [] (hs) (by simp [cvAs, cvA, cv1, cvL, cv0, bI, byteI, bbI, psI, intD, boolD, proofD, elemsOf, upd]) ?_ | refine CallF_frz [] [] (hs) (fun G _ => by simp [cvAs, cvA, cv1, cvL, cv0, bI, byteI, bbI, psI, intD, boolD, proofD, elemsOf, upd]) (by simp) ?_)
   (repeat (first | (simp -implicitDefEqProofs only [ev1, ev2, ev3, ev4, ev5, mixed, Nat.reduceLT, Nat.reduceAdd, Nat.reduceMul, reduceIte, Nat.reduceEqDiff, reduceCtorEq, Nat.reducePow, Nat.reduceLeDiff, Int.reduceLE, Int.reduceLT, Int.reduceToNat, Int.reduceEq, itsOf, gdA, byteI, opid, lenQ, ixQ, ldH, readAt, readCells, asCell, faQ, exQ, fldQ, partA, buildQ, slQ, stH, bslH, appH, dcells, convI, elemsOf, D.one, nilS, fillD, convN, cvH, List.contains_nil, List.contains_cons, Nat.reduceBEq, Bool.or_self, Bool.or_false, bx_some, bx_none, isSl_sl, isNil_nil, longD_sl, longD_os, conc_sl', nilEq_eql, nilEq_neq, T3, T4, T5, T22, T23, T25, T27, T28, T39, T52, psI, bI, intD, boolD]) | (with_reducible refine ⟨?_, ?_⟩; (· first | (obtain ⟨rfl⟩ := ‹Hq _ _›; with_reducible refine chk_ok ?_; kernel_rfl) | kernel_rfl)) | (with_reducible intro ops hops)))
   (first | refine Call_frz [] (hrs) (by simp [cvAs, cvA, cv1, cvL, cv0, bI, byteI, bbI, psI, intD, boolD, proofD, elemsOf, upd]) ?_ | refine CallF_frz [] [] (hrs) (fun G _ => by simp [cvAs, cvA, cv1, cvL, cv0, bI, byteI, bbI, psI, intD, boolD, proofD, elemsOf, upd]) (by simp) ?_)
   (repeat (first | (simp -implicitDefEqProofs only [ev1, ev2, ev3, ev4, ev5, mixed, Nat.reduceLT, Nat.reduceAdd, Nat.reduceMul, reduceIte, Nat.reduceEqDiff, reduceCtorEq, Nat.reducePow, Nat.reduceLeDiff, Int.reduceLE, Int.reduceLT, Int.reduceToNat, Int.reduceEq, itsOf, gdA, byteI, opid, lenQ, ixQ, ldH, readAt, readCells, asCell, faQ, exQ, fldQ, partA, buildQ, slQ, stH, bslH, appH, dcells, convI, elemsOf, D.one, nilS, fillD, convN, cvH, List.contains_nil, List.contains_cons, Nat.reduceBEq, Bool.or_self, Bool.or_false, bx_some, bx_none, isSl_sl, isNil_nil, longD_sl, longD_os, conc_sl', nilEq_eql, nilEq_neq, T3, T4, T5, T22, T23, T25, T27, T28, T39, T52, psI, bI, intD, boolD, g1]) | (with_reducible refine ⟨?_, ?_⟩; (· first | (obtain ⟨rfl⟩ := ‹Hq _ _›; with_reducible refine chk_ok ?_; kernel_rfl) | kernel_rfl)) | (with_reducible intro ops hops)))
   (first | refine Call_flat [] [] (hsp) (by simp [cvAs, cvA, cv1, cvL, cv0, bI, byteI, bbI, psI, intD, boolD, proofD, elemsOf, upd]) rfl ?_ | refine CallF_flat [] [] [] (hsp) (fun G _ => by simp [cvAs, cvA, cv1, cvL, cv0, bI, byteI, bbI, psI, intD, boolD, proofD, elemsOf, upd]) rfl ?_)
   (repeat (first | (simp -implicitDefEqProofs only [ev1, ev2, ev3, ev4, ev5, mixed, Nat.reduceLT, Nat.reduceAdd, Nat.reduceMul, reduceIte, Nat.reduceEqDiff, reduceCtorEq, Nat.reducePow, Nat.reduceLeDiff, Int.reduceLE, Int.reduceLT, Int.reduceToNat, Int.reduceEq, itsOf, gdA, byteI, opid, lenQ, ixQ, ldH, readAt, readCells, asCell, faQ, exQ, fldQ, partA, buildQ, slQ, stH, bslH, appH, dcells, convI, elemsOf, D.one, nilS, fillD, convN, cvH, List.contains_nil, List.contains_cons, Nat.reduceBEq, Bool.or_self, Bool.or_false, bx_some, bx_none, isSl_sl, isNil_nil, longD_sl, longD_os, conc_sl', nilEq_eql, nilEq_neq, T3, T4, T5, T22, T23, T25, T27, T28, T39, T52, psI, bI, intD, boolD]) | (with_reducible refine ⟨?_, ?_⟩; (· first | (obtain ⟨rfl⟩ := ‹Hq _ _›; with_reducible refine chk_ok ?_; kernel_rfl) | kernel_rfl)) | (with_reducible intro ops hops)))
   (first | refine Call_frz [] (hg) (by simp [cvAs, cvA, cv1, cvL, cv0, bI, byteI, bbI, psI, intD, boolD, proofD, elemsOf, upd]) ?_ | refine CallF_frz [] [] (hg) (fun G _ => by simp [cvAs, cvA, cv1, cvL, cv0, bI, byteI, bbI, psI, intD, boolD, proofD, elemsOf, upd]) (by simp) ?_)
   (repeat (first | (simp -implicitDefEqProofs only [ev1, ev2, ev3, ev4, ev5, mixed, Nat.reduceLT, Nat.reduceAdd, Nat.reduceMul, reduceIte, Nat.reduceEqDiff, reduceCtorEq, Nat.reducePow, Nat.reduceLeDiff, Int.reduceLE, Int.reduceLT, Int.reduceToNat, Int.reduceEq, itsOf, gdA, byteI, opid, lenQ, ixQ, ldH, readAt, readCells, asCell, faQ, exQ, fldQ, partA, buildQ, slQ, stH, bslH, appH, dcells, convI, elemsOf, D.one, nilS, fillD, convN, cvH, List.contains_nil, List.contains_cons, Nat.reduceBEq, Bool.or_self, Bool.or_false, bx_some, bx_none, isSl_sl, isNil_nil, longD_sl, longD_os, conc_sl', nilEq_eql, nilEq_neq, T3, T4, T5, T22, T23, T25, T27, T28, T39, T52, psI, bI, intD, boolD]) | (with_reducible refine ⟨?_, ?_⟩; (· first | (obtain ⟨rfl⟩ := ‹Hq _ _›; with_reducible refine chk_ok ?_; kernel_rfl) | kernel_rfl)) | (with_reducible intro ops hops)))
   (first | refine Call_frz [] (hrg) (by simp [cvAs, cvA, cv1, cvL, cv0, bI, byteI, bbI, psI, intD, boolD, proofD, elemsOf, upd]) ?_ | refine CallF_frz [] [] (hrg) (fun G _ => by simp [cvAs, cvA, cv1, cvL, cv0, bI, byteI, bbI, psI, intD, boolD, proofD, elemsOf, upd]) (by simp) ?_)
   (repeat (first | (simp -implicitDefEqProofs only [ev1, ev2, ev3, ev4, ev5, mixed, Nat.reduceLT, Nat.reduceAdd, Nat.reduceMul, reduceIte, Nat.reduceEqDiff, reduceCtorEq, Nat.reducePow, Nat.reduceLeDiff, Int.reduceLE, Int.reduceLT, Int.reduceToNat, Int.reduceEq, itsOf, gdA, byteI, opid, lenQ, ixQ, ldH, readAt, readCells, asCell, faQ, exQ, fldQ, partA, buildQ, slQ, stH, bslH, appH, dcells, convI, elemsOf, D.one, nilS, fillD, convN, cvH, List.contains_nil, List.contains_cons, Nat.reduceBEq, Bool.or_self, Bool.or_false, bx_some, bx_none, isSl_sl, isNil_nil, longD_sl, longD_os, conc_sl', nilEq_eql, nilEq_neq, T3, T4, T5, T22, T23, T25, T27, T28, T39, T52, psI, bI, intD, boolD, g2]) | (with_reducible refine ⟨?_, ?_⟩; (· first | (obtain ⟨rfl⟩ := ‹Hq _ _›; with_reducible refine chk_ok ?_; kernel_rfl) | kernel_rfl)) | (with_reducible intro ops hops)))
   (first | refine Call_flat [] [] (hsg) (by simp [cvAs, cvA, cv1, cvL, cv0, bI, byteI, bbI, psI, intD, boolD, proofD, elemsOf, upd]) rfl ?_ | refine CallF_flat [] [] [] (hsg) (fun G _ => by simp [cvAs, cvA, cv1, cvL, cv0, bI, byteI, bbI, psI, intD, boolD, proofD, elemsOf, upd]) rfl ?_)
   (repeat (first | (simp -implicitDefEqProofs only [ev1, ev2, ev3, ev4, ev5, mixed, Nat.reduceLT, Nat.reduceAdd, Nat.reduceMul, reduceIte, Nat.reduceEqDiff, reduceCtorEq, Nat.reducePow, Nat.reduceLeDiff, Int.reduceLE, Int.reduceLT, Int.reduceToNat, Int.reduceEq, itsOf, gdA, byteI, opid, lenQ, ixQ, ldH, readAt, readCells, asCell, faQ, exQ, fldQ, partA, buildQ, slQ, stH, bslH, appH, dcells, convI, elemsOf, D.one, nilS, fillD, convN, cvH, List.contains_nil, List.contains_cons, Nat.reduceBEq, Bool.or_self, Bool.or_false, bx_some, bx_none, isSl_sl, isNil_nil, longD_sl, longD_os, conc_sl', nilEq_eql, nilEq_neq, T3, T4, T5, T22, T23, T25, T27, T28, T39, T52, intD, boolD]) | (with_reducible refine ⟨?_, ?_⟩; (· first | (obtain ⟨rfl⟩ := ‹Hq _ _›; with_reducible refine chk_ok ?_; kernel_rfl) | kernel_rfl)) | (with_reducible intro ops hops)))
   (first | refine Call_flat [] [] (s1) (by simp [cvAs, cvA, cv1, cvL, cv0, bI, byteI, bbI, psI, intD, boolD, proofD, elemsOf, upd]) rfl ?_ | refine CallF_flat [] [] [] (s1) (fun G _ => by simp [cvAs, cvA, cv1, cvL, cv0, bI, byteI, bbI, psI, intD, boolD, proofD, elemsOf, upd]) rfl ?_)
   (repeat (first | (simp -implicitDefEqProofs only [ev1, ev2, ev3, ev4, ev5, mixed, Nat.reduceLT, Nat.reduceAdd, Nat.reduceMul, reduceIte, Nat.reduceEqDiff, reduceCtorEq, Nat.reducePow, Nat.reduceLeDiff, Int.reduceLE, Int.reduceLT, Int.reduceToNat, Int.reduceEq, itsOf, gdA, byteI, opid, lenQ, ixQ, ldH, readAt, readCells, asCell, faQ, exQ, fldQ, partA, buildQ, slQ, stH, bslH, appH, dcells, convI, elemsOf, D.one, nilS, fillD, convN, cvH, List.contains_nil, List.contains_cons, Nat.reduceBEq, Bool.or_self, Bool.or_false, bx_some, bx_none, isSl_sl, isNil_nil, longD_sl, longD_os, conc_sl', nilEq_eql, nilEq_neq, T3, T4, T5, T22, T23, T25, T27, T28, T39, T52, intD, boolD]) | (with_reducible refine ⟨?_, ?_⟩; (· first | (obtain ⟨rfl⟩ := ‹Hq _ _›; with_reducible refine chk_ok ?_; kernel_rfl) | kernel_rfl)) | (with_reducible intro ops hops)))
   (first | refine Call_flat [] [] (s2) (by simp [cvAs, cvA, cv1, cvL, cv0, bI, byteI, bbI, psI, intD, boolD, proofD, elemsOf, upd]) rfl ?_ | refine CallF_flat [] [] [] (s2) (fun G _ => by simp [cvAs, cvA, cv1, cvL, cv0, bI, byteI, bbI, psI, intD, boolD, proofD, elemsOf, upd]) rfl ?_)
   (repeat (first | (simp -implicitDefEqProofs only [ev1, ev2, ev3, ev4, ev5, mixed, Nat.reduceLT, Nat.reduceAdd, Nat.reduceMul, reduceIte, Nat.reduceEqDiff, reduceCtorEq, Nat.reducePow, Nat.reduceLeDiff, Int.reduceLE, Int.reduceLT, Int.reduceToNat, Int.reduceEq, itsOf, gdA, byteI, opid, lenQ, ixQ, ldH, readAt, readCells, asCell, faQ, exQ, fldQ, partA, buildQ, slQ, stH, bslH, appH, dcells, convI, elemsOf, D.one, nilS, fillD, convN, cvH, List.contains_nil, List.contains_cons, Nat.reduceBEq, Bool.or_self, Bool.or_false, bx_some, bx_none, isSl_sl, isNil_nil, longD_sl, longD_os, conc_sl', nilEq_eql, nilEq_neq, T3, T4, T5, T22, T23, T25, T27, T28, T39, T52, intD, boolD]) | (with_reducible refine ⟨?_, ?_⟩; (· first | (obtain ⟨rfl⟩ := ‹Hq _ _›; with_reducible refine chk_ok ?_; kernel_rfl) | kernel_rfl)) | (with_reducible intro ops hops)))
   (first | refine Call_flat [] [] (a1) (by simp [cvAs, cvA, cv1, cvL, cv0, bI, byteI, bbI, psI, intD, boolD, proofD, elemsOf, upd]) rfl ?_ | refine CallF_flat [] [] [] (a1) (fun G _ => by simp [cvAs, cvA, cv1, cvL, cv0, bI, byteI, bbI, psI, intD, boolD, proofD, elemsOf, upd]) rfl ?_)
   (repeat (first | (simp -implicitDefEqProofs only [ev1, ev2, ev3, ev4, ev5, mixed, Nat.reduceLT, Nat.reduceAdd, Nat.reduceMul, reduceIte, Nat.reduceEqDiff, reduceCtorEq, Nat.reducePow, Nat.reduceLeDiff, Int.reduceLE, Int.reduceLT, Int.reduceToNat, Int.reduceEq, itsOf, gdA, byteI, opid, lenQ, ixQ, ldH, readAt, readCells, asCell, faQ, exQ, fldQ, partA, buildQ, slQ, stH, bslH, appH, dcells, convI, elemsOf, D.one, nilS, fillD, convN, cvH, List.contains_nil, List.contains_cons, Nat.reduceBEq, Bool.or_self, Bool.or_false, bx_some, bx_none, isSl_sl, isNil_nil, longD_sl, longD_os, conc_sl', nilEq_eql, nilEq_neq, T3, T4, T5, T22, T23, T25, T27, T28, T39, T52, intD, boolD]) | (with_reducible refine ⟨?_, ?_⟩; (· first | (obtain ⟨rfl⟩ := ‹Hq _ _›; with_reducible refine chk_ok ?_; kernel_rfl) | kernel_rfl)) | (with_reducible intro ops hops)))
   (first | refine Call_flat [] [] (a2) (by simp [cvAs, cvA, cv1, cvL, cv0, bI, byteI, bbI, psI, intD, boolD, proofD, elemsOf, upd]) rfl ?_ | refine CallF_flat [] [] [] (a2) (fun G _ => by simp [cvAs, cvA, cv1, cvL, cv0, bI, byteI, bbI, psI, intD, boolD, proofD, elemsOf, upd]) rfl ?_)
   (repeat (first | (simp -implicitDefEqProofs only [ev1, ev2, ev3, ev4, ev5, mixed, Nat.reduceLT, Nat.reduceAdd, Nat.reduceMul, reduceIte, Nat.reduceEqDiff, reduceCtorEq, Nat.reducePow, Nat.reduceLeDiff, Int.reduceLE, Int.reduceLT, Int.reduceToNat, Int.reduceEq, itsOf, gdA, byteI, opid, lenQ, ixQ, ldH, readAt, readCells, asCell, faQ, exQ, fldQ, partA, buildQ, slQ, stH, bslH, appH, dcells, convI, elemsOf, D.one, nilS, fillD, convN, cvH, List.contains_nil, List.contains_cons, Nat.reduceBEq, Bool.or_self, Bool.or_false, bx_some, bx_none, isSl_sl, isNil_nil, longD_sl, longD_os, conc_sl', nilEq_eql, nilEq_neq, T3, T4, T5, T22, T23, T25, T27, T28, T39, T52, intD, boolD]) | (with_reducible refine ⟨?_, ?_⟩; (· first | (obtain ⟨rfl⟩ := ‹Hq _ _›; with_reducible refine chk_ok ?_; kernel_rfl) | kernel_rfl)) | (with_reducible intro ops hops)))
   refine fin_ret [] rfl ?_
   simp [cv, cv1, cv0, upd])
end Go.Proofs.Ythbnhbmakapglaa
