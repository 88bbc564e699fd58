/- The statement on ClientFrozen, with the last texts of its proof: for every input of bounded bulk the law answers true and leaves its arguments as they were. -/
import Derived.Test.YtdpfjmkilbepgaaHdD
import Derived.Test.YtdpfjmkilbepgaaDecB
import Derived.Test.YtdpfjmkilbepgaaClM
import Derived.Test.YtdpfjmkilbepgaaAbs4
import Derived.Test.YtdpfjmkilbepgaaTy
import Derived.Test.YtdpfjmkilbepgaaClD
import Derived.Test.YtdpfjmkilbepgaaClL
import Derived.Test.YtdpfjmkilbepgaaCmp
import Derived.Test.YtdpfjmkilbepgaaShaD
import Derived.Lib.Bytealg
import Derived.Test.YtdpfjmkilbepgaaHdA
import Derived.Test.YtdpfjmkilbepgaaWq
import Derived.Test.YtdpfjmkilbepgaaRow2
/- What the rows hand in: validators, headers, what is signed. -/
set_option linter.all false
namespace Go.Proofs.Ytdpfjmkilbepgaa
open Go Go.Abs Go.RowKit Go.Proofs.Ytdpfjmkilbepgaa.Ty

def Val64 (v : ValD) : Prop := v.k < 18446744073709551616 ∧ v.p < 18446744073709551616
theorem dec_Val {e : List I} (h : HasCs [.int .u64, .int .u64] e) : ∃ v : ValD, e = encV v ∧ Val64 v := by
  obtain ⟨x, _, rfl, hx, h⟩ := hasCs_cons h
  obtain ⟨y, _, rfl, hy, h⟩ := hasCs_cons h
  obtain rfl := hasCs_nil h
  obtain ⟨a, rfl, ha⟩ := dec_u64 hx
  obtain ⟨b, rfl, hb⟩ := dec_u64 hy
  exact ⟨⟨a, b⟩, rfl, ha, hb⟩
theorem dec_Vals {x : I} (h : HasC (.sl [.int .u64, .int .u64]) x) : ∃ l : List ValD, x = valsI l ∧ ∀ v ∈ l, Val64 v := dec_list (fun _ he => dec_Val he) h
def Vote64 (x : VoteD) : Prop := x.r < 18446744073709551616 ∧ x.s < 18446744073709551616
theorem dec_Vote {e : List I} (h : HasCs [.bool, .int .u64, .int .u64] e) : ∃ v : VoteD, e = encX v ∧ Vote64 v := by
  obtain ⟨x, _, rfl, hx, h⟩ := hasCs_cons h
  obtain ⟨y, _, rfl, hy, h⟩ := hasCs_cons h
  obtain ⟨z, _, rfl, hz, h⟩ := hasCs_cons h
  obtain rfl := hasCs_nil h
  obtain ⟨a, rfl⟩ := dec_bool hx
  obtain ⟨b, rfl, hb⟩ := dec_u64 hy
  obtain ⟨c, rfl, hc⟩ := dec_u64 hz
  exact ⟨⟨a, b, c⟩, rfl, hb, hc⟩
theorem dec_Votes {x : I} (h : HasC (.sl [.bool, .int .u64, .int .u64]) x) : ∃ l : List VoteD, x = votesI l ∧ ∀ v ∈ l, Vote64 v := dec_list (fun _ he => dec_Vote he) h
theorem dec_Hdr {e : List I} (h : HasCs [.str, .int .i64, .int .i64, .sl [.int .u8], .sl [.int .u8], .sl [.int .u8]] e) : ∃ a : HdrD, e = encH a := by
  obtain ⟨x1, _, rfl, h1, h⟩ := hasCs_cons h
  obtain ⟨x2, _, rfl, h2, h⟩ := hasCs_cons h
  obtain ⟨x3, _, rfl, h3, h⟩ := hasCs_cons h
  obtain ⟨x4, _, rfl, h4, h⟩ := hasCs_cons h
  obtain ⟨x5, _, rfl, h5, h⟩ := hasCs_cons h
  obtain ⟨x6, _, rfl, h6, h⟩ := hasCs_cons h
  obtain rfl := hasCs_nil h
  obtain ⟨c, rfl, _⟩ := dec_str h1
  obtain ⟨a, rfl, _⟩ := dec_int h2
  obtain ⟨b, rfl, _⟩ := dec_int h3
  obtain ⟨u, rfl⟩ := dec_B h4
  obtain ⟨v, rfl⟩ := dec_B h5
  obtain ⟨w, rfl⟩ := dec_B h6
  exact ⟨⟨c, a, b, u, v, w⟩, rfl⟩
theorem dec_Signed {e : List I} (h : HasCs [.str, .int .i64, .int .i64, .sl [.int .u8], .sl [.int .u8], .sl [.int .u8], .sl [.int .u64, .int .u64], .sl [.bool, .int .u64, .int .u64]] e) : ∃ s : SignedD, e = encS s ∧ (∀ v ∈ s.vals, Val64 v) ∧ ∀ x ∈ s.votes, Vote64 x := by
  obtain ⟨x1, _, rfl, h1, h⟩ := hasCs_cons h
  obtain ⟨x2, _, rfl, h2, h⟩ := hasCs_cons h
  obtain ⟨x3, _, rfl, h3, h⟩ := hasCs_cons h
  obtain ⟨x4, _, rfl, h4, h⟩ := hasCs_cons h
  obtain ⟨x5, _, rfl, h5, h⟩ := hasCs_cons h
  obtain ⟨x6, _, rfl, h6, h⟩ := hasCs_cons h
  obtain ⟨x7, _, rfl, h7, h⟩ := hasCs_cons h
  obtain ⟨x8, _, rfl, h8, h⟩ := hasCs_cons h
  obtain rfl := hasCs_nil h
  obtain ⟨c, rfl, _⟩ := dec_str h1
  obtain ⟨a, rfl, _⟩ := dec_int h2
  obtain ⟨b, rfl, _⟩ := dec_int h3
  obtain ⟨u, rfl⟩ := dec_B h4
  obtain ⟨v, rfl⟩ := dec_B h5
  obtain ⟨w, rfl⟩ := dec_B h6
  obtain ⟨l, rfl, hl⟩ := dec_Vals h7
  obtain ⟨m, rfl, hm⟩ := dec_Votes h8
  exact ⟨⟨⟨c, a, b, u, v, w⟩, l, m⟩, rfl, hl, hm⟩
theorem hdr_agg (h : HdrD) : D.agg ((encH h).map .i) = hdrD h := rfl
theorem sgn_agg (s : SignedD) : D.agg ((encS s).map .i) = signedD s := rfl
theorem hdr_sm {h : HdrD} {n : Nat} (hb : bkL (encH h) ≤ n) (hn : n ≤ 1048576) : HdrSm h := by
  have h1 := bk_B h.root
  have h2 := bk_B h.vals
  have h3 := bk_B h.next
  simp only [bkL, encH, bkI] at hb
  exact ⟨by omega, by omega, by omega, by omega⟩
theorem bkLL_two {α : Type} {enc : α → List I} {k : Nat} (hk : ∀ a, bkL (enc a) = k) (l : List α) : bkI (.sl (l.map enc)) = l.length * (1 + k) := by
  rw [bk_map]
  induction l with
  | nil => simp
  | cons a t ih => rw [List.map_cons, List.sum_cons, ih, hk, List.length_cons, Nat.add_mul]; omega
theorem seeds_of {l : List (List UInt8)} {n : Nat} (h : bkI (bbI l) ≤ n) (hn : n ≤ 1048576) : SeedsSm l := by
  have := bb_small h
  exact ⟨by omega, fun s hs => by have := this.2 s hs; omega⟩
theorem vals_len {l : List ValD} {n : Nat} (h : bkI (valsI l) ≤ n) (hn : n ≤ 1048576) : l.length ≤ 1048576 := by
  have := bk_len encV l
  unfold valsI at h; omega
end Go.Proofs.Ytdpfjmkilbepgaa
/- What the rows hand in: what is known, clients, updates. -/
set_option linter.all false
namespace Go.Proofs.Ytdpfjmkilbepgaa
open Go Go.Abs Go.RowKit Go.Proofs.Ytdpfjmkilbepgaa.Ty

theorem dec_Kn {e : List I} (h : HasCs [.int .i64, .int .i64, .sl [.int .u8], .sl [.int .u8]] e) : ∃ k : KnownD, e = encK k ∧ True := by
  obtain ⟨x1, _, rfl, h1, h⟩ := hasCs_cons h
  obtain ⟨x2, _, rfl, h2, h⟩ := hasCs_cons h
  obtain ⟨x3, _, rfl, h3, h⟩ := hasCs_cons h
  obtain ⟨x4, _, rfl, h4, h⟩ := hasCs_cons h
  obtain rfl := hasCs_nil h
  obtain ⟨a, rfl, _⟩ := dec_int h1
  obtain ⟨b, rfl, _⟩ := dec_int h2
  obtain ⟨u, rfl⟩ := dec_B h3
  obtain ⟨v, rfl⟩ := dec_B h4
  exact ⟨⟨a, b, u, v⟩, rfl, trivial⟩
theorem dec_Known {e : List I} (h : HasCs [.int .i64, .int .i64, .sl [.int .u8], .sl [.int .u8]] e) : ∃ k : KnownD, e = encK k := by
  obtain ⟨k, e, _⟩ := dec_Kn h
  exact ⟨k, e⟩
theorem dec_Client {e : List I} (h : HasCs [.str, .int .i64, .bool, .sl [.int .i64, .int .i64, .sl [.int .u8], .sl [.int .u8]]] e) : ∃ c : ClientD, e = encC c := by
  obtain ⟨x1, _, rfl, h1, h⟩ := hasCs_cons h
  obtain ⟨x2, _, rfl, h2, h⟩ := hasCs_cons h
  obtain ⟨x3, _, rfl, h3, h⟩ := hasCs_cons h
  obtain ⟨x4, _, rfl, h4, h⟩ := hasCs_cons h
  obtain rfl := hasCs_nil h
  obtain ⟨a, rfl, _⟩ := dec_str h1
  obtain ⟨b, rfl, _⟩ := dec_int h2
  obtain ⟨f, rfl⟩ := dec_bool h3
  obtain ⟨l, rfl, _⟩ := dec_list (fun _ he => dec_Kn he) h4
  exact ⟨⟨a, b, f, l⟩, rfl⟩
theorem dec_Upd {e : List I} (h : HasCs [.int .i64, .str, .int .i64, .int .i64, .sl [.int .u8], .sl [.int .u8], .sl [.int .u8], .sl [.int .u64, .int .u64], .sl [.bool, .int .u64, .int .u64], .sl [.int .u64, .int .u64]] e) :
    ∃ u : UpdD, e = encU u ∧ (∀ v ∈ u.sg.vals, Val64 v) ∧ (∀ x ∈ u.sg.votes, Vote64 x) ∧ (∀ v ∈ u.tr, Val64 v) := by
  obtain ⟨x0, _, rfl, h0, h⟩ := hasCs_cons h
  obtain ⟨x1, _, rfl, h1, h⟩ := hasCs_cons h
  obtain ⟨x2, _, rfl, h2, h⟩ := hasCs_cons h
  obtain ⟨x3, _, rfl, h3, h⟩ := hasCs_cons h
  obtain ⟨x4, _, rfl, h4, h⟩ := hasCs_cons h
  obtain ⟨x5, _, rfl, h5, h⟩ := hasCs_cons h
  obtain ⟨x6, _, rfl, h6, h⟩ := hasCs_cons h
  obtain ⟨x7, _, rfl, h7, h⟩ := hasCs_cons h
  obtain ⟨x8, _, rfl, h8, h⟩ := hasCs_cons h
  obtain ⟨x9, _, rfl, h9, h⟩ := hasCs_cons h
  obtain rfl := hasCs_nil h
  obtain ⟨f, rfl, _⟩ := dec_int h0
  obtain ⟨c, rfl, _⟩ := dec_str h1
  obtain ⟨a, rfl, _⟩ := dec_int h2
  obtain ⟨b, rfl, _⟩ := dec_int h3
  obtain ⟨u, rfl⟩ := dec_B h4
  obtain ⟨v, rfl⟩ := dec_B h5
  obtain ⟨w, rfl⟩ := dec_B h6
  obtain ⟨l, rfl, hl⟩ := dec_Vals h7
  obtain ⟨m, rfl, hm⟩ := dec_Votes h8
  obtain ⟨t, rfl, ht⟩ := dec_Vals h9
  exact ⟨⟨f, ⟨⟨c, a, b, u, v, w⟩, l, m⟩, t⟩, rfl, hl, hm, ht⟩
theorem cl_agg (c : ClientD) : D.agg ((encC c).map .i) = clientD c := rfl
theorem up_agg (u : UpdD) : D.agg ((encU u).map .i) = updD u := rfl
theorem kn_agg (k : KnownD) : D.agg ((encK k).map .i) = knownD k := rfl
theorem kn_bk (k : KnownD) : bkL (encK k) = k.root.length + k.next.length := by
  have h1 := bk_B k.root
  have h2 := bk_B k.next
  simp only [bkL, encK, bkI, h1, h2]; omega
theorem cl_sm {c : ClientD} {n : Nat} (hb : bkL (encC c) ≤ n) (hn : n ≤ 1048576) : ClSm c ∧ c.c.size ≤ 1048576 := by
  have h1 := bk_len encK c.known
  have h2 := fun k (hk : k ∈ c.known) => bk_mem encK hk
  simp only [bkL, encC, bkI, knownI] at hb h1 h2
  refine ⟨⟨by omega, fun k hk => ?_⟩, by omega⟩
  have h3 := h2 k hk
  rw [kn_bk] at h3
  exact ⟨by omega, by omega⟩
theorem up_sm {u : UpdD} {n : Nat} (hb : bkL (encU u) ≤ n) (hn : n ≤ 1048576) (h1 : ∀ v ∈ u.sg.vals, Val64 v) (h2 : ∀ x ∈ u.sg.votes, Vote64 x) (h3 : ∀ v ∈ u.tr, Val64 v) : UpSm u := by
  have k1 := bk_B u.sg.hdr.root
  have k2 := bk_B u.sg.hdr.vals
  have k3 := bk_B u.sg.hdr.next
  have k4 := bk_len encV u.sg.vals
  have k5 := bk_len encV u.tr
  simp only [encU, encS, valsI, votesI, List.cons_append, List.nil_append, bkL, bkI, k1, k2, k3] at hb k4 k5
  exact ⟨⟨⟨by omega, by omega, by omega, by omega⟩, by omega, h1, h2⟩, by omega, h3, by omega⟩
end Go.Proofs.Ytdpfjmkilbepgaa
/- The contract of landref1.Same, by the abstract walk. -/
set_option linter.all false
namespace Go.Proofs.Ytdpfjmkilbepgaa
open Go Go.Abs Go.RowKit Go.Proofs.Ytdpfjmkilbepgaa.Ty
theorem tyR1Same0 : (type_of% @Ty.T3) ∧ (type_of% @Ty.T5) ∧ (type_of% @Ty.T25) := ⟨@Ty.T3, @Ty.T5, @Ty.T25⟩

set_option maxHeartbeats 1000000
theorem same_A (x y : List UInt8) (hx : x.length ≤ 1099511627776) : PureD Try.prog 25 [.i (bI x), .i (bI y)] (.i (.s (.bool (decide (x = y))))) := by
  refine callD_W 26 Try.func25 rfl rfl rfl (fun _ _ => rfl) ?_
  (repeat (first | (simp -implicitDefEqProofs only [ev, mixed, Nat.reduceLT, Nat.reduceAdd, Nat.reduceMul, reduceIte, Nat.reduceEqDiff, reduceCtorEq, Nat.reducePow, Nat.reduceLeDiff, Int.reduceLE, Int.reduceLT, Int.reduceToNat, Int.reduceEq, Nat.reduceBEq, itsOf, gdA, byteI, opid, lenQ, ixQ, ldH, readAt, readCells, asCell, faQ, exQ, fldQ, partA, buildQ, slQ, stH, bslH, appH, dcells, convI, elemsOf, D.one, nilS, fillD, convN, cvH, tyR1Same0, bI]) | (with_reducible refine ⟨?_, ?_⟩; (· first | (obtain ⟨rfl⟩ := ‹Hq _ _›; with_reducible refine chk_ok ?_; kernel_rfl) | kernel_rfl)) | (with_reducible intro ops hops)))
  refine Wc_split (fun h => ?_) (fun h => ?_)
  · (repeat (first | (simp -implicitDefEqProofs only [ev, mixed, Nat.reduceLT, Nat.reduceAdd, Nat.reduceMul, reduceIte, Nat.reduceEqDiff, reduceCtorEq, Nat.reducePow, Nat.reduceLeDiff, Int.reduceLE, Int.reduceLT, Int.reduceToNat, Int.reduceEq, Nat.reduceBEq, itsOf, gdA, byteI, opid, lenQ, ixQ, ldH, readAt, readCells, asCell, faQ, exQ, fldQ, partA, buildQ, slQ, stH, bslH, appH, dcells, convI, elemsOf, D.one, nilS, fillD, convN, cvH, tyR1Same0, bI]) | (with_reducible refine ⟨?_, ?_⟩; (· first | (obtain ⟨rfl⟩ := ‹Hq _ _›; with_reducible refine chk_ok ?_; kernel_rfl) | kernel_rfl)) | (with_reducible intro ops hops)))
    refine fin_ret [] rfl ?_
    have : x ≠ y := by intro e; subst e; simp at h
    simp [cv, cv1, cv0, upd, this]
  · have hl : x.length = y.length := by simp at h; omega
    clear h
    (repeat (first | (simp -implicitDefEqProofs only [ev, mixed, Nat.reduceLT, Nat.reduceAdd, Nat.reduceMul, reduceIte, Nat.reduceEqDiff, reduceCtorEq, Nat.reducePow, Nat.reduceLeDiff, Int.reduceLE, Int.reduceLT, Int.reduceToNat, Int.reduceEq, Nat.reduceBEq, itsOf, gdA, byteI, opid, lenQ, ixQ, ldH, readAt, readCells, asCell, faQ, exQ, fldQ, partA, buildQ, slQ, stH, bslH, appH, dcells, convI, elemsOf, D.one, nilS, fillD, convN, cvH, tyR1Same0, bI]) | (with_reducible refine ⟨?_, ?_⟩; (· first | (obtain ⟨rfl⟩ := ‹Hq _ _›; with_reducible refine chk_ok ?_; kernel_rfl) | kernel_rfl)) | (with_reducible intro ops hops)))
    refine W_loop (ι := { k : Nat // k ≤ x.length ∧ x.take k = y.take k }) (fun k => stOf [(0, .i (.sl (x.map byteI))), (1, .i (.sl (y.map byteI))), (12, .i (.s (.int .i64 x.length))), (13, .i (.s (.int .i64 (k.1 : Nat))))] []) (fun k => x.length - k.1) ⟨0, by simp⟩ ?_ ?_
    · refine le_stOf _ _ [] [] ?_ ?_ rfl rfl
      · simp [cv, cv1, cv0, upd, lk]
      · simp
    · rintro ⟨k, hk, ht⟩
      rw [stOf_eq]
      (repeat (first | (simp -implicitDefEqProofs only [ev, mixed, Nat.reduceLT, Nat.reduceAdd, Nat.reduceMul, reduceIte, Nat.reduceEqDiff, reduceCtorEq, Nat.reducePow, Nat.reduceLeDiff, Int.reduceLE, Int.reduceLT, Int.reduceToNat, Int.reduceEq, Nat.reduceBEq, itsOf, gdA, byteI, opid, lenQ, ixQ, ldH, readAt, readCells, asCell, faQ, exQ, fldQ, partA, buildQ, slQ, stH, bslH, appH, dcells, convI, elemsOf, D.one, nilS, fillD, convN, cvH, tyR1Same0]) | (with_reducible refine ⟨?_, ?_⟩; (· first | (obtain ⟨rfl⟩ := ‹Hq _ _›; with_reducible refine chk_ok ?_; kernel_rfl) | kernel_rfl)) | (with_reducible intro ops hops)))
      refine Wc_split (fun h => ?_) (fun h => ?_)
      · have hlt : k < x.length := by simp at h; omega
        clear h
        have e1 : (x.map byteI)[k]? = some [.s (.int .u8 (x[k].toNat : Int))] := by simp [hlt, byteI]
        have e2 : (y.map byteI)[k]? = some [.s (.int .u8 ((y[k]'(by omega)).toNat : Int))] := by simp [show k < y.length by omega, byteI]
        (repeat (first | (simp -implicitDefEqProofs only [ev, mixed, Nat.reduceLT, Nat.reduceAdd, Nat.reduceMul, reduceIte, Nat.reduceEqDiff, reduceCtorEq, Nat.reducePow, Nat.reduceLeDiff, Int.reduceLE, Int.reduceLT, Int.reduceToNat, Int.reduceEq, Nat.reduceBEq, itsOf, gdA, byteI, opid, lenQ, ixQ, ldH, readAt, readCells, asCell, faQ, exQ, fldQ, partA, buildQ, slQ, stH, bslH, appH, dcells, convI, elemsOf, D.one, nilS, fillD, convN, cvH, tyR1Same0, e1, e2]) | (with_reducible refine ⟨?_, ?_⟩; (· first | (obtain ⟨rfl⟩ := ‹Hq _ _›; with_reducible refine chk_ok ?_; kernel_rfl) | kernel_rfl)) | (with_reducible intro ops hops)))
        refine Wc_split (fun h => ?_) (fun h => ?_)
        · (repeat (first | (simp -implicitDefEqProofs only [ev, mixed, Nat.reduceLT, Nat.reduceAdd, Nat.reduceMul, reduceIte, Nat.reduceEqDiff, reduceCtorEq, Nat.reducePow, Nat.reduceLeDiff, Int.reduceLE, Int.reduceLT, Int.reduceToNat, Int.reduceEq, Nat.reduceBEq, itsOf, gdA, byteI, opid, lenQ, ixQ, ldH, readAt, readCells, asCell, faQ, exQ, fldQ, partA, buildQ, slQ, stH, bslH, appH, dcells, convI, elemsOf, D.one, nilS, fillD, convN, cvH, tyR1Same0]) | (with_reducible refine ⟨?_, ?_⟩; (· first | (obtain ⟨rfl⟩ := ‹Hq _ _›; with_reducible refine chk_ok ?_; kernel_rfl) | kernel_rfl)) | (with_reducible intro ops hops)))
          refine fin_ret [] rfl ?_
          have : x ≠ y := by intro e; subst e; simp at h
          simp [cv, cv1, cv0, upd, this]
        · have hb : x[k] = y[k] := UInt8.toNat_inj.1 (by simp at h; omega)
          clear h
          have hw : IntKind.i64.wrap ((k : Int) + 1) = ((k + 1 : Nat) : Int) := by rw [wrap64 (by omega) (by omega)]; omega
          (repeat (first | (simp -implicitDefEqProofs only [ev, mixed, Nat.reduceLT, Nat.reduceAdd, Nat.reduceMul, reduceIte, Nat.reduceEqDiff, reduceCtorEq, Nat.reducePow, Nat.reduceLeDiff, Int.reduceLE, Int.reduceLT, Int.reduceToNat, Int.reduceEq, Nat.reduceBEq, itsOf, gdA, byteI, opid, lenQ, ixQ, ldH, readAt, readCells, asCell, faQ, exQ, fldQ, partA, buildQ, slQ, stH, bslH, appH, dcells, convI, elemsOf, D.one, nilS, fillD, convN, cvH, tyR1Same0, hw]) | (with_reducible refine ⟨?_, ?_⟩; (· first | (obtain ⟨rfl⟩ := ‹Hq _ _›; with_reducible refine chk_ok ?_; kernel_rfl) | kernel_rfl)) | (with_reducible intro ops hops)))
          refine ⟨⟨k + 1, hlt, ?_⟩, le_stOf _ _ [] [] ?_ ?_ rfl rfl, ?_⟩
          · rw [List.take_succ_eq_append_getElem hlt, List.take_succ_eq_append_getElem (by omega), ht, hb]
          · simp [cv, cv1, cv0, upd, lk]
          · simp
          · simp; omega
      · have hk' : k = x.length := by simp at h; omega
        subst hk'
        (repeat (first | (simp -implicitDefEqProofs only [ev, mixed, Nat.reduceLT, Nat.reduceAdd, Nat.reduceMul, reduceIte, Nat.reduceEqDiff, reduceCtorEq, Nat.reducePow, Nat.reduceLeDiff, Int.reduceLE, Int.reduceLT, Int.reduceToNat, Int.reduceEq, Nat.reduceBEq, itsOf, gdA, byteI, opid, lenQ, ixQ, ldH, readAt, readCells, asCell, faQ, exQ, fldQ, partA, buildQ, slQ, stH, bslH, appH, dcells, convI, elemsOf, D.one, nilS, fillD, convN, cvH, tyR1Same0]) | (with_reducible refine ⟨?_, ?_⟩; (· first | (obtain ⟨rfl⟩ := ‹Hq _ _›; with_reducible refine chk_ok ?_; kernel_rfl) | kernel_rfl)) | (with_reducible intro ops hops)))
        refine fin_ret [] rfl ?_
        have : x = y := by rw [List.take_length, hl, List.take_length] at ht; exact ht
        simp [cv, cv1, cv0, upd, this]
end Go.Proofs.Ytdpfjmkilbepgaa
/- landlaw7.known, alive. -/
set_option linter.all false
namespace Go.Proofs.Ytdpfjmkilbepgaa
open Go Go.Abs Go.RowKit Go.Proofs.Ytdpfjmkilbepgaa.Ty

set_option maxHeartbeats 4000000
def k07 : KnownD := ⟨1, 5, List.replicate 32 0, List.replicate 32 0⟩
def c07 : ClientD := ⟨⟨#[97]⟩, 10, false, [k07]⟩
theorem known7_A : PureD Try.prog 85 [] (knownD k07) := by
  refine hide_r fun R hR => ?_
  have hz : List.replicate 32 [I.s (.int .u8 0)] = (List.replicate 32 (0 : UInt8)).map byteI := rfl
  unfold k07 at hR
  have m1 := fun {e : TypeId} {l c : Int} {H : Nat → Ob} {id : Nat} => mk_fresh (P := Try.prog) (e := e) (l := l) (c := c) (H := H) (id := id)
  refine callD_W 6 Try.func85 rfl rfl rfl (fun _ _ => rfl) ?_
  exact wkl trivial
theorem new7 : newC ⟨#[97]⟩ 10 k07 = (c07, 0) := by
  have : wrongC ⟨⟨#[97]⟩, 10, false, [k07]⟩ = 0 := by
    rw [wrongC_zero]
    refine ⟨by decide +kernel, by decide, by decide, fun k hk => ?_, by simp⟩
    simp at hk; subst hk
    exact ⟨by decide, by decide, by decide, by decide⟩
  unfold newC; rw [if_pos this]; rfl
theorem alive7_A : PureD Try.prog 40 [] (boolD true) := by
  refine hide_r fun R hR => ?_
  have c1 := known7_A
  have c2 := cnew_A ⟨#[97]⟩ 10 k07 ⟨by decide, by decide⟩
  rw [new7] at c2
  have c3 := cat_A c07 1 ⟨by decide, fun k hk => by simp [c07] at hk; subst hk; exact ⟨by decide, by decide⟩⟩
  rw [show atR c07 1 = (k07, true) from rfl] at c3
  have c4 := cactive_A c07 14 (by decide) (by decide) (by decide) (by decide)
  have c5 := cactive_A c07 15 (by decide) (by decide) (by decide) (by decide)
  rw [show activeC c07 14 = true from rfl] at c4
  rw [show activeC c07 15 = false from rfl] at c5
  simp only [c07] at c2 c3 c4 c5
  have ht : k07.t = 5 := rfl
  generalize k07 = k at *
  refine callD_W 34 Try.func40 rfl rfl rfl (fun _ _ => rfl) ?_
  exact wkl trivial
end Go.Proofs.Ytdpfjmkilbepgaa
/- client.Catch: by value. -/
set_option linter.all false
namespace Go.Proofs.Ytdpfjmkilbepgaa
open Go Go.Abs Go.RowKit Go.Proofs.Ytdpfjmkilbepgaa.Ty

set_option maxHeartbeats 4000000
set_option maxRecDepth 20000
def catS (V W : Int) (E : ClientD × Int) : Nat → ClientD × Int
  | 0 => if V = 0 then (if W = 0 then E else (zeroC, W)) else (zeroC, V)
  | 1 => if W = 0 then E else (zeroC, W)
  | _ => E
theorem ccatch_A (c : ClientD) (a b : UpdD) (now : Int) (hl : c.known.length ≤ 1048576) (ha : UpSm a) (hb : UpSm b) :
    PureD Try.prog 52 [clientD c, updD a, updD b, intD now] (.tup [clientD (catchC c a b now).1, intD (catchC c a b now).2]) := by
  refine hide_r fun R hR => ?_
  have c1 := casked_A c now hl
  have r1 := bs_pt2 (P := Try.prog) (t := 125) (e := 111) (by kernel_rfl) (by kernel_rfl) (by kernel_rfl)
  unfold catchC at hR
  by_cases h1 : askedE c now = 0
  · obtain ⟨ok, hn, hfz⟩ := asked_zero.1 h1
    have c2 := cbelieve_A c a now ok ha hn
    have c3 := cbelieve_A c b now ok hb hn
    rw [if_pos h1] at hR
    rw [h1] at c1
    have c4 := hbytes_A a.sg.hdr ha.s.h.c ha.s.h.root ha.s.h.vals ha.s.h.next
    have c5 := hbytes_A b.sg.hdr hb.s.h.c hb.s.h.root hb.s.h.vals hb.s.h.next
    have c6 := equal_A (bytesH a.sg.hdr) (bytesH b.sg.hdr)
    have c7 := cown_A c ok.sm
    clear ha hb ok hfz h1 hl
    generalize bytesH a.sg.hdr = X at *
    generalize bytesH b.sg.hdr = Y at *
    generalize beE c a now = V at *
    generalize beE c b now = W at *
    refine callD_W 60 Try.func52 rfl rfl rfl (fun _ _ => rfl) ?_
    refine wkl ?_
    clear hR; intro hR
    have hR' : Hr (.tup [clientD (catS V W (if a.sg.hdr.h = b.sg.hdr.h ∧ ¬ X = Y then ({ c with frozen := true }, 0) else (zeroC, 8)) 0).1, intD (catS V W (if a.sg.hdr.h = b.sg.hdr.h ∧ ¬ X = Y then ({ c with frozen := true }, 0) else (zeroC, 8)) 0).2]) R := hR
    clear hR
    refine W_loopR (ι := Nat) (fun i => i ≤ 2 ∧ Hr (.tup [clientD (catS V W (if a.sg.hdr.h = b.sg.hdr.h ∧ ¬ X = Y then ({ c with frozen := true }, 0) else (zeroC, 8)) i).1, intD (catS V W (if a.sg.hdr.h = b.sg.hdr.h ∧ ¬ X = Y then ({ c with frozen := true }, 0) else (zeroC, 8)) i).2]) R)
      (fun i => stOf [(3, intD now), (4, .pt 100 0 0 0), (5, .pt 101 0 0 0), (6, .pt 102 0 0 0), (8, .pt 103 0 0 0), (23, .bs 104 0 2), (24, intD 2), (25, intD i)]
        [(100, .box ((encC c).map .i)), (101, .box ((encU a).map .i)), (102, .box ((encU b).map .i)), (103, .box ((encC zeroC).map .i)), (104, .box [.pt 101 0 0 0, .pt 102 0 0 0])]) (fun i => 2 - i) 0 ⟨Nat.zero_le _, hR'⟩ ?_ ?_
    · exact le_ok [] [(100, 1000), (101, 1001), (102, 1002), (103, 1003), (104, 2024)]
    · rintro i ⟨hi, hR⟩ RL hL
      clear hR'
      rw [stOf_eq]
      have b1 := fun σ' (h : i + 1 ≤ 2) hq => bk [] [(100, 100), (101, 101), (102, 102), (103, 103), (104, 104)] (hL (i + 1) σ' ⟨h, hq⟩)
      clear hL
      match i, hi with
      | 0, _ =>
        have b1 := fun σ' (hq : Hr _ R) => b1 σ' (by omega) hq
        simp only [catS] at hR b1
        exact wkl trivial
      | 1, _ =>
        have b1 := fun σ' (hq : Hr _ R) => b1 σ' (by omega) hq
        simp only [catS] at hR b1
        exact wkl trivial
      | 2, _ =>
        clear b1
        simp only [catS] at hR
        by_cases hx : X = Y
        · rw [decide_eq_true hx] at c6
          simp only [hx, not_true, and_false, if_false] at hR
          exact wkl trivial
        · rw [decide_eq_false hx] at c6
          simp only [hx, not_false_eq_true, and_true] at hR
          exact wkl trivial
  · rw [if_neg h1] at hR
    generalize askedE c now = W at *
    clear ha hb
    refine callD_W 60 Try.func52 rfl rfl rfl (fun _ _ => rfl) ?_
    exact wkl trivial
end Go.Proofs.Ytdpfjmkilbepgaa
/- book.Find: by value, of pairs whose keys rise. -/
set_option linter.all false
namespace Go.Proofs.Ytdpfjmkilbepgaa
open Go Go.Abs Go.RowKit Go.Proofs.Ytdpfjmkilbepgaa.Ty

structure PairD where
  k : List UInt8
  v : List UInt8
def encPr (p : PairD) : List I := [bI p.k, bI p.v]
def prD (p : PairD) : D := .agg [.i (bI p.k), .i (bI p.v)]
def psI (l : List PairD) : I := .sl (l.map encPr)

set_option maxHeartbeats 2000000
end Go.Proofs.Ytdpfjmkilbepgaa
/- book.Wrong, Leaf, Node, Top, Split, Tree, Root: by value. -/
set_option linter.all false
namespace Go.Proofs.Ytdpfjmkilbepgaa
open Go Go.Abs Go.RowKit Go.Proofs.Ytdpfjmkilbepgaa.Ty

def fltD (e i : Nat) : D := .agg [intD e, intD i]
def bigP (p : PairD) : Bool := decide (60 < p.k.length) || decide (200 < p.v.length)
def wrongGo (l : List PairD) (i : Nat) : Nat × Nat :=
  if h : i < l.length then
    if bigP l[i] then (4, i)
    else if 0 < i ∧ 0 ≤ Lib.compareBytes (l[i - 1]'(by omega)).k l[i].k then (2, i)
    else wrongGo l (i + 1)
  else (0, 0)
termination_by l.length - i
def wrongF (l : List PairD) : Nat × Nat := if 200 < l.length then (5, 0) else wrongGo l 0

set_option maxHeartbeats 2000000
end Go.Proofs.Ytdpfjmkilbepgaa
/- book.Leaf, Node, Top, Split, Tree, Root: by value. -/
set_option linter.all false
namespace Go.Proofs.Ytdpfjmkilbepgaa
open Go Go.Abs Go.RowKit Go.Proofs.Ytdpfjmkilbepgaa.Ty
theorem tyBookB0 : (type_of% @Ty.T3) ∧ (type_of% @Ty.T4) ∧ (type_of% @Ty.T5) ∧ (type_of% @Ty.T25) := ⟨@Ty.T3, @Ty.T4, @Ty.T5, @Ty.T25⟩
theorem tyBookB1 : (type_of% @Ty.T1) ∧ (type_of% @Ty.T3) ∧ (type_of% @Ty.T4) ∧ (type_of% @Ty.T5) ∧ (type_of% @Ty.T25) ∧ (type_of% @Ty.T26) := ⟨@Ty.T1, @Ty.T3, @Ty.T4, @Ty.T5, @Ty.T25, @Ty.T26⟩
theorem tyBookB2 : (type_of% @Ty.T1) ∧ (type_of% @Ty.T3) ∧ (type_of% @Ty.T5) ∧ (type_of% @Ty.T25) ∧ (type_of% @Ty.T26) := ⟨@Ty.T1, @Ty.T3, @Ty.T5, @Ty.T25, @Ty.T26⟩
theorem tyBookB3 : (type_of% @Ty.T1) ∧ (type_of% @Ty.T3) ∧ (type_of% @Ty.T5) ∧ (type_of% @Ty.T25) ∧ (type_of% @Ty.T26) := ⟨@Ty.T1, @Ty.T3, @Ty.T5, @Ty.T25, @Ty.T26⟩
theorem tyBookB4 : (type_of% @Ty.T3) := @Ty.T3

def four (n : Nat) : List UInt8 := [byteOf n 16777216, byteOf n 65536, byteOf n 256, byteOf n 1]
def leafF (k v : List UInt8) : List UInt8 := sha (0 :: (four k.length ++ (k ++ v)))
def nodeF (a b : List UInt8) : List UInt8 := sha (1 :: (a ++ b))
def topF (n : Nat) (t : List UInt8) : List UInt8 := sha (2 :: (four n ++ t))
def splitF (n : Nat) : Nat := 2 ^ Nat.log2 (n - 1)
theorem splitF_lt {n : Nat} (h : 2 ≤ n) : 0 < splitF n ∧ splitF n < n := by
  have := Nat.log2_self_le (n := n - 1) (by omega)
  have h2 : 0 < 2 ^ Nat.log2 (n - 1) := Nat.pow_pos (by decide)
  simp only [splitF]; omega
theorem splitF_le {n : Nat} : n ≤ 2 * splitF n := by
  have := Nat.lt_log2_self (n := n - 1)
  rw [Nat.pow_succ] at this
  simp only [splitF]; omega
def treeF (l : List PairD) : List UInt8 :=
  match l with
  | [] => []
  | [p] => leafF p.k p.v
  | p :: q :: r => nodeF (treeF ((p :: q :: r).take (splitF (p :: q :: r).length))) (treeF ((p :: q :: r).drop (splitF (p :: q :: r).length)))
termination_by l.length
decreasing_by
  all_goals
    have := splitF_lt (n := (p :: q :: r).length) (by simp)
    simp only [List.length_take, List.length_drop]
    omega
theorem treeF_one (p : PairD) : treeF [p] = leafF p.k p.v := by rw [treeF]
theorem treeF_two {l : List PairD} (h : 2 ≤ l.length) : treeF l = nodeF (treeF (l.take (splitF l.length))) (treeF (l.drop (splitF l.length))) := by
  match l, h with
  | p :: q :: r, _ => conv => lhs; rw [treeF]
theorem treeF_len (l : List PairD) (h : l ≠ []) : (treeF l).length = 32 := by
  match l, h with
  | [p], _ => rw [treeF_one]; exact sha_length _
  | p :: q :: r, _ => rw [treeF_two (by simp)]; exact sha_length _
def rootF (l : List PairD) : List UInt8 := topF l.length (treeF l)

theorem byte24 (n d k : Nat) (hd : d = 2 ^ k) (hk : k < 64) : IntKind.u8.wrap ((n : Int).fdiv (2 ^ min k (IntKind.bits .i64))) = ((byteOf n d).toNat : Int) := by
  have hm : min k (IntKind.bits .i64) = k := by simp [IntKind.bits]; omega
  rw [hm, Int.fdiv_eq_ediv_of_nonneg _ (by exact_mod_cast Nat.zero_le _), IntKind.wrap_u8]
  have : (n : Int) / 2 ^ k = ((n / 2 ^ k : Nat) : Int) := by rw [Int.natCast_ediv, Int.natCast_pow]; rfl
  rw [this, byteOf, hd]
  generalize n / 2 ^ k = x
  rw [UInt8.toNat_ofNat']; omega
theorem byte1 (n : Nat) : IntKind.u8.wrap (n : Int) = ((byteOf n 1).toNat : Int) := by
  rw [IntKind.wrap_u8, byteOf, Nat.div_one, UInt8.toNat_ofNat']; omega
set_option maxHeartbeats 2000000
theorem four_A (n : Nat) : PureD Try.prog 130 [intD n] (.i (bI (four n))) := by
  have b1 := byte24 n 16777216 24 (by decide) (by decide)
  have b2 := byte24 n 65536 16 (by decide) (by decide)
  have b3 := byte24 n 256 8 (by decide) (by decide)
  have b4 := byte1 n
  simp only [four]
  generalize byteOf n 16777216 = c1 at *
  generalize byteOf n 65536 = c2 at *
  generalize byteOf n 256 = c3 at *
  generalize byteOf n 1 = c4 at *
  refine callD_W 15 Try.func130 rfl rfl rfl (fun _ _ => rfl) ?_
  (repeat (first | (simp -implicitDefEqProofs only [ev, mixed, Nat.reduceLT, Nat.reduceAdd, Nat.reduceMul, reduceIte, Nat.reduceEqDiff, reduceCtorEq, Nat.reducePow, Nat.reduceLeDiff, Int.reduceLE, Int.reduceLT, Int.reduceToNat, Int.reduceEq, Nat.reduceBEq, itsOf, gdA, byteI, opid, lenQ, ixQ, ldH, readAt, readCells, asCell, faQ, exQ, fldQ, partA, buildQ, slQ, stH, bslH, appH, dcells, convI, elemsOf, D.one, nilS, fillD, convN, cvH, tyBookB0, intD, b1, b2, b3, b4]) | (with_reducible refine ⟨?_, ?_⟩; (· first | (obtain ⟨rfl⟩ := ‹Hq _ _›; with_reducible refine chk_ok ?_; kernel_rfl) | kernel_rfl)) | (with_reducible intro ops hops)))
  refine fin_ret [1267] rfl ?_
  simp [cv, cv1, cv0, upd, elemsOf, bI, byteI]

theorem leaf_A (k v : List UInt8) (hk : k.length ≤ 1048576) (hv : v.length ≤ 1048576) : PureD Try.prog 101 [.i (bI k), .i (bI v)] (.i (bI (leafF k v))) := by
  have hp := parts_D [[0], four k.length, k, v] (by simp) (by intro b hb; simp at hb; rcases hb with rfl | rfl | rfl | rfl; simp; (simp [four]); omega; omega)
  have hf : [[0], four k.length, k, v].flatten = 0 :: (four k.length ++ (k ++ v)) := by simp
  rw [hf] at hp
  rw [show sha (0 :: (four k.length ++ (k ++ v))) = leafF k v from rfl] at hp
  generalize leafF k v = R at *
  refine callD_W 13 Try.func101 rfl rfl rfl (fun _ _ => rfl) ?_
  (repeat (first | (simp -implicitDefEqProofs only [ev, mixed, Nat.reduceLT, Nat.reduceAdd, Nat.reduceMul, reduceIte, Nat.reduceEqDiff, reduceCtorEq, Nat.reducePow, Nat.reduceLeDiff, Int.reduceLE, Int.reduceLT, Int.reduceToNat, Int.reduceEq, Nat.reduceBEq, itsOf, gdA, byteI, opid, lenQ, ixQ, ldH, readAt, readCells, asCell, faQ, exQ, fldQ, partA, buildQ, slQ, stH, bslH, appH, dcells, convI, elemsOf, D.one, nilS, fillD, convN, cvH, tyBookB1, bI]) | (with_reducible refine ⟨?_, ?_⟩; (· first | (obtain ⟨rfl⟩ := ‹Hq _ _›; with_reducible refine chk_ok ?_; kernel_rfl) | kernel_rfl)) | (with_reducible intro ops hops)))
  (first | refine Call_frz [] (four_A k.length) (by simp [cvAs, cvA, cvRL, cvR, cvBox, cv1, cvL, cv0, bI, byteI, bbI, intD, elemsOf, upd]) ?_ | refine CallF_frz [] [] (four_A k.length) (fun G _ => by simp [cvAs, cvA, cvRL, cvR, cvBox, cv1, cvL, cv0, bI, byteI, bbI, intD, elemsOf, upd]) (by simp) ?_)
  (repeat (first | (simp -implicitDefEqProofs only [ev, mixed, Nat.reduceLT, Nat.reduceAdd, Nat.reduceMul, reduceIte, Nat.reduceEqDiff, reduceCtorEq, Nat.reducePow, Nat.reduceLeDiff, Int.reduceLE, Int.reduceLT, Int.reduceToNat, Int.reduceEq, Nat.reduceBEq, itsOf, gdA, byteI, opid, lenQ, ixQ, ldH, readAt, readCells, asCell, faQ, exQ, fldQ, partA, buildQ, slQ, stH, bslH, appH, dcells, convI, elemsOf, D.one, nilS, fillD, convN, cvH, tyBookB1, bI]) | (with_reducible refine ⟨?_, ?_⟩; (· first | (obtain ⟨rfl⟩ := ‹Hq _ _›; with_reducible refine chk_ok ?_; kernel_rfl) | kernel_rfl)) | (with_reducible intro ops hops)))
  (first | refine Call_frz [1262] (hp) (by simp [cvAs, cvA, cvRL, cvR, cvBox, cv1, cvL, cv0, bI, byteI, bbI, intD, elemsOf, upd, frz, bbI]) ?_ | refine CallF_frz [1262] [1262] (hp) (fun G hG => by (have hG1262 := hG 1262 (by simp); simp [cvAs, cvA, cvRL, cvR, cvBox, cv1, cvL, cv0, bI, byteI, bbI, intD, elemsOf, upd, frz, bbI, hG1262])) (by simp) ?_)
  (repeat (first | (simp -implicitDefEqProofs only [ev, mixed, Nat.reduceLT, Nat.reduceAdd, Nat.reduceMul, reduceIte, Nat.reduceEqDiff, reduceCtorEq, Nat.reducePow, Nat.reduceLeDiff, Int.reduceLE, Int.reduceLT, Int.reduceToNat, Int.reduceEq, Nat.reduceBEq, itsOf, gdA, byteI, opid, lenQ, ixQ, ldH, readAt, readCells, asCell, faQ, exQ, fldQ, partA, buildQ, slQ, stH, bslH, appH, dcells, convI, elemsOf, D.one, nilS, fillD, convN, cvH, tyBookB1, bI]) | (with_reducible refine ⟨?_, ?_⟩; (· first | (obtain ⟨rfl⟩ := ‹Hq _ _›; with_reducible refine chk_ok ?_; kernel_rfl) | kernel_rfl)) | (with_reducible intro ops hops)))
  refine fin_ret [] rfl ?_
  simp [cv, cv1, cv0, upd]

theorem node_A (a b : List UInt8) (ha : a.length ≤ 1048576) (hb : b.length ≤ 1048576) : PureD Try.prog 129 [.i (bI a), .i (bI b)] (.i (bI (nodeF a b))) := by
  have hp := parts_D [[1], a, b] (by simp) (by intro x hx; simp at hx; rcases hx with rfl | rfl | rfl; simp; omega; omega)
  have hf : [[1], a, b].flatten = 1 :: (a ++ b) := by simp
  rw [hf] at hp
  rw [show sha (1 :: (a ++ b)) = nodeF a b from rfl] at hp
  generalize nodeF a b = R at *
  refine callD_W 10 Try.func129 rfl rfl rfl (fun _ _ => rfl) ?_
  (repeat (first | (simp -implicitDefEqProofs only [ev, mixed, Nat.reduceLT, Nat.reduceAdd, Nat.reduceMul, reduceIte, Nat.reduceEqDiff, reduceCtorEq, Nat.reducePow, Nat.reduceLeDiff, Int.reduceLE, Int.reduceLT, Int.reduceToNat, Int.reduceEq, Nat.reduceBEq, itsOf, gdA, byteI, opid, lenQ, ixQ, ldH, readAt, readCells, asCell, faQ, exQ, fldQ, partA, buildQ, slQ, stH, bslH, appH, dcells, convI, elemsOf, D.one, nilS, fillD, convN, cvH, tyBookB2, bI]) | (with_reducible refine ⟨?_, ?_⟩; (· first | (obtain ⟨rfl⟩ := ‹Hq _ _›; with_reducible refine chk_ok ?_; kernel_rfl) | kernel_rfl)) | (with_reducible intro ops hops)))
  (first | refine Call_frz [1259] (hp) (by simp [cvAs, cvA, cvRL, cvR, cvBox, cv1, cvL, cv0, bI, byteI, bbI, intD, elemsOf, upd, frz, bbI]) ?_ | refine CallF_frz [1259] [1259] (hp) (fun G hG => by (have hG1259 := hG 1259 (by simp); simp [cvAs, cvA, cvRL, cvR, cvBox, cv1, cvL, cv0, bI, byteI, bbI, intD, elemsOf, upd, frz, bbI, hG1259])) (by simp) ?_)
  (repeat (first | (simp -implicitDefEqProofs only [ev, mixed, Nat.reduceLT, Nat.reduceAdd, Nat.reduceMul, reduceIte, Nat.reduceEqDiff, reduceCtorEq, Nat.reducePow, Nat.reduceLeDiff, Int.reduceLE, Int.reduceLT, Int.reduceToNat, Int.reduceEq, Nat.reduceBEq, itsOf, gdA, byteI, opid, lenQ, ixQ, ldH, readAt, readCells, asCell, faQ, exQ, fldQ, partA, buildQ, slQ, stH, bslH, appH, dcells, convI, elemsOf, D.one, nilS, fillD, convN, cvH, tyBookB2, bI]) | (with_reducible refine ⟨?_, ?_⟩; (· first | (obtain ⟨rfl⟩ := ‹Hq _ _›; with_reducible refine chk_ok ?_; kernel_rfl) | kernel_rfl)) | (with_reducible intro ops hops)))
  refine fin_ret [] rfl ?_
  simp [cv, cv1, cv0, upd]

theorem top_A (n : Nat) (t : List UInt8) (ht : t.length ≤ 1048576) : PureD Try.prog 102 [intD n, .i (bI t)] (.i (bI (topF n t))) := by
  have hp := parts_D [[2], four n, t] (by simp) (by intro x hx; simp at hx; rcases hx with rfl | rfl | rfl; simp; (simp [four]); omega)
  have hf : [[2], four n, t].flatten = 2 :: (four n ++ t) := by simp
  rw [hf] at hp
  rw [show sha (2 :: (four n ++ t)) = topF n t from rfl] at hp
  generalize topF n t = R at *
  refine callD_W 11 Try.func102 rfl rfl rfl (fun _ _ => rfl) ?_
  (repeat (first | (simp -implicitDefEqProofs only [ev, mixed, Nat.reduceLT, Nat.reduceAdd, Nat.reduceMul, reduceIte, Nat.reduceEqDiff, reduceCtorEq, Nat.reducePow, Nat.reduceLeDiff, Int.reduceLE, Int.reduceLT, Int.reduceToNat, Int.reduceEq, Nat.reduceBEq, itsOf, gdA, byteI, opid, lenQ, ixQ, ldH, readAt, readCells, asCell, faQ, exQ, fldQ, partA, buildQ, slQ, stH, bslH, appH, dcells, convI, elemsOf, D.one, nilS, fillD, convN, cvH, tyBookB3, bI, intD]) | (with_reducible refine ⟨?_, ?_⟩; (· first | (obtain ⟨rfl⟩ := ‹Hq _ _›; with_reducible refine chk_ok ?_; kernel_rfl) | kernel_rfl)) | (with_reducible intro ops hops)))
  (first | refine Call_frz [] (four_A n) (by simp [cvAs, cvA, cvRL, cvR, cvBox, cv1, cvL, cv0, bI, byteI, bbI, intD, elemsOf, upd]) ?_ | refine CallF_frz [] [] (four_A n) (fun G _ => by simp [cvAs, cvA, cvRL, cvR, cvBox, cv1, cvL, cv0, bI, byteI, bbI, intD, elemsOf, upd]) (by simp) ?_)
  (repeat (first | (simp -implicitDefEqProofs only [ev, mixed, Nat.reduceLT, Nat.reduceAdd, Nat.reduceMul, reduceIte, Nat.reduceEqDiff, reduceCtorEq, Nat.reducePow, Nat.reduceLeDiff, Int.reduceLE, Int.reduceLT, Int.reduceToNat, Int.reduceEq, Nat.reduceBEq, itsOf, gdA, byteI, opid, lenQ, ixQ, ldH, readAt, readCells, asCell, faQ, exQ, fldQ, partA, buildQ, slQ, stH, bslH, appH, dcells, convI, elemsOf, D.one, nilS, fillD, convN, cvH, tyBookB3, bI]) | (with_reducible refine ⟨?_, ?_⟩; (· first | (obtain ⟨rfl⟩ := ‹Hq _ _›; with_reducible refine chk_ok ?_; kernel_rfl) | kernel_rfl)) | (with_reducible intro ops hops)))
  (first | refine Call_frz [1260] (hp) (by simp [cvAs, cvA, cvRL, cvR, cvBox, cv1, cvL, cv0, bI, byteI, bbI, intD, elemsOf, upd, frz, bbI]) ?_ | refine CallF_frz [1260] [1260] (hp) (fun G hG => by (have hG1260 := hG 1260 (by simp); simp [cvAs, cvA, cvRL, cvR, cvBox, cv1, cvL, cv0, bI, byteI, bbI, intD, elemsOf, upd, frz, bbI, hG1260])) (by simp) ?_)
  (repeat (first | (simp -implicitDefEqProofs only [ev, mixed, Nat.reduceLT, Nat.reduceAdd, Nat.reduceMul, reduceIte, Nat.reduceEqDiff, reduceCtorEq, Nat.reducePow, Nat.reduceLeDiff, Int.reduceLE, Int.reduceLT, Int.reduceToNat, Int.reduceEq, Nat.reduceBEq, itsOf, gdA, byteI, opid, lenQ, ixQ, ldH, readAt, readCells, asCell, faQ, exQ, fldQ, partA, buildQ, slQ, stH, bslH, appH, dcells, convI, elemsOf, D.one, nilS, fillD, convN, cvH, tyBookB3, bI]) | (with_reducible refine ⟨?_, ?_⟩; (· first | (obtain ⟨rfl⟩ := ‹Hq _ _›; with_reducible refine chk_ok ?_; kernel_rfl) | kernel_rfl)) | (with_reducible intro ops hops)))
  refine fin_ret [] rfl ?_
  simp [cv, cv1, cv0, upd]

theorem pow2_split {n i : Nat} (h1 : 2 ^ i = 1 ∨ 2 ^ i < n) (h2 : n ≤ 2 * 2 ^ i) (hn : 1 ≤ n) : 2 ^ i = splitF n := by
  unfold splitF
  congr 1
  have hle : i ≤ Nat.log2 (n - 1) ∨ n - 1 = 0 := by
    by_cases h0 : n - 1 = 0
    · exact .inr h0
    · refine .inl ((Nat.le_log2 h0).2 ?_)
      rcases h1 with h1 | h1 <;> omega
  have hge : n - 1 = 0 ∨ Nat.log2 (n - 1) < i + 1 := by
    by_cases h0 : n - 1 = 0
    · exact .inl h0
    · refine .inr ((Nat.log2_lt h0).2 ?_)
      rw [Nat.pow_succ]; omega
  rcases hle with hle | hle
  · rcases hge with hge | hge
    · rw [hge] at hle ⊢; simp at hle ⊢; omega
    · omega
  · rw [hle]
    have : n = 1 := by omega
    subst this
    simp
    rcases h1 with h1 | h1
    · cases i with
      | zero => rfl
      | succ i => rw [Nat.pow_succ] at h1; omega
    · have : 0 < 2 ^ i := Nat.pow_pos (by decide); omega
theorem split_A (n : Nat) (h0 : 1 ≤ n) (hn : n ≤ 1048576) : PureD Try.prog 128 [intD n] (intD (splitF n)) := by
  refine callD_W 11 Try.func128 rfl rfl rfl (fun _ _ => rfl) ?_
  (repeat (first | (simp -implicitDefEqProofs only [ev, mixed, Nat.reduceLT, Nat.reduceAdd, Nat.reduceMul, reduceIte, Nat.reduceEqDiff, reduceCtorEq, Nat.reducePow, Nat.reduceLeDiff, Int.reduceLE, Int.reduceLT, Int.reduceToNat, Int.reduceEq, Nat.reduceBEq, itsOf, gdA, byteI, opid, lenQ, ixQ, ldH, readAt, readCells, asCell, faQ, exQ, fldQ, partA, buildQ, slQ, stH, bslH, appH, dcells, convI, elemsOf, D.one, nilS, fillD, convN, cvH, tyBookB4, intD]) | (with_reducible refine ⟨?_, ?_⟩; (· first | (obtain ⟨rfl⟩ := ‹Hq _ _›; with_reducible refine chk_ok ?_; kernel_rfl) | kernel_rfl)) | (with_reducible intro ops hops)))
  refine W_loopI (ι := Nat) (fun i => 2 ^ i = 1 ∨ 2 ^ i < n)
    (fun i => stOf [(0, intD n), (3, intD (2 ^ i : Nat))] []) (fun i => n - 2 ^ i) 0 (.inl rfl) ?_ ?_
  · refine le_stOf _ _ [] [] ?_ ?_ rfl rfl
    · simp [cv, cv1, cv0, upd, lk, srcOf, intD]
    · simp
  · rintro i hi
    rw [stOf_eq]
    have hp : 0 < 2 ^ i := Nat.pow_pos (by decide)
    have hs : 2 ^ (i + 1) = 2 * 2 ^ i := by rw [Nat.pow_succ]; omega
    have hfin := pow2_split hi
    have w1 : IntKind.i64.wrap (2 * ((2 ^ i : Nat) : Int)) = ((2 ^ (i + 1) : Nat) : Int) := by rw [hs, wrap64 (by omega) (by omega)]; omega
    have w2 : IntKind.i64.wrap (((2 ^ i : Nat) : Int) * 2) = ((2 ^ (i + 1) : Nat) : Int) := by rw [hs, wrap64 (by omega) (by omega)]; omega
    generalize hx : 2 ^ i = x at *
    generalize hy : 2 ^ (i + 1) = y at *
    (repeat (first | (simp -implicitDefEqProofs only [ev, mixed, Nat.reduceLT, Nat.reduceAdd, Nat.reduceMul, reduceIte, Nat.reduceEqDiff, reduceCtorEq, Nat.reducePow, Nat.reduceLeDiff, Int.reduceLE, Int.reduceLT, Int.reduceToNat, Int.reduceEq, Nat.reduceBEq, itsOf, gdA, byteI, opid, lenQ, ixQ, ldH, readAt, readCells, asCell, faQ, exQ, fldQ, partA, buildQ, slQ, stH, bslH, appH, dcells, convI, elemsOf, D.one, nilS, fillD, convN, cvH, tyBookB4, intD, w1]) | (with_reducible refine ⟨?_, ?_⟩; (· first | (obtain ⟨rfl⟩ := ‹Hq _ _›; with_reducible refine chk_ok ?_; kernel_rfl) | kernel_rfl)) | (with_reducible intro ops hops)))
    refine Wc_split (fun h => ?_) (fun h => ?_)
    · have h1 : y < n := by simp at h; omega
      clear h
      (repeat (first | (simp -implicitDefEqProofs only [ev, mixed, Nat.reduceLT, Nat.reduceAdd, Nat.reduceMul, reduceIte, Nat.reduceEqDiff, reduceCtorEq, Nat.reducePow, Nat.reduceLeDiff, Int.reduceLE, Int.reduceLT, Int.reduceToNat, Int.reduceEq, Nat.reduceBEq, itsOf, gdA, byteI, opid, lenQ, ixQ, ldH, readAt, readCells, asCell, faQ, exQ, fldQ, partA, buildQ, slQ, stH, bslH, appH, dcells, convI, elemsOf, D.one, nilS, fillD, convN, cvH, tyBookB4, w2]) | (with_reducible refine ⟨?_, ?_⟩; (· first | (obtain ⟨rfl⟩ := ‹Hq _ _›; with_reducible refine chk_ok ?_; kernel_rfl) | kernel_rfl)) | (with_reducible intro ops hops)))
      refine ⟨i + 1, by show 2 ^ (i + 1) = 1 ∨ 2 ^ (i + 1) < n; rw [hy]; exact .inr h1, le_stOf _ _ [] [] ?_ ?_ rfl rfl, by simp only [hx, hy]; omega⟩
      · simp only [hy]; simp [cv, cv1, cv0, upd, lk, srcOf, intD]
      · simp
    · have h1 : n ≤ 2 * x := by simp at h; omega
      clear h
      (repeat (first | (simp -implicitDefEqProofs only [ev, mixed, Nat.reduceLT, Nat.reduceAdd, Nat.reduceMul, reduceIte, Nat.reduceEqDiff, reduceCtorEq, Nat.reducePow, Nat.reduceLeDiff, Int.reduceLE, Int.reduceLT, Int.reduceToNat, Int.reduceEq, Nat.reduceBEq, itsOf, gdA, byteI, opid, lenQ, ixQ, ldH, readAt, readCells, asCell, faQ, exQ, fldQ, partA, buildQ, slQ, stH, bslH, appH, dcells, convI, elemsOf, D.one, nilS, fillD, convN, cvH, tyBookB4]) | (with_reducible refine ⟨?_, ?_⟩; (· first | (obtain ⟨rfl⟩ := ‹Hq _ _›; with_reducible refine chk_ok ?_; kernel_rfl) | kernel_rfl)) | (with_reducible intro ops hops)))
      refine fin_ret [] rfl ?_
      simp [cv, cv1, cv0, upd, intD, hfin h1 h0]

end Go.Proofs.Ytdpfjmkilbepgaa
/- The order of bytes: plain. -/
set_option linter.all false
namespace Go.Proofs.Ytdpfjmkilbepgaa
open Go Go.Abs

theorem cmp_nn : Lib.compareBytes [] [] = 0 := by simp [Lib.compareBytes]
theorem cmp_nc (b : UInt8) (t : List UInt8) : Lib.compareBytes [] (b :: t) = -1 := by simp [Lib.compareBytes]
theorem cmp_cn (b : UInt8) (t : List UInt8) : Lib.compareBytes (b :: t) [] = 1 := by simp [Lib.compareBytes]
theorem cmp_cc (a b : UInt8) (s t : List UInt8) : Lib.compareBytes (a :: s) (b :: t) = if a < b then -1 else if b < a then 1 else Lib.compareBytes s t := by rw [Lib.compareBytes]
theorem cmp_neg : ∀ (a b : List UInt8), Lib.compareBytes b a = - Lib.compareBytes a b
  | [], [] => by simp [cmp_nn]
  | [], b :: t => by simp [cmp_nc, cmp_cn]
  | a :: s, [] => by simp [cmp_nc, cmp_cn]
  | a :: s, b :: t => by
    rw [cmp_cc, cmp_cc]
    by_cases h1 : a < b
    · have h2 : ¬ b < a := fun h => by simp only [UInt8.lt_iff_toNat_lt] at *; omega
      simp [h1, h2]
    · by_cases h2 : b < a
      · simp [h1, h2]
      · simp [h1, h2, cmp_neg s t]
theorem cmp_zero : ∀ (a b : List UInt8), Lib.compareBytes a b = 0 ↔ a = b
  | [], [] => by simp [cmp_nn]
  | [], b :: t => by simp [cmp_nc]
  | a :: s, [] => by simp [cmp_cn]
  | a :: s, b :: t => by
    rw [cmp_cc]
    by_cases h1 : a < b
    · have h2 : a ≠ b := fun h => by subst h; simp only [UInt8.lt_iff_toNat_lt] at *; omega
      simp [h1, h2]
    · by_cases h2 : b < a
      · have h3 : a ≠ b := fun h => by subst h; exact h1 h2
        simp [h1, h2, h3]
      · have h3 : a = b := by
          apply UInt8.toNat_inj.1
          simp only [UInt8.lt_iff_toNat_lt] at *; omega
        simp [h1, h2, h3, cmp_zero s t]
theorem cmp_trans : ∀ (a b c : List UInt8), Lib.compareBytes a b < 0 → Lib.compareBytes b c < 0 → Lib.compareBytes a c < 0
  | [], [], c, h, _ => by simp [cmp_nn] at h
  | [], b :: t, [], _, h => by simp [cmp_cn] at h
  | [], b :: t, c :: u, _, _ => by simp [cmp_nc]
  | a :: s, [], c, h, _ => by simp [cmp_cn] at h
  | a :: s, b :: t, [], _, h => by simp [cmp_cn] at h
  | a :: s, b :: t, c :: u, h1, h2 => by
    rw [cmp_cc] at *
    simp only [UInt8.lt_iff_toNat_lt] at *
    by_cases p1 : a.toNat < b.toNat
    · by_cases p2 : b.toNat < c.toNat
      · rw [if_pos (by omega)]; decide
      · rw [if_neg p2] at h2
        by_cases p3 : c.toNat < b.toNat
        · rw [if_pos p3] at h2; exact absurd h2 (by decide)
        · rw [if_pos (by omega)]; decide
    · rw [if_neg p1] at h1
      by_cases p2 : b.toNat < a.toNat
      · rw [if_pos p2] at h1; exact absurd h1 (by decide)
      · rw [if_neg p2] at h1
        by_cases p3 : b.toNat < c.toNat
        · rw [if_pos (by omega)]; decide
        · rw [if_neg p3] at h2
          by_cases p4 : c.toNat < b.toNat
          · rw [if_pos p4] at h2; exact absurd h2 (by decide)
          · rw [if_neg p4] at h2
            rw [if_neg (by omega), if_neg (by omega)]
            exact cmp_trans s t u h1 h2

end Go.Proofs.Ytdpfjmkilbepgaa
/- The order of keys, and what a right book is: plain laws. -/
set_option linter.all false
namespace Go.Proofs.Ytdpfjmkilbepgaa
open Go Go.Abs

/-- A right book. -/
structure Right (l : List PairD) : Prop where
  len : l.length ≤ 200
  big : ∀ p ∈ l, p.k.length ≤ 60 ∧ p.v.length ≤ 200
  ord : ∀ i j (hi : i < l.length) (hj : j < l.length), i < j → Lib.compareBytes l[i].k l[j].k < 0
theorem bigP_no {p : PairD} (h : bigP p = false) : p.k.length ≤ 60 ∧ p.v.length ≤ 200 := by
  simp [bigP] at h; omega
theorem wrongGo_ok (l : List PairD) : ∀ (d i : Nat), l.length - i = d → (wrongGo l i).1 = 0 → ∀ a (ha : a < l.length), i ≤ a → bigP l[a] = false ∧ (∀ h : 0 < a, Lib.compareBytes (l[a - 1]'(by omega)).k l[a].k < 0) := by
  intro d
  induction d with
  | zero => intro i hd _ a ha hia; omega
  | succ d ih =>
    intro i hd hw a ha hia
    rw [wrongGo, dif_pos (by omega)] at hw
    split at hw
    · cases hw
    · rename_i hb
      split at hw
      · cases hw
      · rename_i hc
        by_cases hai : a = i
        · subst hai
          refine ⟨by simpa using hb, fun h => ?_⟩
          have : ¬ 0 ≤ Lib.compareBytes (l[a - 1]'(by omega)).k l[a].k := fun h' => hc ⟨h, h'⟩
          omega
        · exact ih (i + 1) (by omega) hw a ha (by omega)
theorem right_of {l : List PairD} (h : (wrongF l).1 = 0) : Right l := by
  unfold wrongF at h
  split at h
  · cases h
  · rename_i hl
    have hw := wrongGo_ok l _ 0 rfl h
    refine ⟨by omega, fun p hp => ?_, ?_⟩
    · obtain ⟨a, ha, rfl⟩ := List.getElem_of_mem hp
      exact bigP_no (hw a ha (Nat.zero_le _)).1
    · intro i j
      induction j with
      | zero => intro _ _ h; omega
      | succ j ih =>
        intro hi hj hij
        have h1 := (hw (j + 1) hj (Nat.zero_le _)).2 (by omega)
        simp only [Nat.add_sub_cancel] at h1
        by_cases hc : i = j
        · subst hc; exact h1
        · exact cmp_trans _ _ _ (ih hi (by omega) (by omega)) h1
theorem wrongGo_right {l : List PairD} (h : Right l) : ∀ (d i : Nat), l.length - i = d → wrongGo l i = (0, 0) := by
  intro d
  induction d with
  | zero => intro i hd; rw [wrongGo, dif_neg (by omega)]
  | succ d ih =>
    intro i hd
    have hi : i < l.length := by omega
    rw [wrongGo, dif_pos hi]
    have hb := h.big _ (List.getElem_mem hi)
    rw [if_neg (by simp [bigP]; omega), if_neg, ih (i + 1) (by omega)]
    rintro ⟨h1, h2⟩
    have := h.ord (i - 1) i (by omega) hi (by omega)
    omega
theorem wrong_right {l : List PairD} (h : Right l) : wrongF l = (0, 0) := by
  rw [wrongF, if_neg (by have := h.len; omega)]; exact wrongGo_right h _ 0 rfl
theorem wrong_zero {l : List PairD} (h : (wrongF l).1 = 0) : wrongF l = (0, 0) := wrong_right (right_of h)

/-- Where a key stands, or would. -/
def placeF (l : List PairD) (key : List UInt8) : Nat := (l.takeWhile fun p => decide (Lib.compareBytes p.k key < 0)).length
def thereF (l : List PairD) (key : List UInt8) : Bool := if h : placeF l key < l.length then decide (l[placeF l key].k = key) else false
theorem placeF_le (l : List PairD) (key : List UInt8) : placeF l key ≤ l.length := (List.takeWhile_sublist _).length_le
theorem placeF_lo (key : List UInt8) : ∀ (l : List PairD) (a : Nat) (ha : a < l.length), a < placeF l key → Lib.compareBytes l[a].k key < 0
  | [], a, ha, _ => by simp at ha
  | p :: t, a, ha, h => by
    unfold placeF at h
    rw [List.takeWhile_cons] at h
    split at h
    · rename_i hp
      cases a with
      | zero => simpa using hp
      | succ a => exact placeF_lo key t a (by simpa using ha) (by simpa [placeF] using h)
    · simp at h
theorem placeF_at (key : List UInt8) : ∀ (l : List PairD) (h : placeF l key < l.length), ¬ Lib.compareBytes l[placeF l key].k key < 0
  | [], h => by simp at h
  | p :: t, h => by
    unfold placeF at h
    simp only [placeF]
    by_cases hp : decide (Lib.compareBytes p.k key < 0) = true
    · have e : (List.takeWhile (fun p => decide (Lib.compareBytes p.k key < 0)) (p :: t)).length = placeF t key + 1 := by
        rw [List.takeWhile_cons, if_pos hp]; rfl
      simp only [e] at h ⊢
      have := placeF_at key t (by simpa using h)
      simpa using this
    · have e : (List.takeWhile (fun p => decide (Lib.compareBytes p.k key < 0)) (p :: t)).length = 0 := by
        rw [List.takeWhile_cons, if_neg hp]; rfl
      simp only [e]
      simpa using hp
theorem placeF_iff {l : List PairD} (h : Right l) (key : List UInt8) : ∀ a (ha : a < l.length), Lib.compareBytes l[a].k key < 0 ↔ a < placeF l key := by
  intro a ha
  refine ⟨fun h1 => ?_, placeF_lo key l a ha⟩
  apply Decidable.byContradiction
  intro hc
  have hp : placeF l key < l.length := by omega
  have h2 := placeF_at key l hp
  by_cases he : a = placeF l key
  · subst he; exact h2 h1
  · exact h2 (cmp_trans _ _ _ (h.ord _ a hp ha (by omega)) h1)
end Go.Proofs.Ytdpfjmkilbepgaa
/- book.Find, Root: by value. -/
set_option linter.all false
namespace Go.Proofs.Ytdpfjmkilbepgaa
open Go Go.Abs Go.RowKit Go.Proofs.Ytdpfjmkilbepgaa.Ty

set_option maxHeartbeats 2000000
def rootR (l : List PairD) : List UInt8 := if (wrongF l).1 = 0 then rootF l else []
end Go.Proofs.Ytdpfjmkilbepgaa
/- proof.path, at: by value. -/
set_option linter.all false
namespace Go.Proofs.Ytdpfjmkilbepgaa
open Go Go.Abs Go.RowKit Go.Proofs.Ytdpfjmkilbepgaa.Ty

structure ProofD where
  i : Int
  n : Int
  k : List UInt8
  v : List UInt8
  path : List (List UInt8)
def proofD (p : ProofD) : D := .agg [intD p.i, intD p.n, .i (bI p.k), .i (bI p.v), .i (bbI p.path)]
def pathF (l : List PairD) (i : Nat) : List (List UInt8) :=
  if h : l.length ≤ 1 then []
  else if i < splitF l.length then pathF (l.take (splitF l.length)) i ++ [treeF (l.drop (splitF l.length))]
  else pathF (l.drop (splitF l.length)) (i - splitF l.length) ++ [treeF (l.take (splitF l.length))]
termination_by l.length
decreasing_by
  all_goals
    have := splitF_lt (n := l.length) (by omega)
    simp only [List.length_take, List.length_drop]
    omega
theorem pathF_one {l : List PairD} (i : Nat) (h : l.length ≤ 1) : pathF l i = [] := by rw [pathF, dif_pos h]
theorem pathF_lo {l : List PairD} {i : Nat} (h : 2 ≤ l.length) (hi : i < splitF l.length) : pathF l i = pathF (l.take (splitF l.length)) i ++ [treeF (l.drop (splitF l.length))] := by
  rw [pathF, dif_neg (by omega), if_pos hi]
theorem pathF_hi {l : List PairD} {i : Nat} (h : 2 ≤ l.length) (hi : ¬ i < splitF l.length) : pathF l i = pathF (l.drop (splitF l.length)) (i - splitF l.length) ++ [treeF (l.take (splitF l.length))] := by
  rw [pathF, dif_neg (by omega), if_neg hi]
theorem pathF_len : ∀ (n : Nat) (l : List PairD) (i : Nat), l.length = n → (pathF l i).length ≤ n := by
  intro n
  induction n using Nat.strongRecOn with
  | _ n ih =>
    intro l i hn
    by_cases h : l.length ≤ 1
    · rw [pathF_one i h]; simp
    · have hs := splitF_lt (n := l.length) (by omega)
      by_cases hi : i < splitF l.length
      · rw [pathF_lo (by omega) hi]
        have := ih (l.take (splitF l.length)).length (by simp; omega) _ i rfl
        simp at this ⊢; omega
      · rw [pathF_hi (by omega) hi]
        have := ih (l.drop (splitF l.length)).length (by simp; omega) _ (i - splitF l.length) rfl
        simp at this ⊢; omega

def bbE (b : List UInt8) : List I := [bI b]
set_option maxHeartbeats 2000000
end Go.Proofs.Ytdpfjmkilbepgaa
/- proof.at, Show: by value. -/
set_option linter.all false
namespace Go.Proofs.Ytdpfjmkilbepgaa
open Go Go.Abs Go.RowKit Go.Proofs.Ytdpfjmkilbepgaa.Ty

theorem fin_ct {P : Program} {fn : Func} {sl : Nat → D} {H : Nat → Ob} {t : TypeId} {p i : Tmp} {k : Nat} {cs : List D} {r : D} (F : List Nat) (h : fn.results = #[.cell p t, .tmp i]) (ha : aggOf P t = some true) (hs : szOf P t = some k) (hr : readAt H (sl p) k = some cs) (hv : cv H F (fun _ => none) (.tup [.agg cs, sl i]) r) : Fin P fn noH r noH .ret ⟨sl, H⟩ :=
  ⟨_, by simp [resA, h, resOne, ha, hs, hr], ler_pure F hv⟩
def atF (l : List PairD) (i : Nat) (h : i < l.length) : ProofD := ⟨i, l.length, l[i].k, l[i].v, pathF l i⟩
set_option maxHeartbeats 2000000
def zeroP : ProofD := ⟨0, 0, [], [], []⟩
def showF (l : List PairD) (key : List UInt8) : ProofD × Nat :=
  if (wrongF l).1 = 0 then (if h : placeF l key < l.length then (if l[placeF l key].k = key then (atF l (placeF l key) h, 0) else (zeroP, 6)) else (zeroP, 6)) else (zeroP, (wrongF l).1)
end Go.Proofs.Ytdpfjmkilbepgaa
/- proof.form, tree, Shown: by value. -/
set_option linter.all false
namespace Go.Proofs.Ytdpfjmkilbepgaa
open Go Go.Abs Go.RowKit Go.Proofs.Ytdpfjmkilbepgaa.Ty
theorem tyProofC0 : (type_of% @Ty.T3) ∧ (type_of% @Ty.T5) ∧ (type_of% @Ty.T25) ∧ (type_of% @Ty.T26) ∧ (type_of% @Ty.T28) := ⟨@Ty.T3, @Ty.T5, @Ty.T25, @Ty.T26, @Ty.T28⟩

def formI (p : ProofD) : List I := [.s (.int .i64 p.i), .s (.int .i64 p.n), bI p.k, bI p.v, bbI p.path]
def formG (p : ProofD) : Bool := decide (p.n < 1) || decide (200 < p.n) || decide (p.i < 0) || decide (p.n ≤ p.i) || decide (60 < p.k.length) || decide (200 < p.v.length) || decide (40 < p.path.length)
def formF (p : ProofD) : Bool := !formG p && p.path.all fun d => decide (d.length = 32)
theorem formF_no {p : ProofD} (h : formG p = true) : formF p = false := by simp [formF, h]
theorem all_drop {l : List (List UInt8)} {i : Nat} (h : i < l.length) : (l.drop i).all (fun d => decide (d.length = 32)) = (decide (l[i].length = 32) && (l.drop (i + 1)).all fun d => decide (d.length = 32)) := by
  rw [List.drop_eq_getElem_cons h]; rfl
set_option maxHeartbeats 4000000
theorem form_A (p : ProofD) : PureD Try.prog 99 [.rp (formI p) 0] (boolD (formF p)) := by
  have hN := formF_no (p := p)
  unfold formG at hN
  obtain ⟨i, n, k, v, q⟩ := p
  have hl : (q.map fun b => [bI b]).length = q.length := by simp
  have e0 : ∀ j (h : j < q.length), (q.map fun b => [bI b])[j]? = some [bI q[j]] := fun j h => by rw [List.getElem?_map, List.getElem?_eq_getElem h]; rfl
  cases g1 : decide (n < 1)
  case true =>
    rw [hN (by simp [g1])]
    refine callD_W 72 Try.func99 rfl rfl rfl (fun _ _ => rfl) ?_
    (repeat (first | (simp -implicitDefEqProofs only [ev, mixed, Nat.reduceLT, Nat.reduceAdd, Nat.reduceMul, reduceIte, Nat.reduceEqDiff, reduceCtorEq, Nat.reducePow, Nat.reduceLeDiff, Int.reduceLE, Int.reduceLT, Int.reduceToNat, Int.reduceEq, Nat.reduceBEq, itsOf, gdA, byteI, opid, lenQ, ixQ, ldH, readAt, readCells, asCell, faQ, exQ, fldQ, partA, buildQ, slQ, stH, bslH, appH, dcells, convI, elemsOf, D.one, nilS, fillD, convN, cvH, tyProofC0, formI, g1]) | (with_reducible refine ⟨?_, ?_⟩; (· first | (obtain ⟨rfl⟩ := ‹Hq _ _›; with_reducible refine chk_ok ?_; kernel_rfl) | kernel_rfl)) | (with_reducible intro ops hops)))
    refine fin_ret [] rfl ?_
    simp [cv, cv1, cv0, upd, boolD]
  cases g2 : decide ((200 : Int) < n)
  case true =>
    rw [hN (by simp [g2])]
    refine callD_W 72 Try.func99 rfl rfl rfl (fun _ _ => rfl) ?_
    (repeat (first | (simp -implicitDefEqProofs only [ev, mixed, Nat.reduceLT, Nat.reduceAdd, Nat.reduceMul, reduceIte, Nat.reduceEqDiff, reduceCtorEq, Nat.reducePow, Nat.reduceLeDiff, Int.reduceLE, Int.reduceLT, Int.reduceToNat, Int.reduceEq, Nat.reduceBEq, itsOf, gdA, byteI, opid, lenQ, ixQ, ldH, readAt, readCells, asCell, faQ, exQ, fldQ, partA, buildQ, slQ, stH, bslH, appH, dcells, convI, elemsOf, D.one, nilS, fillD, convN, cvH, tyProofC0, formI, g1, g2]) | (with_reducible refine ⟨?_, ?_⟩; (· first | (obtain ⟨rfl⟩ := ‹Hq _ _›; with_reducible refine chk_ok ?_; kernel_rfl) | kernel_rfl)) | (with_reducible intro ops hops)))
    refine fin_ret [] rfl ?_
    simp [cv, cv1, cv0, upd, boolD]
  cases g3 : decide (i < 0)
  case true =>
    rw [hN (by simp [g3])]
    refine callD_W 72 Try.func99 rfl rfl rfl (fun _ _ => rfl) ?_
    (repeat (first | (simp -implicitDefEqProofs only [ev, mixed, Nat.reduceLT, Nat.reduceAdd, Nat.reduceMul, reduceIte, Nat.reduceEqDiff, reduceCtorEq, Nat.reducePow, Nat.reduceLeDiff, Int.reduceLE, Int.reduceLT, Int.reduceToNat, Int.reduceEq, Nat.reduceBEq, itsOf, gdA, byteI, opid, lenQ, ixQ, ldH, readAt, readCells, asCell, faQ, exQ, fldQ, partA, buildQ, slQ, stH, bslH, appH, dcells, convI, elemsOf, D.one, nilS, fillD, convN, cvH, tyProofC0, formI, g1, g2, g3]) | (with_reducible refine ⟨?_, ?_⟩; (· first | (obtain ⟨rfl⟩ := ‹Hq _ _›; with_reducible refine chk_ok ?_; kernel_rfl) | kernel_rfl)) | (with_reducible intro ops hops)))
    refine fin_ret [] rfl ?_
    simp [cv, cv1, cv0, upd, boolD]
  cases g4 : decide (n ≤ i)
  case true =>
    rw [hN (by simp [g4])]
    refine callD_W 72 Try.func99 rfl rfl rfl (fun _ _ => rfl) ?_
    (repeat (first | (simp -implicitDefEqProofs only [ev, mixed, Nat.reduceLT, Nat.reduceAdd, Nat.reduceMul, reduceIte, Nat.reduceEqDiff, reduceCtorEq, Nat.reducePow, Nat.reduceLeDiff, Int.reduceLE, Int.reduceLT, Int.reduceToNat, Int.reduceEq, Nat.reduceBEq, itsOf, gdA, byteI, opid, lenQ, ixQ, ldH, readAt, readCells, asCell, faQ, exQ, fldQ, partA, buildQ, slQ, stH, bslH, appH, dcells, convI, elemsOf, D.one, nilS, fillD, convN, cvH, tyProofC0, formI, g1, g2, g3, g4]) | (with_reducible refine ⟨?_, ?_⟩; (· first | (obtain ⟨rfl⟩ := ‹Hq _ _›; with_reducible refine chk_ok ?_; kernel_rfl) | kernel_rfl)) | (with_reducible intro ops hops)))
    refine fin_ret [] rfl ?_
    simp [cv, cv1, cv0, upd, boolD]
  cases g5 : decide ((60 : Int) < (k.length : Int))
  case true =>
    rw [hN (by simp at g5; simp; omega)]
    refine callD_W 72 Try.func99 rfl rfl rfl (fun _ _ => rfl) ?_
    (repeat (first | (simp -implicitDefEqProofs only [ev, mixed, Nat.reduceLT, Nat.reduceAdd, Nat.reduceMul, reduceIte, Nat.reduceEqDiff, reduceCtorEq, Nat.reducePow, Nat.reduceLeDiff, Int.reduceLE, Int.reduceLT, Int.reduceToNat, Int.reduceEq, Nat.reduceBEq, itsOf, gdA, byteI, opid, lenQ, ixQ, ldH, readAt, readCells, asCell, faQ, exQ, fldQ, partA, buildQ, slQ, stH, bslH, appH, dcells, convI, elemsOf, D.one, nilS, fillD, convN, cvH, tyProofC0, formI, g1, g2, g3, g4, g5, bI]) | (with_reducible refine ⟨?_, ?_⟩; (· first | (obtain ⟨rfl⟩ := ‹Hq _ _›; with_reducible refine chk_ok ?_; kernel_rfl) | kernel_rfl)) | (with_reducible intro ops hops)))
    refine fin_ret [] rfl ?_
    simp [cv, cv1, cv0, upd, boolD]
  cases g6 : decide ((200 : Int) < (v.length : Int))
  case true =>
    rw [hN (by simp at g6; simp; omega)]
    refine callD_W 72 Try.func99 rfl rfl rfl (fun _ _ => rfl) ?_
    (repeat (first | (simp -implicitDefEqProofs only [ev, mixed, Nat.reduceLT, Nat.reduceAdd, Nat.reduceMul, reduceIte, Nat.reduceEqDiff, reduceCtorEq, Nat.reducePow, Nat.reduceLeDiff, Int.reduceLE, Int.reduceLT, Int.reduceToNat, Int.reduceEq, Nat.reduceBEq, itsOf, gdA, byteI, opid, lenQ, ixQ, ldH, readAt, readCells, asCell, faQ, exQ, fldQ, partA, buildQ, slQ, stH, bslH, appH, dcells, convI, elemsOf, D.one, nilS, fillD, convN, cvH, tyProofC0, formI, g1, g2, g3, g4, g5, g6, bI]) | (with_reducible refine ⟨?_, ?_⟩; (· first | (obtain ⟨rfl⟩ := ‹Hq _ _›; with_reducible refine chk_ok ?_; kernel_rfl) | kernel_rfl)) | (with_reducible intro ops hops)))
    refine fin_ret [] rfl ?_
    simp [cv, cv1, cv0, upd, boolD]
  cases g7 : decide ((40 : Int) < (q.length : Int))
  case true =>
    rw [hN (by simp at g7; simp; omega)]
    refine callD_W 72 Try.func99 rfl rfl rfl (fun _ _ => rfl) ?_
    (repeat (first | (simp -implicitDefEqProofs only [ev, mixed, Nat.reduceLT, Nat.reduceAdd, Nat.reduceMul, reduceIte, Nat.reduceEqDiff, reduceCtorEq, Nat.reducePow, Nat.reduceLeDiff, Int.reduceLE, Int.reduceLT, Int.reduceToNat, Int.reduceEq, Nat.reduceBEq, itsOf, gdA, byteI, opid, lenQ, ixQ, ldH, readAt, readCells, asCell, faQ, exQ, fldQ, partA, buildQ, slQ, stH, bslH, appH, dcells, convI, elemsOf, D.one, nilS, fillD, convN, cvH, tyProofC0, formI, g1, g2, g3, g4, g5, g6, g7, bI, bbI, hl]) | (with_reducible refine ⟨?_, ?_⟩; (· first | (obtain ⟨rfl⟩ := ‹Hq _ _›; with_reducible refine chk_ok ?_; kernel_rfl) | kernel_rfl)) | (with_reducible intro ops hops)))
    refine fin_ret [] rfl ?_
    simp [cv, cv1, cv0, upd, boolD]
  have hF : formF ⟨i, n, k, v, q⟩ = (q.drop 0).all fun d => decide (d.length = 32) := by
    have b5 : decide (60 < k.length) = false := by simp at g5 ⊢; omega
    have b6 : decide (200 < v.length) = false := by simp at g6 ⊢; omega
    have b7 : decide (40 < q.length) = false := by simp at g7 ⊢; omega
    simp [formF, formG, g1, g2, g3, g4, b5, b6, b7]
  have hq : q.length ≤ 40 := by simp at g7; omega
  generalize formF ⟨i, n, k, v, q⟩ = R at hF
  clear hN
  refine callD_W 72 Try.func99 rfl rfl rfl (fun _ _ => rfl) ?_
  (repeat (first | (simp -implicitDefEqProofs only [ev, mixed, Nat.reduceLT, Nat.reduceAdd, Nat.reduceMul, reduceIte, Nat.reduceEqDiff, reduceCtorEq, Nat.reducePow, Nat.reduceLeDiff, Int.reduceLE, Int.reduceLT, Int.reduceToNat, Int.reduceEq, Nat.reduceBEq, itsOf, gdA, byteI, opid, lenQ, ixQ, ldH, readAt, readCells, asCell, faQ, exQ, fldQ, partA, buildQ, slQ, stH, bslH, appH, dcells, convI, elemsOf, D.one, nilS, fillD, convN, cvH, tyProofC0, formI, g1, g2, g3, g4, g5, g6, g7, bI, bbI, hl]) | (with_reducible refine ⟨?_, ?_⟩; (· first | (obtain ⟨rfl⟩ := ‹Hq _ _›; with_reducible refine chk_ok ?_; kernel_rfl) | kernel_rfl)) | (with_reducible intro ops hops)))
  refine W_loopI (ι := Nat) (fun j => j ≤ q.length ∧ R = (q.drop j).all fun d => decide (d.length = 32))
    (fun j => stOf [(62, .i (bbI q)), (63, intD q.length), (64, intD j)] []) (fun j => q.length - j) 0 ⟨Nat.zero_le _, hF⟩ ?_ ?_
  · refine le_stOf _ _ [] [] ?_ ?_ rfl rfl
    · simp [cv, cvL, cv1, cv0, upd, lk, srcOf, intD, bbI, bI]
    · simp
  · rintro j ⟨hj, hR⟩
    rw [stOf_eq]
    (repeat (first | (simp -implicitDefEqProofs only [ev, mixed, Nat.reduceLT, Nat.reduceAdd, Nat.reduceMul, reduceIte, Nat.reduceEqDiff, reduceCtorEq, Nat.reducePow, Nat.reduceLeDiff, Int.reduceLE, Int.reduceLT, Int.reduceToNat, Int.reduceEq, Nat.reduceBEq, itsOf, gdA, byteI, opid, lenQ, ixQ, ldH, readAt, readCells, asCell, faQ, exQ, fldQ, partA, buildQ, slQ, stH, bslH, appH, dcells, convI, elemsOf, D.one, nilS, fillD, convN, cvH, tyProofC0, intD]) | (with_reducible refine ⟨?_, ?_⟩; (· first | (obtain ⟨rfl⟩ := ‹Hq _ _›; with_reducible refine chk_ok ?_; kernel_rfl) | kernel_rfl)) | (with_reducible intro ops hops)))
    refine Wc_split (fun h => ?_) (fun h => ?_)
    · have h2 : j < q.length := by simp at h; omega
      clear h
      have e1 := e0 j h2
      simp only [bI] at e1
      rw [all_drop h2] at hR
      have w1 : IntKind.i64.wrap ((j : Int) + 1) = ((j + 1 : Nat) : Int) := by rw [wrap64 (by omega) (by omega)]; omega
      generalize q[j] = d at *
      (repeat (first | (simp -implicitDefEqProofs only [ev, mixed, Nat.reduceLT, Nat.reduceAdd, Nat.reduceMul, reduceIte, Nat.reduceEqDiff, reduceCtorEq, Nat.reducePow, Nat.reduceLeDiff, Int.reduceLE, Int.reduceLT, Int.reduceToNat, Int.reduceEq, Nat.reduceBEq, itsOf, gdA, byteI, opid, lenQ, ixQ, ldH, readAt, readCells, asCell, faQ, exQ, fldQ, partA, buildQ, slQ, stH, bslH, appH, dcells, convI, elemsOf, D.one, nilS, fillD, convN, cvH, tyProofC0, bbI, e1, bI]) | (with_reducible refine ⟨?_, ?_⟩; (· first | (obtain ⟨rfl⟩ := ‹Hq _ _›; with_reducible refine chk_ok ?_; kernel_rfl) | kernel_rfl)) | (with_reducible intro ops hops)))
      refine Wc_split (fun h => ?_) (fun h => ?_)
      · have h3 : d.length ≠ 32 := by simp at h; omega
        simp only [h3, decide_false, Bool.false_and] at hR
        (repeat (first | (simp -implicitDefEqProofs only [ev, mixed, Nat.reduceLT, Nat.reduceAdd, Nat.reduceMul, reduceIte, Nat.reduceEqDiff, reduceCtorEq, Nat.reducePow, Nat.reduceLeDiff, Int.reduceLE, Int.reduceLT, Int.reduceToNat, Int.reduceEq, Nat.reduceBEq, itsOf, gdA, byteI, opid, lenQ, ixQ, ldH, readAt, readCells, asCell, faQ, exQ, fldQ, partA, buildQ, slQ, stH, bslH, appH, dcells, convI, elemsOf, D.one, nilS, fillD, convN, cvH, tyProofC0]) | (with_reducible refine ⟨?_, ?_⟩; (· first | (obtain ⟨rfl⟩ := ‹Hq _ _›; with_reducible refine chk_ok ?_; kernel_rfl) | kernel_rfl)) | (with_reducible intro ops hops)))
        refine fin_ret [] rfl ?_
        simp [cv, cv1, cv0, upd, hR, boolD]
      · have h3 : d.length = 32 := by simp at h; omega
        simp only [h3, decide_true, Bool.true_and] at hR
        (repeat (first | (simp -implicitDefEqProofs only [ev, mixed, Nat.reduceLT, Nat.reduceAdd, Nat.reduceMul, reduceIte, Nat.reduceEqDiff, reduceCtorEq, Nat.reducePow, Nat.reduceLeDiff, Int.reduceLE, Int.reduceLT, Int.reduceToNat, Int.reduceEq, Nat.reduceBEq, itsOf, gdA, byteI, opid, lenQ, ixQ, ldH, readAt, readCells, asCell, faQ, exQ, fldQ, partA, buildQ, slQ, stH, bslH, appH, dcells, convI, elemsOf, D.one, nilS, fillD, convN, cvH, tyProofC0, w1]) | (with_reducible refine ⟨?_, ?_⟩; (· first | (obtain ⟨rfl⟩ := ‹Hq _ _›; with_reducible refine chk_ok ?_; kernel_rfl) | kernel_rfl)) | (with_reducible intro ops hops)))
        refine ⟨j + 1, ⟨h2, hR⟩, le_stOf _ _ [] [] ?_ ?_ rfl rfl, by simp; omega⟩
        · simp [cv, cvL, cv1, cv0, upd, lk, srcOf, intD, bbI, bI]
        · simp
    · have h2 : ¬ j < q.length := by simp at h; omega
      clear h
      rw [List.drop_eq_nil_of_le (by omega)] at hR
      (repeat (first | (simp -implicitDefEqProofs only [ev, mixed, Nat.reduceLT, Nat.reduceAdd, Nat.reduceMul, reduceIte, Nat.reduceEqDiff, reduceCtorEq, Nat.reducePow, Nat.reduceLeDiff, Int.reduceLE, Int.reduceLT, Int.reduceToNat, Int.reduceEq, Nat.reduceBEq, itsOf, gdA, byteI, opid, lenQ, ixQ, ldH, readAt, readCells, asCell, faQ, exQ, fldQ, partA, buildQ, slQ, stH, bslH, appH, dcells, convI, elemsOf, D.one, nilS, fillD, convN, cvH, tyProofC0]) | (with_reducible refine ⟨?_, ?_⟩; (· first | (obtain ⟨rfl⟩ := ‹Hq _ _›; with_reducible refine chk_ok ?_; kernel_rfl) | kernel_rfl)) | (with_reducible intro ops hops)))
      refine fin_ret [] rfl ?_
      simp [cv, cv1, cv0, upd, hR, boolD]
end Go.Proofs.Ytdpfjmkilbepgaa
/- proof.tree, Shown: by value. -/
set_option linter.all false
namespace Go.Proofs.Ytdpfjmkilbepgaa
open Go Go.Abs Go.RowKit Go.Proofs.Ytdpfjmkilbepgaa.Ty
theorem tyProofT0 : (type_of% @Ty.T3) ∧ (type_of% @Ty.T5) ∧ (type_of% @Ty.T25) ∧ (type_of% @Ty.T26) := ⟨@Ty.T3, @Ty.T5, @Ty.T25, @Ty.T26⟩
theorem tyProofT1 : (type_of% @Ty.T3) ∧ (type_of% @Ty.T4) ∧ (type_of% @Ty.T5) ∧ (type_of% @Ty.T25) ∧ (type_of% @Ty.T26) ∧ (type_of% @Ty.T28) ∧ (type_of% @Ty.T127) := ⟨@Ty.T3, @Ty.T4, @Ty.T5, @Ty.T25, @Ty.T26, @Ty.T28, @Ty.T127⟩

def foldR (leaf : List UInt8) : Nat → Nat → List (List UInt8) → List UInt8 × Bool
  | _, n, [] => if n = 1 then (leaf, true) else ([], false)
  | i, n, d :: r => if n = 1 then (leaf, false) else if i < splitF n then (nodeF (foldR leaf i (splitF n) r).1 d, (foldR leaf i (splitF n) r).2)
      else (nodeF d (foldR leaf (i - splitF n) (n - splitF n) r).1, (foldR leaf (i - splitF n) (n - splitF n) r).2)
theorem foldR_len (leaf : List UInt8) (h : leaf.length ≤ 32) : ∀ (r : List (List UInt8)) (i n : Nat), (foldR leaf i n r).1.length ≤ 32 := by
  intro r
  induction r with
  | nil => intro i n; simp only [foldR]; split <;> simp [h]
  | cons d r ih =>
    intro i n; simp only [foldR]; split
    · exact h
    · split <;> simp only [nodeF] <;> exact Nat.le_of_eq (sha_length _)
set_option maxHeartbeats 4000000
theorem ptree_A (leaf : List UInt8) (hlf : leaf.length ≤ 32) : ∀ (r : List (List UInt8)) (i n : Nat), (∀ d ∈ r, d.length = 32) → r.length ≤ 1048576 → i ≤ 1048576 → 1 ≤ n → n ≤ 1048576 →
    PureD Try.prog 100 [.i (bI leaf), intD i, intD n, .i (bbI r.reverse)] (.tup [.i (bI (foldR leaf i n r).1), boolD (foldR leaf i n r).2]) := by
  intro r
  induction r with
  | nil =>
    intro i n _ _ _ h1 h2
    by_cases hn : n = 1
    · subst hn
      simp only [foldR, if_true]
      refine callD_W 71 Try.func100 rfl rfl rfl (fun _ _ => rfl) ?_
      (repeat (first | (simp -implicitDefEqProofs only [ev, mixed, Nat.reduceLT, Nat.reduceAdd, Nat.reduceMul, reduceIte, Nat.reduceEqDiff, reduceCtorEq, Nat.reducePow, Nat.reduceLeDiff, Int.reduceLE, Int.reduceLT, Int.reduceToNat, Int.reduceEq, Nat.reduceBEq, itsOf, gdA, byteI, opid, lenQ, ixQ, ldH, readAt, readCells, asCell, faQ, exQ, fldQ, partA, buildQ, slQ, stH, bslH, appH, dcells, convI, elemsOf, D.one, nilS, fillD, convN, cvH, tyProofT0, intD, bI, bbI, List.reverse_nil, List.map_nil]) | (with_reducible refine ⟨?_, ?_⟩; (· first | (obtain ⟨rfl⟩ := ‹Hq _ _›; with_reducible refine chk_ok ?_; kernel_rfl) | kernel_rfl)) | (with_reducible intro ops hops)))
      refine fin_tt [] rfl ?_
      simp [cv, cvT, cv1, cv0, upd, intD, boolD, bI]
    · simp only [foldR, hn, if_false]
      have g1 : decide ((n : Int) = 1) = false := by simp; omega
      refine callD_W 71 Try.func100 rfl rfl rfl (fun _ _ => rfl) ?_
      (repeat (first | (simp -implicitDefEqProofs only [ev, mixed, Nat.reduceLT, Nat.reduceAdd, Nat.reduceMul, reduceIte, Nat.reduceEqDiff, reduceCtorEq, Nat.reducePow, Nat.reduceLeDiff, Int.reduceLE, Int.reduceLT, Int.reduceToNat, Int.reduceEq, Nat.reduceBEq, itsOf, gdA, byteI, opid, lenQ, ixQ, ldH, readAt, readCells, asCell, faQ, exQ, fldQ, partA, buildQ, slQ, stH, bslH, appH, dcells, convI, elemsOf, D.one, nilS, fillD, convN, cvH, tyProofT0, intD, bI, bbI, List.reverse_nil, List.map_nil, g1]) | (with_reducible refine ⟨?_, ?_⟩; (· first | (obtain ⟨rfl⟩ := ‹Hq _ _›; with_reducible refine chk_ok ?_; kernel_rfl) | kernel_rfl)) | (with_reducible intro ops hops)))
      refine fin_tt [] rfl ?_
      simp [cv, cvT, cv1, cv0, upd, intD, boolD, bI]
  | cons d r ih =>
    intro i n hd hr hi h1 h2
    have hd0 : d.length = 32 := hd d (by simp)
    simp only [List.length_cons] at hr
    have L1 : ((d :: r).reverse.map fun b => [bI b]).length = r.length + 1 := by simp
    have L2 : ((d :: r).reverse.map fun b => [bI b])[r.length]? = some [bI d] := by simp
    have L3 : ((d :: r).reverse.map fun b => [bI b]).take r.length = r.reverse.map fun b => [bI b] := by simp
    have L4 : uni 1 ((d :: r).reverse.map fun b => [bI b]) = true := by simp [uni]
    have hq : bbI (d :: r).reverse = .sl ((d :: r).reverse.map fun b => [bI b]) := rfl
    rw [hq]
    generalize ((d :: r).reverse.map fun b => [bI b]) = L at *
    clear hq
    by_cases hn : n = 1
    · subst hn
      simp only [foldR, if_true]
      have g1 : decide (((r.length + 1 : Nat) : Int) = 0) = false := by simp; omega
      refine callD_W 71 Try.func100 rfl rfl rfl (fun _ _ => rfl) ?_
      (repeat (first | (simp -implicitDefEqProofs only [ev, mixed, Nat.reduceLT, Nat.reduceAdd, Nat.reduceMul, reduceIte, Nat.reduceEqDiff, reduceCtorEq, Nat.reducePow, Nat.reduceLeDiff, Int.reduceLE, Int.reduceLT, Int.reduceToNat, Int.reduceEq, Nat.reduceBEq, itsOf, gdA, byteI, opid, lenQ, ixQ, ldH, readAt, readCells, asCell, faQ, exQ, fldQ, partA, buildQ, slQ, stH, bslH, appH, dcells, convI, elemsOf, D.one, nilS, fillD, convN, cvH, tyProofT0, intD, L1, g1]) | (with_reducible refine ⟨?_, ?_⟩; (· first | (obtain ⟨rfl⟩ := ‹Hq _ _›; with_reducible refine chk_ok ?_; kernel_rfl) | kernel_rfl)) | (with_reducible intro ops hops)))
      refine fin_tt [] rfl ?_
      simp [cv, cvT, cv1, cv0, upd, intD, boolD, bI]
    · have hs := splitF_lt (n := n) (by omega)
      have hsp := split_A n h1 h2
      have i1 := ih i (splitF n) (fun d hd' => hd d (by simp [hd'])) (by omega) hi (by omega) (by omega)
      have i2 := ih (i - splitF n) (n - splitF n) (fun d hd' => hd d (by simp [hd'])) (by omega) (by omega) (by omega) (by omega)
      have n1 := foldR_len leaf hlf r i (splitF n)
      have n2 := foldR_len leaf hlf r (i - splitF n) (n - splitF n)
      have g1 : decide ((n : Int) = 1) = false := by simp; omega
      have g2 : decide (((r.length + 1 : Nat) : Int) = 0) = false := by simp; omega
      have g4 : ((r.length : Int) ≤ ((r.length + 1 : Nat) : Int)) = True := eq_true (by omega)
      have w1 : IntKind.i64.wrap (((r.length + 1 : Nat) : Int) - 1) = (r.length : Int) := by rw [wrap64 (by omega) (by omega)]; omega
      have hc1 : i < splitF n → foldR leaf i n (d :: r) = (nodeF (foldR leaf i (splitF n) r).1 d, (foldR leaf i (splitF n) r).2) := fun h => by simp only [foldR, if_neg hn, if_pos h]
      have hc2 : ¬ i < splitF n → foldR leaf i n (d :: r) = (nodeF d (foldR leaf (i - splitF n) (n - splitF n) r).1, (foldR leaf (i - splitF n) (n - splitF n) r).2) := fun h => by simp only [foldR, if_neg hn, if_neg h]
      clear hd
      generalize splitF n = k at *
      simp only [bbI] at i1 i2
      rw [← L3] at i1 i2
      by_cases hc : i < k
      · have g3 : decide ((i : Int) < (k : Int)) = true := by simp; omega
        rw [hc1 hc]
        clear i2 hc1 hc2
        generalize foldR leaf i k r = T at *
        have hnd := node_A T.1 d (by omega) (by omega)
        generalize nodeF T.1 d = R at *
        refine callD_W 71 Try.func100 rfl rfl rfl (fun _ _ => rfl) ?_
        (repeat (first | (simp -implicitDefEqProofs only [ev, mixed, Nat.reduceLT, Nat.reduceAdd, Nat.reduceMul, reduceIte, Nat.reduceEqDiff, reduceCtorEq, Nat.reducePow, Nat.reduceLeDiff, Int.reduceLE, Int.reduceLT, Int.reduceToNat, Int.reduceEq, Nat.reduceBEq, itsOf, gdA, byteI, opid, lenQ, ixQ, ldH, readAt, readCells, asCell, faQ, exQ, fldQ, partA, buildQ, slQ, stH, bslH, appH, dcells, convI, elemsOf, D.one, nilS, fillD, convN, cvH, tyProofT0, intD, L1, g1, g2, w1]) | (with_reducible refine ⟨?_, ?_⟩; (· first | (obtain ⟨rfl⟩ := ‹Hq _ _›; with_reducible refine chk_ok ?_; kernel_rfl) | kernel_rfl)) | (with_reducible intro ops hops)))
        (first | refine Call_flat [] [] (hsp) (by simp [cvAs, cvA, cvRL, cvR, cvBox, cv1, cvL, cv0, bI, byteI, bbI, intD, boolD, proofD, elemsOf, upd]) rfl ?_ | refine CallF_flat [] [] [] (hsp) (fun G _ => by simp [cvAs, cvA, cvRL, cvR, cvBox, cv1, cvL, cv0, bI, byteI, bbI, intD, boolD, proofD, elemsOf, upd]) rfl ?_)
        (repeat (first | (simp -implicitDefEqProofs only [ev, mixed, Nat.reduceLT, Nat.reduceAdd, Nat.reduceMul, reduceIte, Nat.reduceEqDiff, reduceCtorEq, Nat.reducePow, Nat.reduceLeDiff, Int.reduceLE, Int.reduceLT, Int.reduceToNat, Int.reduceEq, Nat.reduceBEq, itsOf, gdA, byteI, opid, lenQ, ixQ, ldH, readAt, readCells, asCell, faQ, exQ, fldQ, partA, buildQ, slQ, stH, bslH, appH, dcells, convI, elemsOf, D.one, nilS, fillD, convN, cvH, tyProofT0, intD, g3, L1, L4, g4]) | (with_reducible refine ⟨?_, ?_⟩; (· first | (obtain ⟨rfl⟩ := ‹Hq _ _›; with_reducible refine chk_ok ?_; kernel_rfl) | kernel_rfl)) | (with_reducible intro ops hops)))
        (first | refine Call_frz [] (i1) (by simp [cvAs, cvA, cvRL, cvR, cvBox, cv1, cvL, cv0, bI, byteI, bbI, intD, boolD, proofD, elemsOf, upd]) ?_ | refine CallF_frz [] [] (i1) (fun G _ => by simp [cvAs, cvA, cvRL, cvR, cvBox, cv1, cvL, cv0, bI, byteI, bbI, intD, boolD, proofD, elemsOf, upd]) (by simp) ?_)
        (repeat (first | (simp -implicitDefEqProofs only [ev, mixed, Nat.reduceLT, Nat.reduceAdd, Nat.reduceMul, reduceIte, Nat.reduceEqDiff, reduceCtorEq, Nat.reducePow, Nat.reduceLeDiff, Int.reduceLE, Int.reduceLT, Int.reduceToNat, Int.reduceEq, Nat.reduceBEq, itsOf, gdA, byteI, opid, lenQ, ixQ, ldH, readAt, readCells, asCell, faQ, exQ, fldQ, partA, buildQ, slQ, stH, bslH, appH, dcells, convI, elemsOf, D.one, nilS, fillD, convN, cvH, tyProofT0, boolD, L2]) | (with_reducible refine ⟨?_, ?_⟩; (· first | (obtain ⟨rfl⟩ := ‹Hq _ _›; with_reducible refine chk_ok ?_; kernel_rfl) | kernel_rfl)) | (with_reducible intro ops hops)))
        (first | refine Call_frz [] (hnd) (by simp [cvAs, cvA, cvRL, cvR, cvBox, cv1, cvL, cv0, bI, byteI, bbI, intD, boolD, proofD, elemsOf, upd]) ?_ | refine CallF_frz [] [] (hnd) (fun G _ => by simp [cvAs, cvA, cvRL, cvR, cvBox, cv1, cvL, cv0, bI, byteI, bbI, intD, boolD, proofD, elemsOf, upd]) (by simp) ?_)
        (repeat (first | (simp -implicitDefEqProofs only [ev, mixed, Nat.reduceLT, Nat.reduceAdd, Nat.reduceMul, reduceIte, Nat.reduceEqDiff, reduceCtorEq, Nat.reducePow, Nat.reduceLeDiff, Int.reduceLE, Int.reduceLT, Int.reduceToNat, Int.reduceEq, Nat.reduceBEq, itsOf, gdA, byteI, opid, lenQ, ixQ, ldH, readAt, readCells, asCell, faQ, exQ, fldQ, partA, buildQ, slQ, stH, bslH, appH, dcells, convI, elemsOf, D.one, nilS, fillD, convN, cvH, tyProofT0, bI]) | (with_reducible refine ⟨?_, ?_⟩; (· first | (obtain ⟨rfl⟩ := ‹Hq _ _›; with_reducible refine chk_ok ?_; kernel_rfl) | kernel_rfl)) | (with_reducible intro ops hops)))
        refine fin_tt [] rfl ?_
        simp [cv, cvT, cv1, cv0, upd, intD, boolD, bI]
      · have g3 : decide ((i : Int) < (k : Int)) = false := by simp; omega
        have w2 : IntKind.i64.wrap ((i : Int) - (k : Int)) = ((i - k : Nat) : Int) := by rw [wrap64 (by omega) (by omega)]; omega
        have w3 : IntKind.i64.wrap ((n : Int) - (k : Int)) = ((n - k : Nat) : Int) := by rw [wrap64 (by omega) (by omega)]; omega
        rw [hc2 hc]
        clear i1 hc1 hc2
        generalize foldR leaf (i - k) (n - k) r = T at *
        have hnd := node_A d T.1 (by omega) (by omega)
        generalize nodeF d T.1 = R at *
        refine callD_W 71 Try.func100 rfl rfl rfl (fun _ _ => rfl) ?_
        (repeat (first | (simp -implicitDefEqProofs only [ev, mixed, Nat.reduceLT, Nat.reduceAdd, Nat.reduceMul, reduceIte, Nat.reduceEqDiff, reduceCtorEq, Nat.reducePow, Nat.reduceLeDiff, Int.reduceLE, Int.reduceLT, Int.reduceToNat, Int.reduceEq, Nat.reduceBEq, itsOf, gdA, byteI, opid, lenQ, ixQ, ldH, readAt, readCells, asCell, faQ, exQ, fldQ, partA, buildQ, slQ, stH, bslH, appH, dcells, convI, elemsOf, D.one, nilS, fillD, convN, cvH, tyProofT0, intD, L1, g1, g2, w1]) | (with_reducible refine ⟨?_, ?_⟩; (· first | (obtain ⟨rfl⟩ := ‹Hq _ _›; with_reducible refine chk_ok ?_; kernel_rfl) | kernel_rfl)) | (with_reducible intro ops hops)))
        (first | refine Call_flat [] [] (hsp) (by simp [cvAs, cvA, cvRL, cvR, cvBox, cv1, cvL, cv0, bI, byteI, bbI, intD, boolD, proofD, elemsOf, upd]) rfl ?_ | refine CallF_flat [] [] [] (hsp) (fun G _ => by simp [cvAs, cvA, cvRL, cvR, cvBox, cv1, cvL, cv0, bI, byteI, bbI, intD, boolD, proofD, elemsOf, upd]) rfl ?_)
        (repeat (first | (simp -implicitDefEqProofs only [ev, mixed, Nat.reduceLT, Nat.reduceAdd, Nat.reduceMul, reduceIte, Nat.reduceEqDiff, reduceCtorEq, Nat.reducePow, Nat.reduceLeDiff, Int.reduceLE, Int.reduceLT, Int.reduceToNat, Int.reduceEq, Nat.reduceBEq, itsOf, gdA, byteI, opid, lenQ, ixQ, ldH, readAt, readCells, asCell, faQ, exQ, fldQ, partA, buildQ, slQ, stH, bslH, appH, dcells, convI, elemsOf, D.one, nilS, fillD, convN, cvH, tyProofT0, intD, g3, L1, L4, g4, w2, w3]) | (with_reducible refine ⟨?_, ?_⟩; (· first | (obtain ⟨rfl⟩ := ‹Hq _ _›; with_reducible refine chk_ok ?_; kernel_rfl) | kernel_rfl)) | (with_reducible intro ops hops)))
        (first | refine Call_frz [] (i2) (by simp [cvAs, cvA, cvRL, cvR, cvBox, cv1, cvL, cv0, bI, byteI, bbI, intD, boolD, proofD, elemsOf, upd]) ?_ | refine CallF_frz [] [] (i2) (fun G _ => by simp [cvAs, cvA, cvRL, cvR, cvBox, cv1, cvL, cv0, bI, byteI, bbI, intD, boolD, proofD, elemsOf, upd]) (by simp) ?_)
        (repeat (first | (simp -implicitDefEqProofs only [ev, mixed, Nat.reduceLT, Nat.reduceAdd, Nat.reduceMul, reduceIte, Nat.reduceEqDiff, reduceCtorEq, Nat.reducePow, Nat.reduceLeDiff, Int.reduceLE, Int.reduceLT, Int.reduceToNat, Int.reduceEq, Nat.reduceBEq, itsOf, gdA, byteI, opid, lenQ, ixQ, ldH, readAt, readCells, asCell, faQ, exQ, fldQ, partA, buildQ, slQ, stH, bslH, appH, dcells, convI, elemsOf, D.one, nilS, fillD, convN, cvH, tyProofT0, boolD, L2]) | (with_reducible refine ⟨?_, ?_⟩; (· first | (obtain ⟨rfl⟩ := ‹Hq _ _›; with_reducible refine chk_ok ?_; kernel_rfl) | kernel_rfl)) | (with_reducible intro ops hops)))
        (first | refine Call_frz [] (hnd) (by simp [cvAs, cvA, cvRL, cvR, cvBox, cv1, cvL, cv0, bI, byteI, bbI, intD, boolD, proofD, elemsOf, upd]) ?_ | refine CallF_frz [] [] (hnd) (fun G _ => by simp [cvAs, cvA, cvRL, cvR, cvBox, cv1, cvL, cv0, bI, byteI, bbI, intD, boolD, proofD, elemsOf, upd]) (by simp) ?_)
        (repeat (first | (simp -implicitDefEqProofs only [ev, mixed, Nat.reduceLT, Nat.reduceAdd, Nat.reduceMul, reduceIte, Nat.reduceEqDiff, reduceCtorEq, Nat.reducePow, Nat.reduceLeDiff, Int.reduceLE, Int.reduceLT, Int.reduceToNat, Int.reduceEq, Nat.reduceBEq, itsOf, gdA, byteI, opid, lenQ, ixQ, ldH, readAt, readCells, asCell, faQ, exQ, fldQ, partA, buildQ, slQ, stH, bslH, appH, dcells, convI, elemsOf, D.one, nilS, fillD, convN, cvH, tyProofT0, bI]) | (with_reducible refine ⟨?_, ?_⟩; (· first | (obtain ⟨rfl⟩ := ‹Hq _ _›; with_reducible refine chk_ok ?_; kernel_rfl) | kernel_rfl)) | (with_reducible intro ops hops)))
        refine fin_tt [] rfl ?_
        simp [cv, cvT, cv1, cv0, upd, intD, boolD, bI]

def treeOf (p : ProofD) : List UInt8 × Bool := foldR (leafF p.k p.v) p.i.toNat p.n.toNat p.path.reverse
def shownF (root : List UInt8) (p : ProofD) : Bool := formF p && (treeOf p).2 && decide (topF p.n.toNat (treeOf p).1 = root)
theorem formF_yes {p : ProofD} (h : formF p = true) : 1 ≤ p.n ∧ p.n ≤ 200 ∧ 0 ≤ p.i ∧ p.i < p.n ∧ p.k.length ≤ 60 ∧ p.v.length ≤ 200 ∧ p.path.length ≤ 40 ∧ ∀ d ∈ p.path, d.length = 32 := by
  simp [formF, formG] at h
  exact ⟨by omega, by omega, by omega, by omega, by omega, by omega, by omega, h.2⟩
theorem shown_A (root : List UInt8) (p : ProofD) : PureD Try.prog 56 [.i (bI root), proofD p] (boolD (shownF root p)) := by
  have hfm := form_A p
  unfold shownF treeOf
  cases hf : formF p
  · rw [hf] at hfm
    simp only [Bool.false_and]
    refine callD_W 33 Try.func56 rfl rfl rfl (fun _ _ => rfl) ?_
    (repeat (first | (simp -implicitDefEqProofs only [ev, mixed, Nat.reduceLT, Nat.reduceAdd, Nat.reduceMul, reduceIte, Nat.reduceEqDiff, reduceCtorEq, Nat.reducePow, Nat.reduceLeDiff, Int.reduceLE, Int.reduceLT, Int.reduceToNat, Int.reduceEq, Nat.reduceBEq, itsOf, gdA, byteI, opid, lenQ, ixQ, ldH, readAt, readCells, asCell, faQ, exQ, fldQ, partA, buildQ, slQ, stH, bslH, appH, dcells, convI, elemsOf, D.one, nilS, fillD, convN, cvH, tyProofT1, proofD, intD]) | (with_reducible refine ⟨?_, ?_⟩; (· first | (obtain ⟨rfl⟩ := ‹Hq _ _›; with_reducible refine chk_ok ?_; kernel_rfl) | kernel_rfl)) | (with_reducible intro ops hops)))
    refine Call_flat [] [1000] hfm ⟨.inr ⟨1000, _, _, rfl, .inl ⟨by simp, rfl, _, by simp [upd]; rfl, by simp [formI, cvBox, cv0]⟩⟩, trivial⟩ rfl ?_
    (repeat (first | (simp -implicitDefEqProofs only [ev, mixed, Nat.reduceLT, Nat.reduceAdd, Nat.reduceMul, reduceIte, Nat.reduceEqDiff, reduceCtorEq, Nat.reducePow, Nat.reduceLeDiff, Int.reduceLE, Int.reduceLT, Int.reduceToNat, Int.reduceEq, Nat.reduceBEq, itsOf, gdA, byteI, opid, lenQ, ixQ, ldH, readAt, readCells, asCell, faQ, exQ, fldQ, partA, buildQ, slQ, stH, bslH, appH, dcells, convI, elemsOf, D.one, nilS, fillD, convN, cvH, tyProofT1, boolD]) | (with_reducible refine ⟨?_, ?_⟩; (· first | (obtain ⟨rfl⟩ := ‹Hq _ _›; with_reducible refine chk_ok ?_; kernel_rfl) | kernel_rfl)) | (with_reducible intro ops hops)))
    refine fin_ret [] rfl ?_
    simp [cv, cv1, cv0, upd, boolD]
  · rw [hf] at hfm
    simp only [Bool.true_and]
    obtain ⟨a1, a2, a3, a4, a5, a6, a7, a8⟩ := formF_yes hf
    clear hf
    have hl := leaf_A p.k p.v (by omega) (by omega)
    have hlen : (leafF p.k p.v).length = 32 := sha_length _
    generalize leafF p.k p.v = F at *
    have ht := ptree_A F (by omega) p.path.reverse p.i.toNat p.n.toNat (fun d hd => a8 d (by simpa using hd)) (by simp; omega) (by omega) (by omega) (by omega)
    have hT := foldR_len F (by omega) p.path.reverse p.i.toNat p.n.toNat
    rw [List.reverse_reverse, Int.toNat_of_nonneg a3, Int.toNat_of_nonneg (by omega)] at ht
    generalize foldR F p.i.toNat p.n.toNat p.path.reverse = T at *
    have htp := top_A p.n.toNat T.1 (by omega)
    rw [Int.toNat_of_nonneg (by omega)] at htp
    generalize topF p.n.toNat T.1 = R at *
    clear a1 a2 a3 a4 a5 a6 a7 a8
    obtain ⟨i, n, k, v, q⟩ := p
    obtain ⟨t, ok⟩ := T
    simp only at *
    refine callD_W 33 Try.func56 rfl rfl rfl (fun _ _ => rfl) ?_
    (repeat (first | (simp -implicitDefEqProofs only [ev, mixed, Nat.reduceLT, Nat.reduceAdd, Nat.reduceMul, reduceIte, Nat.reduceEqDiff, reduceCtorEq, Nat.reducePow, Nat.reduceLeDiff, Int.reduceLE, Int.reduceLT, Int.reduceToNat, Int.reduceEq, Nat.reduceBEq, itsOf, gdA, byteI, opid, lenQ, ixQ, ldH, readAt, readCells, asCell, faQ, exQ, fldQ, partA, buildQ, slQ, stH, bslH, appH, dcells, convI, elemsOf, D.one, nilS, fillD, convN, cvH, tyProofT1, proofD, intD]) | (with_reducible refine ⟨?_, ?_⟩; (· first | (obtain ⟨rfl⟩ := ‹Hq _ _›; with_reducible refine chk_ok ?_; kernel_rfl) | kernel_rfl)) | (with_reducible intro ops hops)))
    refine Call_flat [] [1000] hfm ⟨.inr ⟨1000, _, _, rfl, .inl ⟨by simp, rfl, _, by simp [upd]; rfl, by simp [formI, cvBox, cv0]⟩⟩, trivial⟩ rfl ?_
    (repeat (first | (simp -implicitDefEqProofs only [ev, mixed, Nat.reduceLT, Nat.reduceAdd, Nat.reduceMul, reduceIte, Nat.reduceEqDiff, reduceCtorEq, Nat.reducePow, Nat.reduceLeDiff, Int.reduceLE, Int.reduceLT, Int.reduceToNat, Int.reduceEq, Nat.reduceBEq, itsOf, gdA, byteI, opid, lenQ, ixQ, ldH, readAt, readCells, asCell, faQ, exQ, fldQ, partA, buildQ, slQ, stH, bslH, appH, dcells, convI, elemsOf, D.one, nilS, fillD, convN, cvH, tyProofT1, boolD]) | (with_reducible refine ⟨?_, ?_⟩; (· first | (obtain ⟨rfl⟩ := ‹Hq _ _›; with_reducible refine chk_ok ?_; kernel_rfl) | kernel_rfl)) | (with_reducible intro ops hops)))
    (first | refine Call_frz [] (hl) (by simp [cvAs, cvA, cvRL, cvR, cvBox, cv1, cvL, cv0, bI, byteI, bbI, intD, boolD, proofD, elemsOf, upd]) ?_ | refine CallF_frz [] [] (hl) (fun G _ => by simp [cvAs, cvA, cvRL, cvR, cvBox, cv1, cvL, cv0, bI, byteI, bbI, intD, boolD, proofD, elemsOf, upd]) (by simp) ?_)
    (repeat (first | (simp -implicitDefEqProofs only [ev, mixed, Nat.reduceLT, Nat.reduceAdd, Nat.reduceMul, reduceIte, Nat.reduceEqDiff, reduceCtorEq, Nat.reducePow, Nat.reduceLeDiff, Int.reduceLE, Int.reduceLT, Int.reduceToNat, Int.reduceEq, Nat.reduceBEq, itsOf, gdA, byteI, opid, lenQ, ixQ, ldH, readAt, readCells, asCell, faQ, exQ, fldQ, partA, buildQ, slQ, stH, bslH, appH, dcells, convI, elemsOf, D.one, nilS, fillD, convN, cvH, tyProofT1]) | (with_reducible refine ⟨?_, ?_⟩; (· first | (obtain ⟨rfl⟩ := ‹Hq _ _›; with_reducible refine chk_ok ?_; kernel_rfl) | kernel_rfl)) | (with_reducible intro ops hops)))
    (first | refine Call_frz [] (ht) (by simp [cvAs, cvA, cvRL, cvR, cvBox, cv1, cvL, cv0, bI, byteI, bbI, intD, boolD, proofD, elemsOf, upd]) ?_ | refine CallF_frz [] [] (ht) (fun G _ => by simp [cvAs, cvA, cvRL, cvR, cvBox, cv1, cvL, cv0, bI, byteI, bbI, intD, boolD, proofD, elemsOf, upd]) (by simp) ?_)
    cases ok
    · (repeat (first | (simp -implicitDefEqProofs only [ev, mixed, Nat.reduceLT, Nat.reduceAdd, Nat.reduceMul, reduceIte, Nat.reduceEqDiff, reduceCtorEq, Nat.reducePow, Nat.reduceLeDiff, Int.reduceLE, Int.reduceLT, Int.reduceToNat, Int.reduceEq, Nat.reduceBEq, itsOf, gdA, byteI, opid, lenQ, ixQ, ldH, readAt, readCells, asCell, faQ, exQ, fldQ, partA, buildQ, slQ, stH, bslH, appH, dcells, convI, elemsOf, D.one, nilS, fillD, convN, cvH, tyProofT1, boolD]) | (with_reducible refine ⟨?_, ?_⟩; (· first | (obtain ⟨rfl⟩ := ‹Hq _ _›; with_reducible refine chk_ok ?_; kernel_rfl) | kernel_rfl)) | (with_reducible intro ops hops)))
      refine fin_ret [] rfl ?_
      simp [cv, cv1, cv0, upd, boolD]
    · (repeat (first | (simp -implicitDefEqProofs only [ev, mixed, Nat.reduceLT, Nat.reduceAdd, Nat.reduceMul, reduceIte, Nat.reduceEqDiff, reduceCtorEq, Nat.reducePow, Nat.reduceLeDiff, Int.reduceLE, Int.reduceLT, Int.reduceToNat, Int.reduceEq, Nat.reduceBEq, itsOf, gdA, byteI, opid, lenQ, ixQ, ldH, readAt, readCells, asCell, faQ, exQ, fldQ, partA, buildQ, slQ, stH, bslH, appH, dcells, convI, elemsOf, D.one, nilS, fillD, convN, cvH, tyProofT1, boolD]) | (with_reducible refine ⟨?_, ?_⟩; (· first | (obtain ⟨rfl⟩ := ‹Hq _ _›; with_reducible refine chk_ok ?_; kernel_rfl) | kernel_rfl)) | (with_reducible intro ops hops)))
      (first | refine Call_frz [] (htp) (by simp [cvAs, cvA, cvRL, cvR, cvBox, cv1, cvL, cv0, bI, byteI, bbI, intD, boolD, proofD, elemsOf, upd]) ?_ | refine CallF_frz [] [] (htp) (fun G _ => by simp [cvAs, cvA, cvRL, cvR, cvBox, cv1, cvL, cv0, bI, byteI, bbI, intD, boolD, proofD, elemsOf, upd]) (by simp) ?_)
      (repeat (first | (simp -implicitDefEqProofs only [ev, mixed, Nat.reduceLT, Nat.reduceAdd, Nat.reduceMul, reduceIte, Nat.reduceEqDiff, reduceCtorEq, Nat.reducePow, Nat.reduceLeDiff, Int.reduceLE, Int.reduceLT, Int.reduceToNat, Int.reduceEq, Nat.reduceBEq, itsOf, gdA, byteI, opid, lenQ, ixQ, ldH, readAt, readCells, asCell, faQ, exQ, fldQ, partA, buildQ, slQ, stH, bslH, appH, dcells, convI, elemsOf, D.one, nilS, fillD, convN, cvH, tyProofT1]) | (with_reducible refine ⟨?_, ?_⟩; (· first | (obtain ⟨rfl⟩ := ‹Hq _ _›; with_reducible refine chk_ok ?_; kernel_rfl) | kernel_rfl)) | (with_reducible intro ops hops)))
      (first | refine Call_flat [] [] (equal_A R root) (by simp [cvAs, cvA, cvRL, cvR, cvBox, cv1, cvL, cv0, bI, byteI, bbI, intD, boolD, proofD, elemsOf, upd]) rfl ?_ | refine CallF_flat [] [] [] (equal_A R root) (fun G _ => by simp [cvAs, cvA, cvRL, cvR, cvBox, cv1, cvL, cv0, bI, byteI, bbI, intD, boolD, proofD, elemsOf, upd]) rfl ?_)
      (repeat (first | (simp -implicitDefEqProofs only [ev, mixed, Nat.reduceLT, Nat.reduceAdd, Nat.reduceMul, reduceIte, Nat.reduceEqDiff, reduceCtorEq, Nat.reducePow, Nat.reduceLeDiff, Int.reduceLE, Int.reduceLT, Int.reduceToNat, Int.reduceEq, Nat.reduceBEq, itsOf, gdA, byteI, opid, lenQ, ixQ, ldH, readAt, readCells, asCell, faQ, exQ, fldQ, partA, buildQ, slQ, stH, bslH, appH, dcells, convI, elemsOf, D.one, nilS, fillD, convN, cvH, tyProofT1]) | (with_reducible refine ⟨?_, ?_⟩; (· first | (obtain ⟨rfl⟩ := ‹Hq _ _›; with_reducible refine chk_ok ?_; kernel_rfl) | kernel_rfl)) | (with_reducible intro ops hops)))
      refine fin_ret [] rfl ?_
      simp [cv, cv1, cv0, upd, boolD]
end Go.Proofs.Ytdpfjmkilbepgaa
/- book.Get, proof.ShowGap, Absent: by value. -/
set_option linter.all false
namespace Go.Proofs.Ytdpfjmkilbepgaa
open Go Go.Abs Go.RowKit Go.Proofs.Ytdpfjmkilbepgaa.Ty

def getF (l : List PairD) (key : List UInt8) : List UInt8 × Bool :=
  if h : placeF l key < l.length then (if l[placeF l key].k = key then (l[placeF l key].v, true) else ([], false)) else ([], false)
structure GapD where
  hl : Bool
  hr : Bool
  left : ProofD
  right : ProofD
def gapD (g : GapD) : D := .agg [boolD g.hl, boolD g.hr, intD g.left.i, intD g.left.n, .i (bI g.left.k), .i (bI g.left.v), .i (bbI g.left.path), intD g.right.i, intD g.right.n, .i (bI g.right.k), .i (bI g.right.v), .i (bbI g.right.path)]
def zeroG : GapD := ⟨false, false, zeroP, zeroP⟩
def atZ (l : List PairD) (b : Bool) (i : Nat) : ProofD := if h : b = true ∧ i < l.length then atF l i h.2 else zeroP
def gapF (l : List PairD) (key : List UInt8) : GapD × Nat :=
  if (wrongF l).1 = 0 then (if thereF l key then (zeroG, 7) else (⟨decide (0 < placeF l key), decide (placeF l key < l.length), atZ l (decide (0 < placeF l key)) (placeF l key - 1), atZ l (decide (placeF l key < l.length)) (placeF l key)⟩, 0)) else (zeroG, (wrongF l).1)
set_option maxHeartbeats 4000000
end Go.Proofs.Ytdpfjmkilbepgaa
/- proof.Absent: by value. -/
set_option linter.all false
namespace Go.Proofs.Ytdpfjmkilbepgaa
open Go Go.Abs Go.RowKit Go.Proofs.Ytdpfjmkilbepgaa.Ty
theorem tyGapB0 : (type_of% @Ty.T3) ∧ (type_of% @Ty.T4) ∧ (type_of% @Ty.T5) ∧ (type_of% @Ty.T25) ∧ (type_of% @Ty.T26) ∧ (type_of% @Ty.T28) ∧ (type_of% @Ty.T30) := ⟨@Ty.T3, @Ty.T4, @Ty.T5, @Ty.T25, @Ty.T26, @Ty.T28, @Ty.T30⟩

def absentF (root key : List UInt8) (g : GapD) : Bool :=
  match g.hl, g.hr with
  | false, false => decide (topF 0 [] = root)
  | true, false => shownF root g.left && decide (Lib.compareBytes g.left.k key < 0) && decide (g.left.i = g.left.n - 1)
  | false, true => shownF root g.right && decide (Lib.compareBytes key g.right.k < 0) && decide (g.right.i = 0)
  | true, true => shownF root g.left && decide (Lib.compareBytes g.left.k key < 0) && (shownF root g.right && decide (Lib.compareBytes key g.right.k < 0)) && (decide (g.left.n = g.right.n) && decide (g.left.i + 1 = g.right.i))
theorem shownF_form {r : List UInt8} {p : ProofD} (h : shownF r p = true) : formF p = true := by
  unfold shownF at h; simp only [Bool.and_eq_true] at h; exact h.1.1
theorem dec_not (x : Int) : decide (x < 0) = !decide (0 ≤ x) := by
  by_cases h : x < 0
  · rw [decide_eq_true h, decide_eq_false (by omega)]; rfl
  · rw [decide_eq_false h, decide_eq_true (by omega)]; rfl
set_option maxHeartbeats 4000000
theorem absent_A (root key : List UInt8) (g : GapD) : PureD Try.prog 60 [.i (bI root), .i (bI key), gapD g] (boolD (absentF root key g)) := by
  obtain ⟨hl, hr, L, R⟩ := g
  have sL := shown_A root L
  have sR := shown_A root R
  simp only [proofD] at sL sR
  have fL : shownF root L = true → IntKind.i64.wrap (L.n - 1) = L.n - 1 ∧ IntKind.i64.wrap (L.i + 1) = L.i + 1 := fun h => by
    obtain ⟨a1, a2, a3, a4, _⟩ := formF_yes (shownF_form h)
    exact ⟨wrap64 (by omega) (by omega), wrap64 (by omega) (by omega)⟩
  unfold absentF
  cases hl
  · cases hr
    · simp only
      have ht := top_A 0 [] (by simp)
      generalize topF 0 [] = T at *
      refine callD_W 89 Try.func60 rfl rfl rfl (fun _ _ => rfl) ?_
      (repeat (first | (simp -implicitDefEqProofs only [ev, mixed, Nat.reduceLT, Nat.reduceAdd, Nat.reduceMul, reduceIte, Nat.reduceEqDiff, reduceCtorEq, Nat.reducePow, Nat.reduceLeDiff, Int.reduceLE, Int.reduceLT, Int.reduceToNat, Int.reduceEq, Nat.reduceBEq, itsOf, gdA, byteI, opid, lenQ, ixQ, ldH, readAt, readCells, asCell, faQ, exQ, fldQ, partA, buildQ, slQ, stH, bslH, appH, dcells, convI, elemsOf, D.one, nilS, fillD, convN, cvH, tyGapB0, gapD, boolD, intD]) | (with_reducible refine ⟨?_, ?_⟩; (· first | (obtain ⟨rfl⟩ := ‹Hq _ _›; with_reducible refine chk_ok ?_; kernel_rfl) | kernel_rfl)) | (with_reducible intro ops hops)))
      (first | refine Call_frz [] (ht) (by simp [cvAs, cvA, cvRL, cvR, cvBox, cv1, cvL, cv0, bI, byteI, intD, boolD, proofD, elemsOf, upd]) ?_ | refine CallF_frz [] [] (ht) (fun G _ => by simp [cvAs, cvA, cvRL, cvR, cvBox, cv1, cvL, cv0, bI, byteI, intD, boolD, proofD, elemsOf, upd]) (by simp) ?_)
      (repeat (first | (simp -implicitDefEqProofs only [ev, mixed, Nat.reduceLT, Nat.reduceAdd, Nat.reduceMul, reduceIte, Nat.reduceEqDiff, reduceCtorEq, Nat.reducePow, Nat.reduceLeDiff, Int.reduceLE, Int.reduceLT, Int.reduceToNat, Int.reduceEq, Nat.reduceBEq, itsOf, gdA, byteI, opid, lenQ, ixQ, ldH, readAt, readCells, asCell, faQ, exQ, fldQ, partA, buildQ, slQ, stH, bslH, appH, dcells, convI, elemsOf, D.one, nilS, fillD, convN, cvH, tyGapB0]) | (with_reducible refine ⟨?_, ?_⟩; (· first | (obtain ⟨rfl⟩ := ‹Hq _ _›; with_reducible refine chk_ok ?_; kernel_rfl) | kernel_rfl)) | (with_reducible intro ops hops)))
      (first | refine Call_flat [] [] (equal_A T root) (by simp [cvAs, cvA, cvRL, cvR, cvBox, cv1, cvL, cv0, bI, byteI, intD, boolD, proofD, elemsOf, upd]) rfl ?_ | refine CallF_flat [] [] [] (equal_A T root) (fun G _ => by simp [cvAs, cvA, cvRL, cvR, cvBox, cv1, cvL, cv0, bI, byteI, intD, boolD, proofD, elemsOf, upd]) rfl ?_)
      (repeat (first | (simp -implicitDefEqProofs only [ev, mixed, Nat.reduceLT, Nat.reduceAdd, Nat.reduceMul, reduceIte, Nat.reduceEqDiff, reduceCtorEq, Nat.reducePow, Nat.reduceLeDiff, Int.reduceLE, Int.reduceLT, Int.reduceToNat, Int.reduceEq, Nat.reduceBEq, itsOf, gdA, byteI, opid, lenQ, ixQ, ldH, readAt, readCells, asCell, faQ, exQ, fldQ, partA, buildQ, slQ, stH, bslH, appH, dcells, convI, elemsOf, D.one, nilS, fillD, convN, cvH, tyGapB0]) | (with_reducible refine ⟨?_, ?_⟩; (· first | (obtain ⟨rfl⟩ := ‹Hq _ _›; with_reducible refine chk_ok ?_; kernel_rfl) | kernel_rfl)) | (with_reducible intro ops hops)))
      refine fin_ret [] rfl ?_
      simp [cv, cv1, cv0, upd, boolD]
    · simp only
      rw [dec_not]
      generalize shownF root R = S at *
      obtain ⟨ri, rn, rk, rv, rq⟩ := R
      simp only
      cases S
      · simp only [Bool.false_and]
        refine callD_W 89 Try.func60 rfl rfl rfl (fun _ _ => rfl) ?_
        (repeat (first | (simp -implicitDefEqProofs only [ev, mixed, Nat.reduceLT, Nat.reduceAdd, Nat.reduceMul, reduceIte, Nat.reduceEqDiff, reduceCtorEq, Nat.reducePow, Nat.reduceLeDiff, Int.reduceLE, Int.reduceLT, Int.reduceToNat, Int.reduceEq, Nat.reduceBEq, itsOf, gdA, byteI, opid, lenQ, ixQ, ldH, readAt, readCells, asCell, faQ, exQ, fldQ, partA, buildQ, slQ, stH, bslH, appH, dcells, convI, elemsOf, D.one, nilS, fillD, convN, cvH, tyGapB0, gapD, boolD, intD]) | (with_reducible refine ⟨?_, ?_⟩; (· first | (obtain ⟨rfl⟩ := ‹Hq _ _›; with_reducible refine chk_ok ?_; kernel_rfl) | kernel_rfl)) | (with_reducible intro ops hops)))
        (first | refine Call_flat [] [] (sR) (by simp [cvAs, cvA, cvRL, cvR, cvBox, cv1, cvL, cv0, bI, byteI, intD, boolD, proofD, elemsOf, upd]) rfl ?_ | refine CallF_flat [] [] [] (sR) (fun G _ => by simp [cvAs, cvA, cvRL, cvR, cvBox, cv1, cvL, cv0, bI, byteI, intD, boolD, proofD, elemsOf, upd]) rfl ?_)
        (repeat (first | (simp -implicitDefEqProofs only [ev, mixed, Nat.reduceLT, Nat.reduceAdd, Nat.reduceMul, reduceIte, Nat.reduceEqDiff, reduceCtorEq, Nat.reducePow, Nat.reduceLeDiff, Int.reduceLE, Int.reduceLT, Int.reduceToNat, Int.reduceEq, Nat.reduceBEq, itsOf, gdA, byteI, opid, lenQ, ixQ, ldH, readAt, readCells, asCell, faQ, exQ, fldQ, partA, buildQ, slQ, stH, bslH, appH, dcells, convI, elemsOf, D.one, nilS, fillD, convN, cvH, tyGapB0, boolD]) | (with_reducible refine ⟨?_, ?_⟩; (· first | (obtain ⟨rfl⟩ := ‹Hq _ _›; with_reducible refine chk_ok ?_; kernel_rfl) | kernel_rfl)) | (with_reducible intro ops hops)))
        refine fin_ret [] rfl ?_
        simp [cv, cv1, cv0, upd, boolD]
      · simp only [Bool.true_and]
        have hc := cmp_A key rk
        generalize Lib.compareBytes key rk = C at *
        refine callD_W 89 Try.func60 rfl rfl rfl (fun _ _ => rfl) ?_
        (repeat (first | (simp -implicitDefEqProofs only [ev, mixed, Nat.reduceLT, Nat.reduceAdd, Nat.reduceMul, reduceIte, Nat.reduceEqDiff, reduceCtorEq, Nat.reducePow, Nat.reduceLeDiff, Int.reduceLE, Int.reduceLT, Int.reduceToNat, Int.reduceEq, Nat.reduceBEq, itsOf, gdA, byteI, opid, lenQ, ixQ, ldH, readAt, readCells, asCell, faQ, exQ, fldQ, partA, buildQ, slQ, stH, bslH, appH, dcells, convI, elemsOf, D.one, nilS, fillD, convN, cvH, tyGapB0, gapD, boolD, intD]) | (with_reducible refine ⟨?_, ?_⟩; (· first | (obtain ⟨rfl⟩ := ‹Hq _ _›; with_reducible refine chk_ok ?_; kernel_rfl) | kernel_rfl)) | (with_reducible intro ops hops)))
        (first | refine Call_flat [] [] (sR) (by simp [cvAs, cvA, cvRL, cvR, cvBox, cv1, cvL, cv0, bI, byteI, intD, boolD, proofD, elemsOf, upd]) rfl ?_ | refine CallF_flat [] [] [] (sR) (fun G _ => by simp [cvAs, cvA, cvRL, cvR, cvBox, cv1, cvL, cv0, bI, byteI, intD, boolD, proofD, elemsOf, upd]) rfl ?_)
        (repeat (first | (simp -implicitDefEqProofs only [ev, mixed, Nat.reduceLT, Nat.reduceAdd, Nat.reduceMul, reduceIte, Nat.reduceEqDiff, reduceCtorEq, Nat.reducePow, Nat.reduceLeDiff, Int.reduceLE, Int.reduceLT, Int.reduceToNat, Int.reduceEq, Nat.reduceBEq, itsOf, gdA, byteI, opid, lenQ, ixQ, ldH, readAt, readCells, asCell, faQ, exQ, fldQ, partA, buildQ, slQ, stH, bslH, appH, dcells, convI, elemsOf, D.one, nilS, fillD, convN, cvH, tyGapB0, boolD]) | (with_reducible refine ⟨?_, ?_⟩; (· first | (obtain ⟨rfl⟩ := ‹Hq _ _›; with_reducible refine chk_ok ?_; kernel_rfl) | kernel_rfl)) | (with_reducible intro ops hops)))
        (first | refine Call_flat [] [] (hc) (by simp [cvAs, cvA, cvRL, cvR, cvBox, cv1, cvL, cv0, bI, byteI, intD, boolD, proofD, elemsOf, upd]) rfl ?_ | refine CallF_flat [] [] [] (hc) (fun G _ => by simp [cvAs, cvA, cvRL, cvR, cvBox, cv1, cvL, cv0, bI, byteI, intD, boolD, proofD, elemsOf, upd]) rfl ?_)
        cases g1 : decide (0 ≤ C)
        · (repeat (first | (simp -implicitDefEqProofs only [ev, mixed, Nat.reduceLT, Nat.reduceAdd, Nat.reduceMul, reduceIte, Nat.reduceEqDiff, reduceCtorEq, Nat.reducePow, Nat.reduceLeDiff, Int.reduceLE, Int.reduceLT, Int.reduceToNat, Int.reduceEq, Nat.reduceBEq, itsOf, gdA, byteI, opid, lenQ, ixQ, ldH, readAt, readCells, asCell, faQ, exQ, fldQ, partA, buildQ, slQ, stH, bslH, appH, dcells, convI, elemsOf, D.one, nilS, fillD, convN, cvH, tyGapB0, g1]) | (with_reducible refine ⟨?_, ?_⟩; (· first | (obtain ⟨rfl⟩ := ‹Hq _ _›; with_reducible refine chk_ok ?_; kernel_rfl) | kernel_rfl)) | (with_reducible intro ops hops)))
          refine fin_ret [] rfl ?_
          simp [cv, cv1, cv0, upd, boolD]
        · (repeat (first | (simp -implicitDefEqProofs only [ev, mixed, Nat.reduceLT, Nat.reduceAdd, Nat.reduceMul, reduceIte, Nat.reduceEqDiff, reduceCtorEq, Nat.reducePow, Nat.reduceLeDiff, Int.reduceLE, Int.reduceLT, Int.reduceToNat, Int.reduceEq, Nat.reduceBEq, itsOf, gdA, byteI, opid, lenQ, ixQ, ldH, readAt, readCells, asCell, faQ, exQ, fldQ, partA, buildQ, slQ, stH, bslH, appH, dcells, convI, elemsOf, D.one, nilS, fillD, convN, cvH, tyGapB0, g1]) | (with_reducible refine ⟨?_, ?_⟩; (· first | (obtain ⟨rfl⟩ := ‹Hq _ _›; with_reducible refine chk_ok ?_; kernel_rfl) | kernel_rfl)) | (with_reducible intro ops hops)))
          refine fin_ret [] rfl ?_
          simp [cv, cv1, cv0, upd, boolD]
  · cases hr
    · simp only
      rw [dec_not]
      have fL' := fun h => (fL h).1
      clear fL
      generalize shownF root L = S at *
      obtain ⟨ri, rn, rk, rv, rq⟩ := L
      simp only at *
      cases S
      · simp only [Bool.false_and]
        refine callD_W 89 Try.func60 rfl rfl rfl (fun _ _ => rfl) ?_
        (repeat (first | (simp -implicitDefEqProofs only [ev, mixed, Nat.reduceLT, Nat.reduceAdd, Nat.reduceMul, reduceIte, Nat.reduceEqDiff, reduceCtorEq, Nat.reducePow, Nat.reduceLeDiff, Int.reduceLE, Int.reduceLT, Int.reduceToNat, Int.reduceEq, Nat.reduceBEq, itsOf, gdA, byteI, opid, lenQ, ixQ, ldH, readAt, readCells, asCell, faQ, exQ, fldQ, partA, buildQ, slQ, stH, bslH, appH, dcells, convI, elemsOf, D.one, nilS, fillD, convN, cvH, tyGapB0, gapD, boolD, intD]) | (with_reducible refine ⟨?_, ?_⟩; (· first | (obtain ⟨rfl⟩ := ‹Hq _ _›; with_reducible refine chk_ok ?_; kernel_rfl) | kernel_rfl)) | (with_reducible intro ops hops)))
        (first | refine Call_flat [] [] (sL) (by simp [cvAs, cvA, cvRL, cvR, cvBox, cv1, cvL, cv0, bI, byteI, intD, boolD, proofD, elemsOf, upd]) rfl ?_ | refine CallF_flat [] [] [] (sL) (fun G _ => by simp [cvAs, cvA, cvRL, cvR, cvBox, cv1, cvL, cv0, bI, byteI, intD, boolD, proofD, elemsOf, upd]) rfl ?_)
        (repeat (first | (simp -implicitDefEqProofs only [ev, mixed, Nat.reduceLT, Nat.reduceAdd, Nat.reduceMul, reduceIte, Nat.reduceEqDiff, reduceCtorEq, Nat.reducePow, Nat.reduceLeDiff, Int.reduceLE, Int.reduceLT, Int.reduceToNat, Int.reduceEq, Nat.reduceBEq, itsOf, gdA, byteI, opid, lenQ, ixQ, ldH, readAt, readCells, asCell, faQ, exQ, fldQ, partA, buildQ, slQ, stH, bslH, appH, dcells, convI, elemsOf, D.one, nilS, fillD, convN, cvH, tyGapB0, boolD]) | (with_reducible refine ⟨?_, ?_⟩; (· first | (obtain ⟨rfl⟩ := ‹Hq _ _›; with_reducible refine chk_ok ?_; kernel_rfl) | kernel_rfl)) | (with_reducible intro ops hops)))
        refine fin_ret [] rfl ?_
        simp [cv, cv1, cv0, upd, boolD]
      · simp only [Bool.true_and]
        have hw := fL' rfl
        have hc := cmp_A rk key
        generalize Lib.compareBytes rk key = C at *
        refine callD_W 89 Try.func60 rfl rfl rfl (fun _ _ => rfl) ?_
        (repeat (first | (simp -implicitDefEqProofs only [ev, mixed, Nat.reduceLT, Nat.reduceAdd, Nat.reduceMul, reduceIte, Nat.reduceEqDiff, reduceCtorEq, Nat.reducePow, Nat.reduceLeDiff, Int.reduceLE, Int.reduceLT, Int.reduceToNat, Int.reduceEq, Nat.reduceBEq, itsOf, gdA, byteI, opid, lenQ, ixQ, ldH, readAt, readCells, asCell, faQ, exQ, fldQ, partA, buildQ, slQ, stH, bslH, appH, dcells, convI, elemsOf, D.one, nilS, fillD, convN, cvH, tyGapB0, gapD, boolD, intD]) | (with_reducible refine ⟨?_, ?_⟩; (· first | (obtain ⟨rfl⟩ := ‹Hq _ _›; with_reducible refine chk_ok ?_; kernel_rfl) | kernel_rfl)) | (with_reducible intro ops hops)))
        (first | refine Call_flat [] [] (sL) (by simp [cvAs, cvA, cvRL, cvR, cvBox, cv1, cvL, cv0, bI, byteI, intD, boolD, proofD, elemsOf, upd]) rfl ?_ | refine CallF_flat [] [] [] (sL) (fun G _ => by simp [cvAs, cvA, cvRL, cvR, cvBox, cv1, cvL, cv0, bI, byteI, intD, boolD, proofD, elemsOf, upd]) rfl ?_)
        (repeat (first | (simp -implicitDefEqProofs only [ev, mixed, Nat.reduceLT, Nat.reduceAdd, Nat.reduceMul, reduceIte, Nat.reduceEqDiff, reduceCtorEq, Nat.reducePow, Nat.reduceLeDiff, Int.reduceLE, Int.reduceLT, Int.reduceToNat, Int.reduceEq, Nat.reduceBEq, itsOf, gdA, byteI, opid, lenQ, ixQ, ldH, readAt, readCells, asCell, faQ, exQ, fldQ, partA, buildQ, slQ, stH, bslH, appH, dcells, convI, elemsOf, D.one, nilS, fillD, convN, cvH, tyGapB0, boolD]) | (with_reducible refine ⟨?_, ?_⟩; (· first | (obtain ⟨rfl⟩ := ‹Hq _ _›; with_reducible refine chk_ok ?_; kernel_rfl) | kernel_rfl)) | (with_reducible intro ops hops)))
        (first | refine Call_flat [] [] (hc) (by simp [cvAs, cvA, cvRL, cvR, cvBox, cv1, cvL, cv0, bI, byteI, intD, boolD, proofD, elemsOf, upd]) rfl ?_ | refine CallF_flat [] [] [] (hc) (fun G _ => by simp [cvAs, cvA, cvRL, cvR, cvBox, cv1, cvL, cv0, bI, byteI, intD, boolD, proofD, elemsOf, upd]) rfl ?_)
        cases g1 : decide (0 ≤ C)
        · (repeat (first | (simp -implicitDefEqProofs only [ev, mixed, Nat.reduceLT, Nat.reduceAdd, Nat.reduceMul, reduceIte, Nat.reduceEqDiff, reduceCtorEq, Nat.reducePow, Nat.reduceLeDiff, Int.reduceLE, Int.reduceLT, Int.reduceToNat, Int.reduceEq, Nat.reduceBEq, itsOf, gdA, byteI, opid, lenQ, ixQ, ldH, readAt, readCells, asCell, faQ, exQ, fldQ, partA, buildQ, slQ, stH, bslH, appH, dcells, convI, elemsOf, D.one, nilS, fillD, convN, cvH, tyGapB0, g1, hw]) | (with_reducible refine ⟨?_, ?_⟩; (· first | (obtain ⟨rfl⟩ := ‹Hq _ _›; with_reducible refine chk_ok ?_; kernel_rfl) | kernel_rfl)) | (with_reducible intro ops hops)))
          refine fin_ret [] rfl ?_
          simp [cv, cv1, cv0, upd, boolD]
        · (repeat (first | (simp -implicitDefEqProofs only [ev, mixed, Nat.reduceLT, Nat.reduceAdd, Nat.reduceMul, reduceIte, Nat.reduceEqDiff, reduceCtorEq, Nat.reducePow, Nat.reduceLeDiff, Int.reduceLE, Int.reduceLT, Int.reduceToNat, Int.reduceEq, Nat.reduceBEq, itsOf, gdA, byteI, opid, lenQ, ixQ, ldH, readAt, readCells, asCell, faQ, exQ, fldQ, partA, buildQ, slQ, stH, bslH, appH, dcells, convI, elemsOf, D.one, nilS, fillD, convN, cvH, tyGapB0, g1]) | (with_reducible refine ⟨?_, ?_⟩; (· first | (obtain ⟨rfl⟩ := ‹Hq _ _›; with_reducible refine chk_ok ?_; kernel_rfl) | kernel_rfl)) | (with_reducible intro ops hops)))
          refine fin_ret [] rfl ?_
          simp [cv, cv1, cv0, upd, boolD]
    · simp only
      rw [dec_not, dec_not]
      have fL' := fun h => (fL h).2
      clear fL
      generalize shownF root L = S at *
      generalize shownF root R = S' at *
      obtain ⟨li, ln, lk, lv, lq⟩ := L
      obtain ⟨ri, rn, rk, rv, rq⟩ := R
      simp only at *
      have hcL := cmp_A lk key
      have hcR := cmp_A key rk
      generalize Lib.compareBytes lk key = C at *
      generalize Lib.compareBytes key rk = C' at *
      cases S
      · simp only [Bool.false_and]
        refine callD_W 89 Try.func60 rfl rfl rfl (fun _ _ => rfl) ?_
        (repeat (first | (simp -implicitDefEqProofs only [ev, mixed, Nat.reduceLT, Nat.reduceAdd, Nat.reduceMul, reduceIte, Nat.reduceEqDiff, reduceCtorEq, Nat.reducePow, Nat.reduceLeDiff, Int.reduceLE, Int.reduceLT, Int.reduceToNat, Int.reduceEq, Nat.reduceBEq, itsOf, gdA, byteI, opid, lenQ, ixQ, ldH, readAt, readCells, asCell, faQ, exQ, fldQ, partA, buildQ, slQ, stH, bslH, appH, dcells, convI, elemsOf, D.one, nilS, fillD, convN, cvH, tyGapB0, gapD, boolD, intD]) | (with_reducible refine ⟨?_, ?_⟩; (· first | (obtain ⟨rfl⟩ := ‹Hq _ _›; with_reducible refine chk_ok ?_; kernel_rfl) | kernel_rfl)) | (with_reducible intro ops hops)))
        (first | refine Call_flat [] [] (sL) (by simp [cvAs, cvA, cvRL, cvR, cvBox, cv1, cvL, cv0, bI, byteI, intD, boolD, proofD, elemsOf, upd]) rfl ?_ | refine CallF_flat [] [] [] (sL) (fun G _ => by simp [cvAs, cvA, cvRL, cvR, cvBox, cv1, cvL, cv0, bI, byteI, intD, boolD, proofD, elemsOf, upd]) rfl ?_)
        (repeat (first | (simp -implicitDefEqProofs only [ev, mixed, Nat.reduceLT, Nat.reduceAdd, Nat.reduceMul, reduceIte, Nat.reduceEqDiff, reduceCtorEq, Nat.reducePow, Nat.reduceLeDiff, Int.reduceLE, Int.reduceLT, Int.reduceToNat, Int.reduceEq, Nat.reduceBEq, itsOf, gdA, byteI, opid, lenQ, ixQ, ldH, readAt, readCells, asCell, faQ, exQ, fldQ, partA, buildQ, slQ, stH, bslH, appH, dcells, convI, elemsOf, D.one, nilS, fillD, convN, cvH, tyGapB0, boolD]) | (with_reducible refine ⟨?_, ?_⟩; (· first | (obtain ⟨rfl⟩ := ‹Hq _ _›; with_reducible refine chk_ok ?_; kernel_rfl) | kernel_rfl)) | (with_reducible intro ops hops)))
        refine fin_ret [] rfl ?_
        simp [cv, cv1, cv0, upd, boolD]
      have hw := fL' rfl
      cases g1 : decide (0 ≤ C)
      case true =>
        refine callD_W 89 Try.func60 rfl rfl rfl (fun _ _ => rfl) ?_
        (repeat (first | (simp -implicitDefEqProofs only [ev, mixed, Nat.reduceLT, Nat.reduceAdd, Nat.reduceMul, reduceIte, Nat.reduceEqDiff, reduceCtorEq, Nat.reducePow, Nat.reduceLeDiff, Int.reduceLE, Int.reduceLT, Int.reduceToNat, Int.reduceEq, Nat.reduceBEq, itsOf, gdA, byteI, opid, lenQ, ixQ, ldH, readAt, readCells, asCell, faQ, exQ, fldQ, partA, buildQ, slQ, stH, bslH, appH, dcells, convI, elemsOf, D.one, nilS, fillD, convN, cvH, tyGapB0, gapD, boolD, intD]) | (with_reducible refine ⟨?_, ?_⟩; (· first | (obtain ⟨rfl⟩ := ‹Hq _ _›; with_reducible refine chk_ok ?_; kernel_rfl) | kernel_rfl)) | (with_reducible intro ops hops)))
        (first | refine Call_flat [] [] (sL) (by simp [cvAs, cvA, cvRL, cvR, cvBox, cv1, cvL, cv0, bI, byteI, intD, boolD, proofD, elemsOf, upd]) rfl ?_ | refine CallF_flat [] [] [] (sL) (fun G _ => by simp [cvAs, cvA, cvRL, cvR, cvBox, cv1, cvL, cv0, bI, byteI, intD, boolD, proofD, elemsOf, upd]) rfl ?_)
        (repeat (first | (simp -implicitDefEqProofs only [ev, mixed, Nat.reduceLT, Nat.reduceAdd, Nat.reduceMul, reduceIte, Nat.reduceEqDiff, reduceCtorEq, Nat.reducePow, Nat.reduceLeDiff, Int.reduceLE, Int.reduceLT, Int.reduceToNat, Int.reduceEq, Nat.reduceBEq, itsOf, gdA, byteI, opid, lenQ, ixQ, ldH, readAt, readCells, asCell, faQ, exQ, fldQ, partA, buildQ, slQ, stH, bslH, appH, dcells, convI, elemsOf, D.one, nilS, fillD, convN, cvH, tyGapB0, boolD]) | (with_reducible refine ⟨?_, ?_⟩; (· first | (obtain ⟨rfl⟩ := ‹Hq _ _›; with_reducible refine chk_ok ?_; kernel_rfl) | kernel_rfl)) | (with_reducible intro ops hops)))
        (first | refine Call_flat [] [] (hcL) (by simp [cvAs, cvA, cvRL, cvR, cvBox, cv1, cvL, cv0, bI, byteI, intD, boolD, proofD, elemsOf, upd]) rfl ?_ | refine CallF_flat [] [] [] (hcL) (fun G _ => by simp [cvAs, cvA, cvRL, cvR, cvBox, cv1, cvL, cv0, bI, byteI, intD, boolD, proofD, elemsOf, upd]) rfl ?_)
        (repeat (first | (simp -implicitDefEqProofs only [ev, mixed, Nat.reduceLT, Nat.reduceAdd, Nat.reduceMul, reduceIte, Nat.reduceEqDiff, reduceCtorEq, Nat.reducePow, Nat.reduceLeDiff, Int.reduceLE, Int.reduceLT, Int.reduceToNat, Int.reduceEq, Nat.reduceBEq, itsOf, gdA, byteI, opid, lenQ, ixQ, ldH, readAt, readCells, asCell, faQ, exQ, fldQ, partA, buildQ, slQ, stH, bslH, appH, dcells, convI, elemsOf, D.one, nilS, fillD, convN, cvH, tyGapB0, g1]) | (with_reducible refine ⟨?_, ?_⟩; (· first | (obtain ⟨rfl⟩ := ‹Hq _ _›; with_reducible refine chk_ok ?_; kernel_rfl) | kernel_rfl)) | (with_reducible intro ops hops)))
        refine fin_ret [] rfl ?_
        simp [cv, cv1, cv0, upd, boolD]
      cases S'
      · refine callD_W 89 Try.func60 rfl rfl rfl (fun _ _ => rfl) ?_
        (repeat (first | (simp -implicitDefEqProofs only [ev, mixed, Nat.reduceLT, Nat.reduceAdd, Nat.reduceMul, reduceIte, Nat.reduceEqDiff, reduceCtorEq, Nat.reducePow, Nat.reduceLeDiff, Int.reduceLE, Int.reduceLT, Int.reduceToNat, Int.reduceEq, Nat.reduceBEq, itsOf, gdA, byteI, opid, lenQ, ixQ, ldH, readAt, readCells, asCell, faQ, exQ, fldQ, partA, buildQ, slQ, stH, bslH, appH, dcells, convI, elemsOf, D.one, nilS, fillD, convN, cvH, tyGapB0, gapD, boolD, intD]) | (with_reducible refine ⟨?_, ?_⟩; (· first | (obtain ⟨rfl⟩ := ‹Hq _ _›; with_reducible refine chk_ok ?_; kernel_rfl) | kernel_rfl)) | (with_reducible intro ops hops)))
        (first | refine Call_flat [] [] (sL) (by simp [cvAs, cvA, cvRL, cvR, cvBox, cv1, cvL, cv0, bI, byteI, intD, boolD, proofD, elemsOf, upd]) rfl ?_ | refine CallF_flat [] [] [] (sL) (fun G _ => by simp [cvAs, cvA, cvRL, cvR, cvBox, cv1, cvL, cv0, bI, byteI, intD, boolD, proofD, elemsOf, upd]) rfl ?_)
        (repeat (first | (simp -implicitDefEqProofs only [ev, mixed, Nat.reduceLT, Nat.reduceAdd, Nat.reduceMul, reduceIte, Nat.reduceEqDiff, reduceCtorEq, Nat.reducePow, Nat.reduceLeDiff, Int.reduceLE, Int.reduceLT, Int.reduceToNat, Int.reduceEq, Nat.reduceBEq, itsOf, gdA, byteI, opid, lenQ, ixQ, ldH, readAt, readCells, asCell, faQ, exQ, fldQ, partA, buildQ, slQ, stH, bslH, appH, dcells, convI, elemsOf, D.one, nilS, fillD, convN, cvH, tyGapB0, boolD]) | (with_reducible refine ⟨?_, ?_⟩; (· first | (obtain ⟨rfl⟩ := ‹Hq _ _›; with_reducible refine chk_ok ?_; kernel_rfl) | kernel_rfl)) | (with_reducible intro ops hops)))
        (first | refine Call_flat [] [] (hcL) (by simp [cvAs, cvA, cvRL, cvR, cvBox, cv1, cvL, cv0, bI, byteI, intD, boolD, proofD, elemsOf, upd]) rfl ?_ | refine CallF_flat [] [] [] (hcL) (fun G _ => by simp [cvAs, cvA, cvRL, cvR, cvBox, cv1, cvL, cv0, bI, byteI, intD, boolD, proofD, elemsOf, upd]) rfl ?_)
        (repeat (first | (simp -implicitDefEqProofs only [ev, mixed, Nat.reduceLT, Nat.reduceAdd, Nat.reduceMul, reduceIte, Nat.reduceEqDiff, reduceCtorEq, Nat.reducePow, Nat.reduceLeDiff, Int.reduceLE, Int.reduceLT, Int.reduceToNat, Int.reduceEq, Nat.reduceBEq, itsOf, gdA, byteI, opid, lenQ, ixQ, ldH, readAt, readCells, asCell, faQ, exQ, fldQ, partA, buildQ, slQ, stH, bslH, appH, dcells, convI, elemsOf, D.one, nilS, fillD, convN, cvH, tyGapB0, g1]) | (with_reducible refine ⟨?_, ?_⟩; (· first | (obtain ⟨rfl⟩ := ‹Hq _ _›; with_reducible refine chk_ok ?_; kernel_rfl) | kernel_rfl)) | (with_reducible intro ops hops)))
        (first | refine Call_flat [] [] (sR) (by simp [cvAs, cvA, cvRL, cvR, cvBox, cv1, cvL, cv0, bI, byteI, intD, boolD, proofD, elemsOf, upd]) rfl ?_ | refine CallF_flat [] [] [] (sR) (fun G _ => by simp [cvAs, cvA, cvRL, cvR, cvBox, cv1, cvL, cv0, bI, byteI, intD, boolD, proofD, elemsOf, upd]) rfl ?_)
        (repeat (first | (simp -implicitDefEqProofs only [ev, mixed, Nat.reduceLT, Nat.reduceAdd, Nat.reduceMul, reduceIte, Nat.reduceEqDiff, reduceCtorEq, Nat.reducePow, Nat.reduceLeDiff, Int.reduceLE, Int.reduceLT, Int.reduceToNat, Int.reduceEq, Nat.reduceBEq, itsOf, gdA, byteI, opid, lenQ, ixQ, ldH, readAt, readCells, asCell, faQ, exQ, fldQ, partA, buildQ, slQ, stH, bslH, appH, dcells, convI, elemsOf, D.one, nilS, fillD, convN, cvH, tyGapB0, boolD]) | (with_reducible refine ⟨?_, ?_⟩; (· first | (obtain ⟨rfl⟩ := ‹Hq _ _›; with_reducible refine chk_ok ?_; kernel_rfl) | kernel_rfl)) | (with_reducible intro ops hops)))
        refine fin_ret [] rfl ?_
        simp [cv, cv1, cv0, upd, boolD]
      cases g2 : decide (0 ≤ C')
      case true =>
        refine callD_W 89 Try.func60 rfl rfl rfl (fun _ _ => rfl) ?_
        (repeat (first | (simp -implicitDefEqProofs only [ev, mixed, Nat.reduceLT, Nat.reduceAdd, Nat.reduceMul, reduceIte, Nat.reduceEqDiff, reduceCtorEq, Nat.reducePow, Nat.reduceLeDiff, Int.reduceLE, Int.reduceLT, Int.reduceToNat, Int.reduceEq, Nat.reduceBEq, itsOf, gdA, byteI, opid, lenQ, ixQ, ldH, readAt, readCells, asCell, faQ, exQ, fldQ, partA, buildQ, slQ, stH, bslH, appH, dcells, convI, elemsOf, D.one, nilS, fillD, convN, cvH, tyGapB0, gapD, boolD, intD]) | (with_reducible refine ⟨?_, ?_⟩; (· first | (obtain ⟨rfl⟩ := ‹Hq _ _›; with_reducible refine chk_ok ?_; kernel_rfl) | kernel_rfl)) | (with_reducible intro ops hops)))
        (first | refine Call_flat [] [] (sL) (by simp [cvAs, cvA, cvRL, cvR, cvBox, cv1, cvL, cv0, bI, byteI, intD, boolD, proofD, elemsOf, upd]) rfl ?_ | refine CallF_flat [] [] [] (sL) (fun G _ => by simp [cvAs, cvA, cvRL, cvR, cvBox, cv1, cvL, cv0, bI, byteI, intD, boolD, proofD, elemsOf, upd]) rfl ?_)
        (repeat (first | (simp -implicitDefEqProofs only [ev, mixed, Nat.reduceLT, Nat.reduceAdd, Nat.reduceMul, reduceIte, Nat.reduceEqDiff, reduceCtorEq, Nat.reducePow, Nat.reduceLeDiff, Int.reduceLE, Int.reduceLT, Int.reduceToNat, Int.reduceEq, Nat.reduceBEq, itsOf, gdA, byteI, opid, lenQ, ixQ, ldH, readAt, readCells, asCell, faQ, exQ, fldQ, partA, buildQ, slQ, stH, bslH, appH, dcells, convI, elemsOf, D.one, nilS, fillD, convN, cvH, tyGapB0, boolD]) | (with_reducible refine ⟨?_, ?_⟩; (· first | (obtain ⟨rfl⟩ := ‹Hq _ _›; with_reducible refine chk_ok ?_; kernel_rfl) | kernel_rfl)) | (with_reducible intro ops hops)))
        (first | refine Call_flat [] [] (hcL) (by simp [cvAs, cvA, cvRL, cvR, cvBox, cv1, cvL, cv0, bI, byteI, intD, boolD, proofD, elemsOf, upd]) rfl ?_ | refine CallF_flat [] [] [] (hcL) (fun G _ => by simp [cvAs, cvA, cvRL, cvR, cvBox, cv1, cvL, cv0, bI, byteI, intD, boolD, proofD, elemsOf, upd]) rfl ?_)
        (repeat (first | (simp -implicitDefEqProofs only [ev, mixed, Nat.reduceLT, Nat.reduceAdd, Nat.reduceMul, reduceIte, Nat.reduceEqDiff, reduceCtorEq, Nat.reducePow, Nat.reduceLeDiff, Int.reduceLE, Int.reduceLT, Int.reduceToNat, Int.reduceEq, Nat.reduceBEq, itsOf, gdA, byteI, opid, lenQ, ixQ, ldH, readAt, readCells, asCell, faQ, exQ, fldQ, partA, buildQ, slQ, stH, bslH, appH, dcells, convI, elemsOf, D.one, nilS, fillD, convN, cvH, tyGapB0, g1]) | (with_reducible refine ⟨?_, ?_⟩; (· first | (obtain ⟨rfl⟩ := ‹Hq _ _›; with_reducible refine chk_ok ?_; kernel_rfl) | kernel_rfl)) | (with_reducible intro ops hops)))
        (first | refine Call_flat [] [] (sR) (by simp [cvAs, cvA, cvRL, cvR, cvBox, cv1, cvL, cv0, bI, byteI, intD, boolD, proofD, elemsOf, upd]) rfl ?_ | refine CallF_flat [] [] [] (sR) (fun G _ => by simp [cvAs, cvA, cvRL, cvR, cvBox, cv1, cvL, cv0, bI, byteI, intD, boolD, proofD, elemsOf, upd]) rfl ?_)
        (repeat (first | (simp -implicitDefEqProofs only [ev, mixed, Nat.reduceLT, Nat.reduceAdd, Nat.reduceMul, reduceIte, Nat.reduceEqDiff, reduceCtorEq, Nat.reducePow, Nat.reduceLeDiff, Int.reduceLE, Int.reduceLT, Int.reduceToNat, Int.reduceEq, Nat.reduceBEq, itsOf, gdA, byteI, opid, lenQ, ixQ, ldH, readAt, readCells, asCell, faQ, exQ, fldQ, partA, buildQ, slQ, stH, bslH, appH, dcells, convI, elemsOf, D.one, nilS, fillD, convN, cvH, tyGapB0, boolD]) | (with_reducible refine ⟨?_, ?_⟩; (· first | (obtain ⟨rfl⟩ := ‹Hq _ _›; with_reducible refine chk_ok ?_; kernel_rfl) | kernel_rfl)) | (with_reducible intro ops hops)))
        (first | refine Call_flat [] [] (hcR) (by simp [cvAs, cvA, cvRL, cvR, cvBox, cv1, cvL, cv0, bI, byteI, intD, boolD, proofD, elemsOf, upd]) rfl ?_ | refine CallF_flat [] [] [] (hcR) (fun G _ => by simp [cvAs, cvA, cvRL, cvR, cvBox, cv1, cvL, cv0, bI, byteI, intD, boolD, proofD, elemsOf, upd]) rfl ?_)
        (repeat (first | (simp -implicitDefEqProofs only [ev, mixed, Nat.reduceLT, Nat.reduceAdd, Nat.reduceMul, reduceIte, Nat.reduceEqDiff, reduceCtorEq, Nat.reducePow, Nat.reduceLeDiff, Int.reduceLE, Int.reduceLT, Int.reduceToNat, Int.reduceEq, Nat.reduceBEq, itsOf, gdA, byteI, opid, lenQ, ixQ, ldH, readAt, readCells, asCell, faQ, exQ, fldQ, partA, buildQ, slQ, stH, bslH, appH, dcells, convI, elemsOf, D.one, nilS, fillD, convN, cvH, tyGapB0, g2]) | (with_reducible refine ⟨?_, ?_⟩; (· first | (obtain ⟨rfl⟩ := ‹Hq _ _›; with_reducible refine chk_ok ?_; kernel_rfl) | kernel_rfl)) | (with_reducible intro ops hops)))
        refine fin_ret [] rfl ?_
        simp [cv, cv1, cv0, upd, boolD]
      cases g3 : decide (ln = rn)
      all_goals
        refine callD_W 89 Try.func60 rfl rfl rfl (fun _ _ => rfl) ?_
        (repeat (first | (simp -implicitDefEqProofs only [ev, mixed, Nat.reduceLT, Nat.reduceAdd, Nat.reduceMul, reduceIte, Nat.reduceEqDiff, reduceCtorEq, Nat.reducePow, Nat.reduceLeDiff, Int.reduceLE, Int.reduceLT, Int.reduceToNat, Int.reduceEq, Nat.reduceBEq, itsOf, gdA, byteI, opid, lenQ, ixQ, ldH, readAt, readCells, asCell, faQ, exQ, fldQ, partA, buildQ, slQ, stH, bslH, appH, dcells, convI, elemsOf, D.one, nilS, fillD, convN, cvH, tyGapB0, gapD, boolD, intD]) | (with_reducible refine ⟨?_, ?_⟩; (· first | (obtain ⟨rfl⟩ := ‹Hq _ _›; with_reducible refine chk_ok ?_; kernel_rfl) | kernel_rfl)) | (with_reducible intro ops hops)))
        (first | refine Call_flat [] [] (sL) (by simp [cvAs, cvA, cvRL, cvR, cvBox, cv1, cvL, cv0, bI, byteI, intD, boolD, proofD, elemsOf, upd]) rfl ?_ | refine CallF_flat [] [] [] (sL) (fun G _ => by simp [cvAs, cvA, cvRL, cvR, cvBox, cv1, cvL, cv0, bI, byteI, intD, boolD, proofD, elemsOf, upd]) rfl ?_)
        (repeat (first | (simp -implicitDefEqProofs only [ev, mixed, Nat.reduceLT, Nat.reduceAdd, Nat.reduceMul, reduceIte, Nat.reduceEqDiff, reduceCtorEq, Nat.reducePow, Nat.reduceLeDiff, Int.reduceLE, Int.reduceLT, Int.reduceToNat, Int.reduceEq, Nat.reduceBEq, itsOf, gdA, byteI, opid, lenQ, ixQ, ldH, readAt, readCells, asCell, faQ, exQ, fldQ, partA, buildQ, slQ, stH, bslH, appH, dcells, convI, elemsOf, D.one, nilS, fillD, convN, cvH, tyGapB0, boolD]) | (with_reducible refine ⟨?_, ?_⟩; (· first | (obtain ⟨rfl⟩ := ‹Hq _ _›; with_reducible refine chk_ok ?_; kernel_rfl) | kernel_rfl)) | (with_reducible intro ops hops)))
        (first | refine Call_flat [] [] (hcL) (by simp [cvAs, cvA, cvRL, cvR, cvBox, cv1, cvL, cv0, bI, byteI, intD, boolD, proofD, elemsOf, upd]) rfl ?_ | refine CallF_flat [] [] [] (hcL) (fun G _ => by simp [cvAs, cvA, cvRL, cvR, cvBox, cv1, cvL, cv0, bI, byteI, intD, boolD, proofD, elemsOf, upd]) rfl ?_)
        (repeat (first | (simp -implicitDefEqProofs only [ev, mixed, Nat.reduceLT, Nat.reduceAdd, Nat.reduceMul, reduceIte, Nat.reduceEqDiff, reduceCtorEq, Nat.reducePow, Nat.reduceLeDiff, Int.reduceLE, Int.reduceLT, Int.reduceToNat, Int.reduceEq, Nat.reduceBEq, itsOf, gdA, byteI, opid, lenQ, ixQ, ldH, readAt, readCells, asCell, faQ, exQ, fldQ, partA, buildQ, slQ, stH, bslH, appH, dcells, convI, elemsOf, D.one, nilS, fillD, convN, cvH, tyGapB0, g1]) | (with_reducible refine ⟨?_, ?_⟩; (· first | (obtain ⟨rfl⟩ := ‹Hq _ _›; with_reducible refine chk_ok ?_; kernel_rfl) | kernel_rfl)) | (with_reducible intro ops hops)))
        (first | refine Call_flat [] [] (sR) (by simp [cvAs, cvA, cvRL, cvR, cvBox, cv1, cvL, cv0, bI, byteI, intD, boolD, proofD, elemsOf, upd]) rfl ?_ | refine CallF_flat [] [] [] (sR) (fun G _ => by simp [cvAs, cvA, cvRL, cvR, cvBox, cv1, cvL, cv0, bI, byteI, intD, boolD, proofD, elemsOf, upd]) rfl ?_)
        (repeat (first | (simp -implicitDefEqProofs only [ev, mixed, Nat.reduceLT, Nat.reduceAdd, Nat.reduceMul, reduceIte, Nat.reduceEqDiff, reduceCtorEq, Nat.reducePow, Nat.reduceLeDiff, Int.reduceLE, Int.reduceLT, Int.reduceToNat, Int.reduceEq, Nat.reduceBEq, itsOf, gdA, byteI, opid, lenQ, ixQ, ldH, readAt, readCells, asCell, faQ, exQ, fldQ, partA, buildQ, slQ, stH, bslH, appH, dcells, convI, elemsOf, D.one, nilS, fillD, convN, cvH, tyGapB0, boolD]) | (with_reducible refine ⟨?_, ?_⟩; (· first | (obtain ⟨rfl⟩ := ‹Hq _ _›; with_reducible refine chk_ok ?_; kernel_rfl) | kernel_rfl)) | (with_reducible intro ops hops)))
        (first | refine Call_flat [] [] (hcR) (by simp [cvAs, cvA, cvRL, cvR, cvBox, cv1, cvL, cv0, bI, byteI, intD, boolD, proofD, elemsOf, upd]) rfl ?_ | refine CallF_flat [] [] [] (hcR) (fun G _ => by simp [cvAs, cvA, cvRL, cvR, cvBox, cv1, cvL, cv0, bI, byteI, intD, boolD, proofD, elemsOf, upd]) rfl ?_)
        (repeat (first | (simp -implicitDefEqProofs only [ev, mixed, Nat.reduceLT, Nat.reduceAdd, Nat.reduceMul, reduceIte, Nat.reduceEqDiff, reduceCtorEq, Nat.reducePow, Nat.reduceLeDiff, Int.reduceLE, Int.reduceLT, Int.reduceToNat, Int.reduceEq, Nat.reduceBEq, itsOf, gdA, byteI, opid, lenQ, ixQ, ldH, readAt, readCells, asCell, faQ, exQ, fldQ, partA, buildQ, slQ, stH, bslH, appH, dcells, convI, elemsOf, D.one, nilS, fillD, convN, cvH, tyGapB0, g2, g3, hw]) | (with_reducible refine ⟨?_, ?_⟩; (· first | (obtain ⟨rfl⟩ := ‹Hq _ _›; with_reducible refine chk_ok ?_; kernel_rfl) | kernel_rfl)) | (with_reducible intro ops hops)))
        refine fin_ret [] rfl ?_
        simp [cv, cv1, cv0, upd, boolD]
end Go.Proofs.Ytdpfjmkilbepgaa
/- client.Member, Missing: by value. -/
set_option linter.all false
namespace Go.Proofs.Ytdpfjmkilbepgaa
open Go Go.Abs Go.RowKit Go.Proofs.Ytdpfjmkilbepgaa.Ty
attribute [simp, go_sem] proofD gapD bbI

def memberE (c : ClientD) (now h : Int) (key val : List UInt8) (p : ProofD) : Int :=
  if askedE c now = 0 then
    (match atC c h with
    | none => 6
    | some k => if activeC c now = true then (if p.k = key ∧ p.v = val ∧ shownF k.root p = true then 0 else 9) else 11)
  else askedE c now
def missingE (c : ClientD) (now h : Int) (key : List UInt8) (g : GapD) : Int :=
  if askedE c now = 0 then
    (match atC c h with
    | none => 6
    | some k => if activeC c now = true then (if absentF k.root key g = true then 0 else 9) else 11)
  else askedE c now
theorem last_mem {c : ClientD} (h : 1 ≤ c.known.length) : lastC c ∈ c.known := by
  unfold lastC
  rw [List.getLastD_eq_getLast?, List.getLast?_eq_getElem?, List.getElem?_eq_getElem (by omega)]
  exact List.getElem_mem _
theorem act_A {c : ClientD} {now : Int} (ok : ClOk c) (hn : 0 ≤ now ∧ now ≤ 1000000000000) : PureD Try.prog 49 [clientD c, intD now] (boolD (activeC c now)) := by
  have hl := ok.len
  have hk := (ok.k _ (last_mem hl.1)).t
  exact cactive_A c now (by omega) (by omega) (by omega) (by omega)
set_option maxHeartbeats 4000000
set_option maxRecDepth 20000
theorem cmember_A (c : ClientD) (now h : Int) (key val : List UInt8) (p : ProofD) (hl : c.known.length ≤ 1048576) :
    PureD Try.prog 16 [clientD c, intD now, intD h, .i (bI key), .i (bI val), proofD p] (intD (memberE c now h key val p)) := by
  refine hide_r fun R hR => ?_
  have c1 := casked_A c now hl
  unfold memberE at hR
  by_cases h1 : askedE c now = 0
  · obtain ⟨ok, hn, hfz⟩ := asked_zero.1 h1
    rw [if_pos h1] at hR
    rw [h1] at c1
    have c2 := cat_A c h ok.sm
    have c3 := act_A ok hn
    have c4 := equal_A p.k key
    have c5 := equal_A p.v val
    unfold atR at c2
    clear h1 ok hn hfz hl
    cases h2 : atC c h with
    | none =>
      rw [h2] at c2 hR
      simp only [zeroK] at c2
      clear h2
      refine callD_W 55 Try.func16 rfl rfl rfl (fun _ _ => rfl) ?_
      exact wkl trivial
    | some k =>
      rw [h2] at c2 hR
      simp only at c2 hR
      have c6 := shown_A k.root p
      clear h2
      generalize activeC c now = A at *
      generalize shownF k.root p = B at *
      by_cases m1 : p.k = key <;> by_cases m2 : p.v = val <;> simp only [m1, m2, true_and, false_and, decide_true, decide_false, if_false] at hR c4 c5
      all_goals
        refine callD_W 55 Try.func16 rfl rfl rfl (fun _ _ => rfl) ?_
        exact wkl trivial
  · rw [if_neg h1] at hR
    generalize askedE c now = W at *
    refine callD_W 55 Try.func16 rfl rfl rfl (fun _ _ => rfl) ?_
    exact wkl trivial
theorem cmissing_A (c : ClientD) (now h : Int) (key : List UInt8) (g : GapD) (hl : c.known.length ≤ 1048576) :
    PureD Try.prog 18 [clientD c, intD now, intD h, .i (bI key), gapD g] (intD (missingE c now h key g)) := by
  refine hide_r fun R hR => ?_
  have c1 := casked_A c now hl
  unfold missingE at hR
  by_cases h1 : askedE c now = 0
  · obtain ⟨ok, hn, hfz⟩ := asked_zero.1 h1
    rw [if_pos h1] at hR
    rw [h1] at c1
    have c2 := cat_A c h ok.sm
    have c3 := act_A ok hn
    unfold atR at c2
    clear h1 ok hn hfz hl
    cases h2 : atC c h with
    | none =>
      rw [h2] at c2 hR
      simp only [zeroK] at c2
      clear h2
      refine callD_W 40 Try.func18 rfl rfl rfl (fun _ _ => rfl) ?_
      exact wkl trivial
    | some k =>
      rw [h2] at c2 hR
      simp only at c2 hR
      have c6 := absent_A k.root key g
      clear h2
      generalize activeC c now = A at *
      generalize absentF k.root key g = B at *
      refine callD_W 40 Try.func18 rfl rfl rfl (fun _ _ => rfl) ?_
      exact wkl trivial
  · rw [if_neg h1] at hR
    generalize askedE c now = W at *
    refine callD_W 40 Try.func18 rfl rfl rfl (fun _ _ => rfl) ?_
    exact wkl trivial
end Go.Proofs.Ytdpfjmkilbepgaa
/- landref6.Num: by value. -/
set_option linter.all false
namespace Go.Proofs.Ytdpfjmkilbepgaa
open Go Go.Abs Go.RowKit Go.Proofs.Ytdpfjmkilbepgaa.Ty
theorem rnum_A (n : Int) : PureD Try.prog 48 [intD n] (boolD (numB n)) := by
  refine hide_r fun R hR => ?_
  unfold numB at hR
  by_cases h1 : 0 ≤ n <;> by_cases h2 : n ≤ 1000000000000 <;> simp only [h1, h2, true_and, false_and, decide_true, decide_false] at hR
  all_goals
    refine callD_W 9 Try.func48 rfl rfl rfl (fun _ _ => rfl) ?_
    exact wkl trivial
end Go.Proofs.Ytdpfjmkilbepgaa
/- A proof, a gap: from the row's data. -/
set_option linter.all false
namespace Go.Proofs.Ytdpfjmkilbepgaa
open Go Go.Abs Go.RowKit Go.Proofs.Ytdpfjmkilbepgaa.Ty

theorem dec_Proof {e : List I} (h : HasCs [.int .i64, .int .i64, .sl [.int .u8], .sl [.int .u8], .sl [.sl [.int .u8]]] e) : ∃ p : ProofD, e = formI p := by
  obtain ⟨x1, _, rfl, h1, h⟩ := hasCs_cons h
  obtain ⟨x2, _, rfl, h2, h⟩ := hasCs_cons h
  obtain ⟨x3, _, rfl, h3, h⟩ := hasCs_cons h
  obtain ⟨x4, _, rfl, h4, h⟩ := hasCs_cons h
  obtain ⟨x5, _, rfl, h5, h⟩ := hasCs_cons h
  obtain rfl := hasCs_nil h
  obtain ⟨a, rfl, _⟩ := dec_int h1
  obtain ⟨b, rfl, _⟩ := dec_int h2
  obtain ⟨c, rfl⟩ := dec_B h3
  obtain ⟨d, rfl⟩ := dec_B h4
  obtain ⟨q, rfl⟩ := dec_BB h5
  exact ⟨⟨a, b, c, d, q⟩, rfl⟩
def gapI (g : GapD) : List I := .s (.bool g.hl) :: .s (.bool g.hr) :: (formI g.left ++ formI g.right)
theorem dec_Gap {e : List I} (h : HasCs [.bool, .bool, .int .i64, .int .i64, .sl [.int .u8], .sl [.int .u8], .sl [.sl [.int .u8]], .int .i64, .int .i64, .sl [.int .u8], .sl [.int .u8], .sl [.sl [.int .u8]]] e) : ∃ g : GapD, e = gapI g := by
  obtain ⟨y1, _, rfl, k1, h⟩ := hasCs_cons h
  obtain ⟨y2, _, rfl, k2, h⟩ := hasCs_cons h
  obtain ⟨x1, _, rfl, h1, h⟩ := hasCs_cons h
  obtain ⟨x2, _, rfl, h2, h⟩ := hasCs_cons h
  obtain ⟨x3, _, rfl, h3, h⟩ := hasCs_cons h
  obtain ⟨x4, _, rfl, h4, h⟩ := hasCs_cons h
  obtain ⟨x5, _, rfl, h5, h⟩ := hasCs_cons h
  obtain ⟨p, rfl⟩ := dec_Proof h
  obtain ⟨a, rfl, _⟩ := dec_int h1
  obtain ⟨b, rfl, _⟩ := dec_int h2
  obtain ⟨c, rfl⟩ := dec_B h3
  obtain ⟨d, rfl⟩ := dec_B h4
  obtain ⟨q, rfl⟩ := dec_BB h5
  obtain ⟨u, rfl⟩ := dec_bool k1
  obtain ⟨v, rfl⟩ := dec_bool k2
  exact ⟨⟨u, v, ⟨a, b, c, d, q⟩, p⟩, rfl⟩
theorem proofD_formI (p : ProofD) : D.agg ((formI p).map .i) = proofD p := rfl
theorem gapD_gapI (g : GapD) : D.agg ((gapI g).map .i) = gapD g := rfl

end Go.Proofs.Ytdpfjmkilbepgaa
/- The law ClientFrozen: the walk. -/
set_option linter.all false
namespace Go.Proofs.Ytdpfjmkilbepgaa
open Go Go.Abs Go.RowKit Go.Proofs.Ytdpfjmkilbepgaa.Ty

set_option maxHeartbeats 4000000
set_option maxRecDepth 20000
theorem catch_frozen {c : ClientD} {a b : UpdD} {now : Int} (h : (catchC c a b now).2 = 0) : (catchC c a b now).1.frozen = true := by
  unfold catchC at h ⊢
  split at h
  · rename_i h1
    rw [if_pos h1]
    split at h
    · rename_i h2
      rw [if_pos h2]
      split at h
      · rename_i h3
        rw [if_pos h3]
        split at h
        · rename_i h4; rw [if_pos h4]
        · cases h
      · rename_i h3; exact absurd h h3
    · rename_i h2; exact absurd h h2
  · rename_i h1; exact absurd h h1
theorem asked_frozen {c : ClientD} {now : Int} (h : ClOk c) (hn : 0 ≤ now ∧ now ≤ 1000000000000) : askedE { c with frozen := true } now = 12 := by
  have : wrongC { c with frozen := true } = 0 := wrongC_zero.2 ⟨h.name, h.trust, h.len, h.k, h.rise⟩
  unfold askedE numB
  rw [if_pos this, if_pos (by simpa using hn)]; rfl
theorem walk_ClientFrozen (y0 : List I) (c : ClientD) (e0 : y0 = encC c) (y1 : List I) (a : UpdD) (e1 : y1 = encU a ∧ (∀ v ∈ a.sg.vals, Val64 v) ∧ (∀ x ∈ a.sg.votes, Vote64 x) ∧ (∀ v ∈ a.tr, Val64 v))
    (y2 : List I) (b : UpdD) (e2 : y2 = encU b ∧ (∀ v ∈ b.sg.vals, Val64 v) ∧ (∀ x ∈ b.sg.votes, Vote64 x) ∧ (∀ v ∈ b.tr, Val64 v)) (y3 : I) (now : Int) (e3 : y3 = .s (.int .i64 now) ∧ (Lit.int .i64 now).wf = true)
    (y4 : I) (h : Int) (e4 : y4 = .s (.int .i64 h) ∧ (Lit.int .i64 h).wf = true) (y5 : I) (key : List UInt8) (e5 : y5 = bI key) (y6 : I) (val : List UInt8) (e6 : y6 = bI val) (y7 : List I) (p : ProofD) (e7 : y7 = formI p) (y8 : List I) (g : GapD) (e8 : y8 = gapI g)
    (hb : bkL y0 + bkL y1 + bkL y2 + bkI y3 + bkI y4 + bkI y5 + bkI y6 + bkL y7 + bkL y8 ≤ 1048576) :
    ∃ Ds, PureD Try.prog 15 Ds (.i (.s (.bool true))) ∧ Ds = [.agg (y0.map .i), .agg (y1.map .i), .agg (y2.map .i), .i y3, .i y4, .i y5, .i y6, .agg (y7.map .i), .agg (y8.map .i)] := by
  subst e0
  obtain ⟨rfl, u1, u2, u3⟩ := e1
  obtain ⟨rfl, v1, v2, v3⟩ := e2
  obtain ⟨rfl, _⟩ := e3
  obtain ⟨rfl, _⟩ := e4
  subst e5
  subst e6
  subst e7
  subst e8
  refine ⟨_, ?_, rfl⟩
  rw [cl_agg, up_agg, up_agg, proofD_formI, gapD_gapI]
  have hc := cl_sm (c := c) (n := 1048576) (by omega) (by omega)
  have ha := up_sm (u := a) (n := 1048576) (by omega) (by omega) u1 u2 u3
  have hbb := up_sm (u := b) (n := 1048576) (by omega) (by omega) v1 v2 v3
  have hcl := hc.1.l
  clear hb u1 u2 u3 v1 v2 v3 hc
  have c1 := alive7_A
  have c2 := ccatch_A c a b now hcl ha hbb
  have c3 := cwrong_A c hcl
  have c4 := rnum_A now
  refine hide_r fun R hR => ?_
  have hcf := catch_frozen (c := c) (a := a) (b := b) (now := now)
  by_cases hw : wrongC c = 0 ∧ numB now = true
  · obtain ⟨hw, hn⟩ := hw
    have ok := wrongC_zero.1 hw
    have hn' : 0 ≤ now ∧ now ≤ 1000000000000 := by simpa [numB] using hn
    have haf := asked_frozen ok hn'
    have c5 := cfollow_A { c with frozen := true } a now hcl ha
    have c6 := ccatch_A { c with frozen := true } a b now hcl ha hbb
    have c7 := cmember_A { c with frozen := true } now h key val p hcl
    have c8 := cmissing_A { c with frozen := true } now h key g hcl
    have c9 := act_A (c := { c with frozen := true }) ⟨ok.name, ok.trust, ok.len, ok.k, ok.rise⟩ hn'
    rw [show followC { c with frozen := true } a now = (zeroC, 12) by unfold followC; rw [haf]; rfl] at c5
    rw [show catchC { c with frozen := true } a b now = (zeroC, 12) by unfold catchC; rw [haf]; rfl] at c6
    rw [show memberE { c with frozen := true } now h key val p = 12 by unfold memberE; rw [haf]; rfl] at c7
    rw [show missingE { c with frozen := true } now h key g = 12 by unfold missingE; rw [haf]; rfl] at c8
    rw [show activeC { c with frozen := true } now = false from rfl] at c9
    rw [hw] at c3
    rw [hn] at c4
    simp only [zeroC] at c5 c6
    clear ok hn' haf ha hbb hw hn
    generalize (catchC c a b now).2 = E at *
    generalize (catchC c a b now).1 = d at *
    by_cases he : E = 0
    · have hdf := hcf he
      clear hcf
      refine callD_W 97 Try.func15 rfl rfl rfl (fun _ _ => rfl) ?_
      exact wkl trivial
    · clear hcf
      refine callD_W 97 Try.func15 rfl rfl rfl (fun _ _ => rfl) ?_
      exact wkl trivial
  · clear ha hbb
    generalize (catchC c a b now).2 = E at *
    generalize (catchC c a b now).1 = d at *
    generalize wrongC c = W at *
    generalize numB now = B at *
    by_cases he : E = 0
    · have hdf := hcf he
      clear hcf
      by_cases h1 : W = 0
      · have h2 : B = false := by simpa [h1] using hw
        clear hw
        refine callD_W 97 Try.func15 rfl rfl rfl (fun _ _ => rfl) ?_
        exact wkl trivial
      · clear hw
        refine callD_W 97 Try.func15 rfl rfl rfl (fun _ _ => rfl) ?_
        exact wkl trivial
    · clear hcf
      by_cases h1 : W = 0
      · have h2 : B = false := by simpa [h1] using hw
        clear hw
        refine callD_W 97 Try.func15 rfl rfl rfl (fun _ _ => rfl) ?_
        exact wkl trivial
      · clear hw
        refine callD_W 97 Try.func15 rfl rfl rfl (fun _ _ => rfl) ?_
        exact wkl trivial
end Go.Proofs.Ytdpfjmkilbepgaa
/- The statement on landlaw7.ClientFrozen: for every input of bounded bulk it answers true and leaves its arguments as they were. -/
set_option linter.all false
namespace Go.Proofs.Ytdpfjmkilbepgaa.clientFrozen
open Go.ChangeShapes Go.WideShapes Go.ChangeAt Go.RowKit Go.Abs
set_option linter.unusedVariables false
set_option maxRecDepth 100000 in
theorem contract (H : Type) (enc : TypeId × Value → H) (W : World) (base : Nat) (args : Array Value) (ds gs : List (DataW H)) (before : List MemPlace)
    (hval : ∀ (j : Nat) t v, Try.f15.params[j]? = some t → args[j]? = some v → Value.okWide Try.prog W .any base t v)
    (hW : DataW.Whole enc Try.prog Try.f15.params.toList Rows.clientFrozenSpec.vars false W args.toList ds gs before) (hk : Rows.uptoSmall H (ds ++ gs) = true) :
    Calls Try.prog 15 args W fun e W' => ∃ v, e = .returned v ∧ Rows.clientFrozenSpec.post enc Try.prog Try.f15 false true false false W args v W' := by
  have hW' := hW
  obtain ⟨p, q, hA0, hV, rfl, hfz, hnd⟩ := hW'
  have hA : DataW.TrodAll enc Try.prog W 0 (fun _ => true) true Try.f15.params.toList args.toList ds p := hA0
  have hA1 := hA
  rw [Try.params15] at hA hval
  obtain ⟨v0, vs0, d0, ds0, p0, q0, hargs, rfl, rfl, h0, r0⟩ := trodAll_cons hA
  obtain ⟨v1, vs1, d1, ds1, p1, q1, rfl, rfl, rfl, h1, r1⟩ := trodAll_cons r0
  obtain ⟨v2, vs2, d2, ds2, p2, q2, rfl, rfl, rfl, h2, r2⟩ := trodAll_cons r1
  obtain ⟨v3, vs3, d3, ds3, p3, q3, rfl, rfl, rfl, h3, r3⟩ := trodAll_cons r2
  obtain ⟨v4, vs4, d4, ds4, p4, q4, rfl, rfl, rfl, h4, r4⟩ := trodAll_cons r3
  obtain ⟨v5, vs5, d5, ds5, p5, q5, rfl, rfl, rfl, h5, r5⟩ := trodAll_cons r4
  obtain ⟨v6, vs6, d6, ds6, p6, q6, rfl, rfl, rfl, h6, r6⟩ := trodAll_cons r5
  obtain ⟨v7, vs7, d7, ds7, p7, q7, rfl, rfl, rfl, h7, r7⟩ := trodAll_cons r6
  obtain ⟨v8, vs8, d8, ds8, p8, q8, rfl, rfl, rfl, h8, r8⟩ := trodAll_cons r7
  obtain ⟨rfl, rfl, rfl⟩ := trodAll_nil r8
  obtain rfl : args = #[v0, v1, v2, v3, v4, v5, v6, v7, v8] := by cases args; simp_all
  obtain ⟨rfl, rfl⟩ := trodVars_none hV
  have hb : Rows.uptoBulkAll (H := H) [d0, d1, d2, d3, d4, d5, d6, d7, d8] ≤ 1048576 := by have := of_decide_eq_true hk; simpa using this
  simp only [Rows.uptoBulkAll] at hb
  obtain ⟨y0, c0, w0, b0⟩ := open_ag R2.bulk Ty.sh24 Try.underlying24 (hval 0 24 v0 rfl rfl) h0
  obtain ⟨x0, e0⟩ := dec_Client c0
  obtain ⟨y1, c1, w1, b1⟩ := open_ag R2.bulk Ty.sh68 Try.underlying68 (hval 1 68 v1 rfl rfl) h1
  obtain ⟨x1, e1⟩ := dec_Upd c1
  obtain ⟨y2, c2, w2, b2⟩ := open_ag R2.bulk Ty.sh68 Try.underlying68 (hval 2 68 v2 rfl rfl) h2
  obtain ⟨x2, e2⟩ := dec_Upd c2
  obtain ⟨y3, c3, w3, b3⟩ := open_in R2.bulk Ty.sh3 Try.underlying3 (hval 3 3 v3 rfl rfl) h3
  obtain ⟨x3, e3⟩ := dec_int c3
  obtain ⟨y4, c4, w4, b4⟩ := open_in R2.bulk Ty.sh3 Try.underlying3 (hval 4 3 v4 rfl rfl) h4
  obtain ⟨x4, e4⟩ := dec_int c4
  obtain ⟨y5, c5, w5, b5⟩ := open_sl R2.bulk Ty.sh25 Try.underlying25 (hval 5 25 v5 rfl rfl) h5
  obtain ⟨x5, e5⟩ := dec_B c5
  obtain ⟨y6, c6, w6, b6⟩ := open_sl R2.bulk Ty.sh25 Try.underlying25 (hval 6 25 v6 rfl rfl) h6
  obtain ⟨x6, e6⟩ := dec_B c6
  obtain ⟨y7, c7, w7, b7⟩ := open_ag R2.bulk Ty.sh28 Try.underlying28 (hval 7 28 v7 rfl rfl) h7
  obtain ⟨x7, e7⟩ := dec_Proof c7
  obtain ⟨y8, c8, w8, b8⟩ := open_ag R2.bulk Ty.sh30 Try.underlying30 (hval 8 30 v8 rfl rfl) h8
  obtain ⟨x8, e8⟩ := dec_Gap c8
  have hy0 := e0
  have hy1 := e1
  have hy2 := e2
  have hy3 := e3
  have hy4 := e4
  have hy5 := e5
  have hy6 := e6
  have hy7 := e7
  have hy8 := e8
  simp only [List.append_nil] at hW
  obtain ⟨Ds, hp, hs⟩ := walk_ClientFrozen y0 x0 e0 y1 x1 e1 y2 x2 e2 y3 x3 e3 y4 x4 e4 y5 x5 e5 y6 x6 e6 y7 x7 e7 y8 x8 e8 (by omega)
  subst hs
  refine (pure_calls hp rfl (fun j d hd => ?_)).mono fun e W' ⟨he, bel⟩ => ?_
  · rcases j with _ | _ | _ | _ | _ | _ | _ | _ | _ | j <;> simp at hd <;> subst hd <;> assumption
  · subst he
    exact ⟨_, rfl, _, _, _, [], _, [], hW, trodAll_mk1 (shut_bool Try.underlying4 _), R2.trodAll_below hA1 bel (by rw [Try.params15]; decide +kernel), rfl, bel.frame _, fun h => by cases h⟩

set_option maxRecDepth 100000 in
theorem lifted (os : Os) (started : os.Started) (H : Type) (enc : TypeId × Value → H) (F : Stop.Interp) :
    ReturnsInHanded {} Try.checked os 15 .any ((Rows.OpenSpec.upto Rows.clientFrozenSpec).pre6 enc Try.prog Try.f15 Rows.clientFrozenUptoRow.domain false) (((Rows.OpenSpec.upto Rows.clientFrozenSpec).at F).post enc Try.prog Try.f15 false true false false) := by
  refine returnsInHanded_of_cond (C := Try.checked) (s := Rows.OpenSpec.upto Rows.clientFrozenSpec) (k := Rows.uptoSmall) rfl R2.own started (by kernel_rfl) Try.func15
    (OpenSpec.witness (enc := enc) (C := Try.checked) (s := Rows.OpenSpec.upto Rows.clientFrozenSpec) (k := Rows.uptoSmall) rfl false ⟨#[], #[.agg #[.string ⟨#[]⟩, .int .i64 0, .bool false, .slice none 0 0], .agg #[.int .i64 0, .string ⟨#[]⟩, .int .i64 0, .int .i64 0, .slice none 0 0, .slice none 0 0, .slice none 0 0, .slice none 0 0, .slice none 0 0, .slice none 0 0], .agg #[.int .i64 0, .string ⟨#[]⟩, .int .i64 0, .int .i64 0, .slice none 0 0, .slice none 0 0, .slice none 0 0, .slice none 0 0, .slice none 0 0, .slice none 0 0], .int .i64 0, .int .i64 0, .slice none 0 0, .slice none 0 0, .agg #[.int .i64 0, .int .i64 0, .slice none 0 0, .slice none 0 0, .slice none 0 0], .agg #[.bool false, .bool false, .int .i64 0, .int .i64 0, .slice none 0 0, .slice none 0 0, .slice none 0 0, .int .i64 0, .int .i64 0, .slice none 0 0, .slice none 0 0, .slice none 0 0]], []⟩ 20 (by kernel_rfl) (by kernel_rfl) (by kernel_rfl)
      (x := ([.agg [.lit (.string []), .lit (.int .i64 0), .lit (.bool false), .nil], .agg [.lit (.int .i64 0), .agg [.agg [.lit (.string []), .lit (.int .i64 0), .lit (.int .i64 0), .nil, .nil, .nil], .nil, .nil], .nil], .agg [.lit (.int .i64 0), .agg [.agg [.lit (.string []), .lit (.int .i64 0), .lit (.int .i64 0), .nil, .nil, .nil], .nil, .nil], .nil], .lit (.int .i64 0), .lit (.int .i64 0), .nil, .nil, .agg [.lit (.int .i64 0), .lit (.int .i64 0), .nil, .nil, .nil], .agg [.lit (.bool false), .lit (.bool false), .agg [.lit (.int .i64 0), .lit (.int .i64 0), .nil, .nil, .nil], .agg [.lit (.int .i64 0), .lit (.int .i64 0), .nil, .nil, .nil]]], [], [])) (by kernel_rfl) rfl (by kernel_rfl)) ?_
  intro W base args ds gs before hval hW _ hk _
  exact contract H enc W base args ds gs before hval hW hk

theorem over : Rows.clientFrozenUptoRow.holds Try.pinned (Rows.OpenSpec.upto Rows.clientFrozenSpec) :=
  OpenClaim.holds_of_cond 15 Try.f15 rfl rfl rfl rfl rfl rfl rfl ⟨rfl, rfl, rfl, rfl, rfl⟩ rfl rfl rfl rfl rfl (by kernel_rfl) Try.func15 (by kernel_rfl)
    (of_decide_eq_true (by kernel_rfl)) (by unfold Func.isWrapper; first | (rw [if_pos (by decide +kernel)]; kernel_rfl) | (rw [if_neg (by decide +kernel)]; exact ⟨rfl, rfl⟩))
    (fun os started H enc _ F => lifted os started H enc F)

/-- THE STATEMENT. -/
theorem proved : Rows.ClientFrozenUptoSaid := over
end Go.Proofs.Ytdpfjmkilbepgaa.clientFrozen
