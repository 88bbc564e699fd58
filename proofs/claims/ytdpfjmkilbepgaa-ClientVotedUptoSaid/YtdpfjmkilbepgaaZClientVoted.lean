/- The statement on ClientVoted, with the last texts of its proof: for every input of bounded bulk the law answers true and leaves its arguments as they were. -/
import Derived.Test.YtdpfjmkilbepgaaShaD
import Derived.Test.YtdpfjmkilbepgaaAbs4
import Derived.Test.YtdpfjmkilbepgaaHdD
import Derived.Test.YtdpfjmkilbepgaaClM
import Derived.Test.YtdpfjmkilbepgaaTy
import Derived.Test.YtdpfjmkilbepgaaClD
import Derived.Test.YtdpfjmkilbepgaaBits
import Derived.Test.YtdpfjmkilbepgaaShaS
import Derived.Test.YtdpfjmkilbepgaaHor
import Derived.Test.YtdpfjmkilbepgaaWWrite
import Derived.Test.YtdpfjmkilbepgaaHdB
import Derived.Test.YtdpfjmkilbepgaaRow2
/- What the rows hand in: lists of bytes. -/
set_option linter.all false
namespace Go.Proofs.Ytdpfjmkilbepgaa
open Go Go.Abs Go.RowKit

theorem dec_bb {e : List I} (h : HasCs [.sl [.int .u8]] e) : ∃ b : List UInt8, e = [bI b] ∧ True := by
  obtain ⟨x, _, rfl, hx, h⟩ := hasCs_cons h
  obtain rfl := hasCs_nil h
  obtain ⟨a, rfl⟩ := dec_B hx
  exact ⟨a, rfl, trivial⟩
theorem dec_BB {x : I} (h : HasC (.sl [.sl [.int .u8]]) x) : ∃ l : List (List UInt8), x = bbI l := by
  obtain ⟨l, h1, _⟩ := dec_list (fun _ he => dec_bb he) h
  exact ⟨l, h1⟩
theorem bb_small {l : List (List UInt8)} {n : Nat} (h : bkI (bbI l) ≤ n) : l.length ≤ n ∧ ∀ b ∈ l, b.length ≤ n := by
  refine ⟨Nat.le_trans (bk_len (fun b => [bI b]) l) h, fun b hb => ?_⟩
  have h1 := bk_mem (fun b => [bI b]) hb
  have h2 := bk_B b
  simp only [bkL] at h1
  unfold bbI at h
  omega
end Go.Proofs.Ytdpfjmkilbepgaa
/- What the rows hand in: validators, headers, what is signed. -/
set_option linter.all false
namespace Go.Proofs.Ytdpfjmkilbepgaa
open Go Go.Abs Go.RowKit Go.Proofs.Ytdpfjmkilbepgaa.Ty

def Val64 (v : ValD) : Prop := v.k < 18446744073709551616 ∧ v.p < 18446744073709551616
theorem dec_Val {e : List I} (h : HasCs [.int .u64, .int .u64] e) : ∃ v : ValD, e = encV v ∧ Val64 v := by
  obtain ⟨x, _, rfl, hx, h⟩ := hasCs_cons h
  obtain ⟨y, _, rfl, hy, h⟩ := hasCs_cons h
  obtain rfl := hasCs_nil h
  obtain ⟨a, rfl, ha⟩ := dec_u64 hx
  obtain ⟨b, rfl, hb⟩ := dec_u64 hy
  exact ⟨⟨a, b⟩, rfl, ha, hb⟩
theorem dec_Vals {x : I} (h : HasC (.sl [.int .u64, .int .u64]) x) : ∃ l : List ValD, x = valsI l ∧ ∀ v ∈ l, Val64 v := dec_list (fun _ he => dec_Val he) h
def Vote64 (x : VoteD) : Prop := x.r < 18446744073709551616 ∧ x.s < 18446744073709551616
theorem dec_Vote {e : List I} (h : HasCs [.bool, .int .u64, .int .u64] e) : ∃ v : VoteD, e = encX v ∧ Vote64 v := by
  obtain ⟨x, _, rfl, hx, h⟩ := hasCs_cons h
  obtain ⟨y, _, rfl, hy, h⟩ := hasCs_cons h
  obtain ⟨z, _, rfl, hz, h⟩ := hasCs_cons h
  obtain rfl := hasCs_nil h
  obtain ⟨a, rfl⟩ := dec_bool hx
  obtain ⟨b, rfl, hb⟩ := dec_u64 hy
  obtain ⟨c, rfl, hc⟩ := dec_u64 hz
  exact ⟨⟨a, b, c⟩, rfl, hb, hc⟩
theorem dec_Votes {x : I} (h : HasC (.sl [.bool, .int .u64, .int .u64]) x) : ∃ l : List VoteD, x = votesI l ∧ ∀ v ∈ l, Vote64 v := dec_list (fun _ he => dec_Vote he) h
theorem dec_Hdr {e : List I} (h : HasCs [.str, .int .i64, .int .i64, .sl [.int .u8], .sl [.int .u8], .sl [.int .u8]] e) : ∃ a : HdrD, e = encH a := by
  obtain ⟨x1, _, rfl, h1, h⟩ := hasCs_cons h
  obtain ⟨x2, _, rfl, h2, h⟩ := hasCs_cons h
  obtain ⟨x3, _, rfl, h3, h⟩ := hasCs_cons h
  obtain ⟨x4, _, rfl, h4, h⟩ := hasCs_cons h
  obtain ⟨x5, _, rfl, h5, h⟩ := hasCs_cons h
  obtain ⟨x6, _, rfl, h6, h⟩ := hasCs_cons h
  obtain rfl := hasCs_nil h
  obtain ⟨c, rfl, _⟩ := dec_str h1
  obtain ⟨a, rfl, _⟩ := dec_int h2
  obtain ⟨b, rfl, _⟩ := dec_int h3
  obtain ⟨u, rfl⟩ := dec_B h4
  obtain ⟨v, rfl⟩ := dec_B h5
  obtain ⟨w, rfl⟩ := dec_B h6
  exact ⟨⟨c, a, b, u, v, w⟩, rfl⟩
theorem dec_Signed {e : List I} (h : HasCs [.str, .int .i64, .int .i64, .sl [.int .u8], .sl [.int .u8], .sl [.int .u8], .sl [.int .u64, .int .u64], .sl [.bool, .int .u64, .int .u64]] e) : ∃ s : SignedD, e = encS s ∧ (∀ v ∈ s.vals, Val64 v) ∧ ∀ x ∈ s.votes, Vote64 x := by
  obtain ⟨x1, _, rfl, h1, h⟩ := hasCs_cons h
  obtain ⟨x2, _, rfl, h2, h⟩ := hasCs_cons h
  obtain ⟨x3, _, rfl, h3, h⟩ := hasCs_cons h
  obtain ⟨x4, _, rfl, h4, h⟩ := hasCs_cons h
  obtain ⟨x5, _, rfl, h5, h⟩ := hasCs_cons h
  obtain ⟨x6, _, rfl, h6, h⟩ := hasCs_cons h
  obtain ⟨x7, _, rfl, h7, h⟩ := hasCs_cons h
  obtain ⟨x8, _, rfl, h8, h⟩ := hasCs_cons h
  obtain rfl := hasCs_nil h
  obtain ⟨c, rfl, _⟩ := dec_str h1
  obtain ⟨a, rfl, _⟩ := dec_int h2
  obtain ⟨b, rfl, _⟩ := dec_int h3
  obtain ⟨u, rfl⟩ := dec_B h4
  obtain ⟨v, rfl⟩ := dec_B h5
  obtain ⟨w, rfl⟩ := dec_B h6
  obtain ⟨l, rfl, hl⟩ := dec_Vals h7
  obtain ⟨m, rfl, hm⟩ := dec_Votes h8
  exact ⟨⟨⟨c, a, b, u, v, w⟩, l, m⟩, rfl, hl, hm⟩
theorem hdr_agg (h : HdrD) : D.agg ((encH h).map .i) = hdrD h := rfl
theorem sgn_agg (s : SignedD) : D.agg ((encS s).map .i) = signedD s := rfl
theorem hdr_sm {h : HdrD} {n : Nat} (hb : bkL (encH h) ≤ n) (hn : n ≤ 1048576) : HdrSm h := by
  have h1 := bk_B h.root
  have h2 := bk_B h.vals
  have h3 := bk_B h.next
  simp only [bkL, encH, bkI] at hb
  exact ⟨by omega, by omega, by omega, by omega⟩
theorem bkLL_two {α : Type} {enc : α → List I} {k : Nat} (hk : ∀ a, bkL (enc a) = k) (l : List α) : bkI (.sl (l.map enc)) = l.length * (1 + k) := by
  rw [bk_map]
  induction l with
  | nil => simp
  | cons a t ih => rw [List.map_cons, List.sum_cons, ih, hk, List.length_cons, Nat.add_mul]; omega
theorem seeds_of {l : List (List UInt8)} {n : Nat} (h : bkI (bbI l) ≤ n) (hn : n ≤ 1048576) : SeedsSm l := by
  have := bb_small h
  exact ⟨by omega, fun s hs => by have := this.2 s hs; omega⟩
theorem vals_len {l : List ValD} {n : Nat} (h : bkI (valsI l) ≤ n) (hn : n ≤ 1048576) : l.length ≤ 1048576 := by
  have := bk_len encV l
  unfold valsI at h; omega
end Go.Proofs.Ytdpfjmkilbepgaa
/- What the rows hand in: what is known, clients, updates. -/
set_option linter.all false
namespace Go.Proofs.Ytdpfjmkilbepgaa
open Go Go.Abs Go.RowKit Go.Proofs.Ytdpfjmkilbepgaa.Ty

theorem dec_Kn {e : List I} (h : HasCs [.int .i64, .int .i64, .sl [.int .u8], .sl [.int .u8]] e) : ∃ k : KnownD, e = encK k ∧ True := by
  obtain ⟨x1, _, rfl, h1, h⟩ := hasCs_cons h
  obtain ⟨x2, _, rfl, h2, h⟩ := hasCs_cons h
  obtain ⟨x3, _, rfl, h3, h⟩ := hasCs_cons h
  obtain ⟨x4, _, rfl, h4, h⟩ := hasCs_cons h
  obtain rfl := hasCs_nil h
  obtain ⟨a, rfl, _⟩ := dec_int h1
  obtain ⟨b, rfl, _⟩ := dec_int h2
  obtain ⟨u, rfl⟩ := dec_B h3
  obtain ⟨v, rfl⟩ := dec_B h4
  exact ⟨⟨a, b, u, v⟩, rfl, trivial⟩
theorem dec_Known {e : List I} (h : HasCs [.int .i64, .int .i64, .sl [.int .u8], .sl [.int .u8]] e) : ∃ k : KnownD, e = encK k := by
  obtain ⟨k, e, _⟩ := dec_Kn h
  exact ⟨k, e⟩
theorem dec_Client {e : List I} (h : HasCs [.str, .int .i64, .bool, .sl [.int .i64, .int .i64, .sl [.int .u8], .sl [.int .u8]]] e) : ∃ c : ClientD, e = encC c := by
  obtain ⟨x1, _, rfl, h1, h⟩ := hasCs_cons h
  obtain ⟨x2, _, rfl, h2, h⟩ := hasCs_cons h
  obtain ⟨x3, _, rfl, h3, h⟩ := hasCs_cons h
  obtain ⟨x4, _, rfl, h4, h⟩ := hasCs_cons h
  obtain rfl := hasCs_nil h
  obtain ⟨a, rfl, _⟩ := dec_str h1
  obtain ⟨b, rfl, _⟩ := dec_int h2
  obtain ⟨f, rfl⟩ := dec_bool h3
  obtain ⟨l, rfl, _⟩ := dec_list (fun _ he => dec_Kn he) h4
  exact ⟨⟨a, b, f, l⟩, rfl⟩
theorem dec_Upd {e : List I} (h : HasCs [.int .i64, .str, .int .i64, .int .i64, .sl [.int .u8], .sl [.int .u8], .sl [.int .u8], .sl [.int .u64, .int .u64], .sl [.bool, .int .u64, .int .u64], .sl [.int .u64, .int .u64]] e) :
    ∃ u : UpdD, e = encU u ∧ (∀ v ∈ u.sg.vals, Val64 v) ∧ (∀ x ∈ u.sg.votes, Vote64 x) ∧ (∀ v ∈ u.tr, Val64 v) := by
  obtain ⟨x0, _, rfl, h0, h⟩ := hasCs_cons h
  obtain ⟨x1, _, rfl, h1, h⟩ := hasCs_cons h
  obtain ⟨x2, _, rfl, h2, h⟩ := hasCs_cons h
  obtain ⟨x3, _, rfl, h3, h⟩ := hasCs_cons h
  obtain ⟨x4, _, rfl, h4, h⟩ := hasCs_cons h
  obtain ⟨x5, _, rfl, h5, h⟩ := hasCs_cons h
  obtain ⟨x6, _, rfl, h6, h⟩ := hasCs_cons h
  obtain ⟨x7, _, rfl, h7, h⟩ := hasCs_cons h
  obtain ⟨x8, _, rfl, h8, h⟩ := hasCs_cons h
  obtain ⟨x9, _, rfl, h9, h⟩ := hasCs_cons h
  obtain rfl := hasCs_nil h
  obtain ⟨f, rfl, _⟩ := dec_int h0
  obtain ⟨c, rfl, _⟩ := dec_str h1
  obtain ⟨a, rfl, _⟩ := dec_int h2
  obtain ⟨b, rfl, _⟩ := dec_int h3
  obtain ⟨u, rfl⟩ := dec_B h4
  obtain ⟨v, rfl⟩ := dec_B h5
  obtain ⟨w, rfl⟩ := dec_B h6
  obtain ⟨l, rfl, hl⟩ := dec_Vals h7
  obtain ⟨m, rfl, hm⟩ := dec_Votes h8
  obtain ⟨t, rfl, ht⟩ := dec_Vals h9
  exact ⟨⟨f, ⟨⟨c, a, b, u, v, w⟩, l, m⟩, t⟩, rfl, hl, hm, ht⟩
theorem cl_agg (c : ClientD) : D.agg ((encC c).map .i) = clientD c := rfl
theorem up_agg (u : UpdD) : D.agg ((encU u).map .i) = updD u := rfl
theorem kn_agg (k : KnownD) : D.agg ((encK k).map .i) = knownD k := rfl
theorem kn_bk (k : KnownD) : bkL (encK k) = k.root.length + k.next.length := by
  have h1 := bk_B k.root
  have h2 := bk_B k.next
  simp only [bkL, encK, bkI, h1, h2]; omega
theorem cl_sm {c : ClientD} {n : Nat} (hb : bkL (encC c) ≤ n) (hn : n ≤ 1048576) : ClSm c ∧ c.c.size ≤ 1048576 := by
  have h1 := bk_len encK c.known
  have h2 := fun k (hk : k ∈ c.known) => bk_mem encK hk
  simp only [bkL, encC, bkI, knownI] at hb h1 h2
  refine ⟨⟨by omega, fun k hk => ?_⟩, by omega⟩
  have h3 := h2 k hk
  rw [kn_bk] at h3
  exact ⟨by omega, by omega⟩
theorem up_sm {u : UpdD} {n : Nat} (hb : bkL (encU u) ≤ n) (hn : n ≤ 1048576) (h1 : ∀ v ∈ u.sg.vals, Val64 v) (h2 : ∀ x ∈ u.sg.votes, Vote64 x) (h3 : ∀ v ∈ u.tr, Val64 v) : UpSm u := by
  have k1 := bk_B u.sg.hdr.root
  have k2 := bk_B u.sg.hdr.vals
  have k3 := bk_B u.sg.hdr.next
  have k4 := bk_len encV u.sg.vals
  have k5 := bk_len encV u.tr
  simp only [encU, encS, valsI, votesI, List.cons_append, List.nil_append, bkL, bkI, k1, k2, k3] at hb k4 k5
  exact ⟨⟨⟨by omega, by omega, by omega, by omega⟩, by omega, h1, h2⟩, by omega, h3, by omega⟩
end Go.Proofs.Ytdpfjmkilbepgaa
/- The contract of landref1.Same, by the abstract walk. -/
set_option linter.all false
namespace Go.Proofs.Ytdpfjmkilbepgaa
open Go Go.Abs Go.RowKit Go.Proofs.Ytdpfjmkilbepgaa.Ty
theorem tyR1Same0 : (type_of% @Ty.T3) ∧ (type_of% @Ty.T5) ∧ (type_of% @Ty.T25) := ⟨@Ty.T3, @Ty.T5, @Ty.T25⟩

set_option maxHeartbeats 1000000
theorem same_A (x y : List UInt8) (hx : x.length ≤ 1099511627776) : PureD Try.prog 25 [.i (bI x), .i (bI y)] (.i (.s (.bool (decide (x = y))))) := by
  refine callD_W 26 Try.func25 rfl rfl rfl (fun _ _ => rfl) ?_
  (repeat (first | (simp -implicitDefEqProofs only [ev, mixed, Nat.reduceLT, Nat.reduceAdd, Nat.reduceMul, reduceIte, Nat.reduceEqDiff, reduceCtorEq, Nat.reducePow, Nat.reduceLeDiff, Int.reduceLE, Int.reduceLT, Int.reduceToNat, Int.reduceEq, Nat.reduceBEq, itsOf, gdA, byteI, opid, lenQ, ixQ, ldH, readAt, readCells, asCell, faQ, exQ, fldQ, partA, buildQ, slQ, stH, bslH, appH, dcells, convI, elemsOf, D.one, nilS, fillD, convN, cvH, tyR1Same0, bI]) | (with_reducible refine ⟨?_, ?_⟩; (· first | (obtain ⟨rfl⟩ := ‹Hq _ _›; with_reducible refine chk_ok ?_; kernel_rfl) | kernel_rfl)) | (with_reducible intro ops hops)))
  refine Wc_split (fun h => ?_) (fun h => ?_)
  · (repeat (first | (simp -implicitDefEqProofs only [ev, mixed, Nat.reduceLT, Nat.reduceAdd, Nat.reduceMul, reduceIte, Nat.reduceEqDiff, reduceCtorEq, Nat.reducePow, Nat.reduceLeDiff, Int.reduceLE, Int.reduceLT, Int.reduceToNat, Int.reduceEq, Nat.reduceBEq, itsOf, gdA, byteI, opid, lenQ, ixQ, ldH, readAt, readCells, asCell, faQ, exQ, fldQ, partA, buildQ, slQ, stH, bslH, appH, dcells, convI, elemsOf, D.one, nilS, fillD, convN, cvH, tyR1Same0, bI]) | (with_reducible refine ⟨?_, ?_⟩; (· first | (obtain ⟨rfl⟩ := ‹Hq _ _›; with_reducible refine chk_ok ?_; kernel_rfl) | kernel_rfl)) | (with_reducible intro ops hops)))
    refine fin_ret [] rfl ?_
    have : x ≠ y := by intro e; subst e; simp at h
    simp [cv, cv1, cv0, upd, this]
  · have hl : x.length = y.length := by simp at h; omega
    clear h
    (repeat (first | (simp -implicitDefEqProofs only [ev, mixed, Nat.reduceLT, Nat.reduceAdd, Nat.reduceMul, reduceIte, Nat.reduceEqDiff, reduceCtorEq, Nat.reducePow, Nat.reduceLeDiff, Int.reduceLE, Int.reduceLT, Int.reduceToNat, Int.reduceEq, Nat.reduceBEq, itsOf, gdA, byteI, opid, lenQ, ixQ, ldH, readAt, readCells, asCell, faQ, exQ, fldQ, partA, buildQ, slQ, stH, bslH, appH, dcells, convI, elemsOf, D.one, nilS, fillD, convN, cvH, tyR1Same0, bI]) | (with_reducible refine ⟨?_, ?_⟩; (· first | (obtain ⟨rfl⟩ := ‹Hq _ _›; with_reducible refine chk_ok ?_; kernel_rfl) | kernel_rfl)) | (with_reducible intro ops hops)))
    refine W_loop (ι := { k : Nat // k ≤ x.length ∧ x.take k = y.take k }) (fun k => stOf [(0, .i (.sl (x.map byteI))), (1, .i (.sl (y.map byteI))), (12, .i (.s (.int .i64 x.length))), (13, .i (.s (.int .i64 (k.1 : Nat))))] []) (fun k => x.length - k.1) ⟨0, by simp⟩ ?_ ?_
    · refine le_stOf _ _ [] [] ?_ ?_ rfl rfl
      · simp [cv, cv1, cv0, upd, lk]
      · simp
    · rintro ⟨k, hk, ht⟩
      rw [stOf_eq]
      (repeat (first | (simp -implicitDefEqProofs only [ev, mixed, Nat.reduceLT, Nat.reduceAdd, Nat.reduceMul, reduceIte, Nat.reduceEqDiff, reduceCtorEq, Nat.reducePow, Nat.reduceLeDiff, Int.reduceLE, Int.reduceLT, Int.reduceToNat, Int.reduceEq, Nat.reduceBEq, itsOf, gdA, byteI, opid, lenQ, ixQ, ldH, readAt, readCells, asCell, faQ, exQ, fldQ, partA, buildQ, slQ, stH, bslH, appH, dcells, convI, elemsOf, D.one, nilS, fillD, convN, cvH, tyR1Same0]) | (with_reducible refine ⟨?_, ?_⟩; (· first | (obtain ⟨rfl⟩ := ‹Hq _ _›; with_reducible refine chk_ok ?_; kernel_rfl) | kernel_rfl)) | (with_reducible intro ops hops)))
      refine Wc_split (fun h => ?_) (fun h => ?_)
      · have hlt : k < x.length := by simp at h; omega
        clear h
        have e1 : (x.map byteI)[k]? = some [.s (.int .u8 (x[k].toNat : Int))] := by simp [hlt, byteI]
        have e2 : (y.map byteI)[k]? = some [.s (.int .u8 ((y[k]'(by omega)).toNat : Int))] := by simp [show k < y.length by omega, byteI]
        (repeat (first | (simp -implicitDefEqProofs only [ev, mixed, Nat.reduceLT, Nat.reduceAdd, Nat.reduceMul, reduceIte, Nat.reduceEqDiff, reduceCtorEq, Nat.reducePow, Nat.reduceLeDiff, Int.reduceLE, Int.reduceLT, Int.reduceToNat, Int.reduceEq, Nat.reduceBEq, itsOf, gdA, byteI, opid, lenQ, ixQ, ldH, readAt, readCells, asCell, faQ, exQ, fldQ, partA, buildQ, slQ, stH, bslH, appH, dcells, convI, elemsOf, D.one, nilS, fillD, convN, cvH, tyR1Same0, e1, e2]) | (with_reducible refine ⟨?_, ?_⟩; (· first | (obtain ⟨rfl⟩ := ‹Hq _ _›; with_reducible refine chk_ok ?_; kernel_rfl) | kernel_rfl)) | (with_reducible intro ops hops)))
        refine Wc_split (fun h => ?_) (fun h => ?_)
        · (repeat (first | (simp -implicitDefEqProofs only [ev, mixed, Nat.reduceLT, Nat.reduceAdd, Nat.reduceMul, reduceIte, Nat.reduceEqDiff, reduceCtorEq, Nat.reducePow, Nat.reduceLeDiff, Int.reduceLE, Int.reduceLT, Int.reduceToNat, Int.reduceEq, Nat.reduceBEq, itsOf, gdA, byteI, opid, lenQ, ixQ, ldH, readAt, readCells, asCell, faQ, exQ, fldQ, partA, buildQ, slQ, stH, bslH, appH, dcells, convI, elemsOf, D.one, nilS, fillD, convN, cvH, tyR1Same0]) | (with_reducible refine ⟨?_, ?_⟩; (· first | (obtain ⟨rfl⟩ := ‹Hq _ _›; with_reducible refine chk_ok ?_; kernel_rfl) | kernel_rfl)) | (with_reducible intro ops hops)))
          refine fin_ret [] rfl ?_
          have : x ≠ y := by intro e; subst e; simp at h
          simp [cv, cv1, cv0, upd, this]
        · have hb : x[k] = y[k] := UInt8.toNat_inj.1 (by simp at h; omega)
          clear h
          have hw : IntKind.i64.wrap ((k : Int) + 1) = ((k + 1 : Nat) : Int) := by rw [wrap64 (by omega) (by omega)]; omega
          (repeat (first | (simp -implicitDefEqProofs only [ev, mixed, Nat.reduceLT, Nat.reduceAdd, Nat.reduceMul, reduceIte, Nat.reduceEqDiff, reduceCtorEq, Nat.reducePow, Nat.reduceLeDiff, Int.reduceLE, Int.reduceLT, Int.reduceToNat, Int.reduceEq, Nat.reduceBEq, itsOf, gdA, byteI, opid, lenQ, ixQ, ldH, readAt, readCells, asCell, faQ, exQ, fldQ, partA, buildQ, slQ, stH, bslH, appH, dcells, convI, elemsOf, D.one, nilS, fillD, convN, cvH, tyR1Same0, hw]) | (with_reducible refine ⟨?_, ?_⟩; (· first | (obtain ⟨rfl⟩ := ‹Hq _ _›; with_reducible refine chk_ok ?_; kernel_rfl) | kernel_rfl)) | (with_reducible intro ops hops)))
          refine ⟨⟨k + 1, hlt, ?_⟩, le_stOf _ _ [] [] ?_ ?_ rfl rfl, ?_⟩
          · rw [List.take_succ_eq_append_getElem hlt, List.take_succ_eq_append_getElem (by omega), ht, hb]
          · simp [cv, cv1, cv0, upd, lk]
          · simp
          · simp; omega
      · have hk' : k = x.length := by simp at h; omega
        subst hk'
        (repeat (first | (simp -implicitDefEqProofs only [ev, mixed, Nat.reduceLT, Nat.reduceAdd, Nat.reduceMul, reduceIte, Nat.reduceEqDiff, reduceCtorEq, Nat.reducePow, Nat.reduceLeDiff, Int.reduceLE, Int.reduceLT, Int.reduceToNat, Int.reduceEq, Nat.reduceBEq, itsOf, gdA, byteI, opid, lenQ, ixQ, ldH, readAt, readCells, asCell, faQ, exQ, fldQ, partA, buildQ, slQ, stH, bslH, appH, dcells, convI, elemsOf, D.one, nilS, fillD, convN, cvH, tyR1Same0]) | (with_reducible refine ⟨?_, ?_⟩; (· first | (obtain ⟨rfl⟩ := ‹Hq _ _›; with_reducible refine chk_ok ?_; kernel_rfl) | kernel_rfl)) | (with_reducible intro ops hops)))
        refine fin_ret [] rfl ?_
        have : x = y := by rw [List.take_length, hl, List.take_length] at ht; exact ht
        simp [cv, cv1, cv0, upd, this]
end Go.Proofs.Ytdpfjmkilbepgaa
/- landlaw7.known, alive. -/
set_option linter.all false
namespace Go.Proofs.Ytdpfjmkilbepgaa
open Go Go.Abs Go.RowKit Go.Proofs.Ytdpfjmkilbepgaa.Ty

set_option maxHeartbeats 4000000
def k07 : KnownD := ⟨1, 5, List.replicate 32 0, List.replicate 32 0⟩
def c07 : ClientD := ⟨⟨#[97]⟩, 10, false, [k07]⟩
theorem known7_A : PureD Try.prog 85 [] (knownD k07) := by
  refine hide_r fun R hR => ?_
  have hz : List.replicate 32 [I.s (.int .u8 0)] = (List.replicate 32 (0 : UInt8)).map byteI := rfl
  unfold k07 at hR
  have m1 := fun {e : TypeId} {l c : Int} {H : Nat → Ob} {id : Nat} => mk_fresh (P := Try.prog) (e := e) (l := l) (c := c) (H := H) (id := id)
  refine callD_W 6 Try.func85 rfl rfl rfl (fun _ _ => rfl) ?_
  exact wkl trivial
theorem new7 : newC ⟨#[97]⟩ 10 k07 = (c07, 0) := by
  have : wrongC ⟨⟨#[97]⟩, 10, false, [k07]⟩ = 0 := by
    rw [wrongC_zero]
    refine ⟨by decide +kernel, by decide, by decide, fun k hk => ?_, by simp⟩
    simp at hk; subst hk
    exact ⟨by decide, by decide, by decide, by decide⟩
  unfold newC; rw [if_pos this]; rfl
theorem alive7_A : PureD Try.prog 40 [] (boolD true) := by
  refine hide_r fun R hR => ?_
  have c1 := known7_A
  have c2 := cnew_A ⟨#[97]⟩ 10 k07 ⟨by decide, by decide⟩
  rw [new7] at c2
  have c3 := cat_A c07 1 ⟨by decide, fun k hk => by simp [c07] at hk; subst hk; exact ⟨by decide, by decide⟩⟩
  rw [show atR c07 1 = (k07, true) from rfl] at c3
  have c4 := cactive_A c07 14 (by decide) (by decide) (by decide) (by decide)
  have c5 := cactive_A c07 15 (by decide) (by decide) (by decide) (by decide)
  rw [show activeC c07 14 = true from rfl] at c4
  rw [show activeC c07 15 = false from rfl] at c5
  simp only [c07] at c2 c3 c4 c5
  have ht : k07.t = 5 := rfl
  generalize k07 = k at *
  refine callD_W 34 Try.func40 rfl rfl rfl (fun _ _ => rfl) ?_
  exact wkl trivial
end Go.Proofs.Ytdpfjmkilbepgaa
/- landref1: above, Root, Primes, turn: by value. -/
set_option linter.all false
namespace Go.Proofs.Ytdpfjmkilbepgaa
open Go Go.Abs Go.RowKit Go.Proofs.Ytdpfjmkilbepgaa.Ty
theorem tyR1A0 : (type_of% @Ty.T44) := @Ty.T44
theorem tyR1A1 : (type_of% @Ty.T3) ∧ (type_of% @Ty.T4) ∧ (type_of% @Ty.T44) ∧ (type_of% @Ty.T148) := ⟨@Ty.T3, @Ty.T4, @Ty.T44, @Ty.T148⟩
theorem tyR1A2 : (type_of% @Ty.T1) ∧ (type_of% @Ty.T3) ∧ (type_of% @Ty.T44) ∧ (type_of% @Ty.T145) := ⟨@Ty.T1, @Ty.T3, @Ty.T44, @Ty.T145⟩

def aboveF (x p : Nat) (two : Bool) : Bool :=
  if two then decide ((p : Int) < (x * x / 18446744073709551616 : Nat)) || (decide (((x * x / 18446744073709551616 : Nat) : Int) = (p : Int)) && decide ((0 : Int) < (x * x % 18446744073709551616 : Nat)))
  else
    let h := x * x / 18446744073709551616
    let l := x * x % 18446744073709551616
    let a := l * x / 18446744073709551616
    let b := l * x % 18446744073709551616
    let c := h * x / 18446744073709551616
    let d := h * x % 18446744073709551616
    let mid := (a + d + 0) % 18446744073709551616
    let top := (c + (a + d + 0) / 18446744073709551616) % 18446744073709551616
    let wt := p / 4294967296
    let wm := p * 4294967296 % 18446744073709551616
    decide ((wt : Int) < (top : Int)) || (decide ((top : Int) = (wt : Int)) && (decide ((wm : Int) < (mid : Int)) || (decide ((mid : Int) = (wm : Int)) && decide ((0 : Int) < (b : Int)))))

theorem shl32 (a : Nat) : IntKind.u64.wrap ((a : Int) * 2 ^ min 32 (IntKind.bits .u64)) = ((a * 4294967296 % 18446744073709551616 : Nat) : Int) := by
  rw [show min 32 (IntKind.bits .u64) = 32 from rfl, IntKind.wrap_u64]; omega
set_option maxHeartbeats 2000000
theorem above_A (x p : Nat) (two : Bool) (hx : x < 18446744073709551616) (hp : p < 18446744073709551616) :
    PureD Try.prog 142 [.i (.s (.int .u64 (x : Int))), .i (.s (.int .u64 (p : Int))), .i (.s (.bool two))] (.i (.s (.bool (aboveF x p two)))) := by
  generalize hq : aboveF x p two = q
  refine callD_W 84 Try.func142 rfl rfl rfl (fun _ _ => rfl) ?_
  (repeat (first | (simp -implicitDefEqProofs only [ev, mixed, Nat.reduceLT, Nat.reduceAdd, Nat.reduceMul, reduceIte, Nat.reduceEqDiff, reduceCtorEq, Nat.reducePow, Nat.reduceLeDiff, Int.reduceLE, Int.reduceLT, Int.reduceToNat, Int.reduceEq, Nat.reduceBEq, itsOf, gdA, byteI, opid, lenQ, ixQ, ldH, readAt, readCells, asCell, faQ, exQ, fldQ, partA, buildQ, slQ, stH, bslH, appH, dcells, convI, elemsOf, D.one, nilS, fillD, convN, cvH, tyR1A0]) | (with_reducible refine ⟨?_, ?_⟩; (· first | (obtain ⟨rfl⟩ := ‹Hq _ _›; with_reducible refine chk_ok ?_; kernel_rfl) | kernel_rfl)) | (with_reducible intro ops hops)))
  (first | refine Call_flat [] [] (mul64_A x x hx hx) (by simp [cvAs, cvA, cvRL, cvR, cvBox, cv1, cvL, cv0, bI, byteI, elemsOf, upd]) rfl ?_ | refine CallF_flat [] [] [] (mul64_A x x hx hx) (fun G _ => by simp [cvAs, cvA, cvRL, cvR, cvBox, cv1, cvL, cv0, bI, byteI, elemsOf, upd]) rfl ?_)
  cases two with
  | true =>
    unfold aboveF at hq
    rw [if_pos rfl] at hq
    generalize x * x / 18446744073709551616 = h at hq
    generalize x * x % 18446744073709551616 = l at hq
    cases g1 : decide ((p : Int) < (h : Int))
    · cases g2 : decide ((h : Int) = (p : Int))
      · (repeat (first | (simp -implicitDefEqProofs only [ev, mixed, Nat.reduceLT, Nat.reduceAdd, Nat.reduceMul, reduceIte, Nat.reduceEqDiff, reduceCtorEq, Nat.reducePow, Nat.reduceLeDiff, Int.reduceLE, Int.reduceLT, Int.reduceToNat, Int.reduceEq, Nat.reduceBEq, itsOf, gdA, byteI, opid, lenQ, ixQ, ldH, readAt, readCells, asCell, faQ, exQ, fldQ, partA, buildQ, slQ, stH, bslH, appH, dcells, convI, elemsOf, D.one, nilS, fillD, convN, cvH, tyR1A0, g1, g2]) | (with_reducible refine ⟨?_, ?_⟩; (· first | (obtain ⟨rfl⟩ := ‹Hq _ _›; with_reducible refine chk_ok ?_; kernel_rfl) | kernel_rfl)) | (with_reducible intro ops hops)))
        refine fin_ret [] rfl ?_
        rw [g1, g2] at hq
        simp [cv, cv1, cv0, upd, ← hq]
      · cases g3 : decide ((0 : Int) < (l : Int)) <;>
        · (repeat (first | (simp -implicitDefEqProofs only [ev, mixed, Nat.reduceLT, Nat.reduceAdd, Nat.reduceMul, reduceIte, Nat.reduceEqDiff, reduceCtorEq, Nat.reducePow, Nat.reduceLeDiff, Int.reduceLE, Int.reduceLT, Int.reduceToNat, Int.reduceEq, Nat.reduceBEq, itsOf, gdA, byteI, opid, lenQ, ixQ, ldH, readAt, readCells, asCell, faQ, exQ, fldQ, partA, buildQ, slQ, stH, bslH, appH, dcells, convI, elemsOf, D.one, nilS, fillD, convN, cvH, tyR1A0, g1, g2, g3]) | (with_reducible refine ⟨?_, ?_⟩; (· first | (obtain ⟨rfl⟩ := ‹Hq _ _›; with_reducible refine chk_ok ?_; kernel_rfl) | kernel_rfl)) | (with_reducible intro ops hops)))
          refine fin_ret [] rfl ?_
          rw [g1, g2, g3] at hq
          simp [cv, cv1, cv0, upd, ← hq]
    · (repeat (first | (simp -implicitDefEqProofs only [ev, mixed, Nat.reduceLT, Nat.reduceAdd, Nat.reduceMul, reduceIte, Nat.reduceEqDiff, reduceCtorEq, Nat.reducePow, Nat.reduceLeDiff, Int.reduceLE, Int.reduceLT, Int.reduceToNat, Int.reduceEq, Nat.reduceBEq, itsOf, gdA, byteI, opid, lenQ, ixQ, ldH, readAt, readCells, asCell, faQ, exQ, fldQ, partA, buildQ, slQ, stH, bslH, appH, dcells, convI, elemsOf, D.one, nilS, fillD, convN, cvH, tyR1A0, g1]) | (with_reducible refine ⟨?_, ?_⟩; (· first | (obtain ⟨rfl⟩ := ‹Hq _ _›; with_reducible refine chk_ok ?_; kernel_rfl) | kernel_rfl)) | (with_reducible intro ops hops)))
      refine fin_ret [] rfl ?_
      rw [g1] at hq
      simp [cv, cv1, cv0, upd, ← hq]
  | false =>
    unfold aboveF at hq
    simp only [Bool.false_eq_true, if_false] at hq
    have hh : x * x / 18446744073709551616 < 18446744073709551616 := Nat.div_lt_of_lt_mul (Nat.mul_lt_mul'' hx hx)
    have hl : x * x % 18446744073709551616 < 18446744073709551616 := Nat.mod_lt _ (by decide)
    generalize x * x / 18446744073709551616 = h at hq hh
    generalize x * x % 18446744073709551616 = l at hq hl
    (repeat (first | (simp -implicitDefEqProofs only [ev, mixed, Nat.reduceLT, Nat.reduceAdd, Nat.reduceMul, reduceIte, Nat.reduceEqDiff, reduceCtorEq, Nat.reducePow, Nat.reduceLeDiff, Int.reduceLE, Int.reduceLT, Int.reduceToNat, Int.reduceEq, Nat.reduceBEq, itsOf, gdA, byteI, opid, lenQ, ixQ, ldH, readAt, readCells, asCell, faQ, exQ, fldQ, partA, buildQ, slQ, stH, bslH, appH, dcells, convI, elemsOf, D.one, nilS, fillD, convN, cvH, tyR1A0]) | (with_reducible refine ⟨?_, ?_⟩; (· first | (obtain ⟨rfl⟩ := ‹Hq _ _›; with_reducible refine chk_ok ?_; kernel_rfl) | kernel_rfl)) | (with_reducible intro ops hops)))
    (first | refine Call_flat [] [] (mul64_A l x hl hx) (by simp [cvAs, cvA, cvRL, cvR, cvBox, cv1, cvL, cv0, bI, byteI, elemsOf, upd]) rfl ?_ | refine CallF_flat [] [] [] (mul64_A l x hl hx) (fun G _ => by simp [cvAs, cvA, cvRL, cvR, cvBox, cv1, cvL, cv0, bI, byteI, elemsOf, upd]) rfl ?_)
    have ha : l * x / 18446744073709551616 < 18446744073709551616 := Nat.div_lt_of_lt_mul (Nat.mul_lt_mul'' hl hx)
    generalize l * x / 18446744073709551616 = a at hq ha
    generalize l * x % 18446744073709551616 = b at hq
    (repeat (first | (simp -implicitDefEqProofs only [ev, mixed, Nat.reduceLT, Nat.reduceAdd, Nat.reduceMul, reduceIte, Nat.reduceEqDiff, reduceCtorEq, Nat.reducePow, Nat.reduceLeDiff, Int.reduceLE, Int.reduceLT, Int.reduceToNat, Int.reduceEq, Nat.reduceBEq, itsOf, gdA, byteI, opid, lenQ, ixQ, ldH, readAt, readCells, asCell, faQ, exQ, fldQ, partA, buildQ, slQ, stH, bslH, appH, dcells, convI, elemsOf, D.one, nilS, fillD, convN, cvH, tyR1A0]) | (with_reducible refine ⟨?_, ?_⟩; (· first | (obtain ⟨rfl⟩ := ‹Hq _ _›; with_reducible refine chk_ok ?_; kernel_rfl) | kernel_rfl)) | (with_reducible intro ops hops)))
    (first | refine Call_flat [] [] (mul64_A h x hh hx) (by simp [cvAs, cvA, cvRL, cvR, cvBox, cv1, cvL, cv0, bI, byteI, elemsOf, upd]) rfl ?_ | refine CallF_flat [] [] [] (mul64_A h x hh hx) (fun G _ => by simp [cvAs, cvA, cvRL, cvR, cvBox, cv1, cvL, cv0, bI, byteI, elemsOf, upd]) rfl ?_)
    have hd : h * x % 18446744073709551616 < 18446744073709551616 := Nat.mod_lt _ (by decide)
    generalize h * x / 18446744073709551616 = c at hq
    generalize h * x % 18446744073709551616 = d at hq hd
    (repeat (first | (simp -implicitDefEqProofs only [ev, mixed, Nat.reduceLT, Nat.reduceAdd, Nat.reduceMul, reduceIte, Nat.reduceEqDiff, reduceCtorEq, Nat.reducePow, Nat.reduceLeDiff, Int.reduceLE, Int.reduceLT, Int.reduceToNat, Int.reduceEq, Nat.reduceBEq, itsOf, gdA, byteI, opid, lenQ, ixQ, ldH, readAt, readCells, asCell, faQ, exQ, fldQ, partA, buildQ, slQ, stH, bslH, appH, dcells, convI, elemsOf, D.one, nilS, fillD, convN, cvH, tyR1A0]) | (with_reducible refine ⟨?_, ?_⟩; (· first | (obtain ⟨rfl⟩ := ‹Hq _ _›; with_reducible refine chk_ok ?_; kernel_rfl) | kernel_rfl)) | (with_reducible intro ops hops)))
    refine Call_dir (add64_X a d 0 ha hd (by decide)) ?_
    have w1 : IntKind.u64.wrap ((c : Int) + (((a + d + 0) / 18446744073709551616 : Nat) : Int)) = (((c + (a + d + 0) / 18446744073709551616) % 18446744073709551616 : Nat) : Int) := by rw [IntKind.wrap_u64]; omega
    generalize (c + (a + d + 0) / 18446744073709551616) % 18446744073709551616 = top at hq w1
    generalize (a + d + 0) % 18446744073709551616 = mid at hq
    generalize (a + d + 0) / 18446744073709551616 = carry at w1
    have w2 := shl32 p
    have w3 := shr32 p
    generalize p * 4294967296 % 18446744073709551616 = wm at hq w2
    generalize p / 4294967296 = wt at hq w3
    cases g1 : decide ((wt : Int) < (top : Int))
    · cases g2 : decide ((top : Int) = (wt : Int))
      · (repeat (first | (simp -implicitDefEqProofs only [ev, mixed, Nat.reduceLT, Nat.reduceAdd, Nat.reduceMul, reduceIte, Nat.reduceEqDiff, reduceCtorEq, Nat.reducePow, Nat.reduceLeDiff, Int.reduceLE, Int.reduceLT, Int.reduceToNat, Int.reduceEq, Nat.reduceBEq, itsOf, gdA, byteI, opid, lenQ, ixQ, ldH, readAt, readCells, asCell, faQ, exQ, fldQ, partA, buildQ, slQ, stH, bslH, appH, dcells, convI, elemsOf, D.one, nilS, fillD, convN, cvH, tyR1A0, w1, w2, w3, g1, g2]) | (with_reducible refine ⟨?_, ?_⟩; (· first | (obtain ⟨rfl⟩ := ‹Hq _ _›; with_reducible refine chk_ok ?_; kernel_rfl) | kernel_rfl)) | (with_reducible intro ops hops)))
        refine fin_ret [] rfl ?_
        rw [g1, g2] at hq
        simp [cv, cv1, cv0, upd, ← hq]
      · cases g3 : decide ((wm : Int) < (mid : Int))
        · cases g4 : decide ((mid : Int) = (wm : Int))
          · (repeat (first | (simp -implicitDefEqProofs only [ev, mixed, Nat.reduceLT, Nat.reduceAdd, Nat.reduceMul, reduceIte, Nat.reduceEqDiff, reduceCtorEq, Nat.reducePow, Nat.reduceLeDiff, Int.reduceLE, Int.reduceLT, Int.reduceToNat, Int.reduceEq, Nat.reduceBEq, itsOf, gdA, byteI, opid, lenQ, ixQ, ldH, readAt, readCells, asCell, faQ, exQ, fldQ, partA, buildQ, slQ, stH, bslH, appH, dcells, convI, elemsOf, D.one, nilS, fillD, convN, cvH, tyR1A0, w1, w2, w3, g1, g2, g3, g4]) | (with_reducible refine ⟨?_, ?_⟩; (· first | (obtain ⟨rfl⟩ := ‹Hq _ _›; with_reducible refine chk_ok ?_; kernel_rfl) | kernel_rfl)) | (with_reducible intro ops hops)))
            refine fin_ret [] rfl ?_
            rw [g1, g2, g3, g4] at hq
            simp [cv, cv1, cv0, upd, ← hq]
          · cases g5 : decide ((0 : Int) < (b : Int)) <;>
            · (repeat (first | (simp -implicitDefEqProofs only [ev, mixed, Nat.reduceLT, Nat.reduceAdd, Nat.reduceMul, reduceIte, Nat.reduceEqDiff, reduceCtorEq, Nat.reducePow, Nat.reduceLeDiff, Int.reduceLE, Int.reduceLT, Int.reduceToNat, Int.reduceEq, Nat.reduceBEq, itsOf, gdA, byteI, opid, lenQ, ixQ, ldH, readAt, readCells, asCell, faQ, exQ, fldQ, partA, buildQ, slQ, stH, bslH, appH, dcells, convI, elemsOf, D.one, nilS, fillD, convN, cvH, tyR1A0, w1, w2, w3, g1, g2, g3, g4, g5]) | (with_reducible refine ⟨?_, ?_⟩; (· first | (obtain ⟨rfl⟩ := ‹Hq _ _›; with_reducible refine chk_ok ?_; kernel_rfl) | kernel_rfl)) | (with_reducible intro ops hops)))
              refine fin_ret [] rfl ?_
              rw [g1, g2, g3, g4, g5] at hq
              simp [cv, cv1, cv0, upd, ← hq]
        · (repeat (first | (simp -implicitDefEqProofs only [ev, mixed, Nat.reduceLT, Nat.reduceAdd, Nat.reduceMul, reduceIte, Nat.reduceEqDiff, reduceCtorEq, Nat.reducePow, Nat.reduceLeDiff, Int.reduceLE, Int.reduceLT, Int.reduceToNat, Int.reduceEq, Nat.reduceBEq, itsOf, gdA, byteI, opid, lenQ, ixQ, ldH, readAt, readCells, asCell, faQ, exQ, fldQ, partA, buildQ, slQ, stH, bslH, appH, dcells, convI, elemsOf, D.one, nilS, fillD, convN, cvH, tyR1A0, w1, w2, w3, g1, g2, g3]) | (with_reducible refine ⟨?_, ?_⟩; (· first | (obtain ⟨rfl⟩ := ‹Hq _ _›; with_reducible refine chk_ok ?_; kernel_rfl) | kernel_rfl)) | (with_reducible intro ops hops)))
          refine fin_ret [] rfl ?_
          rw [g1, g2, g3] at hq
          simp [cv, cv1, cv0, upd, ← hq]
    · (repeat (first | (simp -implicitDefEqProofs only [ev, mixed, Nat.reduceLT, Nat.reduceAdd, Nat.reduceMul, reduceIte, Nat.reduceEqDiff, reduceCtorEq, Nat.reducePow, Nat.reduceLeDiff, Int.reduceLE, Int.reduceLT, Int.reduceToNat, Int.reduceEq, Nat.reduceBEq, itsOf, gdA, byteI, opid, lenQ, ixQ, ldH, readAt, readCells, asCell, faQ, exQ, fldQ, partA, buildQ, slQ, stH, bslH, appH, dcells, convI, elemsOf, D.one, nilS, fillD, convN, cvH, tyR1A0, w1, w2, w3, g1]) | (with_reducible refine ⟨?_, ?_⟩; (· first | (obtain ⟨rfl⟩ := ‹Hq _ _›; with_reducible refine chk_ok ?_; kernel_rfl) | kernel_rfl)) | (with_reducible intro ops hops)))
      refine fin_ret [] rfl ?_
      rw [g1] at hq
      simp [cv, cv1, cv0, upd, ← hq]

/-- k + 1 steps are left -/
def rootGo (p : Nat) (two : Bool) : Nat → Nat → Nat
  | 0, x => x
  | k + 1, x => rootGo p two k (if aboveF (x ||| 2 ^ k) p two then x else x ||| 2 ^ k)
def prF (p : Nat) (two : Bool) : Nat := rootGo p two 41 0 % 4294967296
theorem root_A (p : Nat) (two : Bool) (hp : p < 18446744073709551616) :
    PureD Try.prog 123 [.i (.s (.int .u64 (p : Int))), .i (.s (.bool two))] (.i (.s (.int .u32 (prF p two : Nat)))) := by
  refine callD_W 24 Try.func123 rfl rfl rfl (fun _ _ => rfl) ?_
  (repeat (first | (simp -implicitDefEqProofs only [ev, mixed, Nat.reduceLT, Nat.reduceAdd, Nat.reduceMul, reduceIte, Nat.reduceEqDiff, reduceCtorEq, Nat.reducePow, Nat.reduceLeDiff, Int.reduceLE, Int.reduceLT, Int.reduceToNat, Int.reduceEq, Nat.reduceBEq, itsOf, gdA, byteI, opid, lenQ, ixQ, ldH, readAt, readCells, asCell, faQ, exQ, fldQ, partA, buildQ, slQ, stH, bslH, appH, dcells, convI, elemsOf, D.one, nilS, fillD, convN, cvH, tyR1A1]) | (with_reducible refine ⟨?_, ?_⟩; (· first | (obtain ⟨rfl⟩ := ‹Hq _ _›; with_reducible refine chk_ok ?_; kernel_rfl) | kernel_rfl)) | (with_reducible intro ops hops)))
  refine W_loopI (ι := Nat × Nat) (fun q => q.2 < 2 ^ 41 ∧ q.1 ≤ 41 ∧ rootGo p two q.1 q.2 = rootGo p two 41 0)
    (fun q => stOf [(0, .i (.s (.int .u64 (p : Int)))), (1, .i (.s (.bool two))), (5, .i (.s (.int .u64 (q.2 : Nat)))), (6, .i (.s (.int .i64 ((q.1 : Int) - 1))))] []) (fun q => q.1) (41, 0) ⟨by decide, by decide, rfl⟩ ?_ ?_
  · refine le_stOf _ _ [] [] ?_ ?_ rfl rfl
    · simp [cv, cv1, cv0, upd, lk, srcOf]
    · simp
  · rintro ⟨k, x⟩ ⟨hx, hk, hq⟩
    simp only at hx hk hq
    rw [stOf_eq]
    cases k with
    | zero =>
      have g1 : decide ((0 : Int) ≤ 0 - 1) = false := by decide
      have w1 : IntKind.u32.wrap (x : Int) = ((prF p two : Nat) : Int) := by rw [prF, ← hq, rootGo, IntKind.wrap_u32]; omega
      (repeat (first | (simp -implicitDefEqProofs only [ev, mixed, Nat.reduceLT, Nat.reduceAdd, Nat.reduceMul, reduceIte, Nat.reduceEqDiff, reduceCtorEq, Nat.reducePow, Nat.reduceLeDiff, Int.reduceLE, Int.reduceLT, Int.reduceToNat, Int.reduceEq, Nat.reduceBEq, itsOf, gdA, byteI, opid, lenQ, ixQ, ldH, readAt, readCells, asCell, faQ, exQ, fldQ, partA, buildQ, slQ, stH, bslH, appH, dcells, convI, elemsOf, D.one, nilS, fillD, convN, cvH, tyR1A1, g1, w1]) | (with_reducible refine ⟨?_, ?_⟩; (· first | (obtain ⟨rfl⟩ := ‹Hq _ _›; with_reducible refine chk_ok ?_; kernel_rfl) | kernel_rfl)) | (with_reducible intro ops hops)))
      refine fin_ret [] rfl ?_
      simp [cv, cv1, cv0, upd]
    | succ k =>
      have hk1 : ((k + 1 : Nat) : Int) - 1 = (k : Int) := by omega
      have hp2 : (2 : Nat) ^ k < 2 ^ 41 := Nat.pow_lt_pow_right (by decide) (by omega)
      have w2 : IntKind.u64.wrap ((1 : Int) * 2 ^ (min k (IntKind.bits .u64))) = ((2 ^ k : Nat) : Int) := by
        have e : ((2 : Int) ^ k) = ((2 ^ k : Nat) : Int) := by simp
        rw [show min k (IntKind.bits .u64) = k by simp [IntKind.bits]; omega, e, Int.one_mul, IntKind.wrap_u64]
        have h41 : (2 : Nat) ^ 41 = 2199023255552 := by decide
        rw [h41] at hp2
        generalize (2 : Nat) ^ k = E at hp2 ⊢
        omega
      have w3 : bits .or .u64 (x : Int) ((2 ^ k : Nat) : Int) = ((x ||| 2 ^ k : Nat) : Int) :=
        (bits_nat .u64 64 (by decide) (fun n g0 g1 => by rw [IntKind.wrap_u64]; omega) x (2 ^ k) (Nat.lt_trans hx (by decide)) (Nat.lt_trans hp2 (by decide))).2
      have hy : x ||| 2 ^ k < 2 ^ 41 := Nat.or_lt_two_pow hx hp2
      rw [rootGo] at hq
      generalize hyy : x ||| 2 ^ k = y at hq w3 hy
      generalize 2 ^ k = E at w2 w3
      (repeat (first | (simp -implicitDefEqProofs only [ev, mixed, Nat.reduceLT, Nat.reduceAdd, Nat.reduceMul, reduceIte, Nat.reduceEqDiff, reduceCtorEq, Nat.reducePow, Nat.reduceLeDiff, Int.reduceLE, Int.reduceLT, Int.reduceToNat, Int.reduceEq, Nat.reduceBEq, itsOf, gdA, byteI, opid, lenQ, ixQ, ldH, readAt, readCells, asCell, faQ, exQ, fldQ, partA, buildQ, slQ, stH, bslH, appH, dcells, convI, elemsOf, D.one, nilS, fillD, convN, cvH, tyR1A1, hk1, w2, w3]) | (with_reducible refine ⟨?_, ?_⟩; (· first | (obtain ⟨rfl⟩ := ‹Hq _ _›; with_reducible refine chk_ok ?_; kernel_rfl) | kernel_rfl)) | (with_reducible intro ops hops)))
      (first | refine Call_flat [] [] (above_A y p two (Nat.lt_trans hy (by decide)) hp) (by simp [cvAs, cvA, cvRL, cvR, cvBox, cv1, cvL, cv0, bI, byteI, elemsOf, upd]) rfl ?_ | refine CallF_flat [] [] [] (above_A y p two (Nat.lt_trans hy (by decide)) hp) (fun G _ => by simp [cvAs, cvA, cvRL, cvR, cvBox, cv1, cvL, cv0, bI, byteI, elemsOf, upd]) rfl ?_)
      have w4 : IntKind.i64.wrap ((k : Int) - 1) = (k : Int) - 1 := by rw [wrap64 (by omega) (by omega)]
      cases g : aboveF y p two
      · rw [g] at hq
        (repeat (first | (simp -implicitDefEqProofs only [ev, mixed, Nat.reduceLT, Nat.reduceAdd, Nat.reduceMul, reduceIte, Nat.reduceEqDiff, reduceCtorEq, Nat.reducePow, Nat.reduceLeDiff, Int.reduceLE, Int.reduceLT, Int.reduceToNat, Int.reduceEq, Nat.reduceBEq, itsOf, gdA, byteI, opid, lenQ, ixQ, ldH, readAt, readCells, asCell, faQ, exQ, fldQ, partA, buildQ, slQ, stH, bslH, appH, dcells, convI, elemsOf, D.one, nilS, fillD, convN, cvH, tyR1A1, hk1, g, w4]) | (with_reducible refine ⟨?_, ?_⟩; (· first | (obtain ⟨rfl⟩ := ‹Hq _ _›; with_reducible refine chk_ok ?_; kernel_rfl) | kernel_rfl)) | (with_reducible intro ops hops)))
        refine ⟨(k, y), ⟨hy, by simp at hk ⊢; omega, by simpa using hq⟩, le_stOf _ _ [] [] ?_ ?_ rfl rfl, by simp⟩
        · simp [cv, cv1, cv0, upd, lk, srcOf]
        · simp
      · rw [g] at hq
        (repeat (first | (simp -implicitDefEqProofs only [ev, mixed, Nat.reduceLT, Nat.reduceAdd, Nat.reduceMul, reduceIte, Nat.reduceEqDiff, reduceCtorEq, Nat.reducePow, Nat.reduceLeDiff, Int.reduceLE, Int.reduceLT, Int.reduceToNat, Int.reduceEq, Nat.reduceBEq, itsOf, gdA, byteI, opid, lenQ, ixQ, ldH, readAt, readCells, asCell, faQ, exQ, fldQ, partA, buildQ, slQ, stH, bslH, appH, dcells, convI, elemsOf, D.one, nilS, fillD, convN, cvH, tyR1A1, hk1, g, w4]) | (with_reducible refine ⟨?_, ?_⟩; (· first | (obtain ⟨rfl⟩ := ‹Hq _ _›; with_reducible refine chk_ok ?_; kernel_rfl) | kernel_rfl)) | (with_reducible intro ops hops)))
        refine ⟨(k, x), ⟨hx, by simp at hk ⊢; omega, by simpa using hq⟩, le_stOf _ _ [] [] ?_ ?_ rfl rfl, by simp⟩
        · simp [cv, cv1, cv0, upd, lk, srcOf]
        · simp

def primesTo : Nat → List Nat
  | 0 => []
  | 1 => []
  | 2 => []
  | p + 3 => if (primesTo (p + 2)).all (fun q => (p + 2) % q != 0) then primesTo (p + 2) ++ [p + 2] else primesTo (p + 2)
theorem primes_lt : ∀ p, p < 312 → (primesTo p).length < 64 := by decide +kernel
theorem primes_312 : (primesTo 312).length = 64 := by decide +kernel
theorem primes_pos : ∀ p, ∀ q ∈ primesTo p, 2 ≤ q ∧ q < p
  | 0, q, h => by simp [primesTo] at h
  | 1, q, h => by simp [primesTo] at h
  | 2, q, h => by simp [primesTo] at h
  | p + 3, q, h => by
    rw [primesTo] at h
    split at h
    · rcases List.mem_append.1 h with h | h
      · have := primes_pos (p + 2) q h; omega
      · simp at h; omega
    · have := primes_pos (p + 2) q h; omega
def u64I (n : Nat) : List I := [.s (.int .u64 (n : Int))]
theorem primes_A : CallD Try.prog 122 [.i (.s (.int .i64 64))] noH (.os 1 1 0 64) (hOf noH [(1, .arr 1 ((primesTo 312).map u64I))]) := by
  refine callD_W 34 Try.func122 rfl rfl rfl (fun _ _ => rfl) ?_
  (repeat (first | (simp -implicitDefEqProofs only [ev, mixed, Nat.reduceLT, Nat.reduceAdd, Nat.reduceMul, reduceIte, Nat.reduceEqDiff, reduceCtorEq, Nat.reducePow, Nat.reduceLeDiff, Int.reduceLE, Int.reduceLT, Int.reduceToNat, Int.reduceEq, Nat.reduceBEq, itsOf, gdA, byteI, opid, lenQ, ixQ, ldH, readAt, readCells, asCell, faQ, exQ, fldQ, partA, buildQ, slQ, stH, bslH, appH, dcells, convI, elemsOf, D.one, nilS, fillD, convN, cvH, tyR1A2]) | (with_reducible refine ⟨?_, ?_⟩; (· first | (obtain ⟨rfl⟩ := ‹Hq _ _›; with_reducible refine chk_ok ?_; kernel_rfl) | kernel_rfl)) | (with_reducible intro ops hops)))
  refine W_loopI (ι := Nat) (fun p => 2 ≤ p ∧ p ≤ 312)
    (fun p => stOf [(0, .i (.s (.int .i64 64))), (3, .os 100 1 0 (primesTo p).length), (4, .i (.s (.int .u64 (p : Nat))))] [(100, .arr 1 ((primesTo p).map u64I))]) (fun p => 312 - p) 2 ⟨by decide, by decide⟩ ?_ ?_
  · refine le_stOf _ _ [] [] ?_ ?_ rfl rfl
    · simp [cv, cv1, cv0, upd, lk, srcOf, primesTo]
    · simp [objOk, srcOf, lk, primesTo]
  · rintro p ⟨hp2, hp⟩
    rw [stOf_eq]
    (repeat (first | (simp -implicitDefEqProofs only [ev, mixed, Nat.reduceLT, Nat.reduceAdd, Nat.reduceMul, reduceIte, Nat.reduceEqDiff, reduceCtorEq, Nat.reducePow, Nat.reduceLeDiff, Int.reduceLE, Int.reduceLT, Int.reduceToNat, Int.reduceEq, Nat.reduceBEq, itsOf, gdA, byteI, opid, lenQ, ixQ, ldH, readAt, readCells, asCell, faQ, exQ, fldQ, partA, buildQ, slQ, stH, bslH, appH, dcells, convI, elemsOf, D.one, nilS, fillD, convN, cvH, tyR1A2]) | (with_reducible refine ⟨?_, ?_⟩; (· first | (obtain ⟨rfl⟩ := ‹Hq _ _›; with_reducible refine chk_ok ?_; kernel_rfl) | kernel_rfl)) | (with_reducible intro ops hops)))
    refine Wc_split (fun h => ?_) (fun h => ?_)
    · have hlt : p < 312 := by
        rcases Nat.lt_or_ge p 312 with h' | h'
        · exact h'
        · have : p = 312 := by omega
          subst this
          rw [primes_312] at h; simp at h
      clear h
      have hpp := primes_pos p
      have hstep : primesTo (p + 1) = if (primesTo p).all (fun q => p % q != 0) then primesTo p ++ [p] else primesTo p := by
        obtain ⟨k, rfl⟩ : ∃ k, p = k + 2 := ⟨p - 2, by omega⟩
        rw [primesTo]
      have hll := primes_lt p hlt
      generalize primesTo p = l at hstep hpp hll
      (repeat (first | (simp -implicitDefEqProofs only [ev, mixed, Nat.reduceLT, Nat.reduceAdd, Nat.reduceMul, reduceIte, Nat.reduceEqDiff, reduceCtorEq, Nat.reducePow, Nat.reduceLeDiff, Int.reduceLE, Int.reduceLT, Int.reduceToNat, Int.reduceEq, Nat.reduceBEq, itsOf, gdA, byteI, opid, lenQ, ixQ, ldH, readAt, readCells, asCell, faQ, exQ, fldQ, partA, buildQ, slQ, stH, bslH, appH, dcells, convI, elemsOf, D.one, nilS, fillD, convN, cvH, tyR1A2]) | (with_reducible refine ⟨?_, ?_⟩; (· first | (obtain ⟨rfl⟩ := ‹Hq _ _›; with_reducible refine chk_ok ?_; kernel_rfl) | kernel_rfl)) | (with_reducible intro ops hops)))
      refine W_loopI (ι := Nat) (fun k => k ≤ l.length)
        (fun k => stOf [(0, .i (.s (.int .i64 64))), (3, .os 100 1 0 l.length), (4, .i (.s (.int .u64 (p : Nat)))), (5, .i (.s (.bool ((l.take k).all (fun q => p % q != 0))))), (14, .os 100 1 0 l.length), (15, .i (.s (.int .i64 l.length))), (16, .i (.s (.int .i64 (k : Nat))))] [(100, .arr 1 (l.map u64I))]) (fun k => l.length - k) 0 (by simp) ?_ ?_
      · refine le_stOf _ _ [] [(100, 100)] ?_ ?_ rfl rfl
        · simp [cv, cv1, cv0, upd, lk, srcOf]
        · simp [objOk, srcOf, lk, cvO, frz, hO]
      · intro k hk
        rw [stOf_eq]
        (repeat (first | (simp -implicitDefEqProofs only [ev, mixed, Nat.reduceLT, Nat.reduceAdd, Nat.reduceMul, reduceIte, Nat.reduceEqDiff, reduceCtorEq, Nat.reducePow, Nat.reduceLeDiff, Int.reduceLE, Int.reduceLT, Int.reduceToNat, Int.reduceEq, Nat.reduceBEq, itsOf, gdA, byteI, opid, lenQ, ixQ, ldH, readAt, readCells, asCell, faQ, exQ, fldQ, partA, buildQ, slQ, stH, bslH, appH, dcells, convI, elemsOf, D.one, nilS, fillD, convN, cvH, tyR1A2]) | (with_reducible refine ⟨?_, ?_⟩; (· first | (obtain ⟨rfl⟩ := ‹Hq _ _›; with_reducible refine chk_ok ?_; kernel_rfl) | kernel_rfl)) | (with_reducible intro ops hops)))
        refine Wc_split (fun h => ?_) (fun h => ?_)
        · have h1 : k < l.length := by simp at h; omega
          clear h
          have hk2 := hpp _ (List.getElem_mem h1)
          have e1 : (l.map u64I)[k]? = some [.s (.int .u64 ((l[k] : Nat) : Int))] := by simp [h1, u64I]
          have htk : (l.take (k + 1)).all (fun q => p % q != 0) = ((l.take k).all (fun q => p % q != 0) && (p % l[k] != 0)) := by
            rw [List.take_succ_eq_append_getElem h1, List.all_append]; simp only [List.all_cons, List.all_nil, Bool.and_true]
          have l1 : ((k : Int) < (l.length : Int)) = True := eq_true (by omega)
          generalize l[k] = q at hk2 e1 htk
          have q0 : ((q : Int) = 0) = False := eq_false (by omega)
          have r1 : (p : Int).tmod (q : Int) = ((p % q : Nat) : Int) := by rw [Int.tmod_eq_emod_of_nonneg (by omega)]; exact (Int.natCast_emod _ _).symm
          have w1 : IntKind.i64.wrap ((k : Int) + 1) = ((k + 1 : Nat) : Int) := by rw [wrap64 (by omega) (by omega)]; omega
          cases g : (l.take k).all (fun q => p % q != 0)
          · rw [g] at htk
            (repeat (first | (simp -implicitDefEqProofs only [ev, mixed, Nat.reduceLT, Nat.reduceAdd, Nat.reduceMul, reduceIte, Nat.reduceEqDiff, reduceCtorEq, Nat.reducePow, Nat.reduceLeDiff, Int.reduceLE, Int.reduceLT, Int.reduceToNat, Int.reduceEq, Nat.reduceBEq, itsOf, gdA, byteI, opid, lenQ, ixQ, ldH, readAt, readCells, asCell, faQ, exQ, fldQ, partA, buildQ, slQ, stH, bslH, appH, dcells, convI, elemsOf, D.one, nilS, fillD, convN, cvH, tyR1A2, e1, l1, q0, r1, w1]) | (with_reducible refine ⟨?_, ?_⟩; (· first | (obtain ⟨rfl⟩ := ‹Hq _ _›; with_reducible refine chk_ok ?_; kernel_rfl) | kernel_rfl)) | (with_reducible intro ops hops)))
            refine ⟨k + 1, h1, le_stOf _ _ [] [(100, 100)] ?_ ?_ rfl rfl, by simp; omega⟩
            · simp [cv, cv1, cv0, upd, lk, srcOf, htk]
            · simp [objOk, srcOf, lk, cvO, frz, hO]
          · rw [g] at htk
            (repeat (first | (simp -implicitDefEqProofs only [ev, mixed, Nat.reduceLT, Nat.reduceAdd, Nat.reduceMul, reduceIte, Nat.reduceEqDiff, reduceCtorEq, Nat.reducePow, Nat.reduceLeDiff, Int.reduceLE, Int.reduceLT, Int.reduceToNat, Int.reduceEq, Nat.reduceBEq, itsOf, gdA, byteI, opid, lenQ, ixQ, ldH, readAt, readCells, asCell, faQ, exQ, fldQ, partA, buildQ, slQ, stH, bslH, appH, dcells, convI, elemsOf, D.one, nilS, fillD, convN, cvH, tyR1A2, e1, l1, q0, r1, w1]) | (with_reducible refine ⟨?_, ?_⟩; (· first | (obtain ⟨rfl⟩ := ‹Hq _ _›; with_reducible refine chk_ok ?_; kernel_rfl) | kernel_rfl)) | (with_reducible intro ops hops)))
            refine ⟨k + 1, h1, le_stOf _ _ [] [(100, 100)] ?_ ?_ rfl rfl, by simp; omega⟩
            · simp [cv, cv1, cv0, upd, lk, srcOf, htk]
              exact Bool.eq_iff_iff.2 (by simp; omega)
            · simp [objOk, srcOf, lk, cvO, frz, hO]
        · have h1 : k = l.length := by simp at h; omega
          subst h1
          rw [take_len_self]
          have w1 : IntKind.u64.wrap ((p : Int) + 1) = ((p + 1 : Nat) : Int) := by rw [IntKind.wrap_u64]; omega
          have e3 : l.length + 1 ≤ 140737488355328 := by omega
          have e4 : (l.length + 1) * 8 ≤ 140737488355328 := by omega
          have uu : uni 1 (l.map u64I) = true := uni_map (s := 1) (f := u64I) (fun _ => rfl) l
          cases g : l.all (fun q => p % q != 0)
          · rw [g] at hstep
            simp only [Bool.false_eq_true, if_false] at hstep
            (repeat (first | (simp -implicitDefEqProofs only [ev, mixed, Nat.reduceLT, Nat.reduceAdd, Nat.reduceMul, reduceIte, Nat.reduceEqDiff, reduceCtorEq, Nat.reducePow, Nat.reduceLeDiff, Int.reduceLE, Int.reduceLT, Int.reduceToNat, Int.reduceEq, Nat.reduceBEq, itsOf, gdA, byteI, opid, lenQ, ixQ, ldH, readAt, readCells, asCell, faQ, exQ, fldQ, partA, buildQ, slQ, stH, bslH, appH, dcells, convI, elemsOf, D.one, nilS, fillD, convN, cvH, tyR1A2, g, w1]) | (with_reducible refine ⟨?_, ?_⟩; (· first | (obtain ⟨rfl⟩ := ‹Hq _ _›; with_reducible refine chk_ok ?_; kernel_rfl) | kernel_rfl)) | (with_reducible intro ops hops)))
            refine ⟨p + 1, ⟨by omega, by omega⟩, le_stOf _ _ [] [(100, 100)] ?_ ?_ rfl rfl, by simp; omega⟩
            · simp [cv, cv1, cv0, upd, lk, srcOf, hstep]
            · simp [objOk, srcOf, lk, cvO, frz, hO, hstep]
          · rw [g] at hstep
            simp only [if_true] at hstep
            (repeat (first | (simp -implicitDefEqProofs only [ev, mixed, Nat.reduceLT, Nat.reduceAdd, Nat.reduceMul, reduceIte, Nat.reduceEqDiff, reduceCtorEq, Nat.reducePow, Nat.reduceLeDiff, Int.reduceLE, Int.reduceLT, Int.reduceToNat, Int.reduceEq, Nat.reduceBEq, itsOf, gdA, byteI, opid, lenQ, ixQ, ldH, readAt, readCells, asCell, faQ, exQ, fldQ, partA, buildQ, slQ, stH, bslH, appH, dcells, convI, elemsOf, D.one, nilS, fillD, convN, cvH, tyR1A2, g, w1, e3, e4, uu]) | (with_reducible refine ⟨?_, ?_⟩; (· first | (obtain ⟨rfl⟩ := ‹Hq _ _›; with_reducible refine chk_ok ?_; kernel_rfl) | kernel_rfl)) | (with_reducible intro ops hops)))
            refine ⟨p + 1, ⟨by omega, by omega⟩, le_stOf _ _ [] [(100, 4075)] ?_ ?_ rfl rfl, by simp; omega⟩
            · simp [cv, cv1, cv0, upd, lk, srcOf, hstep]
            · simp [objOk, srcOf, lk, cvO, frz, hO, hstep, upd, u64I]
    · have : p = 312 := by
        rcases Nat.lt_or_ge p 312 with h' | h'
        · have := primes_lt p h'; simp at h; omega
        · omega
      subst this
      (repeat (first | (simp -implicitDefEqProofs only [ev, mixed, Nat.reduceLT, Nat.reduceAdd, Nat.reduceMul, reduceIte, Nat.reduceEqDiff, reduceCtorEq, Nat.reducePow, Nat.reduceLeDiff, Int.reduceLE, Int.reduceLT, Int.reduceToNat, Int.reduceEq, Nat.reduceBEq, itsOf, gdA, byteI, opid, lenQ, ixQ, ldH, readAt, readCells, asCell, faQ, exQ, fldQ, partA, buildQ, slQ, stH, bslH, appH, dcells, convI, elemsOf, D.one, nilS, fillD, convN, cvH, tyR1A2]) | (with_reducible refine ⟨?_, ?_⟩; (· first | (obtain ⟨rfl⟩ := ‹Hq _ _›; with_reducible refine chk_ok ?_; kernel_rfl) | kernel_rfl)) | (with_reducible intro ops hops)))
      refine fin_retD _ [] [(1, 100)] rfl ?_ ?_ rfl ?_ rfl
      · simp [cv, cv1, cv0, upd, srcR, lk, noH, primes_312]
      · simp [objOk, srcR, lk, cvO, frz, upd, noH, hO]
      · simp [noH]
end Go.Proofs.Ytdpfjmkilbepgaa
/- The document's digest and ours: plain laws. -/
set_option linter.all false
namespace Go.Proofs.Ytdpfjmkilbepgaa
open Go Go.Abs Go.RowKit Go.Proofs.Ytdpfjmkilbepgaa.Ty
theorem tyR1S0 : (type_of% @Ty.T3) ∧ (type_of% @Ty.T148) := ⟨@Ty.T3, @Ty.T148⟩

@[irreducible] def PR : List Nat := primesTo 312
theorem PR_eq : primesTo 312 = PR := by unfold PR; rfl
theorem PR_len : PR.length = 64 := by rw [← PR_eq]; exact primes_312
theorem PR_lt : ∀ p ∈ PR, p < 18446744073709551616 := fun p h => by rw [← PR_eq] at h; have := (primes_pos 312 p h).2; omega
set_option maxRecDepth 100000 in
theorem KS_root : PR.map (fun p => prF p false) = KS := by decide +kernel
set_option maxRecDepth 100000 in
theorem V0_root : (PR.take 8).map (fun p => prF p true) = V0.list := by decide +kernel

/-- a word of four bytes -/
theorem or_add {a b : Nat} (k : Nat) (h : b < 2 ^ k) : (a * 2 ^ k) ||| b = a * 2 ^ k + b := by
  rw [Nat.mul_comm, Nat.two_pow_add_eq_or_of_lt h]
theorem wordAt_hor (l : List UInt8) (i : Nat) : wordAt l i = hor l i 4 := by
  have h0 := bnth_lt l i; have h1 := bnth_lt l (i + 1); have h2 := bnth_lt l (i + 2); have h3 := bnth_lt l (i + 3)
  simp only [wordAt, hor, Nat.add_zero]
  generalize bnth l i = a at *
  generalize bnth l (i + 1) = b at *
  generalize bnth l (i + 2) = c at *
  generalize bnth l (i + 3) = d at *
  have e0 : wshl a 16777216 = a * 2 ^ 24 := by unfold wshl; omega
  have e1 : wshl b 65536 = b * 2 ^ 16 := by unfold wshl; omega
  have e2 : wshl c 256 = c * 2 ^ 8 := by unfold wshl; omega
  rw [e0, e1, e2]
  have w : ∀ x y, x < 4294967296 → y < 4294967296 → wor x y = x ||| y := fun x y hx hy => by
    unfold wor; rw [Nat.mod_eq_of_lt hx, Nat.mod_eq_of_lt hy]
  have s1 : wor (a * 2 ^ 24) (b * 2 ^ 16) = (a * 2 ^ 8 + b) * 2 ^ 16 := by
    rw [w _ _ (by omega) (by omega), or_add 24 (by omega)]; omega
  have s2 : wor ((a * 2 ^ 8 + b) * 2 ^ 16) (c * 2 ^ 8) = ((a * 2 ^ 8 + b) * 2 ^ 8 + c) * 2 ^ 8 := by
    rw [w _ _ (by omega) (by omega), or_add 16 (by omega)]; omega
  rw [s1, s2, w _ _ (by omega) (by omega), or_add 8 (by omega)]
  omega

def wandn (a b : Nat) : Nat := wand a (wnot b)
theorem wand_comm (a b : Nat) : wand a b = wand b a := Nat.and_comm _ _
theorem wxor_comm (a b : Nat) : wxor a b = wxor b a := Nat.xor_comm _ _
theorem wor_comm (a b : Nat) : wor a b = wor b a := Nat.or_comm _ _
theorem tb_not (a i : Nat) : (wnot a).testBit i = (decide (i < 32) && !(a % 4294967296).testBit i) := by
  unfold wnot
  rw [show 4294967295 = 2 ^ 32 - 1 from rfl, Nat.testBit_xor, Nat.testBit_two_pow_sub_one]
  by_cases h : i < 32
  · simp [h]
  · have : (a % 4294967296).testBit i = false := Nat.testBit_lt_two_pow (Nat.lt_of_lt_of_le (Nat.mod_lt _ (by decide)) (show 2 ^ 32 ≤ 2 ^ i from Nat.pow_le_pow_right (by decide) (by omega)))
    simp [h, this]
theorem wand_mod (a b : Nat) : wand a b % 4294967296 = wand a b := Nat.mod_eq_of_lt (wand_lt a b)
theorem wnot_lt (a : Nat) : wnot a < 4294967296 := Nat.xor_lt_two_pow (n := 32) (by decide) (Nat.mod_lt _ (by decide))
theorem wnot_mod (a : Nat) : wnot a % 4294967296 = wnot a := Nat.mod_eq_of_lt (wnot_lt a)
theorem wxor_mod (a b : Nat) : wxor a b % 4294967296 = wxor a b := Nat.mod_eq_of_lt (wxor_lt a b)
theorem wor_mod (a b : Nat) : wor a b % 4294967296 = wor a b := Nat.mod_eq_of_lt (wor_lt a b)
theorem choose_eq (e f g : Nat) : wor (wand f e) (wandn g e) = wxor (wand e f) (wand (wnot e) g) := by
  apply Nat.eq_of_testBit_eq
  intro i
  simp only [wor, wxor, wandn, Nat.testBit_or, Nat.testBit_xor, wand_mod]
  simp only [wand, Nat.testBit_and, wnot_mod, tb_not]
  cases (e % 4294967296).testBit i <;> cases (f % 4294967296).testBit i <;> cases (g % 4294967296).testBit i <;> cases decide (i < 32) <;> rfl
theorem most_eq (a b c : Nat) : wor (wor (wand a b) (wand a c)) (wand b c) = wxor (wxor (wand a b) (wand a c)) (wand b c) := by
  apply Nat.eq_of_testBit_eq
  intro i
  have e1 : (wor (wand a b) (wand a c)) % 4294967296 = wor (wand a b) (wand a c) := wor_mod _ _
  have e2 : (wxor (wand a b) (wand a c)) % 4294967296 = wxor (wand a b) (wand a c) := wxor_mod _ _
  rw [show wor (wor (wand a b) (wand a c)) (wand b c) = ((wor (wand a b) (wand a c)) % 4294967296) ||| (wand b c % 4294967296) from rfl, show wxor (wxor (wand a b) (wand a c)) (wand b c) = ((wxor (wand a b) (wand a c)) % 4294967296) ^^^ (wand b c % 4294967296) from rfl, e1, e2]
  simp only [wor, wxor, Nat.testBit_or, Nat.testBit_xor, wand_mod]
  simp only [wand, Nat.testBit_and]
  cases (a % 4294967296).testBit i <;> cases (b % 4294967296).testBit i <;> cases (c % 4294967296).testBit i <;> rfl
theorem wadd_comm (a b : Nat) : wadd a b = wadd b a := by unfold wadd; rw [Nat.add_comm]
theorem next_eq (x y z t : Nat) : wadd (wadd (wadd x y) z) t = wadd (wadd (wadd x z) y) t := by unfold wadd; omega

theorem ran (a b : Nat) : bits .andNot .u32 (a : Int) (b : Int) = ((wandn a b : Nat) : Int) := by
  have e : IntKind.u32.bits = 32 := rfl
  simp only [bits, BitVec.ofInt_natCast]
  rw [← BitVec.xor_allOnes]
  simp only [BitVec.toNat_and, BitVec.toNat_xor, BitVec.toNat_allOnes, BitVec.toNat_ofNat, e, IntKind.wrap_u32]
  have hlt : (a % 2 ^ 32) &&& ((b % 2 ^ 32) ^^^ (2 ^ 32 - 1)) < 4294967296 := Nat.and_lt_two_pow _ (n := 32) (Nat.xor_lt_two_pow (n := 32) (Nat.mod_lt _ (by decide)) (by decide))
  have hw : wandn a b = (a % 2 ^ 32) &&& ((b % 2 ^ 32) ^^^ (2 ^ 32 - 1)) := by
    unfold wandn wand
    rw [wnot_mod]
    unfold wnot
    rw [Nat.xor_comm]
  rw [hw]; omega
theorem bq_andNot {P : Program} {t : TypeId} {x y : Operand} {k : IntKind} {a b : Int} : binQ P .andNot t x y (some (.int k a)) (some (.int k b)) = some (.i (.s (.int k (bits .andNot k a b)))) := by
  simp [binQ, eqGuard, Go.binOp, Op.intBits, pv, pure, bind, Sem.bind, bits, ofV]

/-- a word's turn -/
theorem sh_mul32 (x n : Nat) (hn : n ≤ 32) : IntKind.u32.wrap ((x : Int) * 2 ^ (min n (IntKind.bits .u32))) = ((wshl x (2 ^ n) : Nat) : Int) := by
  have hb : IntKind.bits .u32 = 32 := rfl
  have e : ((2 : Int) ^ n) = ((2 ^ n : Nat) : Int) := by simp
  rw [show min n (IntKind.bits .u32) = n by omega, e, IntKind.wrap_u32, ← Int.natCast_mul]
  unfold wshl; omega
set_option maxHeartbeats 1000000
theorem turn_A (x n : Nat) (h1 : 1 ≤ n) (h2 : n ≤ 31) :
    PureD Try.prog 124 [.i (.s (.int .u32 (x : Int))), .i (.s (.int .i64 (n : Int)))] (.i (.s (.int .u32 ((wrot x n : Nat) : Int)))) := by
  have w1 : IntKind.i64.wrap (32 - (n : Int)) = ((32 - n : Nat) : Int) := by rw [wrap64 (by omega) (by omega)]; omega
  have w2 := sh_fdiv x n .u32 (by simp [IntKind.bits]; omega)
  have w3 := sh_mul32 x (32 - n) (by omega)
  have w4 : bits .or .u32 ((x / 2 ^ n : Nat) : Int) ((wshl x (2 ^ (32 - n)) : Nat) : Int) = ((wrot x n : Nat) : Int) := by
    rw [ro, wrot, wor_comm]; rfl
  generalize 32 - n = m at w1 w3 w4
  generalize 2 ^ n = E at w2 w4
  generalize 2 ^ m = E' at w3 w4
  refine callD_W 13 Try.func124 rfl rfl rfl (fun _ _ => rfl) ?_
  (repeat (first | (simp -implicitDefEqProofs only [ev, mixed, Nat.reduceLT, Nat.reduceAdd, Nat.reduceMul, reduceIte, Nat.reduceEqDiff, reduceCtorEq, Nat.reducePow, Nat.reduceLeDiff, Int.reduceLE, Int.reduceLT, Int.reduceToNat, Int.reduceEq, Nat.reduceBEq, itsOf, gdA, byteI, opid, lenQ, ixQ, ldH, readAt, readCells, asCell, faQ, exQ, fldQ, partA, buildQ, slQ, stH, bslH, appH, dcells, convI, elemsOf, D.one, nilS, fillD, convN, cvH, tyR1S0, w1, w2, w3, w4]) | (with_reducible refine ⟨?_, ?_⟩; (· first | (obtain ⟨rfl⟩ := ‹Hq _ _›; with_reducible refine chk_ok ?_; kernel_rfl) | kernel_rfl)) | (with_reducible intro ops hops)))
  refine fin_ret [] rfl ?_
  simp [cv, cv1, cv0, upd]
end Go.Proofs.Ytdpfjmkilbepgaa
/- landref1.Sum, by value. -/
set_option linter.all false
namespace Go.Proofs.Ytdpfjmkilbepgaa
open Go Go.Abs Go.RowKit Go.Proofs.Ytdpfjmkilbepgaa.Ty
theorem tyR1Sum0 : (type_of% @Ty.T0) ∧ (type_of% @Ty.T1) ∧ (type_of% @Ty.T2) ∧ (type_of% @Ty.T3) ∧ (type_of% @Ty.T4) ∧ (type_of% @Ty.T5) ∧ (type_of% @Ty.T6) ∧ (type_of% @Ty.T8) ∧ (type_of% @Ty.T25) ∧ (type_of% @Ty.T44) ∧ (type_of% @Ty.T145) ∧ (type_of% @Ty.T147) ∧ (type_of% @Ty.T148) := ⟨@Ty.T0, @Ty.T1, @Ty.T2, @Ty.T3, @Ty.T4, @Ty.T5, @Ty.T6, @Ty.T8, @Ty.T25, @Ty.T44, @Ty.T145, @Ty.T147, @Ty.T148⟩

def u32I (n : Nat) : List I := [.s (.int .u32 (n : Int))]
def rootsK (i : Nat) : List Nat := (PR.take i).map fun p => prF p false
def rootsH (i : Nat) : List Nat := ((PR.take i).take 8).map fun p => prF p true
theorem rootsK_succ {i : Nat} (h : i < PR.length) : rootsK (i + 1) = rootsK i ++ [prF PR[i] false] := by
  unfold rootsK; rw [List.take_succ_eq_append_getElem h, List.map_append]; rfl
theorem rootsH_lo {i : Nat} (h : i < PR.length) (h8 : i < 8) : rootsH (i + 1) = rootsH i ++ [prF PR[i] true] := by
  unfold rootsH
  rw [List.take_take, List.take_take, Nat.min_eq_right (by omega), Nat.min_eq_right (by omega), List.take_succ_eq_append_getElem h, List.map_append]; rfl
theorem rootsH_hi {i : Nat} (h8 : 8 ≤ i) : rootsH (i + 1) = rootsH i := by
  unfold rootsH; rw [List.take_take, List.take_take, Nat.min_eq_left (by omega), Nat.min_eq_left (by omega)]
theorem uni_u32 (l : List Nat) : uni 1 (l.map u32I) = true := uni_map (s := 1) (f := u32I) (fun _ => rfl) l
theorem uni_u64 (l : List Nat) : uni 1 (l.map u64I) = true := uni_map (s := 1) (f := u64I) (fun _ => rfl) l

def zpad (n : Nat) : Nat := (119 - n % 64) % 64
theorem wq0 : IntKind.i64.wrap (0 + 1) = 1 := by decide
theorem wq1 : IntKind.i64.wrap (1 + 1) = 2 := by decide
theorem wq2 : IntKind.i64.wrap (2 + 1) = 3 := by decide
theorem wq3 : IntKind.i64.wrap (3 + 1) = 4 := by decide
theorem wq4 : IntKind.i64.wrap (4 + 1) = 5 := by decide
theorem wq5 : IntKind.i64.wrap (5 + 1) = 6 := by decide
theorem wq6 : IntKind.i64.wrap (6 + 1) = 7 := by decide
theorem wq7 : IntKind.i64.wrap (7 + 1) = 8 := by decide
def hmix (v u : V8) (k : Nat) : List Nat := [if 0 < k then wadd v.a u.a else v.a, if 1 < k then wadd v.b u.b else v.b, if 2 < k then wadd v.c u.c else v.c, if 3 < k then wadd v.d u.d else v.d, if 4 < k then wadd v.e u.e else v.e, if 5 < k then wadd v.f u.f else v.f, if 6 < k then wadd v.g u.g else v.g, if 7 < k then wadd v.h u.h else v.h]
def obytes (v : V8) (k : Nat) : List UInt8 := ((v.list.take k).map be32).flatten
theorem obytes_len (v : V8) (k : Nat) (h : k ≤ 8) : (obytes v k).length = 4 * k := by
  have : k = 0 ∨ k = 1 ∨ k = 2 ∨ k = 3 ∨ k = 4 ∨ k = 5 ∨ k = 6 ∨ k = 7 ∨ k = 8 := by omega
  rcases this with rfl | rfl | rfl | rfl | rfl | rfl | rfl | rfl | rfl <;> rfl
theorem obytes_succ (v : V8) (k : Nat) (h : k < 8) : obytes v (k + 1) = obytes v k ++ be32 (v.list.getD k 0) := by
  have hl : v.list.length = 8 := rfl
  unfold obytes
  rw [List.take_succ_eq_append_getElem (by omega), List.map_append, List.flatten_append]
  simp [List.getD_eq_getElem?_getD, show k < v.list.length by omega]
theorem obytes_all (v : V8) : obytes v 8 = outW v := by
  simp [obytes, outW, V8.list]
theorem round_eq (u : V8) (K W : Nat) : roundW u K W =
    ⟨wadd (wadd (wadd (wadd (wadd u.h (wxor (wxor (wrot u.e 6) (wrot u.e 11)) (wrot u.e 25))) (wor (wand u.f u.e) (wandn u.g u.e))) K) W) (wadd (wxor (wxor (wrot u.a 2) (wrot u.a 13)) (wrot u.a 22)) (wor (wor (wand u.a u.b) (wand u.a u.c)) (wand u.b u.c))), u.a, u.b, u.c,
      wadd u.d (wadd (wadd (wadd (wadd u.h (wxor (wxor (wrot u.e 6) (wrot u.e 11)) (wrot u.e 25))) (wor (wand u.f u.e) (wandn u.g u.e))) K) W), u.e, u.f, u.g⟩ := by
  unfold roundW
  rw [choose_eq, most_eq]
theorem wad (a b : Nat) : IntKind.u32.wrap ((a : Int) + (b : Int)) = ((wadd a b : Nat) : Int) := by rw [IntKind.wrap_u32]; unfold wadd; omega
set_option maxHeartbeats 8000000
theorem sumref_A (b : List UInt8) (hb : b.length ≤ 1099511627776) : PureD Try.prog 84 [.i (bI b)] (.i (bI (sha b))) := by
  refine callD_W 302 Try.func84 rfl rfl rfl (fun _ _ => rfl) ?_
  (repeat (first | (simp -implicitDefEqProofs only [ev, mixed, Nat.reduceLT, Nat.reduceAdd, Nat.reduceMul, reduceIte, Nat.reduceEqDiff, reduceCtorEq, Nat.reducePow, Nat.reduceLeDiff, Int.reduceLE, Int.reduceLT, Int.reduceToNat, Int.reduceEq, Nat.reduceBEq, itsOf, gdA, byteI, opid, lenQ, ixQ, ldH, readAt, readCells, asCell, faQ, exQ, fldQ, partA, buildQ, slQ, stH, bslH, appH, dcells, convI, elemsOf, D.one, nilS, fillD, convN, cvH, tyR1Sum0, bI]) | (with_reducible refine ⟨?_, ?_⟩; (· first | (obtain ⟨rfl⟩ := ‹Hq _ _›; with_reducible refine chk_ok ?_; kernel_rfl) | kernel_rfl)) | (with_reducible intro ops hops)))
  have hpr := primes_A
  rw [PR_eq] at hpr
  refine Call_new 1256 hpr (by simp [upd, noH]) rfl ?_
  (repeat (first | (simp -implicitDefEqProofs only [ev, mixed, Nat.reduceLT, Nat.reduceAdd, Nat.reduceMul, reduceIte, Nat.reduceEqDiff, reduceCtorEq, Nat.reducePow, Nat.reduceLeDiff, Int.reduceLE, Int.reduceLT, Int.reduceToNat, Int.reduceEq, Nat.reduceBEq, itsOf, gdA, byteI, opid, lenQ, ixQ, ldH, readAt, readCells, asCell, faQ, exQ, fldQ, partA, buildQ, slQ, stH, bslH, appH, dcells, convI, elemsOf, D.one, nilS, fillD, convN, cvH, tyR1Sum0]) | (with_reducible refine ⟨?_, ?_⟩; (· first | (obtain ⟨rfl⟩ := ‹Hq _ _›; with_reducible refine chk_ok ?_; kernel_rfl) | kernel_rfl)) | (with_reducible intro ops hops)))
  refine W_loopI (ι := Nat) (fun i => i ≤ 64)
    (fun i => stOf [(0, .i (.sl (b.map byteI))), (39, .os 100 1 0 64), (40, .i (.s (.int .i64 64))), (41, .i (.s (.int .i64 (i : Nat)))), (4, .os 101 1 0 (rootsK i).length), (5, .os 102 1 0 (rootsH i).length)]
      [(100, .arr 1 (PR.map u64I)), (101, .arr 1 ((rootsK i).map u32I)), (102, .arr 1 ((rootsH i).map u32I))]) (fun i => 64 - i) 0 (by decide) ?_ ?_
  · refine le_stOf _ _ [] [(100, 1256)] ?_ ?_ rfl rfl
    · simp [cv, cv1, cv0, upd, lk, srcOf, rootsK, rootsH]
    · simp [objOk, srcOf, lk, cvO, frz, upd, rootsK, rootsH]
  · intro i hi
    rw [stOf_eq]
    (repeat (first | (simp -implicitDefEqProofs only [ev, mixed, Nat.reduceLT, Nat.reduceAdd, Nat.reduceMul, reduceIte, Nat.reduceEqDiff, reduceCtorEq, Nat.reducePow, Nat.reduceLeDiff, Int.reduceLE, Int.reduceLT, Int.reduceToNat, Int.reduceEq, Nat.reduceBEq, itsOf, gdA, byteI, opid, lenQ, ixQ, ldH, readAt, readCells, asCell, faQ, exQ, fldQ, partA, buildQ, slQ, stH, bslH, appH, dcells, convI, elemsOf, D.one, nilS, fillD, convN, cvH, tyR1Sum0]) | (with_reducible refine ⟨?_, ?_⟩; (· first | (obtain ⟨rfl⟩ := ‹Hq _ _›; with_reducible refine chk_ok ?_; kernel_rfl) | kernel_rfl)) | (with_reducible intro ops hops)))
    refine Wc_split (fun h => ?_) (fun h => ?_)
    · have h1 : i < 64 := by simp at h; omega
      clear h
      have hip : i < PR.length := by rw [PR_len]; exact h1
      have hpl := PR_lt _ (List.getElem_mem hip)
      have e1 : (PR.map u64I)[i]? = some [.s (.int .u64 ((PR[i] : Nat) : Int))] := by rw [List.getElem?_map, List.getElem?_eq_getElem hip]; rfl
      have hk := rootsK_succ hip
      have hh := fun h8 => rootsH_lo hip h8
      have hh' := fun h8 => rootsH_hi (i := i) h8
      have lk1 : (rootsK i).length = i := by simp [rootsK, PR_len]; omega
      have lh1 : (rootsH i).length ≤ 8 := by simp [rootsH]; omega
      have l1 : ((i : Int) < 64) = True := eq_true (by omega)
      have e3 : (rootsK i).length + 1 ≤ 140737488355328 := by omega
      have e4 : ((rootsK i).length + 1) * 4 ≤ 140737488355328 := by omega
      have e5 : (rootsH i).length + 1 ≤ 140737488355328 := by omega
      have e6 : ((rootsH i).length + 1) * 4 ≤ 140737488355328 := by omega
      have w1 : IntKind.i64.wrap ((i : Int) + 1) = ((i + 1 : Nat) : Int) := by rw [wrap64 (by omega) (by omega)]; omega
      generalize PR[i] = p at hpl e1 hk hh
      generalize hR : PR.map u64I = R at e1
      generalize rootsK i = K at hk e3 e4
      generalize rootsH i = Hl at hh hh' e5 e6
      (repeat (first | (simp -implicitDefEqProofs only [ev, mixed, Nat.reduceLT, Nat.reduceAdd, Nat.reduceMul, reduceIte, Nat.reduceEqDiff, reduceCtorEq, Nat.reducePow, Nat.reduceLeDiff, Int.reduceLE, Int.reduceLT, Int.reduceToNat, Int.reduceEq, Nat.reduceBEq, itsOf, gdA, byteI, opid, lenQ, ixQ, ldH, readAt, readCells, asCell, faQ, exQ, fldQ, partA, buildQ, slQ, stH, bslH, appH, dcells, convI, elemsOf, D.one, nilS, fillD, convN, cvH, tyR1Sum0, e1, l1]) | (with_reducible refine ⟨?_, ?_⟩; (· first | (obtain ⟨rfl⟩ := ‹Hq _ _›; with_reducible refine chk_ok ?_; kernel_rfl) | kernel_rfl)) | (with_reducible intro ops hops)))
      (first | refine Call_flat [] [] (root_A p false hpl) (by simp [cvAs, cvA, cvRL, cvR, cvBox, cv1, cvL, cv0, bI, byteI, elemsOf, upd]) rfl ?_ | refine CallF_flat [] [] [] (root_A p false hpl) (fun G _ => by simp [cvAs, cvA, cvRL, cvR, cvBox, cv1, cvL, cv0, bI, byteI, elemsOf, upd]) rfl ?_)
      cases g8 : decide ((i : Int) < 8)
      · have h8 : 8 ≤ i := by simp at g8; omega
        have hh2 := hh' h8
        (repeat (first | (simp -implicitDefEqProofs only [ev, mixed, Nat.reduceLT, Nat.reduceAdd, Nat.reduceMul, reduceIte, Nat.reduceEqDiff, reduceCtorEq, Nat.reducePow, Nat.reduceLeDiff, Int.reduceLE, Int.reduceLT, Int.reduceToNat, Int.reduceEq, Nat.reduceBEq, itsOf, gdA, byteI, opid, lenQ, ixQ, ldH, readAt, readCells, asCell, faQ, exQ, fldQ, partA, buildQ, slQ, stH, bslH, appH, dcells, convI, elemsOf, D.one, nilS, fillD, convN, cvH, tyR1Sum0, g8, e3, e4, uni_u32, w1]) | (with_reducible refine ⟨?_, ?_⟩; (· first | (obtain ⟨rfl⟩ := ‹Hq _ _›; with_reducible refine chk_ok ?_; kernel_rfl) | kernel_rfl)) | (with_reducible intro ops hops)))
        refine ⟨i + 1, h1, le_stOf _ _ [] [(100, 100), (101, 2796), (102, 102)] ?_ ?_ rfl rfl, by simp; omega⟩
        · simp [cv, cv1, cv0, upd, lk, srcOf, hk, hh2]
        · simp [objOk, srcOf, lk, cvO, frz, upd, hO, hk, hh2, u32I, hR]
      · have h8 : i < 8 := by simp at g8; omega
        have hh2 := hh h8
        (repeat (first | (simp -implicitDefEqProofs only [ev, mixed, Nat.reduceLT, Nat.reduceAdd, Nat.reduceMul, reduceIte, Nat.reduceEqDiff, reduceCtorEq, Nat.reducePow, Nat.reduceLeDiff, Int.reduceLE, Int.reduceLT, Int.reduceToNat, Int.reduceEq, Nat.reduceBEq, itsOf, gdA, byteI, opid, lenQ, ixQ, ldH, readAt, readCells, asCell, faQ, exQ, fldQ, partA, buildQ, slQ, stH, bslH, appH, dcells, convI, elemsOf, D.one, nilS, fillD, convN, cvH, tyR1Sum0, g8, e3, e4, uni_u32]) | (with_reducible refine ⟨?_, ?_⟩; (· first | (obtain ⟨rfl⟩ := ‹Hq _ _›; with_reducible refine chk_ok ?_; kernel_rfl) | kernel_rfl)) | (with_reducible intro ops hops)))
        (first | refine Call_flat [] [] (root_A p true hpl) (by simp [cvAs, cvA, cvRL, cvR, cvBox, cv1, cvL, cv0, bI, byteI, elemsOf, upd]) rfl ?_ | refine CallF_flat [] [] [] (root_A p true hpl) (fun G _ => by simp [cvAs, cvA, cvRL, cvR, cvBox, cv1, cvL, cv0, bI, byteI, elemsOf, upd]) rfl ?_)
        (repeat (first | (simp -implicitDefEqProofs only [ev, mixed, Nat.reduceLT, Nat.reduceAdd, Nat.reduceMul, reduceIte, Nat.reduceEqDiff, reduceCtorEq, Nat.reducePow, Nat.reduceLeDiff, Int.reduceLE, Int.reduceLT, Int.reduceToNat, Int.reduceEq, Nat.reduceBEq, itsOf, gdA, byteI, opid, lenQ, ixQ, ldH, readAt, readCells, asCell, faQ, exQ, fldQ, partA, buildQ, slQ, stH, bslH, appH, dcells, convI, elemsOf, D.one, nilS, fillD, convN, cvH, tyR1Sum0, e5, e6, uni_u32, w1]) | (with_reducible refine ⟨?_, ?_⟩; (· first | (obtain ⟨rfl⟩ := ‹Hq _ _›; with_reducible refine chk_ok ?_; kernel_rfl) | kernel_rfl)) | (with_reducible intro ops hops)))
        refine ⟨i + 1, h1, le_stOf _ _ [] [(100, 100), (101, 2796), (102, 3308)] ?_ ?_ rfl rfl, by simp; omega⟩
        · simp [cv, cv1, cv0, upd, lk, srcOf, hk, hh2]
        · simp [objOk, srcOf, lk, cvO, frz, upd, hO, hk, hh2, u32I, hR]
    · have h1 : i = 64 := by simp at h; omega
      subst h1
      have hK : rootsK 64 = KS := by rw [← KS_root, rootsK, List.take_of_length_le (by rw [PR_len]; exact Nat.le_refl _)]
      have hH : rootsH 64 = V0.list := by rw [← V0_root, rootsH, List.take_take]; rfl
      rw [hK, hH]
      generalize PR.map u64I = R
      have hKl : KS.length = 64 := rfl
      have hHl : V0.list.length = 8 := rfl
      rw [hKl, hHl]
      have e3 : b.length + 1 ≤ 140737488355328 := by omega
      have e4 : b.length ≤ 140737488355328 := by omega
      (repeat (first | (simp -implicitDefEqProofs only [ev, mixed, Nat.reduceLT, Nat.reduceAdd, Nat.reduceMul, reduceIte, Nat.reduceEqDiff, reduceCtorEq, Nat.reducePow, Nat.reduceLeDiff, Int.reduceLE, Int.reduceLT, Int.reduceToNat, Int.reduceEq, Nat.reduceBEq, itsOf, gdA, byteI, opid, lenQ, ixQ, ldH, readAt, readCells, asCell, faQ, exQ, fldQ, partA, buildQ, slQ, stH, bslH, appH, dcells, convI, elemsOf, D.one, nilS, fillD, convN, cvH, tyR1Sum0, e3, e4, uni_byteI]) | (with_reducible refine ⟨?_, ?_⟩; (· first | (obtain ⟨rfl⟩ := ‹Hq _ _›; with_reducible refine chk_ok ?_; kernel_rfl) | kernel_rfl)) | (with_reducible intro ops hops)))
      clear hpr hi h hK hH hKl hHl
      refine W_loopI (ι := Nat) (fun j => j ≤ zpad b.length)
        (fun j => stOf [(0, .i (.sl (b.map byteI))), (4, .os 101 1 0 64), (5, .os 102 1 0 8), (8, .os 103 1 0 (b.length + 1 + j))]
          [(101, .arr 1 (KS.map u32I)), (102, .arr 1 (V0.list.map u32I)), (103, .arr 1 ((b ++ 128 :: List.replicate j 0).map byteI))]) (fun j => zpad b.length - j) 0 (Nat.zero_le _) ?_ ?_
      · refine le_stOf _ _ [] [(101, 101), (102, 102), (103, 3820)] ?_ ?_ rfl rfl
        · simp [cv, cv1, cv0, upd, lk, srcOf]
        · simp [objOk, srcOf, lk, cvO, frz, upd, hO, byteI]
      · intro j hj
        rw [stOf_eq]
        have r1 : ((b.length + 1 + j : Nat) : Int).tmod 64 = (((b.length + 1 + j) % 64 : Nat) : Int) := by rw [Int.tmod_eq_emod_of_nonneg (by omega)]; exact (Int.natCast_emod _ _).symm
        (repeat (first | (simp -implicitDefEqProofs only [ev, mixed, Nat.reduceLT, Nat.reduceAdd, Nat.reduceMul, reduceIte, Nat.reduceEqDiff, reduceCtorEq, Nat.reducePow, Nat.reduceLeDiff, Int.reduceLE, Int.reduceLT, Int.reduceToNat, Int.reduceEq, Nat.reduceBEq, itsOf, gdA, byteI, opid, lenQ, ixQ, ldH, readAt, readCells, asCell, faQ, exQ, fldQ, partA, buildQ, slQ, stH, bslH, appH, dcells, convI, elemsOf, D.one, nilS, fillD, convN, cvH, tyR1Sum0, r1]) | (with_reducible refine ⟨?_, ?_⟩; (· first | (obtain ⟨rfl⟩ := ‹Hq _ _›; with_reducible refine chk_ok ?_; kernel_rfl) | kernel_rfl)) | (with_reducible intro ops hops)))
        refine Wc_split (fun h => ?_) (fun h => ?_)
        · have h1 : j < zpad b.length := by unfold zpad at hj ⊢; simp at h; omega
          clear h
          have e3 : b.length + 1 + j + 1 ≤ 140737488355328 := by unfold zpad at h1; omega
          have e7 : b.length + (j + 1) = b.length + 1 + j := by omega
          (repeat (first | (simp -implicitDefEqProofs only [ev, mixed, Nat.reduceLT, Nat.reduceAdd, Nat.reduceMul, reduceIte, Nat.reduceEqDiff, reduceCtorEq, Nat.reducePow, Nat.reduceLeDiff, Int.reduceLE, Int.reduceLT, Int.reduceToNat, Int.reduceEq, Nat.reduceBEq, itsOf, gdA, byteI, opid, lenQ, ixQ, ldH, readAt, readCells, asCell, faQ, exQ, fldQ, partA, buildQ, slQ, stH, bslH, appH, dcells, convI, elemsOf, D.one, nilS, fillD, convN, cvH, tyR1Sum0, e3, e7, uni_byteI]) | (with_reducible refine ⟨?_, ?_⟩; (· first | (obtain ⟨rfl⟩ := ‹Hq _ _›; with_reducible refine chk_ok ?_; kernel_rfl) | kernel_rfl)) | (with_reducible intro ops hops)))
          refine ⟨j + 1, h1, le_stOf _ _ [] [(101, 101), (102, 102), (103, 4330)] ?_ ?_ rfl rfl, by simp; omega⟩
          · simp [cv, cv1, cv0, upd, lk, srcOf]; omega
          · simp [objOk, srcOf, lk, cvO, frz, upd, hO, byteI, List.replicate_succ']
        · have h1 : j = zpad b.length := by unfold zpad at hj ⊢; simp at h; omega
          subst h1
          clear h hj r1
          have hN : (b.length * 8) % 18446744073709551616 = b.length * 8 := Nat.mod_eq_of_lt (by omega)
          have w1 : IntKind.u64.wrap (b.length : Int) = (b.length : Int) := by rw [IntKind.wrap_u64]; omega
          have w2 : IntKind.u64.wrap (8 * (b.length : Int)) = ((b.length * 8 : Nat) : Int) := by rw [IntKind.wrap_u64]; omega
          have hz : zpad b.length < 64 := Nat.mod_lt _ (by decide)
          have hpad : padOf b.length = 128 :: (List.replicate (zpad b.length) 0 ++ be64 (b.length * 8)) := by rw [padOf, hN]; rfl
          have hlen : b.length + 1 + zpad b.length + 8 = 64 * ((b.length + (padOf b.length).length) / 64) := by rw [padOf_length]; unfold zpad; omega
          have hsha : sha b = outW (blocksW V0 ((b.length + (padOf b.length).length) / 64) (b ++ 128 :: (List.replicate (zpad b.length) 0 ++ be64 (b.length * 8)))) := by rw [← hpad]; rfl
          rw [hsha]
          clear hsha hpad hN
          generalize (b.length + (padOf b.length).length) / 64 = J at hlen ⊢
          generalize zpad b.length = z at hz hlen ⊢
          generalize hNN : b.length * 8 = N at w2 ⊢
          (repeat (first | (simp -implicitDefEqProofs only [ev, mixed, Nat.reduceLT, Nat.reduceAdd, Nat.reduceMul, reduceIte, Nat.reduceEqDiff, reduceCtorEq, Nat.reducePow, Nat.reduceLeDiff, Int.reduceLE, Int.reduceLT, Int.reduceToNat, Int.reduceEq, Nat.reduceBEq, itsOf, gdA, byteI, opid, lenQ, ixQ, ldH, readAt, readCells, asCell, faQ, exQ, fldQ, partA, buildQ, slQ, stH, bslH, appH, dcells, convI, elemsOf, D.one, nilS, fillD, convN, cvH, tyR1Sum0, w1, w2]) | (with_reducible refine ⟨?_, ?_⟩; (· first | (obtain ⟨rfl⟩ := ‹Hq _ _›; with_reducible refine chk_ok ?_; kernel_rfl) | kernel_rfl)) | (with_reducible intro ops hops)))
          refine W_loopI (ι := Nat) (fun t => t ≤ 8)
            (fun t => stOf [(4, .os 101 1 0 64), (5, .os 102 1 0 8), (8, .os 103 1 0 (b.length + 1 + z + t)), (9, .i (.s (.int .u64 (N : Nat)))), (10, .i (.s (.int .i64 (7 - (t : Int)))))]
              [(101, .arr 1 (KS.map u32I)), (102, .arr 1 (V0.list.map u32I)), (103, .arr 1 ((b ++ 128 :: (List.replicate z 0 ++ (be64 N).take t)).map byteI))]) (fun t => 8 - t) 0 (Nat.zero_le _) ?_ ?_
          · refine le_stOf _ _ [] [(101, 101), (102, 102), (103, 103)] ?_ ?_ rfl rfl
            · simp [cv, cv1, cv0, upd, lk, srcOf]
            · simp [objOk, srcOf, lk, cvO, frz, upd, hO, byteI]
          · intro t ht
            rw [stOf_eq]
            (repeat (first | (simp -implicitDefEqProofs only [ev, mixed, Nat.reduceLT, Nat.reduceAdd, Nat.reduceMul, reduceIte, Nat.reduceEqDiff, reduceCtorEq, Nat.reducePow, Nat.reduceLeDiff, Int.reduceLE, Int.reduceLT, Int.reduceToNat, Int.reduceEq, Nat.reduceBEq, itsOf, gdA, byteI, opid, lenQ, ixQ, ldH, readAt, readCells, asCell, faQ, exQ, fldQ, partA, buildQ, slQ, stH, bslH, appH, dcells, convI, elemsOf, D.one, nilS, fillD, convN, cvH, tyR1Sum0]) | (with_reducible refine ⟨?_, ?_⟩; (· first | (obtain ⟨rfl⟩ := ‹Hq _ _›; with_reducible refine chk_ok ?_; kernel_rfl) | kernel_rfl)) | (with_reducible intro ops hops)))
            refine Wc_split (fun h => ?_) (fun h => ?_)
            · have h1 : t < 8 := by simp at h; omega
              clear h
              have hg := be64_get N t h1
              have hts := take_snoc' hg
              have e7 : (7 : Int) - (t : Int) = ((7 - t : Nat) : Int) := by omega
              have w3 : IntKind.i64.wrap (8 * ((7 - t : Nat) : Int)) = ((8 * (7 - t) : Nat) : Int) := by rw [wrap64 (by omega) (by omega)]; omega
              have w4 := byte_shift (k := .u64) N (7 - t) (by simp [IntKind.bits]; omega)
              have w5 : IntKind.i64.wrap (((7 - t : Nat) : Int) - 1) = 7 - ((t + 1 : Nat) : Int) := by rw [wrap64 (by omega) (by omega)]; omega
              have hl8 : (be64 N).length = 8 := rfl
              have e3 : b.length + 1 + z + t + 1 ≤ 140737488355328 := by omega
              have e8 : b.length + (z + (min t (be64 N).length) + 1) = b.length + 1 + z + t := by rw [hl8]; omega
              generalize byteOf N (256 ^ (7 - t)) = c at hts w4
              generalize 7 - t = d at e7 w3 w4 w5
              generalize be64 N = B8 at hts e8 hl8
              (repeat (first | (simp -implicitDefEqProofs only [ev, mixed, Nat.reduceLT, Nat.reduceAdd, Nat.reduceMul, reduceIte, Nat.reduceEqDiff, reduceCtorEq, Nat.reducePow, Nat.reduceLeDiff, Int.reduceLE, Int.reduceLT, Int.reduceToNat, Int.reduceEq, Nat.reduceBEq, itsOf, gdA, byteI, opid, lenQ, ixQ, ldH, readAt, readCells, asCell, faQ, exQ, fldQ, partA, buildQ, slQ, stH, bslH, appH, dcells, convI, elemsOf, D.one, nilS, fillD, convN, cvH, tyR1Sum0, e7, w3, w4, w5, e3, e8, uni_byteI, List.length_take]) | (with_reducible refine ⟨?_, ?_⟩; (· first | (obtain ⟨rfl⟩ := ‹Hq _ _›; with_reducible refine chk_ok ?_; kernel_rfl) | kernel_rfl)) | (with_reducible intro ops hops)))
              refine ⟨t + 1, h1, le_stOf _ _ [] [(101, 101), (102, 102), (103, 5615)] ?_ ?_ rfl rfl, by simp; omega⟩
              · simp [cv, cv1, cv0, upd, lk, srcOf]
                omega
              · simp [objOk, srcOf, lk, cvO, frz, upd, hO, byteI, hts]
            · have h1 : t = 8 := by simp at h; omega
              subst h1
              have hM : (b ++ 128 :: (List.replicate z 0 ++ be64 N)).length = 64 * J := by rw [← hlen]; simp [be64]; omega
              rw [show (be64 N).take 8 = be64 N from rfl, hlen]
              generalize b ++ 128 :: (List.replicate z 0 ++ be64 N) = M at hM ⊢
              have hJ : J ≤ 17179869190 := by omega
              clear hlen hz w1 w2 hNN ht h hb e3 e4
              (repeat (first | (simp -implicitDefEqProofs only [ev, mixed, Nat.reduceLT, Nat.reduceAdd, Nat.reduceMul, reduceIte, Nat.reduceEqDiff, reduceCtorEq, Nat.reducePow, Nat.reduceLeDiff, Int.reduceLE, Int.reduceLT, Int.reduceToNat, Int.reduceEq, Nat.reduceBEq, itsOf, gdA, byteI, opid, lenQ, ixQ, ldH, readAt, readCells, asCell, faQ, exQ, fldQ, partA, buildQ, slQ, stH, bslH, appH, dcells, convI, elemsOf, D.one, nilS, fillD, convN, cvH, tyR1Sum0]) | (with_reducible refine ⟨?_, ?_⟩; (· first | (obtain ⟨rfl⟩ := ‹Hq _ _›; with_reducible refine chk_ok ?_; kernel_rfl) | kernel_rfl)) | (with_reducible intro ops hops)))
              refine W_loopI (ι := Nat) (fun k => k ≤ J)
                (fun k => stOf [(4, .os 101 1 0 64), (5, .os 102 1 0 8), (8, .os 103 1 0 (64 * J)), (11, .i (.s (.int .i64 ((64 * k : Nat) : Int))))]
                  [(101, .arr 1 (KS.map u32I)), (102, .arr 1 ((blocksW V0 k M).list.map u32I)), (103, .arr 1 (M.map byteI))]) (fun k => J - k) 0 (Nat.zero_le _) ?_ ?_
              · refine le_stOf _ _ [] [(101, 101), (102, 102), (103, 103)] ?_ ?_ rfl rfl
                · simp [cv, cv1, cv0, upd, lk, srcOf]
                · simp [objOk, srcOf, lk, cvO, frz, upd, hO, blocksW]
              · intro k hk
                rw [stOf_eq]
                (repeat (first | (simp -implicitDefEqProofs only [ev, mixed, Nat.reduceLT, Nat.reduceAdd, Nat.reduceMul, reduceIte, Nat.reduceEqDiff, reduceCtorEq, Nat.reducePow, Nat.reduceLeDiff, Int.reduceLE, Int.reduceLT, Int.reduceToNat, Int.reduceEq, Nat.reduceBEq, itsOf, gdA, byteI, opid, lenQ, ixQ, ldH, readAt, readCells, asCell, faQ, exQ, fldQ, partA, buildQ, slQ, stH, bslH, appH, dcells, convI, elemsOf, D.one, nilS, fillD, convN, cvH, tyR1Sum0]) | (with_reducible refine ⟨?_, ?_⟩; (· first | (obtain ⟨rfl⟩ := ‹Hq _ _›; with_reducible refine chk_ok ?_; kernel_rfl) | kernel_rfl)) | (with_reducible intro ops hops)))
                refine Wc_split (fun h => ?_) (fun h => ?_)
                · have h1 : k < J := by simp at h; omega
                  clear h
                  have hbs := blocksW_succ k V0 M
                  have hblk : ∀ i, i < 64 → ∃ c : UInt8, M[64 * k + i]? = some c ∧ c.toNat = bnth ((M.drop (64 * k)).take 64) i := by
                    intro i hi
                    have hlt : 64 * k + i < M.length := by omega
                    refine ⟨M[64 * k + i], by simp [hlt], ?_⟩
                    rw [bnth_eq (by simp; omega)]
                    simp
                  generalize (M.drop (64 * k)).take 64 = blk at hbs hblk
                  generalize blocksW V0 k M = v at hbs
                  (repeat (first | (simp -implicitDefEqProofs only [ev, mixed, Nat.reduceLT, Nat.reduceAdd, Nat.reduceMul, reduceIte, Nat.reduceEqDiff, reduceCtorEq, Nat.reducePow, Nat.reduceLeDiff, Int.reduceLE, Int.reduceLT, Int.reduceToNat, Int.reduceEq, Nat.reduceBEq, itsOf, gdA, byteI, opid, lenQ, ixQ, ldH, readAt, readCells, asCell, faQ, exQ, fldQ, partA, buildQ, slQ, stH, bslH, appH, dcells, convI, elemsOf, D.one, nilS, fillD, convN, cvH, tyR1Sum0]) | (with_reducible refine ⟨?_, ?_⟩; (· first | (obtain ⟨rfl⟩ := ‹Hq _ _›; with_reducible refine chk_ok ?_; kernel_rfl) | kernel_rfl)) | (with_reducible intro ops hops)))
                  refine W_loopI (ι := Nat) (fun i => i ≤ 64)
                    (fun i => stOf [(4, .os 101 1 0 64), (5, .os 102 1 0 8), (8, .os 103 1 0 (64 * J)), (11, .i (.s (.int .i64 ((64 * k : Nat) : Int)))), (12, .os 104 1 0 i), (13, .i (.s (.int .i64 (i : Nat))))]
                      [(101, .arr 1 (KS.map u32I)), (102, .arr 1 (v.list.map u32I)), (103, .arr 1 (M.map byteI)), (104, .arr 1 ((sched blk i).map u32I))]) (fun i => 64 - i) 0 (Nat.zero_le _) ?_ ?_
                  · refine le_stOf _ _ [] [(101, 101), (102, 102), (103, 103)] ?_ ?_ rfl rfl
                    · simp [cv, cv1, cv0, upd, lk, srcOf]
                    · simp [objOk, srcOf, lk, cvO, frz, upd, hO, sched]
                  · intro i hi
                    rw [stOf_eq]
                    (repeat (first | (simp -implicitDefEqProofs only [ev, mixed, Nat.reduceLT, Nat.reduceAdd, Nat.reduceMul, reduceIte, Nat.reduceEqDiff, reduceCtorEq, Nat.reducePow, Nat.reduceLeDiff, Int.reduceLE, Int.reduceLT, Int.reduceToNat, Int.reduceEq, Nat.reduceBEq, itsOf, gdA, byteI, opid, lenQ, ixQ, ldH, readAt, readCells, asCell, faQ, exQ, fldQ, partA, buildQ, slQ, stH, bslH, appH, dcells, convI, elemsOf, D.one, nilS, fillD, convN, cvH, tyR1Sum0]) | (with_reducible refine ⟨?_, ?_⟩; (· first | (obtain ⟨rfl⟩ := ‹Hq _ _›; with_reducible refine chk_ok ?_; kernel_rfl) | kernel_rfl)) | (with_reducible intro ops hops)))
                    refine Wc_split (fun h => ?_) (fun h => ?_)
                    · have h2 : i < 64 := by simp at h; omega
                      clear h
                      have hsl := sched_length blk i
                      have hss : sched blk (i + 1) = sched blk i ++ [if i < 16 then wordAt blk (4 * i) else nextW (sched blk i) i] := rfl
                      have w9 : IntKind.i64.wrap ((i : Int) + 1) = ((i + 1 : Nat) : Int) := by rw [wrap64 (by omega) (by omega)]; omega
                      have e3 : i + 1 ≤ 140737488355328 := by omega
                      have e4 : (i + 1) * 4 ≤ 140737488355328 := by omega
                      (repeat (first | (simp -implicitDefEqProofs only [ev, mixed, Nat.reduceLT, Nat.reduceAdd, Nat.reduceMul, reduceIte, Nat.reduceEqDiff, reduceCtorEq, Nat.reducePow, Nat.reduceLeDiff, Int.reduceLE, Int.reduceLT, Int.reduceToNat, Int.reduceEq, Nat.reduceBEq, itsOf, gdA, byteI, opid, lenQ, ixQ, ldH, readAt, readCells, asCell, faQ, exQ, fldQ, partA, buildQ, slQ, stH, bslH, appH, dcells, convI, elemsOf, D.one, nilS, fillD, convN, cvH, tyR1Sum0]) | (with_reducible refine ⟨?_, ?_⟩; (· first | (obtain ⟨rfl⟩ := ‹Hq _ _›; with_reducible refine chk_ok ?_; kernel_rfl) | kernel_rfl)) | (with_reducible intro ops hops)))
                      refine Wc_split (fun h => ?_) (fun h => ?_)
                      · have h3 : i < 16 := by simp at h; omega
                        clear h
                        rw [if_pos h3, wordAt_hor] at hss
                        have hby : ∀ t, t < 4 → ∃ c : UInt8, M[64 * k + 4 * i + t]? = some c ∧ c.toNat = bnth blk (4 * i + t) := by
                          intro t ht
                          have := hblk (4 * i + t) (by omega)
                          rwa [← Nat.add_assoc] at this
                        have w1 : IntKind.i64.wrap (4 * (i : Int)) = ((4 * i : Nat) : Int) := by rw [wrap64 (by omega) (by omega)]; omega
                        have w2 : IntKind.i64.wrap (((64 * k : Nat) : Int) + ((4 * i : Nat) : Int)) = ((64 * k + 4 * i : Nat) : Int) := by rw [wrap64 (by omega) (by omega)]; omega
                        have w3 : IntKind.i64.wrap (((64 * k + 4 * i : Nat) : Int) + 4) = ((64 * k + 4 * i + 4 : Nat) : Int) := by rw [wrap64 (by omega) (by omega)]; omega
                        have hol : 64 * k + 4 * i + 4 ≤ 64 * J := by omega
                        generalize 64 * k + 4 * i = o at w2 w3 hol hby
                        have l1 : ((o : Int) ≤ ((o + 4 : Nat) : Int)) = True := eq_true (by omega)
                        have l2 : (((o + 4 : Nat) : Int) ≤ ((64 * J : Nat) : Int)) = True := eq_true (by omega)
                        have s1 : o + 4 - o = 4 := by omega
                        (repeat (first | (simp -implicitDefEqProofs only [ev, mixed, Nat.reduceLT, Nat.reduceAdd, Nat.reduceMul, reduceIte, Nat.reduceEqDiff, reduceCtorEq, Nat.reducePow, Nat.reduceLeDiff, Int.reduceLE, Int.reduceLT, Int.reduceToNat, Int.reduceEq, Nat.reduceBEq, itsOf, gdA, byteI, opid, lenQ, ixQ, ldH, readAt, readCells, asCell, faQ, exQ, fldQ, partA, buildQ, slQ, stH, bslH, appH, dcells, convI, elemsOf, D.one, nilS, fillD, convN, cvH, tyR1Sum0, w1, w2, w3, l1, l2, s1]) | (with_reducible refine ⟨?_, ?_⟩; (· first | (obtain ⟨rfl⟩ := ‹Hq _ _›; with_reducible refine chk_ok ?_; kernel_rfl) | kernel_rfl)) | (with_reducible intro ops hops)))
                        refine W_loopI (ι := Nat) (fun t => t ≤ 4)
                          (fun t => stOf [(4, .os 101 1 0 64), (5, .os 102 1 0 8), (8, .os 103 1 0 (64 * J)), (11, .i (.s (.int .i64 ((64 * k : Nat) : Int)))), (12, .os 104 1 0 i), (13, .i (.s (.int .i64 (i : Nat)))), (14, .i (.s (.int .u32 (hor blk (4 * i) t : Nat)))), (109, .os 103 1 o 4), (110, .i (.s (.int .i64 4))), (111, .i (.s (.int .i64 (t : Nat))))]
                            [(101, .arr 1 (KS.map u32I)), (102, .arr 1 (v.list.map u32I)), (103, .arr 1 (M.map byteI)), (104, .arr 1 ((sched blk i).map u32I))]) (fun t => 4 - t) 0 (Nat.zero_le _) ?_ ?_
                        · refine le_stOf _ _ [] [(101, 101), (102, 102), (103, 103), (104, 104)] ?_ ?_ rfl rfl
                          · simp [cv, cv1, cv0, upd, lk, srcOf, hor]
                          · simp [objOk, srcOf, lk, cvO, frz, upd, hO]
                        · intro t ht
                          rw [stOf_eq]
                          (repeat (first | (simp -implicitDefEqProofs only [ev, mixed, Nat.reduceLT, Nat.reduceAdd, Nat.reduceMul, reduceIte, Nat.reduceEqDiff, reduceCtorEq, Nat.reducePow, Nat.reduceLeDiff, Int.reduceLE, Int.reduceLT, Int.reduceToNat, Int.reduceEq, Nat.reduceBEq, itsOf, gdA, byteI, opid, lenQ, ixQ, ldH, readAt, readCells, asCell, faQ, exQ, fldQ, partA, buildQ, slQ, stH, bslH, appH, dcells, convI, elemsOf, D.one, nilS, fillD, convN, cvH, tyR1Sum0]) | (with_reducible refine ⟨?_, ?_⟩; (· first | (obtain ⟨rfl⟩ := ‹Hq _ _›; with_reducible refine chk_ok ?_; kernel_rfl) | kernel_rfl)) | (with_reducible intro ops hops)))
                          refine Wc_split (fun h => ?_) (fun h => ?_)
                          · have h4 : t < 4 := by simp at h; omega
                            clear h
                            obtain ⟨c, hc1, hc2⟩ := hby t h4
                            have hx := hor_lt blk (4 * i) t
                            have hx3 : hor blk (4 * i) t < 16777216 := Nat.lt_of_lt_of_le hx (show 256 ^ t ≤ 256 ^ 3 from Nat.pow_le_pow_right (by decide) (by omega))
                            have hs : hor blk (4 * i) (t + 1) = hor blk (4 * i) t * 256 + c.toNat := by rw [hor, hc2]
                            have hcl := c.toNat_lt
                            have ec : (M.map byteI)[o + t]? = some [.s (.int .u8 (c.toNat : Int))] := by simp [hc1, byteI]
                            have l3 : ((t : Int) < 4) = True := eq_true (by omega)
                            have w4 : IntKind.i64.wrap ((t : Int) + 1) = ((t + 1 : Nat) : Int) := by rw [wrap64 (by omega) (by omega)]; omega
                            have w7 : IntKind.u32.wrap (c.toNat : Int) = (c.toNat : Int) := by rw [IntKind.wrap_u32]; omega
                            generalize hor blk (4 * i) t = x at hx3 hs
                            have w5 : IntKind.u32.wrap ((x : Int) * 256) = ((x * 256 : Nat) : Int) := by rw [IntKind.wrap_u32]; omega
                            have w6 : IntKind.u32.wrap (((x * 256 : Nat) : Int) + (c.toNat : Int)) = ((x * 256 + c.toNat : Nat) : Int) := by rw [IntKind.wrap_u32]; omega
                            (repeat (first | (simp -implicitDefEqProofs only [ev, mixed, Nat.reduceLT, Nat.reduceAdd, Nat.reduceMul, reduceIte, Nat.reduceEqDiff, reduceCtorEq, Nat.reducePow, Nat.reduceLeDiff, Int.reduceLE, Int.reduceLT, Int.reduceToNat, Int.reduceEq, Nat.reduceBEq, itsOf, gdA, byteI, opid, lenQ, ixQ, ldH, readAt, readCells, asCell, faQ, exQ, fldQ, partA, buildQ, slQ, stH, bslH, appH, dcells, convI, elemsOf, D.one, nilS, fillD, convN, cvH, tyR1Sum0, ec, l3, w4, w5, w6, w7]) | (with_reducible refine ⟨?_, ?_⟩; (· first | (obtain ⟨rfl⟩ := ‹Hq _ _›; with_reducible refine chk_ok ?_; kernel_rfl) | kernel_rfl)) | (with_reducible intro ops hops)))
                            refine ⟨t + 1, h4, le_stOf _ _ [] [(101, 101), (102, 102), (103, 103), (104, 104)] ?_ ?_ rfl rfl, by simp; omega⟩
                            · simp [cv, cv1, cv0, upd, lk, srcOf, hs]
                            · simp [objOk, srcOf, lk, cvO, frz, upd, hO]
                          · have h4 : t = 4 := by simp at h; omega
                            subst h4
                            clear h hby
                            generalize hor blk (4 * i) 4 = x at hss
                            (repeat (first | (simp -implicitDefEqProofs only [ev, mixed, Nat.reduceLT, Nat.reduceAdd, Nat.reduceMul, reduceIte, Nat.reduceEqDiff, reduceCtorEq, Nat.reducePow, Nat.reduceLeDiff, Int.reduceLE, Int.reduceLT, Int.reduceToNat, Int.reduceEq, Nat.reduceBEq, itsOf, gdA, byteI, opid, lenQ, ixQ, ldH, readAt, readCells, asCell, faQ, exQ, fldQ, partA, buildQ, slQ, stH, bslH, appH, dcells, convI, elemsOf, D.one, nilS, fillD, convN, cvH, tyR1Sum0, e3, e4, uni_u32, hsl, w9]) | (with_reducible refine ⟨?_, ?_⟩; (· first | (obtain ⟨rfl⟩ := ‹Hq _ _›; with_reducible refine chk_ok ?_; kernel_rfl) | kernel_rfl)) | (with_reducible intro ops hops)))
                            refine ⟨i + 1, h2, le_stOf _ _ [] [(101, 101), (102, 102), (103, 103), (104, 9451)] ?_ ?_ rfl rfl, by simp; omega⟩
                            · simp [cv, cv1, cv0, upd, lk, srcOf]
                            · simp [objOk, srcOf, lk, cvO, frz, upd, hO, hss, u32I]
                      · have h3 : 16 ≤ i := by simp at h; omega
                        clear h
                        rw [if_neg (by omega)] at hss
                        generalize sched blk i = l at hss hsl
                        have hget : ∀ d, 1 ≤ d → d ≤ 16 → (l.map u32I)[i - d]? = some [.s (.int .u32 ((l.getD (i - d) 0 : Nat) : Int))] := by
                          intro d h1 h2
                          have hlt : i - d < l.length := by omega
                          simp [hlt, u32I]
                        have g15 := hget 15 (by omega) (by omega)
                        have g2 := hget 2 (by omega) (by omega)
                        have g16 := hget 16 (by omega) (by omega)
                        have g7 := hget 7 (by omega) (by omega)
                        have w15 : IntKind.i64.wrap ((i : Int) - 15) = ((i - 15 : Nat) : Int) := by rw [wrap64 (by omega) (by omega)]; omega
                        have w2 : IntKind.i64.wrap ((i : Int) - 2) = ((i - 2 : Nat) : Int) := by rw [wrap64 (by omega) (by omega)]; omega
                        have w16 : IntKind.i64.wrap ((i : Int) - 16) = ((i - 16 : Nat) : Int) := by rw [wrap64 (by omega) (by omega)]; omega
                        have w7 : IntKind.i64.wrap ((i : Int) - 7) = ((i - 7 : Nat) : Int) := by rw [wrap64 (by omega) (by omega)]; omega
                        have l15 : (((i - 15 : Nat) : Int) < (i : Int)) = True := eq_true (by omega)
                        have l2 : (((i - 2 : Nat) : Int) < (i : Int)) = True := eq_true (by omega)
                        have l16 : (((i - 16 : Nat) : Int) < (i : Int)) = True := eq_true (by omega)
                        have l7 : (((i - 7 : Nat) : Int) < (i : Int)) = True := eq_true (by omega)
                        have hv : nextW l i = wadd (wadd (wadd (l.getD (i - 16) 0) (sgA (l.getD (i - 15) 0))) (l.getD (i - 7) 0)) (sgB (l.getD (i - 2) 0)) := by unfold nextW; exact next_eq _ _ _ _
                        rw [hv] at hss
                        clear hget hv
                        generalize l.getD (i - 15) 0 = x at hss g15
                        generalize l.getD (i - 2) 0 = y at hss g2
                        generalize l.getD (i - 16) 0 = p at hss g16
                        generalize l.getD (i - 7) 0 = q at hss g7
                        unfold sgA sgB at hss
                        generalize i - 15 = i15 at *
                        generalize i - 2 = i2 at *
                        generalize i - 16 = i16 at *
                        generalize i - 7 = i7 at *
                        have sx : (x : Int).fdiv (2 ^ min 3 (IntKind.bits .u32)) = ((wshr x 8 : Nat) : Int) := sh_fdiv x 3 .u32 (by decide)
                        have sy : (y : Int).fdiv (2 ^ min 10 (IntKind.bits .u32)) = ((wshr y 1024 : Nat) : Int) := sh_fdiv y 10 .u32 (by decide)
                        (repeat (first | (simp -implicitDefEqProofs only [ev, mixed, Nat.reduceLT, Nat.reduceAdd, Nat.reduceMul, reduceIte, Nat.reduceEqDiff, reduceCtorEq, Nat.reducePow, Nat.reduceLeDiff, Int.reduceLE, Int.reduceLT, Int.reduceToNat, Int.reduceEq, Nat.reduceBEq, itsOf, gdA, byteI, opid, lenQ, ixQ, ldH, readAt, readCells, asCell, faQ, exQ, fldQ, partA, buildQ, slQ, stH, bslH, appH, dcells, convI, elemsOf, D.one, nilS, fillD, convN, cvH, tyR1Sum0, g15, g2, g16, w15, w2, w16, l15, l2, l16]) | (with_reducible refine ⟨?_, ?_⟩; (· first | (obtain ⟨rfl⟩ := ‹Hq _ _›; with_reducible refine chk_ok ?_; kernel_rfl) | kernel_rfl)) | (with_reducible intro ops hops)))
                        (first | refine Call_flat [] [] (turn_A x 7 (by decide) (by decide)) (by simp [cvAs, cvA, cvRL, cvR, cvBox, cv1, cvL, cv0, bI, byteI, elemsOf, upd]) rfl ?_ | refine CallF_flat [] [] [] (turn_A x 7 (by decide) (by decide)) (fun G _ => by simp [cvAs, cvA, cvRL, cvR, cvBox, cv1, cvL, cv0, bI, byteI, elemsOf, upd]) rfl ?_)
                        (repeat (first | (simp -implicitDefEqProofs only [ev, mixed, Nat.reduceLT, Nat.reduceAdd, Nat.reduceMul, reduceIte, Nat.reduceEqDiff, reduceCtorEq, Nat.reducePow, Nat.reduceLeDiff, Int.reduceLE, Int.reduceLT, Int.reduceToNat, Int.reduceEq, Nat.reduceBEq, itsOf, gdA, byteI, opid, lenQ, ixQ, ldH, readAt, readCells, asCell, faQ, exQ, fldQ, partA, buildQ, slQ, stH, bslH, appH, dcells, convI, elemsOf, D.one, nilS, fillD, convN, cvH, tyR1Sum0]) | (with_reducible refine ⟨?_, ?_⟩; (· first | (obtain ⟨rfl⟩ := ‹Hq _ _›; with_reducible refine chk_ok ?_; kernel_rfl) | kernel_rfl)) | (with_reducible intro ops hops)))
                        (first | refine Call_flat [] [] (turn_A x 18 (by decide) (by decide)) (by simp [cvAs, cvA, cvRL, cvR, cvBox, cv1, cvL, cv0, bI, byteI, elemsOf, upd]) rfl ?_ | refine CallF_flat [] [] [] (turn_A x 18 (by decide) (by decide)) (fun G _ => by simp [cvAs, cvA, cvRL, cvR, cvBox, cv1, cvL, cv0, bI, byteI, elemsOf, upd]) rfl ?_)
                        (repeat (first | (simp -implicitDefEqProofs only [ev, mixed, Nat.reduceLT, Nat.reduceAdd, Nat.reduceMul, reduceIte, Nat.reduceEqDiff, reduceCtorEq, Nat.reducePow, Nat.reduceLeDiff, Int.reduceLE, Int.reduceLT, Int.reduceToNat, Int.reduceEq, Nat.reduceBEq, itsOf, gdA, byteI, opid, lenQ, ixQ, ldH, readAt, readCells, asCell, faQ, exQ, fldQ, partA, buildQ, slQ, stH, bslH, appH, dcells, convI, elemsOf, D.one, nilS, fillD, convN, cvH, tyR1Sum0, rx, sx, wad, g7, w7, l7]) | (with_reducible refine ⟨?_, ?_⟩; (· first | (obtain ⟨rfl⟩ := ‹Hq _ _›; with_reducible refine chk_ok ?_; kernel_rfl) | kernel_rfl)) | (with_reducible intro ops hops)))
                        (first | refine Call_flat [] [] (turn_A y 17 (by decide) (by decide)) (by simp [cvAs, cvA, cvRL, cvR, cvBox, cv1, cvL, cv0, bI, byteI, elemsOf, upd]) rfl ?_ | refine CallF_flat [] [] [] (turn_A y 17 (by decide) (by decide)) (fun G _ => by simp [cvAs, cvA, cvRL, cvR, cvBox, cv1, cvL, cv0, bI, byteI, elemsOf, upd]) rfl ?_)
                        (repeat (first | (simp -implicitDefEqProofs only [ev, mixed, Nat.reduceLT, Nat.reduceAdd, Nat.reduceMul, reduceIte, Nat.reduceEqDiff, reduceCtorEq, Nat.reducePow, Nat.reduceLeDiff, Int.reduceLE, Int.reduceLT, Int.reduceToNat, Int.reduceEq, Nat.reduceBEq, itsOf, gdA, byteI, opid, lenQ, ixQ, ldH, readAt, readCells, asCell, faQ, exQ, fldQ, partA, buildQ, slQ, stH, bslH, appH, dcells, convI, elemsOf, D.one, nilS, fillD, convN, cvH, tyR1Sum0]) | (with_reducible refine ⟨?_, ?_⟩; (· first | (obtain ⟨rfl⟩ := ‹Hq _ _›; with_reducible refine chk_ok ?_; kernel_rfl) | kernel_rfl)) | (with_reducible intro ops hops)))
                        (first | refine Call_flat [] [] (turn_A y 19 (by decide) (by decide)) (by simp [cvAs, cvA, cvRL, cvR, cvBox, cv1, cvL, cv0, bI, byteI, elemsOf, upd]) rfl ?_ | refine CallF_flat [] [] [] (turn_A y 19 (by decide) (by decide)) (fun G _ => by simp [cvAs, cvA, cvRL, cvR, cvBox, cv1, cvL, cv0, bI, byteI, elemsOf, upd]) rfl ?_)
                        (repeat (first | (simp -implicitDefEqProofs only [ev, mixed, Nat.reduceLT, Nat.reduceAdd, Nat.reduceMul, reduceIte, Nat.reduceEqDiff, reduceCtorEq, Nat.reducePow, Nat.reduceLeDiff, Int.reduceLE, Int.reduceLT, Int.reduceToNat, Int.reduceEq, Nat.reduceBEq, itsOf, gdA, byteI, opid, lenQ, ixQ, ldH, readAt, readCells, asCell, faQ, exQ, fldQ, partA, buildQ, slQ, stH, bslH, appH, dcells, convI, elemsOf, D.one, nilS, fillD, convN, cvH, tyR1Sum0, rx, sy, wad, e3, e4, uni_u32, hsl, w9]) | (with_reducible refine ⟨?_, ?_⟩; (· first | (obtain ⟨rfl⟩ := ‹Hq _ _›; with_reducible refine chk_ok ?_; kernel_rfl) | kernel_rfl)) | (with_reducible intro ops hops)))
                        refine ⟨i + 1, h2, le_stOf _ _ [] [(101, 101), (102, 102), (103, 103), (104, 9991)] ?_ ?_ rfl rfl, by simp; omega⟩
                        · simp [cv, cv1, cv0, upd, lk, srcOf]
                        · simp [objOk, srcOf, lk, cvO, frz, upd, hO, hss, u32I]
                    · have h2 : i = 64 := by simp at h; omega
                      subst h2
                      clear h
                      have hWl := sched_length blk 64
                      have hblock : blockW v blk = ⟨wadd v.a (roundsTo v (sched blk 64) 64).a, wadd v.b (roundsTo v (sched blk 64) 64).b, wadd v.c (roundsTo v (sched blk 64) 64).c, wadd v.d (roundsTo v (sched blk 64) 64).d, wadd v.e (roundsTo v (sched blk 64) 64).e, wadd v.f (roundsTo v (sched blk 64) 64).f, wadd v.g (roundsTo v (sched blk 64) 64).g, wadd v.h (roundsTo v (sched blk 64) 64).h⟩ := rfl
                      rw [hblock] at hbs
                      clear hblk hblock hi
                      generalize sched blk 64 = W at hWl hbs ⊢
                      (repeat (first | (simp -implicitDefEqProofs only [ev, mixed, Nat.reduceLT, Nat.reduceAdd, Nat.reduceMul, reduceIte, Nat.reduceEqDiff, reduceCtorEq, Nat.reducePow, Nat.reduceLeDiff, Int.reduceLE, Int.reduceLT, Int.reduceToNat, Int.reduceEq, Nat.reduceBEq, itsOf, gdA, byteI, opid, lenQ, ixQ, ldH, readAt, readCells, asCell, faQ, exQ, fldQ, partA, buildQ, slQ, stH, bslH, appH, dcells, convI, elemsOf, D.one, nilS, fillD, convN, cvH, tyR1Sum0, V8.list, u32I]) | (with_reducible refine ⟨?_, ?_⟩; (· first | (obtain ⟨rfl⟩ := ‹Hq _ _›; with_reducible refine chk_ok ?_; kernel_rfl) | kernel_rfl)) | (with_reducible intro ops hops)))
                      refine W_loopI (ι := Nat) (fun t => t ≤ 64)
                        (fun t => stOf [(4, .os 101 1 0 64), (5, .os 102 1 0 8), (8, .os 103 1 0 (64 * J)), (11, .i (.s (.int .i64 ((64 * k : Nat) : Int)))), (12, .os 104 1 0 64),
                          (19, .i (.s (.int .u32 ((roundsTo v W t).a : Nat)))), (20, .i (.s (.int .u32 ((roundsTo v W t).b : Nat)))), (21, .i (.s (.int .u32 ((roundsTo v W t).c : Nat)))), (22, .i (.s (.int .u32 ((roundsTo v W t).d : Nat)))),
                          (23, .i (.s (.int .u32 ((roundsTo v W t).e : Nat)))), (24, .i (.s (.int .u32 ((roundsTo v W t).f : Nat)))), (25, .i (.s (.int .u32 ((roundsTo v W t).g : Nat)))), (26, .i (.s (.int .u32 ((roundsTo v W t).h : Nat)))), (27, .i (.s (.int .i64 (t : Nat))))]
                          [(101, .arr 1 (KS.map u32I)), (102, .arr 1 (v.list.map u32I)), (103, .arr 1 (M.map byteI)), (104, .arr 1 (W.map u32I))]) (fun t => 64 - t) 0 (Nat.zero_le _) ?_ ?_
                      · refine le_stOf _ _ [] [(101, 101), (102, 102), (103, 103), (104, 104)] ?_ ?_ rfl rfl
                        · simp [cv, cv1, cv0, upd, lk, srcOf, roundsTo]
                        · simp [objOk, srcOf, lk, cvO, frz, upd, hO, V8.list, u32I]
                      · intro t ht
                        rw [stOf_eq]
                        (repeat (first | (simp -implicitDefEqProofs only [ev, mixed, Nat.reduceLT, Nat.reduceAdd, Nat.reduceMul, reduceIte, Nat.reduceEqDiff, reduceCtorEq, Nat.reducePow, Nat.reduceLeDiff, Int.reduceLE, Int.reduceLT, Int.reduceToNat, Int.reduceEq, Nat.reduceBEq, itsOf, gdA, byteI, opid, lenQ, ixQ, ldH, readAt, readCells, asCell, faQ, exQ, fldQ, partA, buildQ, slQ, stH, bslH, appH, dcells, convI, elemsOf, D.one, nilS, fillD, convN, cvH, tyR1Sum0]) | (with_reducible refine ⟨?_, ?_⟩; (· first | (obtain ⟨rfl⟩ := ‹Hq _ _›; with_reducible refine chk_ok ?_; kernel_rfl) | kernel_rfl)) | (with_reducible intro ops hops)))
                        refine Wc_split (fun h => ?_) (fun h => ?_)
                        · have h2 : t < 64 := by simp at h; omega
                          clear h
                          have hs : roundsTo v W (t + 1) = roundW (roundsTo v W t) (KS.getD t 0) (W.getD t 0) := rfl
                          rw [round_eq] at hs
                          have hKl : KS.length = 64 := rfl
                          have gK : (KS.map u32I)[t]? = some [.s (.int .u32 ((KS.getD t 0 : Nat) : Int))] := by simp [show t < KS.length by omega, u32I]
                          have gW : (W.map u32I)[t]? = some [.s (.int .u32 ((W.getD t 0 : Nat) : Int))] := by simp [show t < W.length by omega, u32I]
                          have l1 : ((t : Int) < 64) = True := eq_true (by omega)
                          have w1 : IntKind.i64.wrap ((t : Int) + 1) = ((t + 1 : Nat) : Int) := by rw [wrap64 (by omega) (by omega)]; omega
                          generalize roundsTo v W t = u at hs
                          generalize KS.getD t 0 = Kt at hs gK
                          generalize W.getD t 0 = Wt at hs gW
                          generalize hKK : KS.map u32I = KK at gK
                          obtain ⟨a, b', c, d, e, f, g, h'⟩ := u
                          simp only at hs
                          (repeat (first | (simp -implicitDefEqProofs only [ev, mixed, Nat.reduceLT, Nat.reduceAdd, Nat.reduceMul, reduceIte, Nat.reduceEqDiff, reduceCtorEq, Nat.reducePow, Nat.reduceLeDiff, Int.reduceLE, Int.reduceLT, Int.reduceToNat, Int.reduceEq, Nat.reduceBEq, itsOf, gdA, byteI, opid, lenQ, ixQ, ldH, readAt, readCells, asCell, faQ, exQ, fldQ, partA, buildQ, slQ, stH, bslH, appH, dcells, convI, elemsOf, D.one, nilS, fillD, convN, cvH, tyR1Sum0, bq_andNot, ran, ra, ro]) | (with_reducible refine ⟨?_, ?_⟩; (· first | (obtain ⟨rfl⟩ := ‹Hq _ _›; with_reducible refine chk_ok ?_; kernel_rfl) | kernel_rfl)) | (with_reducible intro ops hops)))
                          (first | refine Call_flat [] [] (turn_A e 6 (by decide) (by decide)) (by simp [cvAs, cvA, cvRL, cvR, cvBox, cv1, cvL, cv0, bI, byteI, elemsOf, upd]) rfl ?_ | refine CallF_flat [] [] [] (turn_A e 6 (by decide) (by decide)) (fun G _ => by simp [cvAs, cvA, cvRL, cvR, cvBox, cv1, cvL, cv0, bI, byteI, elemsOf, upd]) rfl ?_)
                          (repeat (first | (simp -implicitDefEqProofs only [ev, mixed, Nat.reduceLT, Nat.reduceAdd, Nat.reduceMul, reduceIte, Nat.reduceEqDiff, reduceCtorEq, Nat.reducePow, Nat.reduceLeDiff, Int.reduceLE, Int.reduceLT, Int.reduceToNat, Int.reduceEq, Nat.reduceBEq, itsOf, gdA, byteI, opid, lenQ, ixQ, ldH, readAt, readCells, asCell, faQ, exQ, fldQ, partA, buildQ, slQ, stH, bslH, appH, dcells, convI, elemsOf, D.one, nilS, fillD, convN, cvH, tyR1Sum0]) | (with_reducible refine ⟨?_, ?_⟩; (· first | (obtain ⟨rfl⟩ := ‹Hq _ _›; with_reducible refine chk_ok ?_; kernel_rfl) | kernel_rfl)) | (with_reducible intro ops hops)))
                          (first | refine Call_flat [] [] (turn_A e 11 (by decide) (by decide)) (by simp [cvAs, cvA, cvRL, cvR, cvBox, cv1, cvL, cv0, bI, byteI, elemsOf, upd]) rfl ?_ | refine CallF_flat [] [] [] (turn_A e 11 (by decide) (by decide)) (fun G _ => by simp [cvAs, cvA, cvRL, cvR, cvBox, cv1, cvL, cv0, bI, byteI, elemsOf, upd]) rfl ?_)
                          (repeat (first | (simp -implicitDefEqProofs only [ev, mixed, Nat.reduceLT, Nat.reduceAdd, Nat.reduceMul, reduceIte, Nat.reduceEqDiff, reduceCtorEq, Nat.reducePow, Nat.reduceLeDiff, Int.reduceLE, Int.reduceLT, Int.reduceToNat, Int.reduceEq, Nat.reduceBEq, itsOf, gdA, byteI, opid, lenQ, ixQ, ldH, readAt, readCells, asCell, faQ, exQ, fldQ, partA, buildQ, slQ, stH, bslH, appH, dcells, convI, elemsOf, D.one, nilS, fillD, convN, cvH, tyR1Sum0, rx]) | (with_reducible refine ⟨?_, ?_⟩; (· first | (obtain ⟨rfl⟩ := ‹Hq _ _›; with_reducible refine chk_ok ?_; kernel_rfl) | kernel_rfl)) | (with_reducible intro ops hops)))
                          (first | refine Call_flat [] [] (turn_A e 25 (by decide) (by decide)) (by simp [cvAs, cvA, cvRL, cvR, cvBox, cv1, cvL, cv0, bI, byteI, elemsOf, upd]) rfl ?_ | refine CallF_flat [] [] [] (turn_A e 25 (by decide) (by decide)) (fun G _ => by simp [cvAs, cvA, cvRL, cvR, cvBox, cv1, cvL, cv0, bI, byteI, elemsOf, upd]) rfl ?_)
                          (repeat (first | (simp -implicitDefEqProofs only [ev, mixed, Nat.reduceLT, Nat.reduceAdd, Nat.reduceMul, reduceIte, Nat.reduceEqDiff, reduceCtorEq, Nat.reducePow, Nat.reduceLeDiff, Int.reduceLE, Int.reduceLT, Int.reduceToNat, Int.reduceEq, Nat.reduceBEq, itsOf, gdA, byteI, opid, lenQ, ixQ, ldH, readAt, readCells, asCell, faQ, exQ, fldQ, partA, buildQ, slQ, stH, bslH, appH, dcells, convI, elemsOf, D.one, nilS, fillD, convN, cvH, tyR1Sum0, rx, wad, gK, gW, l1]) | (with_reducible refine ⟨?_, ?_⟩; (· first | (obtain ⟨rfl⟩ := ‹Hq _ _›; with_reducible refine chk_ok ?_; kernel_rfl) | kernel_rfl)) | (with_reducible intro ops hops)))
                          (first | refine Call_flat [] [] (turn_A a 2 (by decide) (by decide)) (by simp [cvAs, cvA, cvRL, cvR, cvBox, cv1, cvL, cv0, bI, byteI, elemsOf, upd]) rfl ?_ | refine CallF_flat [] [] [] (turn_A a 2 (by decide) (by decide)) (fun G _ => by simp [cvAs, cvA, cvRL, cvR, cvBox, cv1, cvL, cv0, bI, byteI, elemsOf, upd]) rfl ?_)
                          (repeat (first | (simp -implicitDefEqProofs only [ev, mixed, Nat.reduceLT, Nat.reduceAdd, Nat.reduceMul, reduceIte, Nat.reduceEqDiff, reduceCtorEq, Nat.reducePow, Nat.reduceLeDiff, Int.reduceLE, Int.reduceLT, Int.reduceToNat, Int.reduceEq, Nat.reduceBEq, itsOf, gdA, byteI, opid, lenQ, ixQ, ldH, readAt, readCells, asCell, faQ, exQ, fldQ, partA, buildQ, slQ, stH, bslH, appH, dcells, convI, elemsOf, D.one, nilS, fillD, convN, cvH, tyR1Sum0]) | (with_reducible refine ⟨?_, ?_⟩; (· first | (obtain ⟨rfl⟩ := ‹Hq _ _›; with_reducible refine chk_ok ?_; kernel_rfl) | kernel_rfl)) | (with_reducible intro ops hops)))
                          (first | refine Call_flat [] [] (turn_A a 13 (by decide) (by decide)) (by simp [cvAs, cvA, cvRL, cvR, cvBox, cv1, cvL, cv0, bI, byteI, elemsOf, upd]) rfl ?_ | refine CallF_flat [] [] [] (turn_A a 13 (by decide) (by decide)) (fun G _ => by simp [cvAs, cvA, cvRL, cvR, cvBox, cv1, cvL, cv0, bI, byteI, elemsOf, upd]) rfl ?_)
                          (repeat (first | (simp -implicitDefEqProofs only [ev, mixed, Nat.reduceLT, Nat.reduceAdd, Nat.reduceMul, reduceIte, Nat.reduceEqDiff, reduceCtorEq, Nat.reducePow, Nat.reduceLeDiff, Int.reduceLE, Int.reduceLT, Int.reduceToNat, Int.reduceEq, Nat.reduceBEq, itsOf, gdA, byteI, opid, lenQ, ixQ, ldH, readAt, readCells, asCell, faQ, exQ, fldQ, partA, buildQ, slQ, stH, bslH, appH, dcells, convI, elemsOf, D.one, nilS, fillD, convN, cvH, tyR1Sum0, rx]) | (with_reducible refine ⟨?_, ?_⟩; (· first | (obtain ⟨rfl⟩ := ‹Hq _ _›; with_reducible refine chk_ok ?_; kernel_rfl) | kernel_rfl)) | (with_reducible intro ops hops)))
                          (first | refine Call_flat [] [] (turn_A a 22 (by decide) (by decide)) (by simp [cvAs, cvA, cvRL, cvR, cvBox, cv1, cvL, cv0, bI, byteI, elemsOf, upd]) rfl ?_ | refine CallF_flat [] [] [] (turn_A a 22 (by decide) (by decide)) (fun G _ => by simp [cvAs, cvA, cvRL, cvR, cvBox, cv1, cvL, cv0, bI, byteI, elemsOf, upd]) rfl ?_)
                          (repeat (first | (simp -implicitDefEqProofs only [ev, mixed, Nat.reduceLT, Nat.reduceAdd, Nat.reduceMul, reduceIte, Nat.reduceEqDiff, reduceCtorEq, Nat.reducePow, Nat.reduceLeDiff, Int.reduceLE, Int.reduceLT, Int.reduceToNat, Int.reduceEq, Nat.reduceBEq, itsOf, gdA, byteI, opid, lenQ, ixQ, ldH, readAt, readCells, asCell, faQ, exQ, fldQ, partA, buildQ, slQ, stH, bslH, appH, dcells, convI, elemsOf, D.one, nilS, fillD, convN, cvH, tyR1Sum0, rx, wad, w1]) | (with_reducible refine ⟨?_, ?_⟩; (· first | (obtain ⟨rfl⟩ := ‹Hq _ _›; with_reducible refine chk_ok ?_; kernel_rfl) | kernel_rfl)) | (with_reducible intro ops hops)))
                          refine ⟨t + 1, h2, le_stOf _ _ [] [(101, 101), (102, 102), (103, 103), (104, 104)] ?_ ?_ rfl rfl, by simp; omega⟩
                          · simp [cv, cv1, cv0, upd, lk, srcOf, hs]
                          · simp [objOk, srcOf, lk, cvO, frz, upd, hO, hKK]
                        · have h2 : t = 64 := by simp at h; omega
                          subst h2
                          clear h ht
                          generalize roundsTo v W 64 = u at hbs ⊢
                          (repeat (first | (simp -implicitDefEqProofs only [ev, mixed, Nat.reduceLT, Nat.reduceAdd, Nat.reduceMul, reduceIte, Nat.reduceEqDiff, reduceCtorEq, Nat.reducePow, Nat.reduceLeDiff, Int.reduceLE, Int.reduceLT, Int.reduceToNat, Int.reduceEq, Nat.reduceBEq, itsOf, gdA, byteI, opid, lenQ, ixQ, ldH, readAt, readCells, asCell, faQ, exQ, fldQ, partA, buildQ, slQ, stH, bslH, appH, dcells, convI, elemsOf, D.one, nilS, fillD, convN, cvH, tyR1Sum0, u32I]) | (with_reducible refine ⟨?_, ?_⟩; (· first | (obtain ⟨rfl⟩ := ‹Hq _ _›; with_reducible refine chk_ok ?_; kernel_rfl) | kernel_rfl)) | (with_reducible intro ops hops)))
                          refine W_loopI (ι := Nat) (fun q => q ≤ 8)
                            (fun q => stOf [(4, .os 101 1 0 64), (5, .os 102 1 0 8), (8, .os 103 1 0 (64 * J)), (11, .i (.s (.int .i64 ((64 * k : Nat) : Int)))), (265, .os 105 1 0 8), (266, .i (.s (.int .i64 8))), (267, .i (.s (.int .i64 (q : Nat))))]
                              [(101, .arr 1 (KS.map u32I)), (102, .arr 1 ((hmix v u q).map u32I)), (103, .arr 1 (M.map byteI)), (105, .arr 1 (u.list.map u32I))]) (fun q => 8 - q) 0 (Nat.zero_le _) ?_ ?_
                          · refine le_stOf _ _ [] [(101, 101), (102, 102), (103, 103), (105, 13552)] ?_ ?_ rfl rfl
                            · simp [cv, cv1, cv0, upd, lk, srcOf]
                            · simp [objOk, srcOf, lk, cvO, frz, upd, hO, V8.list, u32I, hmix]
                          · intro q hq
                            rw [stOf_eq]
                            have hc : q = 0 ∨ q = 1 ∨ q = 2 ∨ q = 3 ∨ q = 4 ∨ q = 5 ∨ q = 6 ∨ q = 7 ∨ q = 8 := by omega
                            generalize hKK : KS.map u32I = KK
                            by_cases h8 : q = 8
                            · subst h8
                              have w1 : IntKind.i64.wrap (((64 * k : Nat) : Int) + 64) = ((64 * (k + 1) : Nat) : Int) := by rw [wrap64 (by omega) (by omega)]; omega
                              (repeat (first | (simp -implicitDefEqProofs only [ev, mixed, Nat.reduceLT, Nat.reduceAdd, Nat.reduceMul, reduceIte, Nat.reduceEqDiff, reduceCtorEq, Nat.reducePow, Nat.reduceLeDiff, Int.reduceLE, Int.reduceLT, Int.reduceToNat, Int.reduceEq, Nat.reduceBEq, itsOf, gdA, byteI, opid, lenQ, ixQ, ldH, readAt, readCells, asCell, faQ, exQ, fldQ, partA, buildQ, slQ, stH, bslH, appH, dcells, convI, elemsOf, D.one, nilS, fillD, convN, cvH, tyR1Sum0, w1]) | (with_reducible refine ⟨?_, ?_⟩; (· first | (obtain ⟨rfl⟩ := ‹Hq _ _›; with_reducible refine chk_ok ?_; kernel_rfl) | kernel_rfl)) | (with_reducible intro ops hops)))
                              refine ⟨k + 1, h1, le_stOf _ _ [] [(101, 101), (102, 102), (103, 103)] ?_ ?_ rfl rfl, by simp; omega⟩
                              · simp [cv, cv1, cv0, upd, lk, srcOf]
                              · simp [objOk, srcOf, lk, cvO, frz, upd, hO, hbs, hmix, V8.list, hKK, u32I]
                            · rcases hc with rfl | rfl | rfl | rfl | rfl | rfl | rfl | rfl | rfl
                              · (repeat (first | (simp -implicitDefEqProofs only [ev, mixed, Nat.reduceLT, Nat.reduceAdd, Nat.reduceMul, reduceIte, Nat.reduceEqDiff, reduceCtorEq, Nat.reducePow, Nat.reduceLeDiff, Int.reduceLE, Int.reduceLT, Int.reduceToNat, Int.reduceEq, Nat.reduceBEq, itsOf, gdA, byteI, opid, lenQ, ixQ, ldH, readAt, readCells, asCell, faQ, exQ, fldQ, partA, buildQ, slQ, stH, bslH, appH, dcells, convI, elemsOf, D.one, nilS, fillD, convN, cvH, tyR1Sum0, hmix, V8.list, u32I, wad, List.set_cons_zero, List.set_cons_succ, wq0]) | (with_reducible refine ⟨?_, ?_⟩; (· first | (obtain ⟨rfl⟩ := ‹Hq _ _›; with_reducible refine chk_ok ?_; kernel_rfl) | kernel_rfl)) | (with_reducible intro ops hops)))
                                refine ⟨1, by decide, le_stOf _ _ [] [(101, 101), (102, 102), (103, 103), (105, 105)] ?_ ?_ rfl rfl, by decide⟩
                                · simp [cv, cv1, cv0, upd, lk, srcOf]
                                · simp [objOk, srcOf, lk, cvO, frz, upd, hO, hmix, V8.list, hKK, u32I]
                              · (repeat (first | (simp -implicitDefEqProofs only [ev, mixed, Nat.reduceLT, Nat.reduceAdd, Nat.reduceMul, reduceIte, Nat.reduceEqDiff, reduceCtorEq, Nat.reducePow, Nat.reduceLeDiff, Int.reduceLE, Int.reduceLT, Int.reduceToNat, Int.reduceEq, Nat.reduceBEq, itsOf, gdA, byteI, opid, lenQ, ixQ, ldH, readAt, readCells, asCell, faQ, exQ, fldQ, partA, buildQ, slQ, stH, bslH, appH, dcells, convI, elemsOf, D.one, nilS, fillD, convN, cvH, tyR1Sum0, hmix, V8.list, u32I, wad, List.set_cons_zero, List.set_cons_succ, wq1]) | (with_reducible refine ⟨?_, ?_⟩; (· first | (obtain ⟨rfl⟩ := ‹Hq _ _›; with_reducible refine chk_ok ?_; kernel_rfl) | kernel_rfl)) | (with_reducible intro ops hops)))
                                refine ⟨2, by decide, le_stOf _ _ [] [(101, 101), (102, 102), (103, 103), (105, 105)] ?_ ?_ rfl rfl, by decide⟩
                                · simp [cv, cv1, cv0, upd, lk, srcOf]
                                · simp [objOk, srcOf, lk, cvO, frz, upd, hO, hmix, V8.list, hKK, u32I]
                              · (repeat (first | (simp -implicitDefEqProofs only [ev, mixed, Nat.reduceLT, Nat.reduceAdd, Nat.reduceMul, reduceIte, Nat.reduceEqDiff, reduceCtorEq, Nat.reducePow, Nat.reduceLeDiff, Int.reduceLE, Int.reduceLT, Int.reduceToNat, Int.reduceEq, Nat.reduceBEq, itsOf, gdA, byteI, opid, lenQ, ixQ, ldH, readAt, readCells, asCell, faQ, exQ, fldQ, partA, buildQ, slQ, stH, bslH, appH, dcells, convI, elemsOf, D.one, nilS, fillD, convN, cvH, tyR1Sum0, hmix, V8.list, u32I, wad, List.set_cons_zero, List.set_cons_succ, wq2]) | (with_reducible refine ⟨?_, ?_⟩; (· first | (obtain ⟨rfl⟩ := ‹Hq _ _›; with_reducible refine chk_ok ?_; kernel_rfl) | kernel_rfl)) | (with_reducible intro ops hops)))
                                refine ⟨3, by decide, le_stOf _ _ [] [(101, 101), (102, 102), (103, 103), (105, 105)] ?_ ?_ rfl rfl, by decide⟩
                                · simp [cv, cv1, cv0, upd, lk, srcOf]
                                · simp [objOk, srcOf, lk, cvO, frz, upd, hO, hmix, V8.list, hKK, u32I]
                              · (repeat (first | (simp -implicitDefEqProofs only [ev, mixed, Nat.reduceLT, Nat.reduceAdd, Nat.reduceMul, reduceIte, Nat.reduceEqDiff, reduceCtorEq, Nat.reducePow, Nat.reduceLeDiff, Int.reduceLE, Int.reduceLT, Int.reduceToNat, Int.reduceEq, Nat.reduceBEq, itsOf, gdA, byteI, opid, lenQ, ixQ, ldH, readAt, readCells, asCell, faQ, exQ, fldQ, partA, buildQ, slQ, stH, bslH, appH, dcells, convI, elemsOf, D.one, nilS, fillD, convN, cvH, tyR1Sum0, hmix, V8.list, u32I, wad, List.set_cons_zero, List.set_cons_succ, wq3]) | (with_reducible refine ⟨?_, ?_⟩; (· first | (obtain ⟨rfl⟩ := ‹Hq _ _›; with_reducible refine chk_ok ?_; kernel_rfl) | kernel_rfl)) | (with_reducible intro ops hops)))
                                refine ⟨4, by decide, le_stOf _ _ [] [(101, 101), (102, 102), (103, 103), (105, 105)] ?_ ?_ rfl rfl, by decide⟩
                                · simp [cv, cv1, cv0, upd, lk, srcOf]
                                · simp [objOk, srcOf, lk, cvO, frz, upd, hO, hmix, V8.list, hKK, u32I]
                              · (repeat (first | (simp -implicitDefEqProofs only [ev, mixed, Nat.reduceLT, Nat.reduceAdd, Nat.reduceMul, reduceIte, Nat.reduceEqDiff, reduceCtorEq, Nat.reducePow, Nat.reduceLeDiff, Int.reduceLE, Int.reduceLT, Int.reduceToNat, Int.reduceEq, Nat.reduceBEq, itsOf, gdA, byteI, opid, lenQ, ixQ, ldH, readAt, readCells, asCell, faQ, exQ, fldQ, partA, buildQ, slQ, stH, bslH, appH, dcells, convI, elemsOf, D.one, nilS, fillD, convN, cvH, tyR1Sum0, hmix, V8.list, u32I, wad, List.set_cons_zero, List.set_cons_succ, wq4]) | (with_reducible refine ⟨?_, ?_⟩; (· first | (obtain ⟨rfl⟩ := ‹Hq _ _›; with_reducible refine chk_ok ?_; kernel_rfl) | kernel_rfl)) | (with_reducible intro ops hops)))
                                refine ⟨5, by decide, le_stOf _ _ [] [(101, 101), (102, 102), (103, 103), (105, 105)] ?_ ?_ rfl rfl, by decide⟩
                                · simp [cv, cv1, cv0, upd, lk, srcOf]
                                · simp [objOk, srcOf, lk, cvO, frz, upd, hO, hmix, V8.list, hKK, u32I]
                              · (repeat (first | (simp -implicitDefEqProofs only [ev, mixed, Nat.reduceLT, Nat.reduceAdd, Nat.reduceMul, reduceIte, Nat.reduceEqDiff, reduceCtorEq, Nat.reducePow, Nat.reduceLeDiff, Int.reduceLE, Int.reduceLT, Int.reduceToNat, Int.reduceEq, Nat.reduceBEq, itsOf, gdA, byteI, opid, lenQ, ixQ, ldH, readAt, readCells, asCell, faQ, exQ, fldQ, partA, buildQ, slQ, stH, bslH, appH, dcells, convI, elemsOf, D.one, nilS, fillD, convN, cvH, tyR1Sum0, hmix, V8.list, u32I, wad, List.set_cons_zero, List.set_cons_succ, wq5]) | (with_reducible refine ⟨?_, ?_⟩; (· first | (obtain ⟨rfl⟩ := ‹Hq _ _›; with_reducible refine chk_ok ?_; kernel_rfl) | kernel_rfl)) | (with_reducible intro ops hops)))
                                refine ⟨6, by decide, le_stOf _ _ [] [(101, 101), (102, 102), (103, 103), (105, 105)] ?_ ?_ rfl rfl, by decide⟩
                                · simp [cv, cv1, cv0, upd, lk, srcOf]
                                · simp [objOk, srcOf, lk, cvO, frz, upd, hO, hmix, V8.list, hKK, u32I]
                              · (repeat (first | (simp -implicitDefEqProofs only [ev, mixed, Nat.reduceLT, Nat.reduceAdd, Nat.reduceMul, reduceIte, Nat.reduceEqDiff, reduceCtorEq, Nat.reducePow, Nat.reduceLeDiff, Int.reduceLE, Int.reduceLT, Int.reduceToNat, Int.reduceEq, Nat.reduceBEq, itsOf, gdA, byteI, opid, lenQ, ixQ, ldH, readAt, readCells, asCell, faQ, exQ, fldQ, partA, buildQ, slQ, stH, bslH, appH, dcells, convI, elemsOf, D.one, nilS, fillD, convN, cvH, tyR1Sum0, hmix, V8.list, u32I, wad, List.set_cons_zero, List.set_cons_succ, wq6]) | (with_reducible refine ⟨?_, ?_⟩; (· first | (obtain ⟨rfl⟩ := ‹Hq _ _›; with_reducible refine chk_ok ?_; kernel_rfl) | kernel_rfl)) | (with_reducible intro ops hops)))
                                refine ⟨7, by decide, le_stOf _ _ [] [(101, 101), (102, 102), (103, 103), (105, 105)] ?_ ?_ rfl rfl, by decide⟩
                                · simp [cv, cv1, cv0, upd, lk, srcOf]
                                · simp [objOk, srcOf, lk, cvO, frz, upd, hO, hmix, V8.list, hKK, u32I]
                              · (repeat (first | (simp -implicitDefEqProofs only [ev, mixed, Nat.reduceLT, Nat.reduceAdd, Nat.reduceMul, reduceIte, Nat.reduceEqDiff, reduceCtorEq, Nat.reducePow, Nat.reduceLeDiff, Int.reduceLE, Int.reduceLT, Int.reduceToNat, Int.reduceEq, Nat.reduceBEq, itsOf, gdA, byteI, opid, lenQ, ixQ, ldH, readAt, readCells, asCell, faQ, exQ, fldQ, partA, buildQ, slQ, stH, bslH, appH, dcells, convI, elemsOf, D.one, nilS, fillD, convN, cvH, tyR1Sum0, hmix, V8.list, u32I, wad, List.set_cons_zero, List.set_cons_succ, wq7]) | (with_reducible refine ⟨?_, ?_⟩; (· first | (obtain ⟨rfl⟩ := ‹Hq _ _›; with_reducible refine chk_ok ?_; kernel_rfl) | kernel_rfl)) | (with_reducible intro ops hops)))
                                refine ⟨8, by decide, le_stOf _ _ [] [(101, 101), (102, 102), (103, 103), (105, 105)] ?_ ?_ rfl rfl, by decide⟩
                                · simp [cv, cv1, cv0, upd, lk, srcOf]
                                · simp [objOk, srcOf, lk, cvO, frz, upd, hO, hmix, V8.list, hKK, u32I]
                              · exact absurd rfl h8
                · have h1 : k = J := by simp at h; omega
                  subst h1
                  clear h
                  generalize blocksW V0 k M = v
                  (repeat (first | (simp -implicitDefEqProofs only [ev, mixed, Nat.reduceLT, Nat.reduceAdd, Nat.reduceMul, reduceIte, Nat.reduceEqDiff, reduceCtorEq, Nat.reducePow, Nat.reduceLeDiff, Int.reduceLE, Int.reduceLT, Int.reduceToNat, Int.reduceEq, Nat.reduceBEq, itsOf, gdA, byteI, opid, lenQ, ixQ, ldH, readAt, readCells, asCell, faQ, exQ, fldQ, partA, buildQ, slQ, stH, bslH, appH, dcells, convI, elemsOf, D.one, nilS, fillD, convN, cvH, tyR1Sum0]) | (with_reducible refine ⟨?_, ?_⟩; (· first | (obtain ⟨rfl⟩ := ‹Hq _ _›; with_reducible refine chk_ok ?_; kernel_rfl) | kernel_rfl)) | (with_reducible intro ops hops)))
                  clear hM hJ hk
                  refine W_loopI (ι := Nat) (fun q => q ≤ 8)
                    (fun q => stOf [(34, .os 106 1 0 (4 * q)), (282, .os 102 1 0 8), (283, .i (.s (.int .i64 8))), (284, .i (.s (.int .i64 (q : Nat))))]
                      [(102, .arr 1 (v.list.map u32I)), (106, .arr 1 ((obytes v q).map byteI))]) (fun q => 8 - q) 0 (Nat.zero_le _) ?_ ?_
                  · refine le_stOf _ _ [] [(102, 102)] ?_ ?_ rfl rfl
                    · simp [cv, cv1, cv0, upd, lk, srcOf]
                    · simp [objOk, srcOf, lk, cvO, frz, upd, hO, obytes]
                  · intro q hq
                    rw [stOf_eq]
                    (repeat (first | (simp -implicitDefEqProofs only [ev, mixed, Nat.reduceLT, Nat.reduceAdd, Nat.reduceMul, reduceIte, Nat.reduceEqDiff, reduceCtorEq, Nat.reducePow, Nat.reduceLeDiff, Int.reduceLE, Int.reduceLT, Int.reduceToNat, Int.reduceEq, Nat.reduceBEq, itsOf, gdA, byteI, opid, lenQ, ixQ, ldH, readAt, readCells, asCell, faQ, exQ, fldQ, partA, buildQ, slQ, stH, bslH, appH, dcells, convI, elemsOf, D.one, nilS, fillD, convN, cvH, tyR1Sum0]) | (with_reducible refine ⟨?_, ?_⟩; (· first | (obtain ⟨rfl⟩ := ‹Hq _ _›; with_reducible refine chk_ok ?_; kernel_rfl) | kernel_rfl)) | (with_reducible intro ops hops)))
                    refine Wc_split (fun h => ?_) (fun h => ?_)
                    · have h2 : q < 8 := by simp at h; omega
                      clear h
                      have hol := obytes_len v q hq
                      have hos := obytes_succ v q h2
                      have hvl : v.list.length = 8 := rfl
                      have gq : (v.list.map u32I)[q]? = some [.s (.int .u32 ((v.list.getD q 0 : Nat) : Int))] := by simp [show q < v.list.length by omega, u32I]
                      have l1 : ((q : Int) < 8) = True := eq_true (by omega)
                      generalize v.list.getD q 0 = x at hos gq
                      generalize obytes v q = ob at hol hos
                      generalize hVL : v.list.map u32I = VL at gq
                      (repeat (first | (simp -implicitDefEqProofs only [ev, mixed, Nat.reduceLT, Nat.reduceAdd, Nat.reduceMul, reduceIte, Nat.reduceEqDiff, reduceCtorEq, Nat.reducePow, Nat.reduceLeDiff, Int.reduceLE, Int.reduceLT, Int.reduceToNat, Int.reduceEq, Nat.reduceBEq, itsOf, gdA, byteI, opid, lenQ, ixQ, ldH, readAt, readCells, asCell, faQ, exQ, fldQ, partA, buildQ, slQ, stH, bslH, appH, dcells, convI, elemsOf, D.one, nilS, fillD, convN, cvH, tyR1Sum0, gq, l1]) | (with_reducible refine ⟨?_, ?_⟩; (· first | (obtain ⟨rfl⟩ := ‹Hq _ _›; with_reducible refine chk_ok ?_; kernel_rfl) | kernel_rfl)) | (with_reducible intro ops hops)))
                      refine W_loopI (ι := Nat) (fun t => t ≤ 4)
                        (fun t => stOf [(34, .os 106 1 0 (4 * q + t)), (36, .i (.s (.int .u32 (x : Nat)))), (37, .i (.s (.int .i64 (3 - (t : Int))))), (282, .os 102 1 0 8), (283, .i (.s (.int .i64 8))), (284, .i (.s (.int .i64 (q : Nat))))]
                          [(102, .arr 1 VL), (106, .arr 1 ((ob ++ (be32 x).take t).map byteI))]) (fun t => 4 - t) 0 (Nat.zero_le _) ?_ ?_
                      · refine le_stOf _ _ [] [(102, 102), (106, 106)] ?_ ?_ rfl rfl
                        · simp [cv, cv1, cv0, upd, lk, srcOf]
                        · simp [objOk, srcOf, lk, cvO, frz, upd, hO]
                      · intro t ht
                        rw [stOf_eq]
                        (repeat (first | (simp -implicitDefEqProofs only [ev, mixed, Nat.reduceLT, Nat.reduceAdd, Nat.reduceMul, reduceIte, Nat.reduceEqDiff, reduceCtorEq, Nat.reducePow, Nat.reduceLeDiff, Int.reduceLE, Int.reduceLT, Int.reduceToNat, Int.reduceEq, Nat.reduceBEq, itsOf, gdA, byteI, opid, lenQ, ixQ, ldH, readAt, readCells, asCell, faQ, exQ, fldQ, partA, buildQ, slQ, stH, bslH, appH, dcells, convI, elemsOf, D.one, nilS, fillD, convN, cvH, tyR1Sum0]) | (with_reducible refine ⟨?_, ?_⟩; (· first | (obtain ⟨rfl⟩ := ‹Hq _ _›; with_reducible refine chk_ok ?_; kernel_rfl) | kernel_rfl)) | (with_reducible intro ops hops)))
                        refine Wc_split (fun h => ?_) (fun h => ?_)
                        · have h1 : t < 4 := by simp at h; omega
                          clear h
                          have hts := take_snoc' (be32_get x t h1)
                          have e7 : (3 : Int) - (t : Int) = ((3 - t : Nat) : Int) := by omega
                          have w3 : IntKind.i64.wrap (8 * ((3 - t : Nat) : Int)) = ((8 * (3 - t) : Nat) : Int) := by rw [wrap64 (by omega) (by omega)]; omega
                          have w4 := byte_shift (k := .u32) x (3 - t) (by simp [IntKind.bits]; omega)
                          have w5 : IntKind.i64.wrap (((3 - t : Nat) : Int) - 1) = 3 - ((t + 1 : Nat) : Int) := by rw [wrap64 (by omega) (by omega)]; omega
                          have hl8 : (be32 x).length = 4 := rfl
                          have e3 : 4 * q + t + 1 ≤ 140737488355328 := by omega
                          have e8 : ob.length + min t (be32 x).length = 4 * q + t := by rw [hl8]; omega
                          generalize byteOf x (256 ^ (3 - t)) = c at hts w4
                          generalize 3 - t = d at e7 w3 w4 w5
                          generalize be32 x = B4 at hts e8 hl8
                          (repeat (first | (simp -implicitDefEqProofs only [ev, mixed, Nat.reduceLT, Nat.reduceAdd, Nat.reduceMul, reduceIte, Nat.reduceEqDiff, reduceCtorEq, Nat.reducePow, Nat.reduceLeDiff, Int.reduceLE, Int.reduceLT, Int.reduceToNat, Int.reduceEq, Nat.reduceBEq, itsOf, gdA, byteI, opid, lenQ, ixQ, ldH, readAt, readCells, asCell, faQ, exQ, fldQ, partA, buildQ, slQ, stH, bslH, appH, dcells, convI, elemsOf, D.one, nilS, fillD, convN, cvH, tyR1Sum0, e7, w3, w4, w5, e3, e8, uni_byteI, List.length_take]) | (with_reducible refine ⟨?_, ?_⟩; (· first | (obtain ⟨rfl⟩ := ‹Hq _ _›; with_reducible refine chk_ok ?_; kernel_rfl) | kernel_rfl)) | (with_reducible intro ops hops)))
                          refine ⟨t + 1, h1, le_stOf _ _ [] [(102, 102), (106, 16623)] ?_ ?_ rfl rfl, by simp; omega⟩
                          · simp [cv, cv1, cv0, upd, lk, srcOf]; omega
                          · simp [objOk, srcOf, lk, cvO, frz, upd, hO, byteI, hts]
                        · have h1 : t = 4 := by simp at h; omega
                          subst h1
                          have w1 : IntKind.i64.wrap ((q : Int) + 1) = ((q + 1 : Nat) : Int) := by rw [wrap64 (by omega) (by omega)]; omega
                          rw [show (be32 x).take 4 = be32 x from rfl, ← hos]
                          (repeat (first | (simp -implicitDefEqProofs only [ev, mixed, Nat.reduceLT, Nat.reduceAdd, Nat.reduceMul, reduceIte, Nat.reduceEqDiff, reduceCtorEq, Nat.reducePow, Nat.reduceLeDiff, Int.reduceLE, Int.reduceLT, Int.reduceToNat, Int.reduceEq, Nat.reduceBEq, itsOf, gdA, byteI, opid, lenQ, ixQ, ldH, readAt, readCells, asCell, faQ, exQ, fldQ, partA, buildQ, slQ, stH, bslH, appH, dcells, convI, elemsOf, D.one, nilS, fillD, convN, cvH, tyR1Sum0, w1]) | (with_reducible refine ⟨?_, ?_⟩; (· first | (obtain ⟨rfl⟩ := ‹Hq _ _›; with_reducible refine chk_ok ?_; kernel_rfl) | kernel_rfl)) | (with_reducible intro ops hops)))
                          refine ⟨q + 1, h2, le_stOf _ _ [] [(102, 102), (106, 106)] ?_ ?_ rfl rfl, by simp; omega⟩
                          · simp [cv, cv1, cv0, upd, lk, srcOf]; omega
                          · simp [objOk, srcOf, lk, cvO, frz, upd, hO, hVL]
                    · have h2 : q = 8 := by simp at h; omega
                      subst h2
                      have hol := obytes_len v 8 (Nat.le_refl _)
                      rw [← obytes_all]
                      generalize obytes v 8 = ob at hol
                      (repeat (first | (simp -implicitDefEqProofs only [ev, mixed, Nat.reduceLT, Nat.reduceAdd, Nat.reduceMul, reduceIte, Nat.reduceEqDiff, reduceCtorEq, Nat.reducePow, Nat.reduceLeDiff, Int.reduceLE, Int.reduceLT, Int.reduceToNat, Int.reduceEq, Nat.reduceBEq, itsOf, gdA, byteI, opid, lenQ, ixQ, ldH, readAt, readCells, asCell, faQ, exQ, fldQ, partA, buildQ, slQ, stH, bslH, appH, dcells, convI, elemsOf, D.one, nilS, fillD, convN, cvH, tyR1Sum0]) | (with_reducible refine ⟨?_, ?_⟩; (· first | (obtain ⟨rfl⟩ := ‹Hq _ _›; with_reducible refine chk_ok ?_; kernel_rfl) | kernel_rfl)) | (with_reducible intro ops hops)))
                      refine fin_ret [106] rfl ?_
                      have hof : List.take 32 (ob.map byteI) = ob.map byteI := List.take_of_length_le (by simp; omega)
                      simp [cv, cv1, cv0, upd, hO, lk, elemsOf, hol, hof]
end Go.Proofs.Ytdpfjmkilbepgaa
/- Walks of landref3.Num and Write. -/
set_option linter.all false
namespace Go.Proofs.Ytdpfjmkilbepgaa
open Go Go.Abs Go.RowKit Go.Proofs.Ytdpfjmkilbepgaa.Ty
theorem tyR3Write0 : (type_of% @Ty.T1) ∧ (type_of% @Ty.T5) ∧ (type_of% @Ty.T25) ∧ (type_of% @Ty.T44) := ⟨@Ty.T1, @Ty.T5, @Ty.T25, @Ty.T44⟩
theorem tyR3Write1 : (type_of% @Ty.T1) ∧ (type_of% @Ty.T3) ∧ (type_of% @Ty.T5) ∧ (type_of% @Ty.T25) ∧ (type_of% @Ty.T31) ∧ (type_of% @Ty.T44) ∧ (type_of% @Ty.T103) ∧ (type_of% @Ty.T107) ∧ (type_of% @Ty.T141) := ⟨@Ty.T1, @Ty.T3, @Ty.T5, @Ty.T25, @Ty.T31, @Ty.T44, @Ty.T103, @Ty.T107, @Ty.T141⟩

set_option maxHeartbeats 2000000
theorem num_A (n : Nat) (hn : n < 18446744073709551616) :
    CallD Try.prog 137 [.i (.s (.int .u64 n))] noH (.os 1 1 0 (vnum n).length) (hOf noH [(1, .arr 1 ((vnum n).map byteI))]) := by
  generalize hr : vnum n = res
  refine callD_W 20 Try.func137 rfl rfl rfl (fun o ho => rfl) ?_
  have hn2 : n < 2 * 128 ^ 9 := by have : (2:Nat) * 128 ^ 9 = 18446744073709551616 := by decide
                                   omega
  (repeat (first | (simp -implicitDefEqProofs only [ev, mixed, Nat.reduceLT, Nat.reduceAdd, Nat.reduceMul, reduceIte, Nat.reduceEqDiff, reduceCtorEq, Nat.reducePow, Nat.reduceLeDiff, Int.reduceLE, Int.reduceLT, Int.reduceToNat, Int.reduceEq, Nat.reduceBEq, itsOf, gdA, byteI, opid, lenQ, ixQ, ldH, readAt, readCells, asCell, faQ, exQ, fldQ, partA, buildQ, slQ, stH, bslH, appH, dcells, convI, elemsOf, D.one, nilS, fillD, convN, cvH, tyR3Write0]) | (with_reducible refine ⟨?_, ?_⟩; (· first | (obtain ⟨rfl⟩ := ‹Hq _ _›; with_reducible refine chk_ok ?_; kernel_rfl) | kernel_rfl)) | (with_reducible intro ops hops)))
  refine W_loop (ι := { p : List UInt8 × Nat × Nat // p.2.1 < 2 * 128 ^ p.2.2 ∧ p.1 ++ vnumF p.2.2 p.2.1 = res ∧ p.1.length + p.2.2 ≤ 9 ∧ p.2.2 ≤ 9 })
    (fun p => stOf [(3, .os 100 1 0 p.1.1.length), (0, .i (.s (.int .u64 (p.1.2.1 : Nat))))] [(100, .arr 1 (p.1.1.map byteI))]) (fun p => p.1.2.2) ⟨([], n, 9), hn2, hr, by simp, by simp⟩ ?_ ?_
  · refine le_stOf _ _ [] [] ?_ ?_ rfl rfl
    · simp [cv, cv1, cv0, upd, lk, srcOf]
    · simp [objOk, srcOf, lk, cvO, frz, hF]
  · rintro ⟨⟨acc', n', f⟩, h1, h2, h3, h4⟩
    simp only at h1 h2 h3 h4
    rw [stOf_eq]
    (repeat (first | (simp -implicitDefEqProofs only [ev, mixed, Nat.reduceLT, Nat.reduceAdd, Nat.reduceMul, reduceIte, Nat.reduceEqDiff, reduceCtorEq, Nat.reducePow, Nat.reduceLeDiff, Int.reduceLE, Int.reduceLT, Int.reduceToNat, Int.reduceEq, Nat.reduceBEq, itsOf, gdA, byteI, opid, lenQ, ixQ, ldH, readAt, readCells, asCell, faQ, exQ, fldQ, partA, buildQ, slQ, stH, bslH, appH, dcells, convI, elemsOf, D.one, nilS, fillD, convN, cvH, tyR3Write0]) | (with_reducible refine ⟨?_, ?_⟩; (· first | (obtain ⟨rfl⟩ := ‹Hq _ _›; with_reducible refine chk_ok ?_; kernel_rfl) | kernel_rfl)) | (with_reducible intro ops hops)))
    have e3 : acc'.length + 1 ≤ 140737488355328 := by omega
    refine Wc_split (fun h => ?_) (fun h => ?_)
    · have h5 : 128 ≤ n' := by simp at h; omega
      clear h
      have e1 : IntKind.u64.wrap (128 + (n' : Int).tmod 128) = ((n' % 128 + 128 : Nat) : Int) := by
        rw [IntKind.wrap_u64, Int.tmod_eq_emod_of_nonneg (by omega)]; omega
      have e2 : IntKind.u8.wrap ((n' % 128 + 128 : Nat) : Int) = ((UInt8.ofNat (n' % 128 + 128)).toNat : Int) := by
        rw [IntKind.wrap_u8, UInt8.toNat_ofNat']; omega
      have e4 : IntKind.u64.wrap ((n' : Int).tdiv 128) = ((n' / 128 : Nat) : Int) := by
        have := Nat.pow_le_pow_right (show 1 ≤ 128 by decide) h4
        have : (128 : Nat) ^ 9 = 9223372036854775808 := by decide
        rw [IntKind.wrap_u64, Int.tdiv_eq_ediv_of_nonneg (by omega)]; omega
      (repeat (first | (simp -implicitDefEqProofs only [ev, mixed, Nat.reduceLT, Nat.reduceAdd, Nat.reduceMul, reduceIte, Nat.reduceEqDiff, reduceCtorEq, Nat.reducePow, Nat.reduceLeDiff, Int.reduceLE, Int.reduceLT, Int.reduceToNat, Int.reduceEq, Nat.reduceBEq, itsOf, gdA, byteI, opid, lenQ, ixQ, ldH, readAt, readCells, asCell, faQ, exQ, fldQ, partA, buildQ, slQ, stH, bslH, appH, dcells, convI, elemsOf, D.one, nilS, fillD, convN, cvH, tyR3Write0, e1, e2, e3, e4]) | (with_reducible refine ⟨?_, ?_⟩; (· first | (obtain ⟨rfl⟩ := ‹Hq _ _›; with_reducible refine chk_ok ?_; kernel_rfl) | kernel_rfl)) | (with_reducible intro ops hops)))
      cases f with
      | zero => simp at h1; omega
      | succ f =>
      refine ⟨⟨(acc' ++ [UInt8.ofNat (n' % 128 + 128)], n' / 128, f), ?_, ?_, ?_, ?_⟩, le_stOf _ _ [] [(100, 1774)] ?_ ?_ rfl rfl, ?_⟩
      · simp only [Nat.pow_succ] at h1 ⊢; omega
      · rw [← h2, vnumF, if_neg (by omega)]; simp
      · simp at h3 ⊢; omega
      · simp at h4 ⊢; omega
      · simp [cv, cv1, cv0, upd, lk, srcOf]
      · simp [objOk, srcOf, lk, cvO, frz, upd, byteI]
      · simp
    · have h5 : n' < 128 := by simp at h; omega
      clear h
      have e1 : IntKind.u8.wrap (n' : Int) = ((UInt8.ofNat n').toNat : Int) := by rw [IntKind.wrap_u8]; exact byte_of n' h5
      (repeat (first | (simp -implicitDefEqProofs only [ev, mixed, Nat.reduceLT, Nat.reduceAdd, Nat.reduceMul, reduceIte, Nat.reduceEqDiff, reduceCtorEq, Nat.reducePow, Nat.reduceLeDiff, Int.reduceLE, Int.reduceLT, Int.reduceToNat, Int.reduceEq, Nat.reduceBEq, itsOf, gdA, byteI, opid, lenQ, ixQ, ldH, readAt, readCells, asCell, faQ, exQ, fldQ, partA, buildQ, slQ, stH, bslH, appH, dcells, convI, elemsOf, D.one, nilS, fillD, convN, cvH, tyR3Write0, e1, e3]) | (with_reducible refine ⟨?_, ?_⟩; (· first | (obtain ⟨rfl⟩ := ‹Hq _ _›; with_reducible refine chk_ok ?_; kernel_rfl) | kernel_rfl)) | (with_reducible intro ops hops)))
      have hres : res = acc' ++ [UInt8.ofNat n'] := by
        rw [← h2]; cases f with
        | zero => rfl
        | succ f => rw [vnumF, if_pos h5]
      subst hres
      refine fin_retD _ [] [(1, 2284)] rfl ?_ ?_ rfl ?_ rfl
      · simp [cv, cv1, cv0, upd, srcR, lk, noH]
      · simp [objOk, srcR, lk, cvO, frz, upd, byteI, noH]
      · simp [noH]
theorem write3_A (l : List PieceD) (hl : l.length ≤ 1048576) (hb : ∀ p ∈ l, p.b.length ≤ 1048576) (hn : n64s l) :
    PureD Try.prog 119 [.i (.sl (l.map encP))] (.tup [.i (bI (writeF l).1), faultD (writeF l).2.1 (writeF l).2.2]) := by
  refine callD_W 57 Try.func119 rfl rfl rfl (fun _ _ => rfl) ?_
  (repeat (first | (simp -implicitDefEqProofs only [ev, mixed, Nat.reduceLT, Nat.reduceAdd, Nat.reduceMul, reduceIte, Nat.reduceEqDiff, reduceCtorEq, Nat.reducePow, Nat.reduceLeDiff, Int.reduceLE, Int.reduceLT, Int.reduceToNat, Int.reduceEq, Nat.reduceBEq, itsOf, gdA, byteI, opid, lenQ, ixQ, ldH, readAt, readCells, asCell, faQ, exQ, fldQ, partA, buildQ, slQ, stH, bslH, appH, dcells, convI, elemsOf, D.one, nilS, fillD, convN, cvH, tyR3Write1]) | (with_reducible refine ⟨?_, ?_⟩; (· first | (obtain ⟨rfl⟩ := ‹Hq _ _›; with_reducible refine chk_ok ?_; kernel_rfl) | kernel_rfl)) | (with_reducible intro ops hops)))
  refine Wc_split (fun h => ?_) (fun h => ?_)
  · have h1 : 200 < l.length := by simp at h; omega
    clear h
    (repeat (first | (simp -implicitDefEqProofs only [ev, mixed, Nat.reduceLT, Nat.reduceAdd, Nat.reduceMul, reduceIte, Nat.reduceEqDiff, reduceCtorEq, Nat.reducePow, Nat.reduceLeDiff, Int.reduceLE, Int.reduceLT, Int.reduceToNat, Int.reduceEq, Nat.reduceBEq, itsOf, gdA, byteI, opid, lenQ, ixQ, ldH, readAt, readCells, asCell, faQ, exQ, fldQ, partA, buildQ, slQ, stH, bslH, appH, dcells, convI, elemsOf, D.one, nilS, fillD, convN, cvH, tyR3Write1]) | (with_reducible refine ⟨?_, ?_⟩; (· first | (obtain ⟨rfl⟩ := ‹Hq _ _›; with_reducible refine chk_ok ?_; kernel_rfl) | kernel_rfl)) | (with_reducible intro ops hops)))
    refine fin_2 [] rfl ag141 sz141 (by simp [upd, readAt, readCells]; rfl) ?_
    simp [cv, cvT, cv1, cvL, cv0, upd, writeF, h1, faultD, bI]
  · have h1 : l.length ≤ 200 := by simp at h; omega
    clear h
    have e1 : IntKind.u64.wrap (l.length : Int) = (l.length : Int) := by rw [IntKind.wrap_u64]; omega
    (repeat (first | (simp -implicitDefEqProofs only [ev, mixed, Nat.reduceLT, Nat.reduceAdd, Nat.reduceMul, reduceIte, Nat.reduceEqDiff, reduceCtorEq, Nat.reducePow, Nat.reduceLeDiff, Int.reduceLE, Int.reduceLT, Int.reduceToNat, Int.reduceEq, Nat.reduceBEq, itsOf, gdA, byteI, opid, lenQ, ixQ, ldH, readAt, readCells, asCell, faQ, exQ, fldQ, partA, buildQ, slQ, stH, bslH, appH, dcells, convI, elemsOf, D.one, nilS, fillD, convN, cvH, tyR3Write1, e1]) | (with_reducible refine ⟨?_, ?_⟩; (· first | (obtain ⟨rfl⟩ := ‹Hq _ _›; with_reducible refine chk_ok ?_; kernel_rfl) | kernel_rfl)) | (with_reducible intro ops hops)))
    refine Call_new 1771 (num_A l.length (by omega)) (by simp [upd, noH]) rfl ?_
    (repeat (first | (simp -implicitDefEqProofs only [ev, mixed, Nat.reduceLT, Nat.reduceAdd, Nat.reduceMul, reduceIte, Nat.reduceEqDiff, reduceCtorEq, Nat.reducePow, Nat.reduceLeDiff, Int.reduceLE, Int.reduceLT, Int.reduceToNat, Int.reduceEq, Nat.reduceBEq, itsOf, gdA, byteI, opid, lenQ, ixQ, ldH, readAt, readCells, asCell, faQ, exQ, fldQ, partA, buildQ, slQ, stH, bslH, appH, dcells, convI, elemsOf, D.one, nilS, fillD, convN, cvH, tyR3Write1]) | (with_reducible refine ⟨?_, ?_⟩; (· first | (obtain ⟨rfl⟩ := ‹Hq _ _›; with_reducible refine chk_ok ?_; kernel_rfl) | kernel_rfl)) | (with_reducible intro ops hops)))
    refine W_loop (ι := { p : List UInt8 × Nat // p.2 ≤ l.length ∧ writeF l = writeGo p.1 p.2 (l.drop p.2) ∧ p.1.length ≤ 20000 })
      (fun p => stOf [(3, .pt 101 0 0 0), (4, .os 100 1 0 p.1.1.length), (15, .i (.sl (l.map encP))), (16, .i (.s (.int .i64 l.length))), (17, .i (.s (.int .i64 (p.1.2 : Nat))))]
        [(100, .arr 1 (p.1.1.map byteI)), (101, .box [.i (.s (.int .i64 0)), .i (.s (.int .i64 0))])]) (fun p => l.length - p.1.2) ⟨(vnum l.length, 0), by simp, by simp [writeF, show ¬ 200 < l.length by omega], by have := vnum_len_le l.length; simp; omega⟩ ?_ ?_
    · refine le_stOf _ _ [] [(100, 1771), (101, 1001)] ?_ ?_ rfl rfl
      · simp [cv, cv1, cv0, upd, lk, srcOf]
      · simp [objOk, srcOf, lk, cvO, cvL, cv0, frz, upd, D.one]
    · rintro ⟨⟨acc, k⟩, hk, hw, ha⟩
      simp only at hk hw ha
      rw [stOf_eq]
      (repeat (first | (simp -implicitDefEqProofs only [ev, mixed, Nat.reduceLT, Nat.reduceAdd, Nat.reduceMul, reduceIte, Nat.reduceEqDiff, reduceCtorEq, Nat.reducePow, Nat.reduceLeDiff, Int.reduceLE, Int.reduceLT, Int.reduceToNat, Int.reduceEq, Nat.reduceBEq, itsOf, gdA, byteI, opid, lenQ, ixQ, ldH, readAt, readCells, asCell, faQ, exQ, fldQ, partA, buildQ, slQ, stH, bslH, appH, dcells, convI, elemsOf, D.one, nilS, fillD, convN, cvH, tyR3Write1]) | (with_reducible refine ⟨?_, ?_⟩; (· first | (obtain ⟨rfl⟩ := ‹Hq _ _›; with_reducible refine chk_ok ?_; kernel_rfl) | kernel_rfl)) | (with_reducible intro ops hops)))
      refine Wc_split (fun h => ?_) (fun h => ?_)
      · have h2 : k < l.length := by simp at h; omega
        clear h
        have hd : l.drop k = l[k] :: l.drop (k + 1) := (List.drop_eq_getElem_cons h2)
        rw [hd] at hw
        have hmem : l[k] ∈ l := List.getElem_mem h2
        have hpb := hb _ hmem
        have hpn := hn _ hmem
        generalize hp : l[k] = p at hw hpb hpn
        have e2 : (l.map encP)[k]? = some [.s (.int .i64 p.kind), .s (.int .u64 (p.n : Int)), bI p.b] := by simp [h2, encP, hp]
        (repeat (first | (simp -implicitDefEqProofs only [ev, mixed, Nat.reduceLT, Nat.reduceAdd, Nat.reduceMul, reduceIte, Nat.reduceEqDiff, reduceCtorEq, Nat.reducePow, Nat.reduceLeDiff, Int.reduceLE, Int.reduceLT, Int.reduceToNat, Int.reduceEq, Nat.reduceBEq, itsOf, gdA, byteI, opid, lenQ, ixQ, ldH, readAt, readCells, asCell, faQ, exQ, fldQ, partA, buildQ, slQ, stH, bslH, appH, dcells, convI, elemsOf, D.one, nilS, fillD, convN, cvH, tyR3Write1, e2]) | (with_reducible refine ⟨?_, ?_⟩; (· first | (obtain ⟨rfl⟩ := ‹Hq _ _›; with_reducible refine chk_ok ?_; kernel_rfl) | kernel_rfl)) | (with_reducible intro ops hops)))
        have e3 : acc.length + 1 ≤ 140737488355328 := by omega
        have hw1 : IntKind.i64.wrap ((k : Int) + 1) = ((k + 1 : Nat) : Int) := by rw [wrap64 (by omega) (by omega)]; omega
        refine Wc_split (fun h => ?_) (fun h => ?_)
        · have hk1 : p.kind = 1 := by simpa using h
          clear h
          (repeat (first | (simp -implicitDefEqProofs only [ev, mixed, Nat.reduceLT, Nat.reduceAdd, Nat.reduceMul, reduceIte, Nat.reduceEqDiff, reduceCtorEq, Nat.reducePow, Nat.reduceLeDiff, Int.reduceLE, Int.reduceLT, Int.reduceToNat, Int.reduceEq, Nat.reduceBEq, itsOf, gdA, byteI, opid, lenQ, ixQ, ldH, readAt, readCells, asCell, faQ, exQ, fldQ, partA, buildQ, slQ, stH, bslH, appH, dcells, convI, elemsOf, D.one, nilS, fillD, convN, cvH, tyR3Write1, e3]) | (with_reducible refine ⟨?_, ?_⟩; (· first | (obtain ⟨rfl⟩ := ‹Hq _ _›; with_reducible refine chk_ok ?_; kernel_rfl) | kernel_rfl)) | (with_reducible intro ops hops)))
          have e7 : acc.length + 1 + (vnum p.n).length ≤ 140737488355328 := by have := vnum_len_le p.n; omega
          refine CallF_new 3565 (num_A p.n hpn) (by simp [upd, hO, lk]) rfl ?_
          (repeat (first | (simp -implicitDefEqProofs only [ev, mixed, Nat.reduceLT, Nat.reduceAdd, Nat.reduceMul, reduceIte, Nat.reduceEqDiff, reduceCtorEq, Nat.reducePow, Nat.reduceLeDiff, Int.reduceLE, Int.reduceLT, Int.reduceToNat, Int.reduceEq, Nat.reduceBEq, itsOf, gdA, byteI, opid, lenQ, ixQ, ldH, readAt, readCells, asCell, faQ, exQ, fldQ, partA, buildQ, slQ, stH, bslH, appH, dcells, convI, elemsOf, D.one, nilS, fillD, convN, cvH, tyR3Write1, e7]) | (with_reducible refine ⟨?_, ?_⟩; (· first | (obtain ⟨rfl⟩ := ‹Hq _ _›; with_reducible refine chk_ok ?_; kernel_rfl) | kernel_rfl)) | (with_reducible intro ops hops)))
          have hwp : wpiece p = some (0 :: vnum p.n) := by simp [wpiece, hk1]
          rw [writeGo, hwp] at hw
          have hvl := vnum_len_le p.n
          refine Wc_split (fun h => ?_) (fun h => ?_)
          · (repeat (first | (simp -implicitDefEqProofs only [ev, mixed, Nat.reduceLT, Nat.reduceAdd, Nat.reduceMul, reduceIte, Nat.reduceEqDiff, reduceCtorEq, Nat.reducePow, Nat.reduceLeDiff, Int.reduceLE, Int.reduceLT, Int.reduceToNat, Int.reduceEq, Nat.reduceBEq, itsOf, gdA, byteI, opid, lenQ, ixQ, ldH, readAt, readCells, asCell, faQ, exQ, fldQ, partA, buildQ, slQ, stH, bslH, appH, dcells, convI, elemsOf, D.one, nilS, fillD, convN, cvH, tyR3Write1]) | (with_reducible refine ⟨?_, ?_⟩; (· first | (obtain ⟨rfl⟩ := ‹Hq _ _›; with_reducible refine chk_ok ?_; kernel_rfl) | kernel_rfl)) | (with_reducible intro ops hops)))
            have h3 : 20000 < (acc ++ 0 :: vnum p.n).length := by simp at h ⊢; omega
            simp only [h3, if_true] at hw
            refine fin_2 [] rfl ag141 sz141 (by simp [upd, readAt, readCells]; rfl) ?_
            simp [cv, cvT, cv1, cvL, cv0, upd, hw, faultD, bI]
          · (repeat (first | (simp -implicitDefEqProofs only [ev, mixed, Nat.reduceLT, Nat.reduceAdd, Nat.reduceMul, reduceIte, Nat.reduceEqDiff, reduceCtorEq, Nat.reducePow, Nat.reduceLeDiff, Int.reduceLE, Int.reduceLT, Int.reduceToNat, Int.reduceEq, Nat.reduceBEq, itsOf, gdA, byteI, opid, lenQ, ixQ, ldH, readAt, readCells, asCell, faQ, exQ, fldQ, partA, buildQ, slQ, stH, bslH, appH, dcells, convI, elemsOf, D.one, nilS, fillD, convN, cvH, tyR3Write1, hw1]) | (with_reducible refine ⟨?_, ?_⟩; (· first | (obtain ⟨rfl⟩ := ‹Hq _ _›; with_reducible refine chk_ok ?_; kernel_rfl) | kernel_rfl)) | (with_reducible intro ops hops)))
            have h3 : ¬ 20000 < (acc ++ 0 :: vnum p.n).length := by simp at h ⊢; omega
            simp only [h3, if_false] at hw
            refine ⟨⟨(acc ++ 0 :: vnum p.n, k + 1), h2, hw, Nat.not_lt.1 h3⟩, le_stOf _ _ [] [(100, 3566), (101, 101)] ?_ ?_ rfl rfl, ?_⟩
            · simp [cv, cv1, cv0, upd, lk, srcOf]; omega
            · simp [objOk, srcOf, lk, cvO, cvL, cv0, frz, upd, D.one, hO, byteI]
            · simp; omega
        · (repeat (first | (simp -implicitDefEqProofs only [ev, mixed, Nat.reduceLT, Nat.reduceAdd, Nat.reduceMul, reduceIte, Nat.reduceEqDiff, reduceCtorEq, Nat.reducePow, Nat.reduceLeDiff, Int.reduceLE, Int.reduceLT, Int.reduceToNat, Int.reduceEq, Nat.reduceBEq, itsOf, gdA, byteI, opid, lenQ, ixQ, ldH, readAt, readCells, asCell, faQ, exQ, fldQ, partA, buildQ, slQ, stH, bslH, appH, dcells, convI, elemsOf, D.one, nilS, fillD, convN, cvH, tyR3Write1]) | (with_reducible refine ⟨?_, ?_⟩; (· first | (obtain ⟨rfl⟩ := ‹Hq _ _›; with_reducible refine chk_ok ?_; kernel_rfl) | kernel_rfl)) | (with_reducible intro ops hops)))
          refine Wc_split (fun h => ?_) (fun h => ?_)
          · have hk2 : p.kind = 2 := by simpa using h
            clear h
            have e4 : IntKind.u64.wrap (p.b.length : Int) = (p.b.length : Int) := by rw [IntKind.wrap_u64]; omega
            have e5 : acc.length + 1 + (vnum p.b.length).length + p.b.length ≤ 140737488355328 := by have := vnum_len_le p.b.length; omega
            (repeat (first | (simp -implicitDefEqProofs only [ev, mixed, Nat.reduceLT, Nat.reduceAdd, Nat.reduceMul, reduceIte, Nat.reduceEqDiff, reduceCtorEq, Nat.reducePow, Nat.reduceLeDiff, Int.reduceLE, Int.reduceLT, Int.reduceToNat, Int.reduceEq, Nat.reduceBEq, itsOf, gdA, byteI, opid, lenQ, ixQ, ldH, readAt, readCells, asCell, faQ, exQ, fldQ, partA, buildQ, slQ, stH, bslH, appH, dcells, convI, elemsOf, D.one, nilS, fillD, convN, cvH, tyR3Write1, e3, bI, e4]) | (with_reducible refine ⟨?_, ?_⟩; (· first | (obtain ⟨rfl⟩ := ‹Hq _ _›; with_reducible refine chk_ok ?_; kernel_rfl) | kernel_rfl)) | (with_reducible intro ops hops)))
            refine CallF_new 4079 (num_A p.b.length (by omega)) (by simp [upd, hO, lk]) rfl ?_
            have e7 : acc.length + 1 + (vnum p.b.length).length ≤ 140737488355328 := by omega
            have e6 : acc.length + ((vnum p.b.length).length + 1) = acc.length + 1 + (vnum p.b.length).length := by omega
            (repeat (first | (simp -implicitDefEqProofs only [ev, mixed, Nat.reduceLT, Nat.reduceAdd, Nat.reduceMul, reduceIte, Nat.reduceEqDiff, reduceCtorEq, Nat.reducePow, Nat.reduceLeDiff, Int.reduceLE, Int.reduceLT, Int.reduceToNat, Int.reduceEq, Nat.reduceBEq, itsOf, gdA, byteI, opid, lenQ, ixQ, ldH, readAt, readCells, asCell, faQ, exQ, fldQ, partA, buildQ, slQ, stH, bslH, appH, dcells, convI, elemsOf, D.one, nilS, fillD, convN, cvH, tyR3Write1, e5, e6, e7]) | (with_reducible refine ⟨?_, ?_⟩; (· first | (obtain ⟨rfl⟩ := ‹Hq _ _›; with_reducible refine chk_ok ?_; kernel_rfl) | kernel_rfl)) | (with_reducible intro ops hops)))
            have hwp : wpiece p = some (1 :: (vnum p.b.length ++ p.b)) := by simp [wpiece, hk2]
            rw [writeGo, hwp] at hw
            refine Wc_split (fun h => ?_) (fun h => ?_)
            · (repeat (first | (simp -implicitDefEqProofs only [ev, mixed, Nat.reduceLT, Nat.reduceAdd, Nat.reduceMul, reduceIte, Nat.reduceEqDiff, reduceCtorEq, Nat.reducePow, Nat.reduceLeDiff, Int.reduceLE, Int.reduceLT, Int.reduceToNat, Int.reduceEq, Nat.reduceBEq, itsOf, gdA, byteI, opid, lenQ, ixQ, ldH, readAt, readCells, asCell, faQ, exQ, fldQ, partA, buildQ, slQ, stH, bslH, appH, dcells, convI, elemsOf, D.one, nilS, fillD, convN, cvH, tyR3Write1]) | (with_reducible refine ⟨?_, ?_⟩; (· first | (obtain ⟨rfl⟩ := ‹Hq _ _›; with_reducible refine chk_ok ?_; kernel_rfl) | kernel_rfl)) | (with_reducible intro ops hops)))
              have h3 : 20000 < (acc ++ (1 :: (vnum p.b.length ++ p.b))).length := by simp at h ⊢; omega
              simp only [h3, if_true] at hw
              refine fin_2 [] rfl ag141 sz141 (by simp [upd, readAt, readCells]; rfl) ?_
              simp [cv, cvT, cv1, cvL, cv0, upd, hw, faultD, bI]
            · (repeat (first | (simp -implicitDefEqProofs only [ev, mixed, Nat.reduceLT, Nat.reduceAdd, Nat.reduceMul, reduceIte, Nat.reduceEqDiff, reduceCtorEq, Nat.reducePow, Nat.reduceLeDiff, Int.reduceLE, Int.reduceLT, Int.reduceToNat, Int.reduceEq, Nat.reduceBEq, itsOf, gdA, byteI, opid, lenQ, ixQ, ldH, readAt, readCells, asCell, faQ, exQ, fldQ, partA, buildQ, slQ, stH, bslH, appH, dcells, convI, elemsOf, D.one, nilS, fillD, convN, cvH, tyR3Write1, hw1]) | (with_reducible refine ⟨?_, ?_⟩; (· first | (obtain ⟨rfl⟩ := ‹Hq _ _›; with_reducible refine chk_ok ?_; kernel_rfl) | kernel_rfl)) | (with_reducible intro ops hops)))
              have h3 : ¬ 20000 < (acc ++ (1 :: (vnum p.b.length ++ p.b))).length := by simp at h ⊢; omega
              simp only [h3, if_false] at hw
              refine ⟨⟨(acc ++ (1 :: (vnum p.b.length ++ p.b)), k + 1), h2, hw, Nat.not_lt.1 h3⟩, le_stOf _ _ [] [(100, 4083), (101, 101)] ?_ ?_ rfl rfl, ?_⟩
              · simp [cv, cv1, cv0, upd, lk, srcOf]; omega
              · simp [objOk, srcOf, lk, cvO, cvL, cv0, frz, upd, D.one, hO, byteI]
              · simp; omega
          · (repeat (first | (simp -implicitDefEqProofs only [ev, mixed, Nat.reduceLT, Nat.reduceAdd, Nat.reduceMul, reduceIte, Nat.reduceEqDiff, reduceCtorEq, Nat.reducePow, Nat.reduceLeDiff, Int.reduceLE, Int.reduceLT, Int.reduceToNat, Int.reduceEq, Nat.reduceBEq, itsOf, gdA, byteI, opid, lenQ, ixQ, ldH, readAt, readCells, asCell, faQ, exQ, fldQ, partA, buildQ, slQ, stH, bslH, appH, dcells, convI, elemsOf, D.one, nilS, fillD, convN, cvH, tyR3Write1]) | (with_reducible refine ⟨?_, ?_⟩; (· first | (obtain ⟨rfl⟩ := ‹Hq _ _›; with_reducible refine chk_ok ?_; kernel_rfl) | kernel_rfl)) | (with_reducible intro ops hops)))
            have hwp : wpiece p = none := by simp at h; simp [wpiece, h]; simp_all
            rw [writeGo, hwp] at hw
            refine fin_2 [] rfl ag141 sz141 (by simp [upd, readAt, readCells]; rfl) ?_
            simp [cv, cvT, cv1, cvL, cv0, upd, hw, faultD, bI]
      · have h2 : k = l.length := by simp at h; omega
        subst h2
        (repeat (first | (simp -implicitDefEqProofs only [ev, mixed, Nat.reduceLT, Nat.reduceAdd, Nat.reduceMul, reduceIte, Nat.reduceEqDiff, reduceCtorEq, Nat.reducePow, Nat.reduceLeDiff, Int.reduceLE, Int.reduceLT, Int.reduceToNat, Int.reduceEq, Nat.reduceBEq, itsOf, gdA, byteI, opid, lenQ, ixQ, ldH, readAt, readCells, asCell, faQ, exQ, fldQ, partA, buildQ, slQ, stH, bslH, appH, dcells, convI, elemsOf, D.one, nilS, fillD, convN, cvH, tyR3Write1]) | (with_reducible refine ⟨?_, ?_⟩; (· first | (obtain ⟨rfl⟩ := ‹Hq _ _›; with_reducible refine chk_ok ?_; kernel_rfl) | kernel_rfl)) | (with_reducible intro ops hops)))
        rw [List.drop_length, writeGo] at hw
        refine fin_2 [100] rfl ag141 sz141 (by simp [upd, readAt, readCells]; rfl) ?_
        simp [cv, cvT, cv1, cvL, cv0, upd, hw, faultD, bI, hO, lk, elemsOf, List.take_of_length_le]
end Go.Proofs.Ytdpfjmkilbepgaa
/- landref3.Bytes, B, N, landref6.u, Digest: by value. (hdrD) -/
set_option linter.all false
namespace Go.Proofs.Ytdpfjmkilbepgaa
open Go Go.Abs Go.RowKit Go.Proofs.Ytdpfjmkilbepgaa.Ty

set_option maxHeartbeats 4000000
theorem ru_A (n : Nat) : PureD Try.prog 83 [u64D n] (.agg [.i (.s (.int .i64 1)), .i (.s (.int .u64 n)), .i (.sl [])]) := by
  refine hide_r fun R hR => ?_
  refine callD_W 5 Try.func83 rfl rfl rfl (fun _ _ => rfl) ?_
  (repeat' (first | (simp -implicitDefEqProofs only [go_sem, Nat.reduceLT, Nat.reduceAdd, Nat.reduceMul, reduceIte, Nat.reduceEqDiff, reduceCtorEq, Nat.reducePow, Nat.reduceLeDiff, Int.reduceLE, Int.reduceLT, Int.reduceToNat, Int.reduceEq, Nat.reduceBEq, u64D, *]) | (with_reducible refine ⟨?_, ?_⟩; (· first | (obtain ⟨rfl⟩ := ‹Hq _ _›; with_reducible refine chk_ok ?_; kernel_rfl) | kernel_rfl)) | (with_reducible intro ops hops) | (simp -implicitDefEqProofs (disch := omega) only [wr64, wru64, get_lt]) | ((first | refine Wc_split (fun hg => ?_) (fun hg => ?_) | refine RoG_split (fun hg => ?_) (fun hg => ?_) | refine RdG_split (fun hg => ?_) (fun hg => ?_)) <;> (try simp only [nrm] at hg) <;> (try simp only [hg, lgc, reduceIte, reduceCtorEq] at hR) <;> (try (exfalso; omega))) | ((try simp only [*, lgc, reduceIte, reduceCtorEq] at hR); obtain ⟨rfl⟩ := hR; refine fin_q (rs := [.cell 2 103]) rfl ?_; (try simp only [go_sem, Nat.reduceLT, Nat.reduceAdd, Nat.reduceMul, reduceIte, Nat.reduceEqDiff, reduceCtorEq, Nat.reducePow, Nat.reduceLeDiff, Int.reduceLE, Int.reduceLT, Int.reduceToNat, Int.reduceEq, Nat.reduceBEq, u64D]); (simp [u64D]; done))))
theorem rB_A (b : List UInt8) : PureD Try.prog 74 [.i (bI b)] (.agg [.i (.s (.int .i64 2)), .i (.s (.int .u64 0)), .i (bI b)]) := by
  refine hide_r fun R hR => ?_
  refine callD_W 5 Try.func74 rfl rfl rfl (fun _ _ => rfl) ?_
  (repeat' (first | (simp -implicitDefEqProofs only [go_sem, Nat.reduceLT, Nat.reduceAdd, Nat.reduceMul, reduceIte, Nat.reduceEqDiff, reduceCtorEq, Nat.reducePow, Nat.reduceLeDiff, Int.reduceLE, Int.reduceLT, Int.reduceToNat, Int.reduceEq, Nat.reduceBEq, bI, *]) | (with_reducible refine ⟨?_, ?_⟩; (· first | (obtain ⟨rfl⟩ := ‹Hq _ _›; with_reducible refine chk_ok ?_; kernel_rfl) | kernel_rfl)) | (with_reducible intro ops hops) | (simp -implicitDefEqProofs (disch := omega) only [wr64, wru64, get_lt]) | ((first | refine Wc_split (fun hg => ?_) (fun hg => ?_) | refine RoG_split (fun hg => ?_) (fun hg => ?_) | refine RdG_split (fun hg => ?_) (fun hg => ?_)) <;> (try simp only [nrm] at hg) <;> (try simp only [hg, lgc, reduceIte, reduceCtorEq] at hR) <;> (try (exfalso; omega))) | ((try simp only [*, lgc, reduceIte, reduceCtorEq] at hR); obtain ⟨rfl⟩ := hR; refine fin_q (rs := [.cell 2 103]) rfl ?_; (try simp only [go_sem, Nat.reduceLT, Nat.reduceAdd, Nat.reduceMul, reduceIte, Nat.reduceEqDiff, reduceCtorEq, Nat.reducePow, Nat.reduceLeDiff, Int.reduceLE, Int.reduceLT, Int.reduceToNat, Int.reduceEq, Nat.reduceBEq, bI]); (simp [bI]; done))))
theorem rN_A (n : Int) : PureD Try.prog 75 [intD n] (.agg [.i (.s (.int .i64 1)), .i (.s (.int .u64 (u64 n))), .i (.sl [])]) := by
  refine hide_r fun R hR => ?_
  refine callD_W 6 Try.func75 rfl rfl rfl (fun _ _ => rfl) ?_
  (repeat' (first | (simp -implicitDefEqProofs only [go_sem, Nat.reduceLT, Nat.reduceAdd, Nat.reduceMul, reduceIte, Nat.reduceEqDiff, reduceCtorEq, Nat.reducePow, Nat.reduceLeDiff, Int.reduceLE, Int.reduceLT, Int.reduceToNat, Int.reduceEq, Nat.reduceBEq, intD, wrap_u, *]) | (with_reducible refine ⟨?_, ?_⟩; (· first | (obtain ⟨rfl⟩ := ‹Hq _ _›; with_reducible refine chk_ok ?_; kernel_rfl) | kernel_rfl)) | (with_reducible intro ops hops) | (simp -implicitDefEqProofs (disch := omega) only [wr64, wru64, get_lt]) | ((first | refine Wc_split (fun hg => ?_) (fun hg => ?_) | refine RoG_split (fun hg => ?_) (fun hg => ?_) | refine RdG_split (fun hg => ?_) (fun hg => ?_)) <;> (try simp only [nrm] at hg) <;> (try simp only [hg, lgc, reduceIte, reduceCtorEq] at hR) <;> (try (exfalso; omega))) | ((try simp only [*, lgc, reduceIte, reduceCtorEq] at hR); obtain ⟨rfl⟩ := hR; refine fin_q (rs := [.cell 2 103]) rfl ?_; (try simp only [go_sem, Nat.reduceLT, Nat.reduceAdd, Nat.reduceMul, reduceIte, Nat.reduceEqDiff, reduceCtorEq, Nat.reducePow, Nat.reduceLeDiff, Int.reduceLE, Int.reduceLT, Int.reduceToNat, Int.reduceEq, Nat.reduceBEq, intD, wrap_u]); (simp [intD, wrap_u]; done))))
theorem rbytes3_A (l : List PieceD) (hl : l.length ≤ 1048576) (hb : ∀ p ∈ l, p.b.length ≤ 1048576) (hn : n64s l) : PureD Try.prog 73 [.i (.sl (l.map encP))] (.i (bI (writeF l).1)) := by
  have hw := write3_A l hl hb hn
  refine hide_r fun R hR => ?_
  generalize writeF l = W at *
  refine callD_W 11 Try.func73 rfl rfl rfl (fun _ _ => rfl) ?_
  (repeat' (first | (simp -implicitDefEqProofs only [go_sem, Nat.reduceLT, Nat.reduceAdd, Nat.reduceMul, reduceIte, Nat.reduceEqDiff, reduceCtorEq, Nat.reducePow, Nat.reduceLeDiff, Int.reduceLE, Int.reduceLT, Int.reduceToNat, Int.reduceEq, Nat.reduceBEq, bI, faultD, *]) | (with_reducible refine ⟨?_, ?_⟩; (· first | (obtain ⟨rfl⟩ := ‹Hq _ _›; with_reducible refine chk_ok ?_; kernel_rfl) | kernel_rfl)) | (with_reducible intro ops hops) | (simp -implicitDefEqProofs (disch := omega) only [wr64, wru64, get_lt]) | ((with_reducible refine call_id ?_); (first | ((with_reducible refine Call_fl (hw) ?_ ?_ ?_); (· (simp [bI, faultD]; done)); (· (simp [bI, faultD, and_assoc]; done))) | ((with_reducible refine Call_fz (hw) ?_ ?_); (· (simp [bI, faultD, and_assoc]; done))))) | ((with_reducible refine callF_id ?_); (first | ((with_reducible refine CallF_fl (hw) ?_ ?_ ?_); (· (simp [bI, faultD]; done)); (· (intro G hG; simp [bI, faultD] at hG; simp [bI, faultD, hG, and_assoc]; done))) | ((with_reducible refine CallF_fz (hw) ?_ ?_); (· (intro G hG; simp [bI, faultD] at hG; simp [bI, faultD, hG, and_assoc]; done))))) | ((first | refine Wc_split (fun hg => ?_) (fun hg => ?_) | refine RoG_split (fun hg => ?_) (fun hg => ?_) | refine RdG_split (fun hg => ?_) (fun hg => ?_)) <;> (try simp only [nrm] at hg) <;> (try simp only [hg, lgc, reduceIte, reduceCtorEq] at hR) <;> (try (exfalso; omega))) | ((try simp only [*, lgc, reduceIte, reduceCtorEq] at hR); obtain ⟨rfl⟩ := hR; refine fin_q (rs := [.tmp 2]) rfl ?_; (try simp only [go_sem, Nat.reduceLT, Nat.reduceAdd, Nat.reduceMul, reduceIte, Nat.reduceEqDiff, reduceCtorEq, Nat.reducePow, Nat.reduceLeDiff, Int.reduceLE, Int.reduceLT, Int.reduceToNat, Int.reduceEq, Nat.reduceBEq, bI, faultD]); (simp [bI, faultD]; done))))
theorem rdigest_A (l : List ValD) (hl : l.length ≤ 500000) (hn : ∀ v ∈ l, v.k < 18446744073709551616 ∧ v.p < 18446744073709551616) : PureD Try.prog 37 [.i (valsI l)] (.i (bI (digestV l))) := by
  refine hide_r fun R hR => ?_
  refine callD_W 25 Try.func37 rfl rfl rfl (fun _ _ => rfl) ?_
  (repeat' (first | (simp -implicitDefEqProofs only [go_sem, Nat.reduceLT, Nat.reduceAdd, Nat.reduceMul, reduceIte, Nat.reduceEqDiff, reduceCtorEq, Nat.reducePow, Nat.reduceLeDiff, Int.reduceLE, Int.reduceLT, Int.reduceToNat, Int.reduceEq, Nat.reduceBEq, valsI, *]) | (with_reducible refine ⟨?_, ?_⟩; (· first | (obtain ⟨rfl⟩ := ‹Hq _ _›; with_reducible refine chk_ok ?_; kernel_rfl) | kernel_rfl)) | (with_reducible intro ops hops) | (simp -implicitDefEqProofs (disch := omega) only [wr64, wru64, get_lt]) | ((first | refine Wc_split (fun hg => ?_) (fun hg => ?_) | refine RoG_split (fun hg => ?_) (fun hg => ?_) | refine RdG_split (fun hg => ?_) (fun hg => ?_)) <;> (try simp only [nrm] at hg) <;> (try simp only [hg, lgc, reduceIte, reduceCtorEq] at hR) <;> (try (exfalso; omega))) | ((try simp only [*, lgc, reduceIte, reduceCtorEq] at hR); obtain ⟨rfl⟩ := hR; refine fin_q (rs := [.tmp 2]) rfl ?_; (try simp only [go_sem, Nat.reduceLT, Nat.reduceAdd, Nat.reduceMul, reduceIte, Nat.reduceEqDiff, reduceCtorEq, Nat.reducePow, Nat.reduceLeDiff, Int.reduceLE, Int.reduceLT, Int.reduceToNat, Int.reduceEq, Nat.reduceBEq, valsI]); (simp [valsI]; done))))
  refine W_loopI (ι := Nat) (fun i => i ≤ l.length)
    (fun i => stOf [(6, .i (valsI l)), (7, intD l.length), (8, intD i), (3, .os 100 3 0 (pcsV (l.take i)).length)] [(100, .arr 3 ((pcsV (l.take i)).map encP))]) (fun i => l.length - i) 0 (Nat.zero_le _) ?_ ?_
  · (refine le_stOf _ _ [] [] ?_ ?_ rfl rfl <;> (simp [Int.natCast_add, Int.natCast_zero, Int.natCast_one, valsI, pcsV]; done))
  · rintro i hi
    rw [stOf_eq]
    by_cases h : i < l.length
    · have e1 := get_lt (f := encV) h
      have hs := pcsV_take h
      have hlen := pcsV_len (l.take i)
      have hlt : (l.take i).length = i := by rw [List.length_take]; omega
      have c1 := ru_A l[i].k
      have c2 := ru_A l[i].p
      have hu := uni_P (pcsV (l.take i))
      rw [hlt] at hlen
      generalize l[i] = v at *
      generalize hP' : pcsV (l.take (i + 1)) = P' at *
      generalize pcsV (l.take i) = P at *
      subst hs
      have b1 : P.length ≤ 140737488355326 := by omega
      have b3 : (P.length + 2) * 40 ≤ 140737488355328 := by omega
      clear hR hlen hlt
      (repeat' (first | (simp -implicitDefEqProofs only [go_sem, Nat.reduceLT, Nat.reduceAdd, Nat.reduceMul, reduceIte, Nat.reduceEqDiff, reduceCtorEq, Nat.reducePow, Nat.reduceLeDiff, Int.reduceLE, Int.reduceLT, Int.reduceToNat, Int.reduceEq, Nat.reduceBEq, valsI, encV, u64D, intD, *]) | (with_reducible refine ⟨?_, ?_⟩; (· first | (obtain ⟨rfl⟩ := ‹Hq _ _›; with_reducible refine chk_ok ?_; kernel_rfl) | kernel_rfl)) | (with_reducible intro ops hops) | (simp -implicitDefEqProofs (disch := omega) only [wr64, wru64, get_lt]) | ((with_reducible refine call_id ?_); (first | ((with_reducible refine Call_fl (c1) ?_ ?_ ?_); (· (simp [valsI, encV, u64D, intD]; done)); (· (simp [valsI, encV, u64D, intD, and_assoc]; done))) | ((with_reducible refine Call_fz (c1) ?_ ?_); (· (simp [valsI, encV, u64D, intD, and_assoc]; done))) | ((with_reducible refine Call_fl (c2) ?_ ?_ ?_); (· (simp [valsI, encV, u64D, intD]; done)); (· (simp [valsI, encV, u64D, intD, and_assoc]; done))) | ((with_reducible refine Call_fz (c2) ?_ ?_); (· (simp [valsI, encV, u64D, intD, and_assoc]; done))))) | ((with_reducible refine callF_id ?_); (first | ((with_reducible refine CallF_fl (c1) ?_ ?_ ?_); (· (simp [valsI, encV, u64D, intD]; done)); (· (intro G hG; simp [valsI, encV, u64D, intD] at hG; simp [valsI, encV, u64D, intD, hG, and_assoc]; done))) | ((with_reducible refine CallF_fz (c1) ?_ ?_); (· (intro G hG; simp [valsI, encV, u64D, intD] at hG; simp [valsI, encV, u64D, intD, hG, and_assoc]; done))) | ((with_reducible refine CallF_fl (c2) ?_ ?_ ?_); (· (simp [valsI, encV, u64D, intD]; done)); (· (intro G hG; simp [valsI, encV, u64D, intD] at hG; simp [valsI, encV, u64D, intD, hG, and_assoc]; done))) | ((with_reducible refine CallF_fz (c2) ?_ ?_); (· (intro G hG; simp [valsI, encV, u64D, intD] at hG; simp [valsI, encV, u64D, intD, hG, and_assoc]; done))))) | ((first | refine Wc_split (fun hg => ?_) (fun hg => ?_) | refine RoG_split (fun hg => ?_) (fun hg => ?_) | refine RdG_split (fun hg => ?_) (fun hg => ?_)) <;> (try simp only [nrm] at hg) <;> (try simp only [hg, lgc, reduceIte, reduceCtorEq] at hR) <;> (try (exfalso; omega))) | (refine ⟨i + 1, h, ?_, ?_⟩; (· (refine le_stOf _ _ [] [(100, 2288)] ?_ ?_ rfl rfl <;> (simp [Int.natCast_add, Int.natCast_zero, Int.natCast_one, hP', valsI, encP, numP, bI]; done))); (· (simp only; omega))) | ((try simp only [*, lgc, reduceIte, reduceCtorEq] at hR); obtain ⟨rfl⟩ := hR; refine fin_q (rs := [.tmp 2]) rfl ?_; (try simp only [go_sem, Nat.reduceLT, Nat.reduceAdd, Nat.reduceMul, reduceIte, Nat.reduceEqDiff, reduceCtorEq, Nat.reducePow, Nat.reduceLeDiff, Int.reduceLE, Int.reduceLT, Int.reduceToNat, Int.reduceEq, Nat.reduceBEq, valsI, encV, u64D, intD]); (simp [valsI, encV, u64D, intD]; done))))
    · have ht : l.take i = l := List.take_of_length_le (by omega)
      have c1 := rbytes3_A (pcsV l) (by rw [pcsV_len]; omega) (fun p hp => by rw [pcsV_b l p hp]; simp) (pcsV_64 hn)
      have c2 := sumref_A (writeF (pcsV l)).1 (by have := writeF_len (pcsV l); omega)
      unfold digestV at hR
      rw [ht]
      generalize (writeF (pcsV l)).1 = W at *
      generalize pcsV l = P at *
      (repeat' (first | (simp -implicitDefEqProofs only [go_sem, Nat.reduceLT, Nat.reduceAdd, Nat.reduceMul, reduceIte, Nat.reduceEqDiff, reduceCtorEq, Nat.reducePow, Nat.reduceLeDiff, Int.reduceLE, Int.reduceLT, Int.reduceToNat, Int.reduceEq, Nat.reduceBEq, valsI, intD, bI, *]) | (with_reducible refine ⟨?_, ?_⟩; (· first | (obtain ⟨rfl⟩ := ‹Hq _ _›; with_reducible refine chk_ok ?_; kernel_rfl) | kernel_rfl)) | (with_reducible intro ops hops) | (simp -implicitDefEqProofs (disch := omega) only [wr64, wru64, get_lt]) | ((with_reducible refine call_id ?_); (first | ((with_reducible refine Call_fz (c1) ?_ ?_); (· (simp [valsI, intD, bI, and_assoc]; done))) | ((with_reducible refine Call_fz (c2) ?_ ?_); (· (simp [valsI, intD, bI, and_assoc]; done))))) | ((with_reducible refine callF_id ?_); (first | ((with_reducible refine CallF_fz (c1) ?_ ?_); (· (intro G hG; simp [valsI, intD, bI] at hG; simp [valsI, intD, bI, hG, and_assoc]; done))) | ((with_reducible refine CallF_fz (c2) ?_ ?_); (· (intro G hG; simp [valsI, intD, bI] at hG; simp [valsI, intD, bI, hG, and_assoc]; done))))) | ((first | refine Wc_split (fun hg => ?_) (fun hg => ?_) | refine RoG_split (fun hg => ?_) (fun hg => ?_) | refine RdG_split (fun hg => ?_) (fun hg => ?_)) <;> (try simp only [nrm] at hg) <;> (try simp only [hg, lgc, reduceIte, reduceCtorEq] at hR) <;> (try (exfalso; omega))) | ((try simp only [*, lgc, reduceIte, reduceCtorEq] at hR); obtain ⟨rfl⟩ := hR; refine fin_q (rs := [.tmp 2]) rfl ?_; (try simp only [go_sem, Nat.reduceLT, Nat.reduceAdd, Nat.reduceMul, reduceIte, Nat.reduceEqDiff, reduceCtorEq, Nat.reducePow, Nat.reduceLeDiff, Int.reduceLE, Int.reduceLT, Int.reduceToNat, Int.reduceEq, Nat.reduceBEq, valsI, intD, bI]); (simp [valsI, intD, bI]; done))))
end Go.Proofs.Ytdpfjmkilbepgaa
/- The law ClientVoted: the walk. -/
set_option linter.all false
namespace Go.Proofs.Ytdpfjmkilbepgaa
open Go Go.Abs Go.RowKit Go.Proofs.Ytdpfjmkilbepgaa.Ty

theorem be1_zero {c : ClientD} {u : UpdD} {now : Int} {k : KnownD} (h : beE1 c u now k = 0) :
    u.sg.hdr.c = c.c ∧ now - k.t < c.trust ∧ k.h < u.sg.hdr.h ∧ k.t < u.sg.hdr.t ∧ ((u.sg.hdr.h = k.h + 1 ∧ u.sg.hdr.vals = k.next) ∨ (¬ u.sg.hdr.h = k.h + 1 ∧ ValsOk u.tr ∧ digestV u.tr = k.next ∧ overF u.tr u.sg = true)) := by
  unfold beE1 beE2 at h
  split at h
  · rename_i a1
    split at h
    · cases h
    · split at h
      · cases h
      · split at h
        · cases h
        · refine ⟨a1, by omega, by omega, by omega, ?_⟩
          split at h
          · rename_i a2
            split at h
            · rename_i a3; exact .inl ⟨a2, a3⟩
            · cases h
          · rename_i a2
            right
            split at h
            · rename_i a3
              split at h
              · rename_i a4
                split at h
                · rename_i a5; exact ⟨a2, valsW_zero.1 a3, a4, a5⟩
                · cases h
              · cases h
            · rename_i a3; exact absurd h a3
  · cases h
set_option maxHeartbeats 4000000
set_option maxRecDepth 20000
theorem walk_ClientVoted (y0 : List I) (c : ClientD) (e0 : y0 = encC c) (y1 : List I) (u : UpdD) (e1 : y1 = encU u ∧ (∀ v ∈ u.sg.vals, Val64 v) ∧ (∀ x ∈ u.sg.votes, Vote64 x) ∧ (∀ v ∈ u.tr, Val64 v)) (y2 : I) (now : Int) (e2 : y2 = .s (.int .i64 now) ∧ (Lit.int .i64 now).wf = true)
    (hb : bkL y0 + bkL y1 + bkI y2 ≤ 1048576) :
    ∃ Ds, PureD Try.prog 13 Ds (.i (.s (.bool true))) ∧ Ds = [.agg (y0.map .i), .agg (y1.map .i), .i y2] := by
  subst e0
  obtain ⟨rfl, u1, u2, u3⟩ := e1
  obtain ⟨rfl, _⟩ := e2
  refine ⟨_, ?_, rfl⟩
  rw [cl_agg, up_agg]
  have hc := cl_sm (c := c) (n := 1048576) (by omega) (by omega)
  have hu := up_sm (u := u) (n := 1048576) (by omega) (by omega) u1 u2 u3
  clear hb u1 u2 u3
  have c1 := alive7_A
  have c2 := cfollow_A c u now hc.1.l hu
  refine hide_r fun R hR => ?_
  by_cases hz : (followC c u now).2 = 0
  · obtain ⟨h1, h2, _⟩ := follow_zero hz
    obtain ⟨ok, hn, _⟩ := asked_zero.1 h1
    obtain ⟨b1, k, b2, b3⟩ := be_zero h2
    obtain ⟨d1, d2, d3, d4, d5⟩ := be1_zero b3
    have hkh := (at_mem b2).2
    have hk := ok.k k (at_mem b2).1
    have k1 := hk.h
    have k2 := hk.t
    have k3 := hk.n
    have hv := check_vals b1
    rw [hz] at c2
    have c3 := hcheck_A u.sg hu.s
    rw [b1] at c3
    have c4 := cat_A c u.fr ok.sm
    unfold atR at c4
    rw [b2] at c4
    simp only at c4
    have hul := hu.l
    have huk := hu.k
    have hvl := be_hdr h2
    generalize (followC c u now).1 = d at *
    have c5 := same_A k.next u.sg.hdr.vals (by omega)
    have g1 : ¬ u.sg.hdr.h ≤ u.fr := by omega
    have g2 : ¬ c.trust ≤ now - k.t := by omega
    have g3 : ¬ u.sg.hdr.t ≤ k.t := by omega
    have w1 : IntKind.i64.wrap (now - k.t) = now - k.t := wrap64 (by omega) (by omega)
    have w2 : IntKind.i64.wrap (u.fr + 1) = u.fr + 1 := wrap64 (by omega) (by omega)
    rcases d5 with ⟨m1, m2⟩ | ⟨m1, m2, m3, m4⟩
    · rw [decide_eq_true m2.symm] at c5
      have m1' : u.sg.hdr.h = u.fr + 1 := by omega
      clear hc hu hz h1 h2 ok hn b1 b2 b3 hk k1 k2 k3 hv hul huk hvl m1 m2 hkh d2 d3 d4
      refine callD_W 99 Try.func13 rfl rfl rfl (fun _ _ => rfl) ?_
      exact wkl trivial
    · have c6 := rdigest_A u.tr (by have := m2.len; omega) huk
      have c7 := same_A (digestV u.tr) k.next (by rw [m3]; omega)
      rw [decide_eq_true m3] at c7
      have c8 := hover_A u.tr u.sg m2 hv.1 hv.2.1
      rw [m4] at c8
      have m1' : ¬ u.sg.hdr.h = u.fr + 1 := by omega
      clear hc hu hz h1 h2 ok hn b1 b2 b3 hk k1 k2 k3 hv hul huk hvl m1 m2 hkh d2 d3 d4 m3 m4 c5
      generalize digestV u.tr = X at *
      refine callD_W 99 Try.func13 rfl rfl rfl (fun _ _ => rfl) ?_
      exact wkl trivial
  · generalize (followC c u now).2 = E at *
    clear hc hu
    refine callD_W 99 Try.func13 rfl rfl rfl (fun _ _ => rfl) ?_
    exact wkl trivial
end Go.Proofs.Ytdpfjmkilbepgaa
/- The statement on landlaw7.ClientVoted: for every input of bounded bulk it answers true and leaves its arguments as they were. -/
set_option linter.all false
namespace Go.Proofs.Ytdpfjmkilbepgaa.clientVoted
open Go.ChangeShapes Go.WideShapes Go.ChangeAt Go.RowKit Go.Abs
set_option linter.unusedVariables false
set_option maxRecDepth 100000 in
theorem contract (H : Type) (enc : TypeId × Value → H) (W : World) (base : Nat) (args : Array Value) (ds gs : List (DataW H)) (before : List MemPlace)
    (hval : ∀ (j : Nat) t v, Try.f13.params[j]? = some t → args[j]? = some v → Value.okWide Try.prog W .any base t v)
    (hW : DataW.Whole enc Try.prog Try.f13.params.toList Rows.clientVotedSpec.vars false W args.toList ds gs before) (hk : Rows.uptoSmall H (ds ++ gs) = true) :
    Calls Try.prog 13 args W fun e W' => ∃ v, e = .returned v ∧ Rows.clientVotedSpec.post enc Try.prog Try.f13 false true false false W args v W' := by
  have hW' := hW
  obtain ⟨p, q, hA0, hV, rfl, hfz, hnd⟩ := hW'
  have hA : DataW.TrodAll enc Try.prog W 0 (fun _ => true) true Try.f13.params.toList args.toList ds p := hA0
  have hA1 := hA
  rw [Try.params13] at hA hval
  obtain ⟨v0, vs0, d0, ds0, p0, q0, hargs, rfl, rfl, h0, r0⟩ := trodAll_cons hA
  obtain ⟨v1, vs1, d1, ds1, p1, q1, rfl, rfl, rfl, h1, r1⟩ := trodAll_cons r0
  obtain ⟨v2, vs2, d2, ds2, p2, q2, rfl, rfl, rfl, h2, r2⟩ := trodAll_cons r1
  obtain ⟨rfl, rfl, rfl⟩ := trodAll_nil r2
  obtain rfl : args = #[v0, v1, v2] := by cases args; simp_all
  obtain ⟨rfl, rfl⟩ := trodVars_none hV
  have hb : Rows.uptoBulkAll (H := H) [d0, d1, d2] ≤ 1048576 := by have := of_decide_eq_true hk; simpa using this
  simp only [Rows.uptoBulkAll] at hb
  obtain ⟨y0, c0, w0, b0⟩ := open_ag R2.bulk Ty.sh24 Try.underlying24 (hval 0 24 v0 rfl rfl) h0
  obtain ⟨x0, e0⟩ := dec_Client c0
  obtain ⟨y1, c1, w1, b1⟩ := open_ag R2.bulk Ty.sh68 Try.underlying68 (hval 1 68 v1 rfl rfl) h1
  obtain ⟨x1, e1⟩ := dec_Upd c1
  obtain ⟨y2, c2, w2, b2⟩ := open_in R2.bulk Ty.sh3 Try.underlying3 (hval 2 3 v2 rfl rfl) h2
  obtain ⟨x2, e2⟩ := dec_int c2
  have hy0 := e0
  have hy1 := e1
  have hy2 := e2
  simp only [List.append_nil] at hW
  obtain ⟨Ds, hp, hs⟩ := walk_ClientVoted y0 x0 e0 y1 x1 e1 y2 x2 e2 (by omega)
  subst hs
  refine (pure_calls hp rfl (fun j d hd => ?_)).mono fun e W' ⟨he, bel⟩ => ?_
  · rcases j with _ | _ | _ | j <;> simp at hd <;> subst hd <;> assumption
  · subst he
    exact ⟨_, rfl, _, _, _, [], _, [], hW, trodAll_mk1 (shut_bool Try.underlying4 _), R2.trodAll_below hA1 bel (by rw [Try.params13]; decide +kernel), rfl, bel.frame _, fun h => by cases h⟩

set_option maxRecDepth 100000 in
theorem lifted (os : Os) (started : os.Started) (H : Type) (enc : TypeId × Value → H) (F : Stop.Interp) :
    ReturnsInHanded {} Try.checked os 13 .any ((Rows.OpenSpec.upto Rows.clientVotedSpec).pre6 enc Try.prog Try.f13 Rows.clientVotedUptoRow.domain false) (((Rows.OpenSpec.upto Rows.clientVotedSpec).at F).post enc Try.prog Try.f13 false true false false) := by
  refine returnsInHanded_of_cond (C := Try.checked) (s := Rows.OpenSpec.upto Rows.clientVotedSpec) (k := Rows.uptoSmall) rfl R2.own started (by kernel_rfl) Try.func13
    (OpenSpec.witness (enc := enc) (C := Try.checked) (s := Rows.OpenSpec.upto Rows.clientVotedSpec) (k := Rows.uptoSmall) rfl false ⟨#[], #[.agg #[.string ⟨#[]⟩, .int .i64 0, .bool false, .slice none 0 0], .agg #[.int .i64 0, .string ⟨#[]⟩, .int .i64 0, .int .i64 0, .slice none 0 0, .slice none 0 0, .slice none 0 0, .slice none 0 0, .slice none 0 0, .slice none 0 0], .int .i64 0], []⟩ 20 (by kernel_rfl) (by kernel_rfl) (by kernel_rfl)
      (x := ([.agg [.lit (.string []), .lit (.int .i64 0), .lit (.bool false), .nil], .agg [.lit (.int .i64 0), .agg [.agg [.lit (.string []), .lit (.int .i64 0), .lit (.int .i64 0), .nil, .nil, .nil], .nil, .nil], .nil], .lit (.int .i64 0)], [], [])) (by kernel_rfl) rfl (by kernel_rfl)) ?_
  intro W base args ds gs before hval hW _ hk _
  exact contract H enc W base args ds gs before hval hW hk

theorem over : Rows.clientVotedUptoRow.holds Try.pinned (Rows.OpenSpec.upto Rows.clientVotedSpec) :=
  OpenClaim.holds_of_cond 13 Try.f13 rfl rfl rfl rfl rfl rfl rfl ⟨rfl, rfl, rfl, rfl, rfl⟩ rfl rfl rfl rfl rfl (by kernel_rfl) Try.func13 (by kernel_rfl)
    (of_decide_eq_true (by kernel_rfl)) (by unfold Func.isWrapper; first | (rw [if_pos (by decide +kernel)]; kernel_rfl) | (rw [if_neg (by decide +kernel)]; exact ⟨rfl, rfl⟩))
    (fun os started H enc _ F => lifted os started H enc F)

/-- THE STATEMENT. -/
theorem proved : Rows.ClientVotedUptoSaid := over
end Go.Proofs.Ytdpfjmkilbepgaa.clientVoted
