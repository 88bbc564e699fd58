/- Walk of the digest's end: what fills the last block, and the digest's bytes. -/
import Derived.Test.YtmclpbcipkdmcaaDoorShaW
set_option linter.all false
namespace Go.Proofs.YtmclpbcipkdmcaaDoor
open Go.RowKit

theorem StAt.below {B B' g k : Nat} {w w' : World} {M : List UInt8} (h : StAt B w g k M) (hb : Below B' w w') (hB : w.heap.size ≤ B') : StAt B w' g k M := by
  obtain ⟨rv, hr, hf, ho, hrg, hl, hBg, hg⟩ := h
  refine ⟨rv, rangeAt_below hr hb (by omega), fun j hj => ?_, ho.below hb hB, hrg, hl, hBg, Nat.lt_of_lt_of_le hg hb.size⟩
  rw [hb.frozen (p := ⟨g, j, none⟩) (by show g < B'; omega)]; exact hf j hj
theorem IsSt.below {B B' g : Nat} {w w' : World} {M : List UInt8} (h : IsSt B w g M) (hb : Below B' w w') (hB : w.heap.size ≤ B') : IsSt B w' g M := StAt.below h hb hB

theorem src_lit {P : Program} {size tx e : Nat} (ht : P.underlying tx = some (.slice e)) (w : World) (t : TypeId) (cs : List Value) (n c : Nat) (hn : cs.length = n * size) (h1 : ∀ u ∈ cs, u.oneCell' = true) (m : Nat) (hm : m = w.heap.size) :
    Src P size tx (.slice (some ⟨m, 0, none⟩) n c) n cs (w.alloc (.cells cs.toArray t)) := by
  subst hm
  refine Src.ofSlice _ ht _ n c cs hn (fun j u hu => ?_) h1
  rw [Addr.add_mid, Nat.zero_add, cell_of_row _ _ _ _ _ _ (heap_alloc_new w _)]
  simpa using hu
theorem ownS_lit {B size : Nat} (w : World) (t : TypeId) (cs : List Value) (n : Nat) (hn : cs.length = n * size) (hm : n ≤ maxLen) (hB : B ≤ w.heap.size) (m : Nat) (he : m = w.heap.size) :
    OwnS B size (w.alloc (.cells cs.toArray t)) (.slice (some ⟨m, 0, none⟩) n n) cs := by
  subst he
  refine .inr ⟨_, 0, n, n, rfl, hB, by simp, Nat.le_refl _, hm, hn, fun j u hu => ?_, fun j hj => ?_⟩
  · rw [Nat.zero_add, cell_of_row _ _ _ _ _ _ (heap_alloc_new w _)]; simpa using hu
  · rw [Nat.zero_add, cell_of_row _ _ _ _ _ _ (heap_alloc_new w _)]
    refine ⟨?_, frozen_of_row _ _ _ _ _ (heap_alloc_new w _)⟩
    rw [← hn] at hj
    simp [hj]

theorem byteOf_int (n d : Nat) : ((byteOf n d).toNat : Int) = (n : Int) / (d : Int) % 256 := by
  unfold byteOf
  rw [UInt8.toNat_ofNat']
  omega
/-- what is laid behind n bytes, ahead of the eight that tell how many there are -/
def pad0 (z : Nat) : List UInt8 := 128 :: List.replicate z 0
theorem pad0_succ (z : Nat) : pad0 (z + 1) = pad0 z ++ [0] := by
  unfold pad0; rw [List.cons_append, ← List.replicate_succ']
theorem pad0_length (z : Nat) : (pad0 z).length = z + 1 := by simp [pad0]
def zOf (n : Nat) : Nat := (119 - n % 64) % 64

theorem zOf_lt (n : Nat) : zOf n < 64 := Nat.mod_lt _ (by decide)
theorem zOf_test (n z : Nat) (h : z ≤ zOf n) : (n % 64 + (z + 1)) % 64 = 56 ↔ z = zOf n := by unfold zOf at *; omega

def z32 : Array Value := (List.replicate 32 (Value.int .u8 0)).toArray
theorem make32 (W : World) : (Instr.makeSlice 29 (.int .i64 0) (.int .i64 32)).run Tryd.prog W = .ok (.slice (some ⟨W.heap.size, 0, none⟩) 0 32) (W.alloc (.cells z32 5)) := by kernel_rfl
theorem own32 {B : Nat} (w : World) (hB : B ≤ w.heap.size) (t : TypeId) : OwnS B 1 (w.alloc (.cells z32 t)) (.slice (some ⟨w.heap.size, 0, none⟩) 0 32) [] := by
  refine .inr ⟨_, 0, 0, 32, rfl, hB, by simp, by omega, by simp [maxLen], rfl, fun j u hu => by simp at hu, fun j hj => ?_⟩
  rw [Nat.zero_add, cell_of_row _ _ _ _ _ _ (heap_alloc_new w _)]
  refine ⟨?_, frozen_of_row _ _ _ _ _ (heap_alloc_new w _)⟩
  have : j < z32.size := hj
  simp [this]
theorem word_index (v : V8) : ∀ j : Nat, j < 8 → ∀ W, (Instr.index 210 (.agg #[.int .u32 (v.a : Nat), .int .u32 (v.b : Nat), .int .u32 (v.c : Nat), .int .u32 (v.d : Nat), .int .u32 (v.e : Nat), .int .u32 (v.f : Nat), .int .u32 (v.g : Nat), .int .u32 (v.h : Nat)]) (.int .i64 (j : Int))).run Tryd.prog W = .ok (.int .u32 (lnth v.list j : Nat)) W
  | 0, _, _ | 1, _, _ | 2, _, _ | 3, _, _ | 4, _, _ | 5, _, _ | 6, _, _ | 7, _, _ => by kernel_rfl
def outs (v : V8) (j : Nat) : List UInt8 := (v.list.take j).flatMap be32
theorem outs_succ (v : V8) (j : Nat) (h : j < 8) : outs v (j + 1) = outs v j ++ be32 (lnth v.list j) := by
  match j, h with
  | 0, _ | 1, _ | 2, _ | 3, _ | 4, _ | 5, _ | 6, _ | 7, _ => simp [outs, V8.list, lnth, be32]
theorem outs_all (v : V8) : outs v 8 = outW v := by simp [outs, V8.list, outW]
theorem outs_len (v : V8) (j : Nat) (h : j ≤ 8) : (outs v j).length = 4 * j := by
  match j, h with
  | 0, _ | 1, _ | 2, _ | 3, _ | 4, _ | 5, _ | 6, _ | 7, _ | 8, _ => simp [outs, V8.list, be32]
def EndPost (B : Nat) (m : List UInt8) (w : World) (e : Ending) (w' : World) : Prop := ∃ v, e = .returned v ∧ OwnS B 1 w' v (bcs (sha m)) ∧ Below B w w'

set_option maxRecDepth 100000 in
set_option maxHeartbeats 1000000 in
theorem end_any (B g : Nat) (m : List UInt8) (w : World) (hst : IsSt B w g m) (hB : B ≤ w.heap.size) :
    Calls Tryd.prog 141 #[.pointer (some ⟨g, 0, none⟩)] w (EndPost B m w) := by
  have HST := Lib.hid hst
  obtain ⟨rv, hr, hf, ho, hrg, hk, hBg, hg⟩ := hst
  obtain ⟨hr1, hr8, hr9⟩ := st_cells hr
  obtain ⟨a1, n1, q1, rfl, hl1, -, -, -⟩ := ho.open' (by decide)
  rw [bcs_length, Nat.mul_one, List.length_drop] at hl1
  have hn1 : n1 = m.length % 64 := by omega
  have hn1' : n1 < 64 := by omega
  have HN1 := Lib.hid hn1
  clear hr hr1 ho hrg hf hl1 hn1
  obtain ⟨N, hN⟩ : ∃ N, Hid (n64 (m.length * 8) = N) := ⟨_, Lib.hid rfl⟩
  have hmul : IntKind.u64.wrap ((n64 m.length : Int) * 8) = (N : Int) := by
    rw [← hN.out]
    simp [IntKind.wrap, IntKind.bits, IntKind.signed, n64]
    omega
  have hz := zOf_lt m.length
  go_enter Tryd.func141, Tryd.ntmps141
  go_wp2
  go_loopg [4] (zOf m.length) (fun gk v wr => ∃ z, z + gk = zOf m.length ∧ OwnS w.heap.size 1 wr v (bcs (pad0 z)) ∧ Below w.heap.size w wr)
  case atStart => exact ⟨0, by omega, ownS_lit w 5 (bcs (pad0 0)) 1 rfl (by simp [maxLen]) (Nat.le_refl _) _ rfl, (Below.refl _ _).alloc (Nat.le_refl _) _⟩
  case round =>
    obtain ⟨z, hz1, ho, hb⟩ := hrel
    obtain ⟨a2, n2, q2, rfl, hl2, -, -, -⟩ := ho.open' (by decide)
    rw [bcs_length, pad0_length, Nat.mul_one] at hl2
    have c8 : wr.cell? ⟨g, 8, none⟩ = some (.slice a1 n1 q1) := (hb.cell (p := ⟨g, 8, none⟩) hg).trans hr8
    have ht := zOf_test m.length z (by omega)
    have hn2 : n2 ≤ 64 := by omega
    have HO := Lib.hid ho; have HB := Lib.hid hb; have HT := Lib.hid ht; have HL := Lib.hid hl2; have HZ1 := Lib.hid hz1
    clear ho hb ht hl2 hz1
    by_cases he : z = zOf m.length
    · have ht1 : ((((n1 : Int) + (n2 : Int)) % 64) != 56) = false := by
        have h1 := HT.out.2 he; have h2 := HN1.out; have h3 := HL.out
        simp; omega
      have HE := Lib.hid he
      clear he
      go_wp2
      go_loopg [4, 5] 8 (fun gk2 v i wr2 => ∃ j, j + gk2 = 8 ∧ i = .int .i64 (56 - 8 * (j : Int)) ∧ OwnS w.heap.size 1 wr2 v (bcs (pad0 z ++ (be64 N).take j)) ∧ Below w.heap.size w wr2)
      case atStart => exact ⟨0, rfl, rfl, by rw [List.take_zero, List.append_nil]; exact HO.out, HB.out⟩
      case round =>
      obtain ⟨j, hj, rfl, ho2, hb2⟩ := hrel
      obtain ⟨a3, n3, q3, rfl, -, -, -, -⟩ := ho2.open' (by decide)
      have HO2 := Lib.hid ho2; have HB2 := Lib.hid hb2
      have hsz := hb2.size
      have hz64 : z < 64 := by have := HE.out; omega
      clear ho2 hb2
      rcases (show j = 0 ∨ j = 1 ∨ j = 2 ∨ j = 3 ∨ j = 4 ∨ j = 5 ∨ j = 6 ∨ j = 7 ∨ j = 8 by omega) with rfl | rfl | rfl | rfl | rfl | rfl | rfl | rfl | rfl
      · rw [show (56 - 8 * ((0 : Nat) : Int)) = 56 from rfl]
        have hs : (N : Int) / 72057594037927936 % 256 = ((byteOf N 72057594037927936).toNat : Int) := by rw [byteOf_int]; simp
        go_wp2_with (refine wpl_append rfl _ _ rfl w.heap.size 1 (cs := bcs (pad0 z ++ (be64 N).take 0)) (news := [.int .u8 ((byteOf N 72057594037927936).toNat : Int)]) (m := 1) slT_bytes rfl rfl (HO2.out.alloc _) (src_lit rfl _ _ [.int .u8 ((byteOf N 72057594037927936).toNat : Int)] 1 1 rfl (by simp [Value.oneCell']) _ rfl) ?h3 ?h4 ?h5 ?_)
        case h3 => simp; omega
        case h4 => simp [bcs_length, pad0_length]; omega
        case h5 => simp [bcs_length, pad0_length, maxLen]; omega
        intro v1 w1 ho1 hg1 hk1
        have hb1 : Below w.heap.size w w1 := (HB2.out.alloc hsz _).grown hg1 (by simp; omega) (fun k hk => (HO2.out.lt k hk).1)
        have HO1 := Lib.hid ho1; have HB1 := Lib.hid hb1
        clear ho1 hg1 hk1 hb1
        go_wp2
        go_roundg (gk - 1)
        case measure => omega
        case rel => exact ⟨1, by omega, rfl, by rw [show bcs (pad0 z ++ List.take 1 (be64 N)) = bcs (pad0 z) ++ [.int .u8 ((byteOf N 72057594037927936).toNat : Int)] by simp [be64, bcs, bcell]]; exact HO1.out, HB1.out⟩
      · rw [show (56 - 8 * ((1 : Nat) : Int)) = 48 from rfl]
        have hs : (N : Int) / 281474976710656 % 256 = ((byteOf N 281474976710656).toNat : Int) := by rw [byteOf_int]; simp
        go_wp2_with (refine wpl_append rfl _ _ rfl w.heap.size 1 (cs := bcs (pad0 z ++ (be64 N).take 1)) (news := [.int .u8 ((byteOf N 281474976710656).toNat : Int)]) (m := 1) slT_bytes rfl rfl (HO2.out.alloc _) (src_lit rfl _ _ [.int .u8 ((byteOf N 281474976710656).toNat : Int)] 1 1 rfl (by simp [Value.oneCell']) _ rfl) ?h3 ?h4 ?h5 ?_)
        case h3 => simp; omega
        case h4 => simp [bcs_length, pad0_length]; omega
        case h5 => simp [bcs_length, pad0_length, maxLen]; omega
        intro v1 w1 ho1 hg1 hk1
        have hb1 : Below w.heap.size w w1 := (HB2.out.alloc hsz _).grown hg1 (by simp; omega) (fun k hk => (HO2.out.lt k hk).1)
        have HO1 := Lib.hid ho1; have HB1 := Lib.hid hb1
        clear ho1 hg1 hk1 hb1
        go_wp2
        go_roundg (gk - 1)
        case measure => omega
        case rel => exact ⟨2, by omega, rfl, by rw [show bcs (pad0 z ++ List.take 2 (be64 N)) = bcs (pad0 z ++ List.take 1 (be64 N)) ++ [.int .u8 ((byteOf N 281474976710656).toNat : Int)] by simp [be64, bcs, bcell]]; exact HO1.out, HB1.out⟩
      · rw [show (56 - 8 * ((2 : Nat) : Int)) = 40 from rfl]
        have hs : (N : Int) / 1099511627776 % 256 = ((byteOf N 1099511627776).toNat : Int) := by rw [byteOf_int]; simp
        go_wp2_with (refine wpl_append rfl _ _ rfl w.heap.size 1 (cs := bcs (pad0 z ++ (be64 N).take 2)) (news := [.int .u8 ((byteOf N 1099511627776).toNat : Int)]) (m := 1) slT_bytes rfl rfl (HO2.out.alloc _) (src_lit rfl _ _ [.int .u8 ((byteOf N 1099511627776).toNat : Int)] 1 1 rfl (by simp [Value.oneCell']) _ rfl) ?h3 ?h4 ?h5 ?_)
        case h3 => simp; omega
        case h4 => simp [bcs_length, pad0_length]; omega
        case h5 => simp [bcs_length, pad0_length, maxLen]; omega
        intro v1 w1 ho1 hg1 hk1
        have hb1 : Below w.heap.size w w1 := (HB2.out.alloc hsz _).grown hg1 (by simp; omega) (fun k hk => (HO2.out.lt k hk).1)
        have HO1 := Lib.hid ho1; have HB1 := Lib.hid hb1
        clear ho1 hg1 hk1 hb1
        go_wp2
        go_roundg (gk - 1)
        case measure => omega
        case rel => exact ⟨3, by omega, rfl, by rw [show bcs (pad0 z ++ List.take 3 (be64 N)) = bcs (pad0 z ++ List.take 2 (be64 N)) ++ [.int .u8 ((byteOf N 1099511627776).toNat : Int)] by simp [be64, bcs, bcell]]; exact HO1.out, HB1.out⟩
      · rw [show (56 - 8 * ((3 : Nat) : Int)) = 32 from rfl]
        have hs : (N : Int) / 4294967296 % 256 = ((byteOf N 4294967296).toNat : Int) := by rw [byteOf_int]; simp
        go_wp2_with (refine wpl_append rfl _ _ rfl w.heap.size 1 (cs := bcs (pad0 z ++ (be64 N).take 3)) (news := [.int .u8 ((byteOf N 4294967296).toNat : Int)]) (m := 1) slT_bytes rfl rfl (HO2.out.alloc _) (src_lit rfl _ _ [.int .u8 ((byteOf N 4294967296).toNat : Int)] 1 1 rfl (by simp [Value.oneCell']) _ rfl) ?h3 ?h4 ?h5 ?_)
        case h3 => simp; omega
        case h4 => simp [bcs_length, pad0_length]; omega
        case h5 => simp [bcs_length, pad0_length, maxLen]; omega
        intro v1 w1 ho1 hg1 hk1
        have hb1 : Below w.heap.size w w1 := (HB2.out.alloc hsz _).grown hg1 (by simp; omega) (fun k hk => (HO2.out.lt k hk).1)
        have HO1 := Lib.hid ho1; have HB1 := Lib.hid hb1
        clear ho1 hg1 hk1 hb1
        go_wp2
        go_roundg (gk - 1)
        case measure => omega
        case rel => exact ⟨4, by omega, rfl, by rw [show bcs (pad0 z ++ List.take 4 (be64 N)) = bcs (pad0 z ++ List.take 3 (be64 N)) ++ [.int .u8 ((byteOf N 4294967296).toNat : Int)] by simp [be64, bcs, bcell]]; exact HO1.out, HB1.out⟩
      · rw [show (56 - 8 * ((4 : Nat) : Int)) = 24 from rfl]
        have hs : (N : Int) / 16777216 % 256 = ((byteOf N 16777216).toNat : Int) := by rw [byteOf_int]; simp
        go_wp2_with (refine wpl_append rfl _ _ rfl w.heap.size 1 (cs := bcs (pad0 z ++ (be64 N).take 4)) (news := [.int .u8 ((byteOf N 16777216).toNat : Int)]) (m := 1) slT_bytes rfl rfl (HO2.out.alloc _) (src_lit rfl _ _ [.int .u8 ((byteOf N 16777216).toNat : Int)] 1 1 rfl (by simp [Value.oneCell']) _ rfl) ?h3 ?h4 ?h5 ?_)
        case h3 => simp; omega
        case h4 => simp [bcs_length, pad0_length]; omega
        case h5 => simp [bcs_length, pad0_length, maxLen]; omega
        intro v1 w1 ho1 hg1 hk1
        have hb1 : Below w.heap.size w w1 := (HB2.out.alloc hsz _).grown hg1 (by simp; omega) (fun k hk => (HO2.out.lt k hk).1)
        have HO1 := Lib.hid ho1; have HB1 := Lib.hid hb1
        clear ho1 hg1 hk1 hb1
        go_wp2
        go_roundg (gk - 1)
        case measure => omega
        case rel => exact ⟨5, by omega, rfl, by rw [show bcs (pad0 z ++ List.take 5 (be64 N)) = bcs (pad0 z ++ List.take 4 (be64 N)) ++ [.int .u8 ((byteOf N 16777216).toNat : Int)] by simp [be64, bcs, bcell]]; exact HO1.out, HB1.out⟩
      · rw [show (56 - 8 * ((5 : Nat) : Int)) = 16 from rfl]
        have hs : (N : Int) / 65536 % 256 = ((byteOf N 65536).toNat : Int) := by rw [byteOf_int]; simp
        go_wp2_with (refine wpl_append rfl _ _ rfl w.heap.size 1 (cs := bcs (pad0 z ++ (be64 N).take 5)) (news := [.int .u8 ((byteOf N 65536).toNat : Int)]) (m := 1) slT_bytes rfl rfl (HO2.out.alloc _) (src_lit rfl _ _ [.int .u8 ((byteOf N 65536).toNat : Int)] 1 1 rfl (by simp [Value.oneCell']) _ rfl) ?h3 ?h4 ?h5 ?_)
        case h3 => simp; omega
        case h4 => simp [bcs_length, pad0_length]; omega
        case h5 => simp [bcs_length, pad0_length, maxLen]; omega
        intro v1 w1 ho1 hg1 hk1
        have hb1 : Below w.heap.size w w1 := (HB2.out.alloc hsz _).grown hg1 (by simp; omega) (fun k hk => (HO2.out.lt k hk).1)
        have HO1 := Lib.hid ho1; have HB1 := Lib.hid hb1
        clear ho1 hg1 hk1 hb1
        go_wp2
        go_roundg (gk - 1)
        case measure => omega
        case rel => exact ⟨6, by omega, rfl, by rw [show bcs (pad0 z ++ List.take 6 (be64 N)) = bcs (pad0 z ++ List.take 5 (be64 N)) ++ [.int .u8 ((byteOf N 65536).toNat : Int)] by simp [be64, bcs, bcell]]; exact HO1.out, HB1.out⟩
      · rw [show (56 - 8 * ((6 : Nat) : Int)) = 8 from rfl]
        have hs : (N : Int) / 256 % 256 = ((byteOf N 256).toNat : Int) := by rw [byteOf_int]; simp
        go_wp2_with (refine wpl_append rfl _ _ rfl w.heap.size 1 (cs := bcs (pad0 z ++ (be64 N).take 6)) (news := [.int .u8 ((byteOf N 256).toNat : Int)]) (m := 1) slT_bytes rfl rfl (HO2.out.alloc _) (src_lit rfl _ _ [.int .u8 ((byteOf N 256).toNat : Int)] 1 1 rfl (by simp [Value.oneCell']) _ rfl) ?h3 ?h4 ?h5 ?_)
        case h3 => simp; omega
        case h4 => simp [bcs_length, pad0_length]; omega
        case h5 => simp [bcs_length, pad0_length, maxLen]; omega
        intro v1 w1 ho1 hg1 hk1
        have hb1 : Below w.heap.size w w1 := (HB2.out.alloc hsz _).grown hg1 (by simp; omega) (fun k hk => (HO2.out.lt k hk).1)
        have HO1 := Lib.hid ho1; have HB1 := Lib.hid hb1
        clear ho1 hg1 hk1 hb1
        go_wp2
        go_roundg (gk - 1)
        case measure => omega
        case rel => exact ⟨7, by omega, rfl, by rw [show bcs (pad0 z ++ List.take 7 (be64 N)) = bcs (pad0 z ++ List.take 6 (be64 N)) ++ [.int .u8 ((byteOf N 256).toNat : Int)] by simp [be64, bcs, bcell]]; exact HO1.out, HB1.out⟩
      · rw [show (56 - 8 * ((7 : Nat) : Int)) = 0 from rfl]
        have hs : (N : Int) % 256 = ((byteOf N 1).toNat : Int) := by rw [byteOf_int]; simp
        go_wp2_with (refine wpl_append rfl _ _ rfl w.heap.size 1 (cs := bcs (pad0 z ++ (be64 N).take 7)) (news := [.int .u8 ((byteOf N 1).toNat : Int)]) (m := 1) slT_bytes rfl rfl (HO2.out.alloc _) (src_lit rfl _ _ [.int .u8 ((byteOf N 1).toNat : Int)] 1 1 rfl (by simp [Value.oneCell']) _ rfl) ?h3 ?h4 ?h5 ?_)
        case h3 => simp; omega
        case h4 => simp [bcs_length, pad0_length]; omega
        case h5 => simp [bcs_length, pad0_length, maxLen]; omega
        intro v1 w1 ho1 hg1 hk1
        have hb1 : Below w.heap.size w w1 := (HB2.out.alloc hsz _).grown hg1 (by simp; omega) (fun k hk => (HO2.out.lt k hk).1)
        have HO1 := Lib.hid ho1; have HB1 := Lib.hid hb1
        clear ho1 hg1 hk1 hb1
        go_wp2
        go_roundg (gk - 1)
        case measure => omega
        case rel => exact ⟨8, by omega, rfl, by rw [show bcs (pad0 z ++ List.take 8 (be64 N)) = bcs (pad0 z ++ List.take 7 (be64 N)) ++ [.int .u8 ((byteOf N 1).toNat : Int)] by simp [be64, bcs, bcell]]; exact HO1.out, HB1.out⟩
      · rw [show (56 - 8 * ((8 : Nat) : Int)) = -8 from rfl]
        have hpad : pad0 z ++ (be64 N).take 8 = padOf m.length := by
          rw [HE.out, ← hN.out]; rfl
        have HP := Lib.hid hpad
        have HI := Lib.hid (HST.out.below HB2.out (Nat.le_refl _))
        have HB3 := Lib.hid (HB2.out.mono hB)
        have hIB := HO2.out.toIsB
        rw [hpad] at hIB
        have HIB := Lib.hid hIB
        have hB3 : B ≤ wr.heap.size := by omega
        have hne : padOf m.length = [] ∨ ∀ k, (Value.slice a3 n3 q3).ownBlock = some k → k ≠ g := .inr fun k hk e => by
          have := (HO2.out.lt k hk).1; omega
        have HNE := Lib.hid hne
        clear hpad hIB hne
        go_wp2_with (go_at_call 140; refine (write_any B _ g m (padOf m.length) _ _ HI.out HIB.out HNE.out hB3 (by rw [padOf_length]; omega)).mono ?_)
        rintro e w4 ⟨rfl, hst4, hb4⟩
        have HB4 := Lib.hid (HB3.out.trans hb4)
        have hl64 : (m ++ padOf m.length).length = 64 * ((m ++ padOf m.length).length / 64) := by
          rw [List.length_append, padOf_length]; omega
        obtain ⟨rv4, hr4, hf4, -, -, -, -, hg4⟩ := hst4
        have hrr4 := (st_cells hr4).1
        generalize hvv : blocksW V0 ((m ++ padOf m.length).length / 64) (m ++ padOf m.length) = vv at *
        have HVV := Lib.hid hvv
        have hc : ∀ j u, vv.cells[j]? = some u → w4.cell? ⟨g, j, none⟩ = some u := fun j u hu => by simpa using hrr4 j u hu
        have c0 := hc 0 _ rfl; have c1 := hc 1 _ rfl; have c2 := hc 2 _ rfl; have c3 := hc 3 _ rfl
        have c4 := hc 4 _ rfl; have c5 := hc 5 _ rfl; have c6 := hc 6 _ rfl; have c7 := hc 7 _ rfl
        have hB4 : B ≤ w4.heap.size := by have := hb4.size; omega
        clear hc hvv hrr4 hr4 hf4 hb4 hl64
        have hmk := make32
        have hgN : g < w4.heap.size := hg4
        go_wp2
        go_loopg [6, 47] 8 (fun gk v i wr => ∃ j, j + gk = 8 ∧ i = .int .i64 (j : Int) ∧ OwnS B 1 wr v (bcs (outs vv j)) ∧ Below B w wr)
        case atStart => exact ⟨0, rfl, rfl, own32 w4 hB4 _, HB4.out.alloc hB4 _⟩
        case round =>
        obtain ⟨j, hj, rfl, ho, hb⟩ := hrel
        obtain ⟨a5, n5, q5, rfl, -, -, -, -⟩ := ho.open' (by decide)
        have hB5 : B ≤ wr.heap.size := by have := hb.size; omega
        have HO5 := Lib.hid ho; have HB5 := Lib.hid hb
        clear ho hb
        by_cases hlt : j < 8
        · have hix := word_index vv j hlt
          generalize hx : lnth vv.list j = x at *
          have HX := Lib.hid hx
          clear hx
          have s1 : (x : Int) / 16777216 % 256 = ((byteOf x 16777216).toNat : Int) := by rw [byteOf_int]; simp
          have s2 : (x : Int) / 65536 % 256 = ((byteOf x 65536).toNat : Int) := by rw [byteOf_int]; simp
          have s3 : (x : Int) / 256 % 256 = ((byteOf x 256).toNat : Int) := by rw [byteOf_int]; simp
          have s4 : (x : Int) % 256 = ((byteOf x 1).toNat : Int) := by rw [byteOf_int]; simp
          go_wp2_with (refine wpl_append rfl _ _ rfl B 1 (cs := bcs (outs vv j)) (news := bcs (be32 x)) (m := 4) slT_bytes rfl rfl (HO5.out.alloc _) (src_lit rfl _ _ (bcs (be32 x)) 4 4 rfl (bcs_one _) _ rfl) ?h3 ?h4 ?h5 ?_)
          case h3 => simp; omega
          case h4 => simp [bcs_length, outs_len _ _ (Nat.le_of_lt hlt)]; omega
          case h5 => simp [bcs_length, outs_len _ _ (Nat.le_of_lt hlt), maxLen]; omega
          intro v1 w1 ho1 hg1 hk1
          have hb1 : Below B w w1 := (HB5.out.alloc hB5 _).grown hg1 (by simp; omega) (fun k hk => (HO5.out.lt k hk).1)
          have HO1 := Lib.hid ho1; have HB1 := Lib.hid hb1
          clear ho1 hg1 hk1 hb1
          go_wp2
          go_roundg (gk - 1)
          case measure => omega
          case rel => exact ⟨j + 1, by omega, by go_num, by rw [outs_succ _ _ hlt, bcs_append, HX.out]; exact HO1.out, HB1.out⟩
        · have J8 := Lib.hid (show j = 8 by omega)
          have hj8 : ¬ (j : Int) < 8 := by omega
          go_wp2
          go_ret
          exact ⟨_, rfl, by
            have := HO5.out
            rw [J8.out, outs_all, ← HVV.out] at this
            unfold sha
            rw [← List.length_append]
            exact this, HB5.out⟩
    · have ht1 : ((((n1 : Int) + (n2 : Int)) % 64) != 56) = true := by
        have h1 := mt HT.out.1 he; have h2 := HN1.out; have h3 := HL.out
        simp; omega
      have HE := Lib.hid he
      clear he
      have hsz := HB.out.size
      go_wp2_with (refine wpl_append rfl _ _ rfl w.heap.size 1 (cs := bcs (pad0 z)) (news := [.int .u8 0]) (m := 1) slT_bytes rfl rfl (HO.out.alloc _) (src_lit rfl _ _ [.int .u8 0] 1 1 rfl (by simp [Value.oneCell']) _ rfl) ?h3 ?h4 ?h5 ?_)
      case h3 => simp; omega
      case h4 => have := HL.out; simp [bcs_length, pad0_length]; omega
      case h5 => have := HL.out; simp [bcs_length, pad0_length, maxLen]; omega
      intro v1 w1 ho1 hg1 hk1
      have hb1 : Below w.heap.size w w1 := (HB.out.alloc hsz _).grown hg1 (by simp; omega) (fun k hk => (HO.out.lt k hk).1)
      have HO1 := Lib.hid ho1; have HB1 := Lib.hid hb1
      clear ho1 hg1 hk1 hb1
      go_wp2
      go_roundg (gk - 1)
      case measure => have := HZ1.out; have := HE.out; omega
      case rel =>
        have := HZ1.out; have := HE.out
        exact ⟨z + 1, by omega, by rw [pad0_succ, bcs_append]; exact HO1.out, HB1.out⟩
end Go.Proofs.YtmclpbcipkdmcaaDoor
