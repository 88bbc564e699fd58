/- The walk of landlaw1.ShaKnown: the digests that stand in FIPS 180-4's examples. -/
import Derived.Test.YtbclmpdgkeoioaaAlive1
import Derived.Test.YtbclmpdgkeoioaaRow
import Derived.Deep.RegionHeld3
namespace Go.Proofs.Ytbclmpdgkeoioaa
open Go.RowKit

def knA0 : ByteArray := ⟨#[]⟩
def knB0 : ByteArray := ⟨#[101, 51, 98, 48, 99, 52, 52, 50, 57, 56, 102, 99, 49, 99, 49, 52, 57, 97, 102, 98, 102, 52, 99, 56, 57, 57, 54, 102, 98, 57, 50, 52, 50, 55, 97, 101, 52, 49, 101, 52, 54, 52, 57, 98, 57, 51, 52, 99, 97, 52, 57, 53, 57, 57, 49, 98, 55, 56, 53, 50, 98, 56, 53, 53]⟩
def knA1 : ByteArray := ⟨#[97, 98, 99]⟩
def knB1 : ByteArray := ⟨#[98, 97, 55, 56, 49, 54, 98, 102, 56, 102, 48, 49, 99, 102, 101, 97, 52, 49, 52, 49, 52, 48, 100, 101, 53, 100, 97, 101, 50, 50, 50, 51, 98, 48, 48, 51, 54, 49, 97, 51, 57, 54, 49, 55, 55, 97, 57, 99, 98, 52, 49, 48, 102, 102, 54, 49, 102, 50, 48, 48, 49, 53, 97, 100]⟩
def knA2 : ByteArray := ⟨#[97, 98, 99, 100, 98, 99, 100, 101, 99, 100, 101, 102, 100, 101, 102, 103, 101, 102, 103, 104, 102, 103, 104, 105, 103, 104, 105, 106, 104, 105, 106, 107, 105, 106, 107, 108, 106, 107, 108, 109, 107, 108, 109, 110, 108, 109, 110, 111, 109, 110, 111, 112, 110, 111, 112, 113]⟩
def knB2 : ByteArray := ⟨#[50, 52, 56, 100, 54, 97, 54, 49, 100, 50, 48, 54, 51, 56, 98, 56, 101, 53, 99, 48, 50, 54, 57, 51, 48, 99, 51, 101, 54, 48, 51, 57, 97, 51, 51, 99, 101, 52, 53, 57, 54, 52, 102, 102, 50, 49, 54, 55, 102, 54, 101, 99, 101, 100, 100, 52, 49, 57, 100, 98, 48, 54, 99, 49]⟩
def knA3 : ByteArray := ⟨#[97, 98, 99, 100, 101, 102, 103, 104, 98, 99, 100, 101, 102, 103, 104, 105, 99, 100, 101, 102, 103, 104, 105, 106, 100, 101, 102, 103, 104, 105, 106, 107, 101, 102, 103, 104, 105, 106, 107, 108, 102, 103, 104, 105, 106, 107, 108, 109, 103, 104, 105, 106, 107, 108, 109, 110, 104, 105, 106, 107, 108, 109, 110, 111, 105, 106, 107, 108, 109, 110, 111, 112, 106, 107, 108, 109, 110, 111, 112, 113, 107, 108, 109, 110, 111, 112, 113, 114, 108, 109, 110, 111, 112, 113, 114, 115, 109, 110, 111, 112, 113, 114, 115, 116, 110, 111, 112, 113, 114, 115, 116, 117]⟩
def knB3 : ByteArray := ⟨#[99, 102, 53, 98, 49, 54, 97, 55, 55, 56, 97, 102, 56, 51, 56, 48, 48, 51, 54, 99, 101, 53, 57, 101, 55, 98, 48, 52, 57, 50, 51, 55, 48, 98, 50, 52, 57, 98, 49, 49, 101, 56, 102, 48, 55, 97, 53, 49, 97, 102, 97, 99, 52, 53, 48, 51, 55, 97, 102, 101, 101, 57, 100, 49]⟩
def knA : Nat → ByteArray | 0 => knA0 | 1 => knA1 | 2 => knA2 | _ => knA3
def knB : Nat → ByteArray | 0 => knB0 | 1 => knB1 | 2 => knB2 | _ => knB3
def knRow (k : Nat) : List Value := [.string (knA k), .string (knB k)]
def knCells : List Value := knRow 0 ++ knRow 1 ++ knRow 2 ++ knRow 3
theorem known_fact : ∀ k, k < 4 → sameB (sha (knA k).data.toList) (hexF (knB k).data.toList) = true
  | 0, _ | 1, _ | 2, _ | 3, _ => by decide +kernel
theorem kn_size : ∀ k, k < 4 → (knA k).size ≤ 200 ∧ (knB k).size ≤ 200
  | 0, _ | 1, _ | 2, _ | 3, _ => by decide +kernel
theorem kn_range {w : World} {g : Nat} (h : w.rangeAt g 0 knCells) : ∀ k, k < 4 → w.rangeAt g (2 * k) (knRow k)
  | 0, _ => fun j u hu => h j u (by unfold knCells; simp only [List.append_assoc]; rw [List.getElem?_append_left (List.getElem?_eq_some_iff.1 hu).1]; exact hu)
  | 1, _ => by have := rangeAt_take (rangeAt_drop h 2) 2; rw [Nat.zero_add] at this; exact this
  | 2, _ => by have := rangeAt_take (rangeAt_drop h 4) 2; rw [Nat.zero_add] at this; exact this
  | 3, _ => by have := rangeAt_take (rangeAt_drop h 6) 2; rw [Nat.zero_add] at this; exact this

theorem isB_row (W W' : World) (t : TypeId) (s : ByteArray) (c : Nat) (fr : Nat × Nat) (hc : s.size ≤ c) (hm : c ≤ maxLen) (hW : W'.heap[W.heap.size]? = some (.cells (bytesRow s c) t fr)) :
    IsB (W.heap.size + 1) W' (.slice (some ⟨W.heap.size, 0, none⟩) s.size c) s.data.toList := by
  refine IsB.mk (by omega) (by simp) hc hm (fun j u hu => ?_)
  rw [Nat.zero_add, cell_of_row _ _ _ _ _ _ hW, ← hu]
  have hj : j < s.data.size := by have := (List.getElem?_eq_some_iff.1 hu).1; simpa [bcs] using this
  unfold bytesRow
  rw [Array.getElem?_append_left (by simpa using hj)]
  simp [bcs, hj]
  rfl
/-- an ending behind which the old world is as it was -/
theorem sum_at (W : World) (bv : Value) (s : ByteArray) (B : Nat) (h : IsB B W bv s.data.toList) (hB : B ≤ W.heap.size) (hs : s.size ≤ 200) :
    Calls Try.prog 17 #[bv] W (RetB W.heap.size (sha s.data.toList) W) := sum_any B bv _ W h hB (by simp; omega)

set_option maxHeartbeats 4000000 in
theorem walk_ShaKnown (w : World) (_ : True) : Calls Try.prog 4 #[] w (RetTrue w) := by
  go_enter Try.func4, Try.ntmps4
  go_wp2_with (first
    | (refine wpl_run (some 3) rfl rfl (.agg (knRow 0).toArray) w (by kernel_rfl) ?_)
    | (refine wpl_run (some 4) rfl rfl (.agg (knRow 1).toArray) w (by kernel_rfl) ?_)
    | (refine wpl_run (some 5) rfl rfl (.agg (knRow 2).toArray) w (by kernel_rfl) ?_)
    | (refine wpl_run (some 6) rfl rfl (.agg (knRow 3).toArray) w (by kernel_rfl) ?_)
    | (refine wpl_run (some 7) rfl rfl (.slice (some ⟨w.heap.size, 0, none⟩) 4 4) (w.alloc (.cells knCells.toArray 29)) (by kernel_rfl) ?_))
  have hr0 : (w.alloc (.cells knCells.toArray 29)).rangeAt w.heap.size 0 knCells := fun j u hu => by
    rw [Nat.zero_add, cell_of_row _ _ _ _ _ _ (heap_alloc_new w _)]; exact List.getElem?_toArray.trans hu
  generalize (knRow 0).toArray = r0 at *
  generalize (knRow 1).toArray = r1 at *
  generalize (knRow 2).toArray = r2 at *
  generalize (knRow 3).toArray = r3 at *
  have hb0 : Below w.heap.size w (w.alloc (.cells knCells.toArray 29)) := (Below.refl _ _).alloc (Nat.le_refl _) _
  have hz0 : w.heap.size < (w.alloc (.cells knCells.toArray 29)).heap.size := by simp
  generalize w.alloc (.cells knCells.toArray 29) = W0 at *
  have HR0 := Lib.hid hr0; have HB0 := Lib.hid hb0
  clear hr0 hb0
  go_wp2
  go_loopw [9] (fun i wr => ∃ k : Nat, k ≤ 4 ∧ i = .int .i64 k ∧ Below W0.heap.size W0 wr) (fun i _ => 4 - (intOf i).toNat)
  case atStart => exact ⟨0, by omega, rfl, Below.refl _ _⟩
  case round =>
    obtain ⟨k, hk, rfl, hb⟩ := hrel
    have HB := Lib.hid hb
    have hsr := hb.size
    clear hb
    by_cases hlt : k < 4
    · have hrg := kn_range HR0.out k hlt
      have HRG := Lib.hid (rangeAt_below hrg HB.out hz0)
      have HF := Lib.hid (known_fact k hlt)
      have hsa := (kn_size k hlt).1; have hsb := (kn_size k hlt).2
      unfold knRow at HRG
      clear hrg
      generalize knA k = sa at *
      generalize knB k = sb at *
      have hca : wr.cell? ⟨w.heap.size, k * 2, none⟩ = some (.string sa) := by rw [Nat.mul_comm]; exact HRG.out 0 _ rfl
      have hcb : wr.cell? ⟨w.heap.size, k * 2 + 1, none⟩ = some (.string sb) := by rw [Nat.mul_comm]; exact HRG.out 1 _ rfl
      go_wp2
      obtain ⟨W1, HW1⟩ : ∃ X, Hid (X = wr.alloc (.cells #[.string sa, .string sb] 29)) := ⟨_, Lib.hid rfl⟩
      have hz1 : W1.heap.size = wr.heap.size + 1 := by rw [HW1.out]; simp
      have hc0 : W1.cell? ⟨wr.heap.size, 0, none⟩ = some (.string sa) := by rw [HW1.out]; exact cell_of_row _ _ _ _ _ _ (heap_alloc_new wr _)
      have hc1 : W1.cell? ⟨wr.heap.size, 1, none⟩ = some (.string sb) := by rw [HW1.out]; exact cell_of_row _ _ _ _ _ _ (heap_alloc_new wr _)
      have hb1 : Below W0.heap.size W0 W1 := by rw [HW1.out]; exact HB.out.alloc hsr _
      rw [← HW1.out]
      have HB1 := Lib.hid hb1; have HZ1 := Lib.hid hz1
      have hlt1 : wr.heap.size < W1.heap.size := by omega
      clear hb1 hz1 hca hcb HW1
      have hcv := fun W : World => run_bytes_of_string (P := Try.prog) W 9 24 5 sa rfl rfl rfl
      have hsum := sum_at (W1.alloc (.cells (bytesRow sa (grownCap W1.drew sa.size 0 5)) 5 ((bytesRow sa (grownCap W1.drew sa.size 0 5)).size, (bytesRow sa (grownCap W1.drew sa.size 0 5)).size + 1))).drew.drew _ sa (W1.heap.size + 1) (isB_row W1 _ 5 sa (grownCap W1.drew sa.size 0 5) _ (grownCap_ge _ _ _ _) (grownCap_le_maxLen _ _ _ _ (show sa.size ≤ 9223372036854775807 by omega)) (heap_alloc_new W1 _)) (by simp) hsa
      have HSUM := Lib.hid hsum
      have hk0 : ∀ w2, Below ((W1.alloc (.cells (bytesRow sa (grownCap W1.drew sa.size 0 5)) 5 ((bytesRow sa (grownCap W1.drew sa.size 0 5)).size, (bytesRow sa (grownCap W1.drew sa.size 0 5)).size + 1))).drew.drew).heap.size ((W1.alloc (.cells (bytesRow sa (grownCap W1.drew sa.size 0 5)) 5 ((bytesRow sa (grownCap W1.drew sa.size 0 5)).size, (bytesRow sa (grownCap W1.drew sa.size 0 5)).size + 1))).drew.drew) w2 → w2.cell? ⟨wr.heap.size, 0, none⟩ = some (.string sa) ∧ w2.cell? ⟨wr.heap.size, 1, none⟩ = some (.string sb) ∧ Below W0.heap.size W0 w2 ∧ wr.heap.size < w2.heap.size := fun w2 hb2 => by
        have hz : ((W1.alloc (.cells (bytesRow sa (grownCap W1.drew sa.size 0 5)) 5 ((bytesRow sa (grownCap W1.drew sa.size 0 5)).size, (bytesRow sa (grownCap W1.drew sa.size 0 5)).size + 1))).drew.drew).heap.size = W1.heap.size + 1 := by simp
        have hz2 := hb2.size
        have hz3 := HZ1.out
        exact ⟨(hb2.cell (p := ⟨wr.heap.size, 0, none⟩) (by rw [hz]; show wr.heap.size < W1.heap.size + 1; omega)).trans ((World.cell?_alloc_past _ _ _ hlt1).trans hc0), (hb2.cell (p := ⟨wr.heap.size, 1, none⟩) (by rw [hz]; show wr.heap.size < W1.heap.size + 1; omega)).trans ((World.cell?_alloc_past _ _ _ hlt1).trans hc1), ((HB1.out.alloc (by omega) _).trans (below_drewN _ _ 2)).trans (hb2.mono (by rw [hz]; omega)), by omega⟩
      have HK0 := Lib.hid hk0
      clear hsum hk0
      go_region_with (first
        | (go_at_call 17; refine HSUM.out.mono ?_; rintro e w2 ⟨v2, rfl, ho2, hb2⟩; obtain ⟨e0, e1, hB2, hz2⟩ := HK0.out w2 hb2; have HO2 := Lib.hid ho2.toIsB; have HB2 := Lib.hid hB2; clear ho2 hb2 hB2)
        | (go_at_call 18; refine (hex_any sb _ (by omega)).mono ?_; rintro e w3 ⟨v3, rfl, ho3, hb3⟩; have HO3 := Lib.hid ho3.toIsB; have HO2' := Lib.hid (HO2.out.below hb3 (Nat.le_refl _)); have HB3 := Lib.hid (HB2.out.trans (hb3.mono HB2.out.size)); clear ho3 hb3)
        | (go_at_call 15; refine (same_any _ _ _ _ _ _ _ HO2'.out HO3.out).mono ?_; rintro e w4 ⟨rfl, m, rfl⟩; have HB4 := Lib.hid (HB3.out.trans (below_drewN _ _ m))))
      all_goals
        have hff := HF.out
        rw [hff]
        go_wp2
        go_roundw
        case rel => exact ⟨k + 1, by omega, by go_num, HB4.out⟩
        case measure => simp [intOf]; omega
    · have hkn : ¬ (k : Int) < 4 := by omega
      go_wp2
      go_ret
      exact ⟨rfl, HB0.out.trans (HB.out.mono (by omega))⟩
end Go.Proofs.Ytbclmpdgkeoioaa
