/- The digest of parts, and of bytes: the contracts of Parts and Sum. -/
import Derived.Test.YtmclpbcipkdmcaaDoorShaE
set_option linter.all false
namespace Go.Proofs.YtmclpbcipkdmcaaDoor
open Go.RowKit

/-- A slice of slices of bytes that reads as 'ls'. -/
def IsBB (B : Nat) (w : World) (v : Value) (ls : List (List UInt8)) : Prop := ∃ vs, IsS B 1 w v vs ∧ vs.length = ls.length ∧ ∀ k, k < ls.length → IsB B w (vs.getD k undef) (ls.getD k [])

theorem IsBB.below {B B' : Nat} {w w' : World} {v : Value} {ls : List (List UInt8)} (h : IsBB B w v ls) (hb : Below B' w w') (hB : B ≤ B') : IsBB B w' v ls := by
  obtain ⟨vs, h1, h2, h3⟩ := h
  exact ⟨vs, h1.below hb hB, h2, fun k hk => (h3 k hk).below hb hB⟩
theorem IsBB.mono {B B' : Nat} {w : World} {v : Value} {ls : List (List UInt8)} (h : IsBB B w v ls) (hB : B ≤ B') : IsBB B' w v ls := by
  obtain ⟨vs, h1, h2, h3⟩ := h
  exact ⟨vs, h1.mono hB, h2, fun k hk => (h3 k hk).mono hB⟩
theorem IsB.block {B : Nat} {w : World} {v : Value} {l : List UInt8} (h : IsB B w v l) : l = [] ∨ ∀ k, v.ownBlock = some k → k < B := by
  rcases h.open with ⟨_, _, rfl, h0⟩ | ⟨b, off, cap, rfl, h2, _⟩
  · exact .inl h0
  · exact .inr fun k hk => by simp [Value.ownBlock] at hk; omega
/-- what a call that hands new bytes back leaves -/
def RetB (B : Nat) (bs : List UInt8) (w : World) (e : Ending) (w' : World) : Prop := ∃ v, e = .returned v ∧ OwnS B 1 w' v (bcs bs) ∧ Below B w w'

def st0 : Array Value := #[.int .u32 1779033703, .int .u32 3144134277, .int .u32 1013904242, .int .u32 2773480762, .int .u32 1359893119, .int .u32 2600822924, .int .u32 528734635, .int .u32 1541459225, .slice none 0 0, .int .u64 0]
theorem begin_any (w : World) : Calls Tryd.prog 139 #[] w fun e w' => e = .returned (.pointer (some ⟨w.heap.size, 0, none⟩)) ∧ w' = w.alloc (.cells st0 212) := by
  go_enter Tryd.func139, Tryd.ntmps139
  go_wp2
  go_ret
  exact ⟨rfl, rfl⟩
theorem st_begin (w : World) (t : TypeId) : IsSt w.heap.size (w.alloc (.cells st0 t)) w.heap.size [] := by
  have hg := heap_alloc_new w (.cells st0 t)
  refine ⟨.slice none 0 0, fun j u hu => ?_, fun j _ => frozen_of_row _ _ _ _ _ hg, OwnS.nil _ _ _, by simp [Value.ownBlock], by simp, Nat.le_refl _, by simp⟩
  rw [Nat.zero_add, cell_of_row _ _ _ _ _ _ hg]
  rw [show st0 = ((blocksW V0 0 []).cells ++ [Value.slice none 0 0, .int .u64 (n64 0 : Int)]).toArray from rfl, List.getElem?_toArray]
  exact hu

theorem flat_take {ls : List (List UInt8)} {k : Nat} (h : k < ls.length) : (ls.take (k + 1)).flatten = (ls.take k).flatten ++ ls.getD k [] := by
  rw [take_snoc h, List.flatten_append]; simp [List.getD_eq_getElem?_getD, h]

set_option maxHeartbeats 400000 in
theorem parts_any (B : Nat) (lv : Value) (ls : List (List UInt8)) (w : World) (h : IsBB B w lv ls) (hB : B ≤ w.heap.size) (hlen : ∀ k, k < ls.length → (ls.getD k []).length ≤ 140737488355264) :
    Calls Tryd.prog 115 #[lv] w (RetB w.heap.size (sha ls.flatten) w) := by
  obtain ⟨vs, h1, h2, h3⟩ := h
  have hl : ∃ a n cap, lv = .slice a n cap ∧ n = ls.length ∧ n ≤ 9223372036854775807 ∧ (0 < n → ∃ b off, a = some ⟨b, off, none⟩ ∧ b < B ∧ ∀ k, k < n → w.cell? ⟨b, off + k, none⟩ = some (vs.getD k undef)) := by
    rcases h1 with ⟨a, cap, rfl, rfl⟩ | ⟨b, off, n, cap, rfl, hb, hn, hm, hc, hr⟩
    · exact ⟨a, 0, cap, rfl, by simpa using h2, by omega, by omega⟩
    · refine ⟨_, n, cap, rfl, by omega, by unfold maxLen at hm; omega, fun _ => ⟨b, off, rfl, hb, fun k hk => hr k _ ?_⟩⟩
      have : k < vs.length := by omega
      simp [List.getD_eq_getElem?_getD, this]
  obtain ⟨a, n, cap, rfl, hn, hm, ha⟩ := hl
  have HN := Lib.hid hn; have H3 := Lib.hid h3; have HL := Lib.hid hlen; have HA := Lib.hid ha
  clear h1 h2 h3 hlen hn ha
  go_enter Tryd.func115, Tryd.ntmps115
  go_wp2_with (go_at_call 139; refine (begin_any _).mono ?_; rintro e w1 ⟨rfl, rfl⟩)
  go_loopw [9] (fun i wr => ∃ k : Nat, k ≤ n ∧ i = .int .i64 k ∧ IsSt w.heap.size wr w.heap.size (ls.take k).flatten ∧ Below w.heap.size w wr) (fun i _ => n - (intOf i).toNat)
  case atStart => exact ⟨0, by omega, rfl, st_begin _ _, (Below.refl _ _).alloc (Nat.le_refl _) _⟩
  case round =>
    obtain ⟨k, hk, rfl, hst, hb⟩ := hrel
    have HST := Lib.hid hst; have HB := Lib.hid hb
    have hsz := hb.size
    by_cases hlt : k < n
    · obtain ⟨b, off, rfl, hbB, hc⟩ := HA.out (by omega)
      have hck : wr.cell? ⟨b, off + k, none⟩ = some (vs.getD k undef) := (hb.cell (p := ⟨b, off + k, none⟩) (by show b < w.heap.size; omega)).trans (hc k hlt)
      have hkl : k < ls.length := by have := HN.out; omega
      have hbv : IsB B wr (vs.getD k undef) (ls.getD k []) := (H3.out k hkl).below hb hB
      have hlk := HL.out k hkl
      generalize vs.getD k undef = bv at *
      have HBV := Lib.hid hbv
      have HNE : Hid (ls.getD k [] = [] ∨ ∀ j, bv.ownBlock = some j → j ≠ w.heap.size) := hbv.block.imp id fun h j hj => by have := h j hj; omega
      have HFT := Lib.hid (flat_take hkl)
      clear hc hst hb hbv
      generalize ls.getD k [] = bl at *
      go_wp2_with (go_at_call 140; refine (write_any w.heap.size B w.heap.size _ bl _ _ HST.out HBV.out HNE.out hsz hlk).mono ?_)
      rintro e w2 ⟨rfl, hst2, hb2⟩
      have HST2 := Lib.hid hst2; have HB2 := Lib.hid (HB.out.trans hb2)
      clear hst2 hb2
      go_wp2
      go_roundw
      case rel => exact ⟨k + 1, by omega, by go_num, by rw [HFT.out]; exact HST2.out, HB2.out⟩
      case measure => simp [intOf]; omega
    · have HKN := Lib.hid (show k = ls.length by have := HN.out; omega)
      have hkn : ¬ (k : Int) < (n : Int) := by omega
      clear hst hb
      go_wp2_with (go_at_call 141; refine (end_any w.heap.size _ _ _ HST.out hsz).mono ?_)
      rintro e w2 ⟨v, rfl, ho, hb2⟩
      go_wp2
      go_ret
      exact ⟨_, rfl, by rw [HKN.out, List.take_length] at ho; exact ho, HB.out.trans hb2⟩

theorem sum_any (B : Nat) (bv : Value) (b : List UInt8) (w : World) (h : IsB B w bv b) (hB : B ≤ w.heap.size) (hlen : b.length ≤ 140737488355264) :
    Calls Tryd.prog 85 #[bv] w (RetB w.heap.size (sha b) w) := by
  have HH := Lib.hid h
  obtain ⟨a, n, cap, rfl⟩ : ∃ a n cap, bv = .slice a n cap := by rcases h with ⟨_, _, rfl, _⟩ | ⟨b, off, n, cap, rfl, _⟩ <;> exact ⟨_, _, _, rfl⟩
  clear h
  have hbb : IsBB (w.heap.size + 1) (w.alloc (.cells #[.slice a n cap] 29)) (.slice (some ⟨w.heap.size, 0, none⟩) 1 1) [b] := by
    refine ⟨[.slice a n cap], .inr ⟨_, 0, 1, 1, rfl, by omega, by omega, by simp [maxLen], rfl, fun j u hu => ?_⟩, rfl, fun k hk => ?_⟩
    · rw [Nat.zero_add, cell_of_row _ _ _ _ _ _ (heap_alloc_new w _)]; exact List.getElem?_toArray.trans hu
    · have hk0 : k = 0 := by simpa using hk
      subst hk0
      exact ((HH.out.below ((Below.refl w.heap.size w).alloc (Nat.le_refl _) _) hB).mono (by omega))
  have HBB := Lib.hid hbb
  clear hbb
  go_enter Tryd.func85, Tryd.ntmps85
  go_wp2_with (go_at_call 115; refine (parts_any _ _ _ _ HBB.out (by simp) ?hl).mono ?_)
  case hl => intro k hk; have hk0 : k = 0 := by simpa using hk
             subst hk0; exact hlen
  rintro e w2 ⟨v, rfl, ho, hb2⟩
  go_wp2
  go_ret
  refine ⟨_, rfl, ?_, ((Below.refl w.heap.size w).alloc (Nat.le_refl _) _).trans (hb2.mono (by simp))⟩
  have := ho.mono (B' := w.heap.size) (by simp)
  simpa using this
end Go.Proofs.YtmclpbcipkdmcaaDoor
