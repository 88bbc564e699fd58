/- The walk of landlaw1.ShaParts: bytes that come in parts have the digest that all have together. -/
import Derived.Test.YtbclmpdgkeoioaaAlive1
import Derived.Test.YtbclmpdgkeoioaaRow
namespace Go.Proofs.Ytbclmpdgkeoioaa
open Go.RowKit

set_option maxHeartbeats 400000 in
theorem walk_ShaParts (w : World) (lv : Value) (ls : List (List UInt8)) (h : IsBB w.heap.size w lv ls) (hk : sumLen ls ≤ 1048576) :
    Calls Try.prog 3 #[lv] w (RetTrue w) := by
  have hlen : ∀ k, k < ls.length → (ls.getD k []).length + (ls.take k).flatten.length ≤ 1048576 := by
    intro k hk'
    have h1 : (ls.take (k + 1)).flatten.length ≤ ls.flatten.length := by
      conv => rhs; rw [← List.take_append_drop (k + 1) ls, List.flatten_append, List.length_append]
      omega
    rw [flat_take hk', List.length_append] at h1
    unfold sumLen at hk
    omega
  have HBB := Lib.hid h
  obtain ⟨vs, h1, h2, h3⟩ := h
  have hl : ∃ a n cap, lv = .slice a n cap ∧ n = ls.length ∧ n ≤ 9223372036854775807 ∧ (0 < n → ∃ b off, a = some ⟨b, off, none⟩ ∧ b < w.heap.size ∧ ∀ k, k < n → w.cell? ⟨b, off + k, none⟩ = some (vs.getD k undef)) := by
    rcases h1 with ⟨a, cap, rfl, rfl⟩ | ⟨b, off, n, cap, rfl, hb, hn, hm, hc, hr⟩
    · exact ⟨a, 0, cap, rfl, by simpa using h2, by omega, by omega⟩
    · refine ⟨_, n, cap, rfl, by omega, by unfold maxLen at hm; omega, fun _ => ⟨b, off, rfl, hb, fun k hk => hr k _ ?_⟩⟩
      have : k < vs.length := by omega
      simp [List.getD_eq_getElem?_getD, this]
  obtain ⟨a, n, cap, rfl, hn, hm, ha⟩ := hl
  have HN := Lib.hid hn; have H3 := Lib.hid h3; have HL := Lib.hid hlen; have HA := Lib.hid ha; have HK := Lib.hid hk
  clear h1 h2 h3 hlen hn ha hk
  go_enter Try.func3, Try.ntmps3
  go_wp2_with fail
  refine (alive1_any _).mono ?_
  rintro e w1 ⟨rfl, hb1⟩
  have HB1 := Lib.hid hb1
  clear hb1
  go_wp2
  go_loopw [3, 10] (fun v i wr => ∃ k : Nat, k ≤ n ∧ i = .int .i64 k ∧ OwnS w.heap.size 1 wr v (bcs (ls.take k).flatten) ∧ Below w.heap.size w wr) (fun _ i _ => n - (intOf i).toNat)
  case atStart => exact ⟨0, by omega, rfl, OwnS.nil _ _ _, HB1.out⟩
  case round =>
    obtain ⟨k, hk, rfl, ho, hb⟩ := hrel
    obtain ⟨a5, n5, q5, rfl, -, -, -, -⟩ := ho.open' (by decide)
    have HO := Lib.hid ho; have HB := Lib.hid hb
    have hsz := hb.size
    by_cases hlt : k < n
    · obtain ⟨b, off, rfl, hbB, hc⟩ := HA.out (by omega)
      have hck : wr.cell? ⟨b, off + k, none⟩ = some (vs.getD k undef) := (hb.cell (p := ⟨b, off + k, none⟩) hbB).trans (hc k hlt)
      have hkl : k < ls.length := by have := HN.out; omega
      have hbv : IsB w.heap.size wr (vs.getD k undef) (ls.getD k []) := (H3.out k hkl).below hb (Nat.le_refl _)
      have hlk := HL.out k hkl
      generalize vs.getD k undef = bv at *
      have HBV := Lib.hid hbv
      have HFT := Lib.hid (flat_take hkl)
      clear hc hb ho hbv
      generalize ls.getD k [] = bl at *
      have hsrc := (IsS.src (P := Try.prog) (tx := 24) HBV.out (by decide) rfl (bcs_one bl))
      rw [bcs_length, Nat.div_one] at hsrc
      have HSRC := Lib.hid hsrc
      clear hsrc
      go_wp2_with (refine wpl_append rfl _ _ rfl w.heap.size 1 (cs := bcs (ls.take k).flatten) (news := bcs bl) (m := bl.length) slT_bytes rfl rfl HO.out HSRC.out hsz ?h4 ?h5 ?_)
      case h4 => rw [bcs_length, Nat.div_one]; omega
      case h5 => rw [bcs_length, Nat.div_one, show maxLen = 9223372036854775807 from rfl]; omega
      intro v1 w2 ho1 hg1 hk1
      have hb2 : Below w.heap.size w w2 := HB.out.grown hg1 hsz (fun k hk => (HO.out.lt k hk).1)
      have HO1 := Lib.hid ho1; have HB2 := Lib.hid hb2
      clear ho1 hg1 hk1 hb2
      go_wp2
      go_roundw
      case rel => exact ⟨k + 1, by omega, by go_num, by rw [HFT.out, bcs_append]; exact HO1.out, HB2.out⟩
      case measure => simp [intOf]; omega
    · have HKN := Lib.hid (show k = ls.length by have := HN.out; omega)
      have hkn : ¬ (k : Int) < (n : Int) := by omega
      have hallB : IsB wr.heap.size wr (.slice a5 n5 q5) ls.flatten := by
        have := ho.toIsB; rw [HKN.out, List.take_length] at this; exact this
      have HAB := Lib.hid hallB
      have HBBr := Lib.hid (HBB.out.below hb (Nat.le_refl _))
      clear ho hb hallB
      have hf : ls.flatten.length ≤ 1048576 := by have := HK.out; unfold sumLen at this; omega
      go_wp2_with fail
      refine (parts_any _ _ ls _ HBBr.out hsz (fun j hj => by have := HL.out j hj; omega)).mono ?_
      rintro e w2 ⟨v2, rfl, ho2, hb2⟩
      have HO2 := Lib.hid ho2.toIsB; have HB2 := Lib.hid hb2
      clear ho2 hb2
      go_wp2_with fail
      refine (sum_any _ _ ls.flatten _ (HAB.out.below HB2.out (Nat.le_refl _)) HB2.out.size (by omega)).mono ?_
      rintro e w3 ⟨v3, rfl, ho3, hb3⟩
      have HO3 := Lib.hid ho3.toIsB; have HB3 := Lib.hid hb3
      clear ho3 hb3
      go_wp2_with fail
      refine (same_any _ _ _ _ _ _ _ (HO2.out.below HB3.out (Nat.le_refl _)) HO3.out).mono ?_
      rintro e w4 ⟨rfl, m, rfl⟩
      have HT := Lib.hid (sameB_self (sha ls.flatten))
      go_wp2
      go_ret
      exact ⟨ret_bool HT.out, ((HB.out.trans (HB2.out.mono hsz)).trans (HB3.out.mono (Nat.le_trans hsz HB2.out.size))).trans (below_drewN _ _ _)⟩
end Go.Proofs.Ytbclmpdgkeoioaa
