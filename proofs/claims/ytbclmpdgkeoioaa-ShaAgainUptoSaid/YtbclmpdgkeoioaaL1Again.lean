/- The walk of landlaw1.ShaAgain: what is asked twice is told twice; the digest is the caller's. -/
import Derived.Test.YtbclmpdgkeoioaaAlive1
import Derived.Test.YtbclmpdgkeoioaaRow
namespace Go.Proofs.Ytbclmpdgkeoioaa
open Go.RowKit

theorem OwnS.cellAt {B g off n cap : Nat} {w : World} {cs : List Value} (h : OwnS B 1 w (.slice (some ⟨g, off, none⟩) n cap) cs) {k : Nat} {u : Value} (hu : cs[k]? = some u) : w.cell? ⟨g, off + k, none⟩ = some u ∧ w.frozen? ⟨g, off + k, none⟩ = false := by
  rcases h with ⟨h, _⟩ | ⟨g', off', n', cap', h1, h2, h3, h4, h5, h6, h7, h8⟩
  · cases h
  · injection h1 with e1 e2 e3
    injection e1 with e1
    injection e1 with e1 e4 e5
    subst e1 e2 e3 e4
    have hk : k < cs.length := (List.getElem?_eq_some_iff.1 hu).1
    exact ⟨h7 k u hu, (h8 k (by omega)).2⟩
theorem OwnS.setAt {B g off n cap : Nat} {w : World} {cs : List Value} (h : OwnS B 1 w (.slice (some ⟨g, off, none⟩) n cap) cs) {k : Nat} (hk : k < cs.length) (u : Value) : OwnS B 1 (w.setCell ⟨g, off + k, none⟩ u) (.slice (some ⟨g, off, none⟩) n cap) (cs.set k u) := by
  rcases h with ⟨h, _⟩ | ⟨g', off', n', cap', h1, h2, h3, h4, h5, h6, h7, h8⟩
  · cases h
  · injection h1 with e1 e2 e3
    injection e1 with e1
    injection e1 with e1 e4 e5
    subst e1 e2 e3 e4
    refine .inr ⟨g, off, n, cap, rfl, h2, by rw [setCell_size]; exact h3, h4, h5, by rw [List.length_set]; exact h6, fun j x hx => ?_, fun j hj => ?_⟩
    · rw [List.getElem?_set] at hx
      split at hx
      · rename_i e
        subst e
        try rw [if_pos hk] at hx
        cases hx
        exact cell_set_same _ (h7 k _ (List.getElem?_eq_getElem hk))
      · rename_i e
        rw [cell_set_other _ (by omega)]
        exact h7 j x hx
    · rw [World.frozen?_setCell]
      refine ⟨?_, (h8 j hj).2⟩
      obtain ⟨y, hy⟩ := Option.isSome_iff_exists.1 (h8 j hj).1
      obtain ⟨y', hy'⟩ := cell?_setCell_some (w := w) (p := ⟨g, off + k, none⟩) (x := u) hy
      rw [hy']; rfl
def succB (c : UInt8) : UInt8 := c + 1
theorem bcs_set (l : List UInt8) (k : Nat) (c : UInt8) : (bcs l).set k (.int .u8 (c.toNat : Int)) = bcs (l.set k c) := by
  unfold bcs; rw [List.map_set]; rfl

set_option maxHeartbeats 400000 in
theorem walk_ShaAgain (w : World) (bv : Value) (b : List UInt8) (h : IsB w.heap.size w bv b) (hk : b.length ≤ 1048576) :
    Calls Try.prog 5 #[bv] w (RetTrue w) := by
  have HI := Lib.hid h
  clear h
  go_enter Try.func5, Try.ntmps5
  go_wp2_with fail
  refine (alive1_any _).mono ?_
  rintro e w1 ⟨rfl, hb1⟩
  have HB1 := Lib.hid hb1
  have HI1 := Lib.hid (HI.out.below hb1 (Nat.le_refl _))
  have hs1 := hb1.size
  clear hb1
  go_wp2_with fail
  refine (sum_any _ _ b _ HI1.out hs1 (by omega)).mono ?_
  rintro e w2 ⟨xv, rfl, ho2, hb2⟩
  have hx : ∃ g off c, xv = .slice (some ⟨g, off, none⟩) 32 c := by
    rcases ho2 with ⟨_, h⟩ | ⟨g, off, n, cap, rfl, _, _, _, _, hl, _⟩
    · have := congrArg List.length h; rw [bcs_length, sha_length] at this; simp at this
    · rw [bcs_length, sha_length] at hl
      exact ⟨g, off, cap, by rw [show n = 32 by omega]⟩
  obtain ⟨g, off, c, rfl⟩ := hx
  have HO2 := Lib.hid ho2
  have HB2 := Lib.hid (HB1.out.trans (hb2.mono hs1))
  have hs2 : w.heap.size ≤ w2.heap.size := HB2.out.size
  have hs12 := hb2.size
  have HI2 := Lib.hid (HI1.out.below hb2 hs1)
  have hsrc := IsS.src (P := Try.prog) (tx := 24) (ho2.alloc (.cells #[] 5)).toIsS (by decide) rfl (bcs_one _)
  rw [bcs_length, sha_length] at hsrc
  have HSRC := Lib.hid hsrc
  have hE := ownS_lit (B := w2.heap.size) (size := 1) w2 5 [] 0 rfl (by simp [maxLen]) (Nat.le_refl _) _ rfl
  have HE := Lib.hid hE
  clear ho2 hb2 hsrc hE
  go_wp2_with (refine wpl_append rfl _ _ rfl w2.heap.size 1 (cs := []) (news := bcs (sha b)) (m := 32) slT_bytes rfl rfl HE.out HSRC.out (by simp) ?h4 ?h5 ?_)
  case h4 => simp
  case h5 => simp [maxLen]
  intro yv w3 ho3 hg3 hk3
  obtain ⟨ya, yn, yc, rfl, hyl, -, -, -⟩ := ho3.open' (by decide)
  rw [bcs_length, sha_length] at hyl
  have hyn : yn = 32 := by omega
  subst hyn
  have HB3 := Lib.hid ((HB2.out.alloc hs2 _).grown hg3 (by simp; omega) (fun k hk => by have := (HE.out.lt k hk).1; omega))
  have HX3 : Hid (∃ l : List UInt8, l.length = 32 ∧ OwnS w.heap.size 1 w3 (.slice (some ⟨g, off, none⟩) 32 c) (bcs l)) :=
    ⟨sha b, sha_length b, ((HO2.out.alloc _).grown hg3 (fun k hk e => by have h1 := (HO2.out.lt k hk).2; have h2 := (HE.out.lt k e).1; omega)).mono (by omega)⟩
  have HY3 : Hid (OwnS w2.heap.size 1 w3 (.slice ya 32 yc) (bcs (sha b))) := ho3
  have HI3 : Hid (IsB w.heap.size w3 bv b) := HI.out.below HB3.out (Nat.le_refl _)
  have hgB : w.heap.size ≤ g ∧ g < w2.heap.size := by have := HO2.out.lt g rfl; omega
  clear ho3 hg3 hk3 hyl
  go_wp2
  go_loopw [15] (fun i wr => ∃ k : Nat, k ≤ 32 ∧ i = .int .i64 k ∧ Hid (∃ l : List UInt8, l.length = 32 ∧ OwnS w.heap.size 1 wr (.slice (some ⟨g, off, none⟩) 32 c) (bcs l)) ∧ Hid (OwnS w2.heap.size 1 wr (.slice ya 32 yc) (bcs (sha b))) ∧ Below w.heap.size w wr) (fun i _ => 32 - (intOf i).toNat)
  case atStart => exact ⟨0, by omega, rfl, HX3, HY3, HB3.out⟩
  case round =>
    obtain ⟨k, hk', rfl, hX, hY, hb⟩ := hrel
    have HB := Lib.hid hb
    clear hb
    by_cases hlt : k < 32
    · obtain ⟨l, hl, ho⟩ := hX.out
      have hkl : k < l.length := by omega
      obtain ⟨hc, hf⟩ := ho.cellAt (k := k) (u := .int .u8 ((l[k]'hkl).toNat : Int)) (by simp [bcs, bcell, hkl])
      generalize hcc : l[k]'hkl = cc at *
      have hplus : ((cc.toNat : Int) + 1) % 256 = (((succB cc).toNat : Nat) : Int) := by simp [succB, UInt8.toNat_add]
      have HO := Lib.hid ho; have HLL := Lib.hid hl
      clear ho hX hcc hl
      go_wp2
      go_roundw
      case rel =>
        refine ⟨k + 1, by omega, by go_num, ?_, ?_, ?_⟩
        · refine ⟨l.set k (succB cc), by rw [List.length_set]; exact HLL.out, ?_⟩
          rw [← bcs_set]
          exact HO.out.setAt (by rw [bcs_length]; have := HLL.out; omega) _
        · exact hY.out.setCell _ _ (fun e => by have := (hY.out.lt _ e).1; simp at this; omega)
        · exact HB.out.setCell (p := ⟨g, off + k, none⟩) hgB.1 _
      case measure => simp [intOf]; omega
    · have hkn : ¬ (k : Int) < 32 := by omega
      have HIr := Lib.hid (HI.out.below HB.out (Nat.le_refl _))
      have hsr := HB.out.size
      clear hX
      go_wp2_with fail
      refine (sum_any _ _ b _ HIr.out hsr (by omega)).mono ?_
      rintro e w4 ⟨v4, rfl, ho4, hb4⟩
      have HO4 := Lib.hid ho4.toIsB; have HB4 := Lib.hid (HB.out.trans (hb4.mono hsr))
      have HY4 := Lib.hid (hY.out.toIsB.below hb4 (Nat.le_refl _))
      clear ho4 hb4
      go_wp2_with fail
      refine (same_any _ _ _ _ _ _ _ HO4.out HY4.out).mono ?_
      rintro e w5 ⟨rfl, m, rfl⟩
      have HT := Lib.hid (sameB_self (sha b))
      go_wp2
      go_ret
      exact ⟨ret_bool (by rw [HT.out]), HB4.out.trans (below_drewN _ _ _)⟩
end Go.Proofs.Ytbclmpdgkeoioaa
