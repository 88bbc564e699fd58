/- The contract of landlaw1.hex: the bytes of pairs of digits. -/
import Derived.Test.YtbclmpdgkeoioaaShaP
import Derived.Lib.SlBytesConst
import Derived.WalkSpells
namespace Go.Proofs.Ytbclmpdgkeoioaa
open Go.RowKit

def hexD (n c : UInt8) : UInt8 := if 97 ≤ c then 16 * n + c - 97 + 10 else 16 * n + c - 48
def hexF : List UInt8 → List UInt8
  | a :: b :: r => hexD (hexD 0 a) b :: hexF r
  | _ => []
theorem hexF_snoc : ∀ (l : List UInt8) (j : Nat), 2 * j + 2 ≤ l.length → hexF (l.take (2 * (j + 1))) = hexF (l.take (2 * j)) ++ [hexD (hexD 0 (l.getD (2 * j) 0)) (l.getD (2 * j + 1) 0)]
  | a :: b :: r, 0, _ => by simp [hexF]
  | a :: b :: r, j + 1, h => by
    have := hexF_snoc r j (by simp at h; omega)
    rw [show 2 * (j + 1 + 1) = 2 * (j + 1) + 1 + 1 by omega, show 2 * (j + 1) = 2 * j + 1 + 1 by omega]
    simp only [List.take_succ_cons, hexF, List.getD_cons_succ, List.cons_append]
    rw [← this, show 2 * (j + 1) = 2 * j + 1 + 1 by omega]
  | [], _, h => by simp at h
  | [_], _, h => by simp at h
theorem hexF_len : ∀ (l : List UInt8), (hexF l).length ≤ l.length
  | [] => by simp [hexF]
  | [_] => by simp [hexF]
  | a :: b :: r => by have := hexF_len r; simp [hexF]; omega
theorem hexF_all (l : List UInt8) (j : Nat) (h1 : 2 * j ≤ l.length) (h2 : l.length ≤ 2 * j + 1) : hexF (l.take (2 * j)) = hexF l := by
  induction j generalizing l with
  | zero => match l, h2 with
    | [], _ => rfl
    | [_], _ => rfl
    | _ :: _ :: _, h => simp at h
  | succ j ih => match l, h1, h2 with
    | a :: b :: r, h1, h2 =>
      rw [show 2 * (j + 1) = 2 * j + 1 + 1 by omega]
      simp only [List.take_succ_cons, hexF]
      rw [ih r (by simp at h1; omega) (by simp at h2; omega)]
theorem hexD_hi (n c : UInt8) (h : (97 : Int) ≤ (c.toNat : Int)) : ((16 * (n.toNat : Int) + (c.toNat : Int) - 97 + 10) % 256) = ((hexD n c).toNat : Int) := by
  have : (97 : UInt8) ≤ c := by rw [UInt8.le_iff_toNat_le]; simp; omega
  rw [hexD, if_pos this]
  simp [UInt8.toNat_add, UInt8.toNat_sub, UInt8.toNat_mul]
  omega
theorem hexD_lo (n c : UInt8) (h : ¬ (97 : Int) ≤ (c.toNat : Int)) : ((16 * (n.toNat : Int) + (c.toNat : Int) - 48) % 256) = ((hexD n c).toNat : Int) := by
  have : ¬ (97 : UInt8) ≤ c := by rw [UInt8.le_iff_toNat_le]; simp; omega
  rw [hexD, if_neg this]
  simp [UInt8.toNat_add, UInt8.toNat_sub, UInt8.toNat_mul]
  omega

theorem extract_cell (s : ByteArray) (i cap t : Nat) (h : i + 2 ≤ s.size) (ht : t < 2) : (bytesRow (s.extract i (i + 2)) cap)[t]? = some (.int .u8 ((s.data.toList.getD (i + t) 0).toNat : Int)) := by
  unfold bytesRow
  have hs : s.data.size = s.size := rfl
  have hsz : (s.extract i (i + 2)).data.size = 2 := by simp [ByteArray.data_extract]; omega
  rw [Array.getElem?_append_left (by simpa using by omega)]
  simp [ByteArray.data_extract, List.getD_eq_getElem?_getD]
  rw [Array.getElem?_extract]
  have h2 : i + t < s.data.size := by omega
  have h3 : t < min (i + 2) s.data.size - i := by omega
  rw [if_pos (by rw [Array.size_map]; exact h3), Array.getElem?_map, Array.getElem?_eq_getElem h2]
  rfl
/-- the number of the first t of two digits -/
def hx (l : List UInt8) (i : Nat) : Nat → UInt8
  | 0 => 0
  | t + 1 => hexD (hx l i t) (l.getD (i + t) 0)

theorem hex_any (s : ByteArray) (w : World) (hs : s.size ≤ 1048576) :
    Calls Try.prog 18 #[.string s] w (RetB w.heap.size (hexF s.data.toList) w) := by
  have hl : s.data.toList.length = s.size := by simp
  have HL := Lib.hid hl
  clear hl
  go_enter Try.func18, Try.ntmps18
  go_wp2
  go_loopw [3, 4] (fun v i wr => ∃ j : Nat, 2 * j ≤ s.size ∧ i = .int .i64 ((2 * j : Nat) : Int) ∧ OwnS w.heap.size 1 wr v (bcs (hexF (s.data.toList.take (2 * j)))) ∧ Below w.heap.size w wr) (fun _ i _ => s.size - (intOf i).toNat)
  case atStart => exact ⟨0, by omega, rfl, OwnS.nil _ _ _, Below.refl _ _⟩
  case round =>
    obtain ⟨j, hj, rfl, ho, hb⟩ := hrel
    obtain ⟨a5, n5, q5, rfl, -, -, -, -⟩ := ho.open' (by decide)
    have hsz := hb.size
    have HO := Lib.hid ho; have HB := Lib.hid hb
    clear ho hb
    generalize hi : 2 * j = i at *
    have HI := Lib.hid hi
    clear hi
    by_cases hlt : i + 1 < s.size
    · have hlt2 : i + 2 ≤ s.size := by omega
      have hcv := run_bytes_of_string (P := Try.prog) wr 9 24 5 (s.extract i (i + 2)) rfl rfl rfl
      go_wp2
      obtain ⟨W2, HW2⟩ : ∃ X, Hid (X = (wr.alloc (.cells (bytesRow (s.extract i (i + 2)) (grownCap wr 2 0 5)) 5 ((bytesRow (s.extract i (i + 2)) (grownCap wr 2 0 5)).size, (bytesRow (s.extract i (i + 2)) (grownCap wr 2 0 5)).size + 1))).drew) := ⟨_, Lib.hid rfl⟩
      rw [← HW2.out]
      have HC : Hid (∀ t, t < 2 → W2.cell? ⟨wr.heap.size, t, none⟩ = some (.int .u8 ((s.data.toList.getD (i + t) 0).toNat : Int))) := fun t ht => by
        rw [HW2.out, ← extract_cell s i (grownCap wr 2 0 5) t hlt2 ht]
        exact cell_of_row _ _ _ _ _ _ (heap_alloc_new wr _)
      have HO2 : Hid (OwnS w.heap.size 1 W2 (.slice a5 n5 q5) (bcs (hexF (s.data.toList.take i)))) := by rw [HW2.out]; exact (HO.out.alloc _).drewN 1
      have HB2 : Hid (Below w.heap.size w W2) := by rw [HW2.out]; exact (HB.out.alloc hsz _).trans (below_drewN _ _ 1)
      clear hcv HW2
      go_loop [5, 22] (fun v k => ∃ t : Nat, t ≤ 2 ∧ k = .int .i64 t ∧ v = .int .u8 ((hx s.data.toList i t).toNat : Int)) (fun _ k => 2 - (intOf k).toNat)
      case atStart => exact ⟨0, by omega, rfl, rfl⟩
      case round =>
        obtain ⟨t, ht, rfl, rfl⟩ := hrel
        by_cases ht2 : t < 2
        · have hct := HC.out t ht2
          have HX := Lib.hid (show hx s.data.toList i (t + 1) = hexD (hx s.data.toList i t) (s.data.toList.getD (i + t) 0) from rfl)
          have hlo := hexD_lo (hx s.data.toList i t) (s.data.toList.getD (i + t) 0)
          have hhi := hexD_hi (hx s.data.toList i t) (s.data.toList.getD (i + t) 0)
          generalize hx s.data.toList i t = N at *
          generalize s.data.toList.getD (i + t) 0 = c at *
          by_cases h97 : (97 : Int) ≤ (c.toNat : Int)
          · have HH := Lib.hid (hhi h97)
            clear hlo hhi
            go_wp2
            go_round
            case rel => exact ⟨t + 1, by omega, by go_num, by rw [HX.out]; rw [← HH.out]; refine congrArg _ ?_; omega⟩
            case measure => simp [intOf]; omega
          · have HH := Lib.hid (hlo h97)
            clear hlo hhi
            go_wp2
            go_round
            case rel => exact ⟨t + 1, by omega, by go_num, by rw [HX.out]; rw [← HH.out]; refine congrArg _ ?_; omega⟩
            case measure => simp [intOf]; omega
        · have HT := Lib.hid (show t = 2 by omega)
          have hf : ¬ (t : Int) < 2 := by omega
          generalize hN : hx s.data.toList i t = N at *
          have HN := Lib.hid hN
          clear hN
          go_wp2_with (refine wpl_append rfl _ _ rfl w.heap.size 1 (cs := bcs (hexF (s.data.toList.take i))) (news := bcs [N]) (m := 1) slT_bytes rfl rfl (HO2.out.alloc _) (src_lit rfl _ _ (bcs [N]) 1 1 rfl (bcs_one _) _ rfl) ?h3 ?h4 ?h5 ?_)
          case h3 => have := HB2.out.size; simp; omega
          case h4 => have := hexF_len (s.data.toList.take i); rw [List.length_take] at this; simp [bcs_length]; omega
          case h5 => have := hexF_len (s.data.toList.take i); rw [List.length_take] at this; simp [bcs_length, maxLen]; omega
          intro v1 w1 ho1 hg1 hk1
          have hb1 : Below w.heap.size w w1 := (HB2.out.alloc HB2.out.size _).grown hg1 (by have := HB2.out.size; simp; omega) (fun k hk => (HO2.out.lt k hk).1)
          have HO1 := Lib.hid ho1; have HB1 := Lib.hid hb1
          clear ho1 hg1 hk1 hb1
          go_wp2
          go_roundw
          case rel =>
            refine ⟨j + 1, by have := HI.out; omega, by have := HI.out; rw [← this]; go_num, ?_, HB1.out⟩
            rw [hexF_snoc _ _ (by have := HI.out; have := HL.out; omega), HI.out, bcs_append]
            have : N = hexD (hexD 0 (s.data.toList.getD i 0)) (s.data.toList.getD (i + 1) 0) := by rw [← HN.out, HT.out]; rfl
            rw [← this]
            exact HO1.out
          case measure => simp [intOf]; omega
    · have hf : ¬ (i : Int) + 1 < (s.size : Int) := by omega
      go_wp2
      go_ret
      refine ⟨_, rfl, ?_, HB.out⟩
      have := HO.out
      rw [← HI.out, hexF_all _ _ (by have := HI.out; have := HL.out; omega) (by have := HI.out; have := HL.out; omega)] at this
      exact this
end Go.Proofs.Ytbclmpdgkeoioaa
