/- The contract of landref1.Same: two slices of bytes hold the same bytes. -/
import Derived.Test.YtbclmpdgkeoioaaLib
namespace Go.Proofs.Ytbclmpdgkeoioaa
open Go.RowKit

def sameB (x y : List UInt8) : Bool := decide (x = y)
theorem sameB_self (x : List UInt8) : sameB x x = true := by simp [sameB]
def RetQ (v : Value) (w : World) (e : Ending) (w' : World) : Prop := e = .returned v ∧ ∃ k, w' = w.drewN k
def SameRel (n : Nat) (x y : List UInt8) (w : World) (i : Value) (wr : World) : Prop := ∃ k : Nat, k ≤ n ∧ i = .int .i64 k ∧ x.take k = y.take k ∧ ∃ m, wr = w.drewN m

set_option maxHeartbeats 400000 in
theorem same_len (b1 o1 c1 b2 o2 c2 n : Nat) (x y : List UInt8) (w : World) (hx : x.length = n) (hy : y.length = n) (hn : n ≤ 9223372036854775807)
    (h1 : w.rangeAt b1 o1 (bcs x)) (h2 : w.rangeAt b2 o2 (bcs y)) :
    Calls Try.prog 15 #[.slice (some ⟨b1, o1, none⟩) n c1, .slice (some ⟨b2, o2, none⟩) n c2] w (RetQ (.bool (sameB x y)) w) := by
  have HX := Lib.hid hx; have HY := Lib.hid hy; have H1 := Lib.hid h1; have H2 := Lib.hid h2
  clear hx hy h1 h2
  go_enter Try.func15, Try.ntmps15
  go_wp2
  go_loopw [13] (SameRel n x y w) (fun i _ => n - (intOf i).toNat)
  case atStart => exact ⟨0, Nat.zero_le _, rfl, by simp, 0, rfl⟩
  case round =>
    obtain ⟨k, hk, rfl, htake, m, rfl⟩ := hrel
    have HT := Lib.hid htake
    clear htake
    by_cases hlt : k < n
    · have g1 := bytes_cell H1.out (i := k) (by have := HX.out; omega)
      have g2 := bytes_cell H2.out (i := k) (by have := HY.out; omega)
      have e1 := bnth_eq (l := x) (i := k) (by have := HX.out; omega)
      have e2 := bnth_eq (l := y) (i := k) (by have := HY.out; omega)
      have E1 := Lib.hid e1; have E2 := Lib.hid e2
      clear e1 e2
      by_cases he : bnth x k = bnth y k
      · have HE := Lib.hid he
        have hd : ((bnth x k : Int) != (bnth y k : Int)) = false := by rw [he]; simp
        clear he
        go_wp2
        go_quiet (fail)
        go_wp2
        go_roundw
        case rel =>
          refine ⟨k + 1, hlt, by go_num, ?_, m + nq, by simp [World.drewN_drewN]⟩
          have := HX.out; have := HY.out
          rw [take_snoc (by omega), take_snoc (by omega), HT.out]
          have : x[k]'(by omega) = y[k]'(by omega) := UInt8.toNat_inj.1 (by rw [← E1.out, ← E2.out]; exact HE.out)
          rw [this]
        case measure => simp [intOf]; omega
      · have HE := Lib.hid he
        have hd : ((bnth x k : Int) != (bnth y k : Int)) = true := by rw [bne_iff_ne]; omega
        clear he
        go_wp2
        go_quiet (fail)
        go_wp2
        go_ret
        refine ⟨ret_bool ?_, m + nq, by simp [World.drewN_drewN]⟩
        symm
        simp only [sameB, decide_eq_false_iff_not]
        intro e
        subst e
        exact HE.out rfl
    · have hkn : k = n := by omega
      have HK := Lib.hid hkn
      have hf : ¬ (k : Int) < (n : Int) := by omega
      clear hkn
      go_wp2
      go_ret
      refine ⟨ret_bool ?_, m, rfl⟩
      symm
      have h := HT.out
      rw [HK.out, List.take_of_length_le (by have := HX.out; omega), List.take_of_length_le (by have := HY.out; omega)] at h
      simp [sameB, h]

set_option maxHeartbeats 400000 in
theorem same_any (B1 B2 : Nat) (u v : Value) (x y : List UInt8) (w : World) (hx : IsB B1 w u x) (hy : IsB B2 w v y) :
    Calls Try.prog 15 #[u, v] w (RetQ (.bool (sameB x y)) w) := by
  have hm : maxLen = 9223372036854775807 := rfl
  by_cases hl : x.length = y.length
  · rcases hx.open with ⟨a0, c0, rfl, rfl⟩ | ⟨b1, o1, c1, rfl, _, hc1, hm1, hr1⟩
    · have hy0 : y = [] := List.eq_nil_of_length_eq_zero hl.symm
      subst hy0
      have hv : ∃ a c, v = .slice a 0 c := by
        rcases hy.open with ⟨_, _, rfl, _⟩ | ⟨_, _, _, rfl, _⟩ <;> exact ⟨_, _, rfl⟩
      obtain ⟨a, c, rfl⟩ := hv
      clear hx hy hl
      go_enter Try.func15, Try.ntmps15
      go_wp2
      go_loopw [13] (SameRel 0 [] [] w) (fun i _ => 0 - (intOf i).toNat)
      case atStart => exact ⟨0, Nat.zero_le _, rfl, by simp, 0, rfl⟩
      case round =>
        obtain ⟨k, hk, rfl, htake, m, rfl⟩ := hrel
        have hf : ¬ (k : Int) < 0 := by omega
        clear htake
        go_wp2
        go_ret
        exact ⟨ret_bool rfl, m, rfl⟩
    · rcases hy.open with ⟨a0, c0, rfl, rfl⟩ | ⟨b2, o2, c2, rfl, _, hc2, hm2, hr2⟩
      · have hx0 : x = [] := List.eq_nil_of_length_eq_zero hl
        subst hx0
        clear hx hy hl hr1
        go_enter Try.func15, Try.ntmps15
        go_wp2
        go_loopw [13] (SameRel 0 [] [] w) (fun i _ => 0 - (intOf i).toNat)
        case atStart => exact ⟨0, Nat.zero_le _, rfl, by simp, 0, rfl⟩
        case round =>
          obtain ⟨k, hk, rfl, htake, m, rfl⟩ := hrel
          have hf : ¬ (k : Int) < 0 := by omega
          clear htake
          go_wp2
          go_ret
          exact ⟨ret_bool rfl, m, rfl⟩
      · rw [← hl]
        exact same_len b1 o1 c1 b2 o2 c2 x.length x y w rfl hl.symm (by omega) hr1 hr2
  · have hd : ((x.length : Int) != (y.length : Int)) = true := by rw [bne_iff_ne]; omega
    have hf : false = sameB x y := by
      symm; simp only [sameB, decide_eq_false_iff_not]; intro e; exact hl (by rw [e])
    have HF := Lib.hid hf
    have h1 : ∃ a c, u = .slice a x.length c := by
      rcases hx.open with ⟨_, _, rfl, rfl⟩ | ⟨_, _, _, rfl, _⟩ <;> exact ⟨_, _, rfl⟩
    have h2 : ∃ a c, v = .slice a y.length c := by
      rcases hy.open with ⟨_, _, rfl, rfl⟩ | ⟨_, _, _, rfl, _⟩ <;> exact ⟨_, _, rfl⟩
    obtain ⟨a1, c1, rfl⟩ := h1
    obtain ⟨a2, c2, rfl⟩ := h2
    clear hx hy hf
    generalize x.length = n1 at *
    generalize y.length = n2 at *
    clear hl
    go_enter Try.func15, Try.ntmps15
    go_wp2
    go_ret
    exact ⟨ret_bool HF.out, 0, rfl⟩
end Go.Proofs.Ytbclmpdgkeoioaa
