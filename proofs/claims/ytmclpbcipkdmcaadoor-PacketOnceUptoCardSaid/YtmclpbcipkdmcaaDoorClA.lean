/- client.known, Wrong: by value. (clientD) -/
import Derived.Test.YtmclpbcipkdmcaaDoorClQ
set_option linter.all false
namespace Go.Proofs.YtmclpbcipkdmcaaDoor
open Go Go.Abs Go.RowKit Go.Proofs.YtmclpbcipkdmcaaDoor.Ty

set_option maxHeartbeats 4000000
theorem cknown_A (k : KnownD) : PureD Tryd.prog 90 [.rp (encK k) 0] (intD (knE k)) := by
  refine hide_r fun R hR => ?_
  have c1 := hnum_A k.h
  have c2 := hnum_A k.t
  unfold knE at hR
  refine callD_W 40 Tryd.func90 rfl rfl rfl (fun _ _ => rfl) ?_
  exact wkl trivial
def preK (l : List KnownD) (i : Nat) : Option KnownD := if i = 0 then none else l[i - 1]?
theorem cwrong_A (c : ClientD) (hl : c.known.length ≤ 1048576) : PureD Tryd.prog 50 [clientD c] (intD (wrongC c)) := by
  refine hide_r fun R hR => ?_
  have c1 := hname_A c.c
  have c2 := hnum_A c.trust
  unfold wrongC at hR
  refine callD_W 64 Tryd.func50 rfl rfl rfl (fun _ _ => rfl) ?_
  refine wkl ?_
  clear hR; intro hR _ _ _ _ _
  have hR' : Hr (intD (knsE (preK c.known 0) (c.known.drop 0))) R := hR
  clear hR
  refine W_loopR (ι := Nat) (fun i => i ≤ c.known.length ∧ Hr (intD (knsE (preK c.known i) (c.known.drop i))) R)
    (fun i => stOf [(1, .pt 100 0 0 0), (33, intD c.known.length), (34, intD i)] [(100, .box ((encC c).map .i))]) (fun i => c.known.length - i) 0 ⟨Nat.zero_le _, hR'⟩ ?_ ?_
  · exact le_ok [] [(100, 1000)]
  · rintro i ⟨hi, hR⟩ RL hL
    clear hR'
    rw [stOf_eq]
    by_cases h : i < c.known.length
    · have e1 := get_lt (f := encK) h
      rw [List.drop_eq_getElem_cons h, knsE] at hR
      have hnx : preK c.known (i + 1) = some c.known[i] := by simp [preK, h]
      rw [← hnx] at hR
      have c3 := cknown_A c.known[i]
      have b1 := fun σ' (hq : Hr _ R) => bk [] [(100, 100)] (hL (i + 1) σ' ⟨h, hq⟩)
      clear hL
      cases i with
      | zero =>
        have hp : preK c.known 0 = none := rfl
        rw [hp] at hR
        simp only [Option.any_none, Bool.false_eq_true, if_false] at hR
        clear hp hnx
        generalize hv0 : c.known[0] = v at *
        exact wkl trivial
      | succ j =>
        have hj : j < c.known.length := by omega
        have hp : preK c.known (j + 1) = some c.known[j] := by simp [preK, hj]
        have e2 := get_lt (f := encK) hj
        rw [hp] at hR
        simp only [Option.any_some, decide_eq_true_eq] at hR
        have hg0 : (0 : Int) < ((j + 1 : Nat) : Int) := by omega
        have w0 : IntKind.i64.wrap (((j + 1 : Nat) : Int) - 1) = (j : Int) := by rw [wrap64 (by omega) (by omega)]; omega
        have n0 : (((j + 1 : Nat) : Int)).toNat = j + 1 := by omega
        clear hnx hp
        generalize hv0 : c.known[j + 1] = v at *
        generalize hq0 : c.known[j] = q at *
        exact wkl trivial
    · rw [List.drop_eq_nil_of_le (by omega), knsE] at hR
      exact wkl trivial
end Go.Proofs.YtmclpbcipkdmcaaDoor
