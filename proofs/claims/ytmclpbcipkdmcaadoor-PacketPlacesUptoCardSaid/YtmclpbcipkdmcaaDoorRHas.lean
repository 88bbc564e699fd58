/- landref8.Has: by value. -/
import Derived.Test.YtmclpbcipkdmcaaDoorGMk
set_option linter.all false
namespace Go.Proofs.YtmclpbcipkdmcaaDoor
open Go Go.Abs Go.RowKit Go.Proofs.YtmclpbcipkdmcaaDoor.Ty

def hasM (l : List MarkD) (ch seq : Int) : List UInt8 × Bool := match l.find? (fun m => decide (m.ch = ch ∧ m.seq = seq)) with | some m => (m.dg, true) | none => ([], false)
theorem hasM_cons {m : MarkD} {t : List MarkD} {ch seq : Int} : hasM (m :: t) ch seq = if m.ch = ch ∧ m.seq = seq then (m.dg, true) else hasM t ch seq := by
  unfold hasM
  rw [List.find?_cons]
  by_cases h : m.ch = ch ∧ m.seq = seq
  · rw [if_pos h, decide_eq_true h]
  · rw [if_neg h, decide_eq_false h]
theorem cmpM_zero {m : MarkD} {ch seq : Int} : decide (cmpM (mk m) (ch, seq) = 0) = decide (m.ch = ch ∧ m.seq = seq) := by
  refine decide_eq_decide.2 ?_
  rw [cmpM_ok.zero]
  simp [mk]
theorem hasM_get (l : List MarkD) (ch seq : Int) : hasM l ch seq = match getM l ch seq with | some m => (m.dg, true) | none => ([], false) := by
  unfold hasM getM KL.get
  simp only [cmpM_zero]
set_option maxHeartbeats 8000000
set_option maxRecDepth 20000
theorem has_A (l : List MarkD) (ch seq : Int) (hl : l.length ≤ 1048576) : PureD Tryd.prog 41 [.i (.sl (l.map encM)), intD ch, intD seq] (.tup [.i (bI (hasM l ch seq).1), boolD (hasM l ch seq).2]) := by
  refine hide_r fun R hR => ?_
  refine callD_W 29 Tryd.func41 rfl rfl rfl (fun _ _ => rfl) ?_
  refine wkl ?_
  clear hR; intro hR
  have hR' : Hr (D.tup [.i (bI (hasM (l.drop 0) ch seq).1), boolD (hasM (l.drop 0) ch seq).2]) R := hR
  clear hR
  refine W_loopR (ι := Nat) (fun i => i ≤ l.length ∧ Hr (D.tup [.i (bI (hasM (l.drop i) ch seq).1), boolD (hasM (l.drop i) ch seq).2]) R)
    (fun i => stOf [(1, intD ch), (2, intD seq), (10, .i (.sl (l.map encM))), (11, intD l.length), (12, intD i)] []) (fun i => l.length - i) 0 ⟨Nat.zero_le _, hR'⟩ ?_ ?_
  · exact le_ok [] []
  · rintro i ⟨hi, hR⟩ RL hL
    clear hR'
    rw [stOf_eq]
    by_cases h : i < l.length
    · have s0 := get_lt (f := encM) h
      rw [List.drop_eq_getElem_cons h, hasM_cons] at hR
      have b1 := fun σ' (hq : Hr _ R) => bk [] [] (hL (i + 1) σ' ⟨h, hq⟩)
      clear hL
      generalize l[i] = v at *
      generalize hasM (l.drop (i + 1)) ch seq = T at *
      exact wkl trivial
    · rw [List.drop_eq_nil_of_le (by omega)] at hR
      simp only [hasM, List.find?_nil] at hR
      clear hL
      exact wkl trivial
end Go.Proofs.YtmclpbcipkdmcaaDoor
