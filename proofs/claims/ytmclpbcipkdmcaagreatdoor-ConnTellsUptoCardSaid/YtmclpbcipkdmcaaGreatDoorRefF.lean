/- landref5.Absent, SameProof, SameGap: by value. -/
import Derived.Test.YtmclpbcipkdmcaaGreatDoorRefE
set_option linter.all false
namespace Go.Proofs.YtmclpbcipkdmcaaGreatDoor
open Go Go.Abs Go.RowKit Go.Proofs.YtmclpbcipkdmcaaGreatDoor.Ty

attribute [local simp, local go_sem] proofD gapD bbI
set_option maxHeartbeats 4000000
set_option maxRecDepth 20000
structure OkP (p : ProofD) : Prop where
  k : p.k.length ≤ 1048576
  v : p.v.length ≤ 1048576
  q : p.path.length ≤ 1048576
  d : ∀ d ∈ p.path, d.length ≤ 1048576
theorem OkP.zero : OkP zeroP := ⟨by simp [zeroP], by simp [zeroP], by simp [zeroP], by simp [zeroP]⟩
theorem OkP.at {l : List PairD} (hl : l.length ≤ 1048576) (hb : ∀ p ∈ l, p.k.length ≤ 1048576 ∧ p.v.length ≤ 1048576) (i : Nat) (h : i < l.length) : OkP (atF l i h) :=
  ⟨(hb _ (List.getElem_mem h)).1, (hb _ (List.getElem_mem h)).2, Nat.le_trans (pathF_len _ l i rfl) hl, fun d hd => by have := path_dig _ l i rfl d hd; omega⟩
end Go.Proofs.YtmclpbcipkdmcaaGreatDoor
