/- What the rows hand in: lists of bytes. -/
import Derived.Test.YtdpfjmkilbepgaaShaD
import Derived.Test.YtdpfjmkilbepgaaAbs4
set_option linter.all false
namespace Go.Proofs.Ytdpfjmkilbepgaa
open Go Go.Abs Go.RowKit

theorem dec_bb {e : List I} (h : HasCs [.sl [.int .u8]] e) : ∃ b : List UInt8, e = [bI b] ∧ True := by
  obtain ⟨x, _, rfl, hx, h⟩ := hasCs_cons h
  obtain rfl := hasCs_nil h
  obtain ⟨a, rfl⟩ := dec_B hx
  exact ⟨a, rfl, trivial⟩
theorem dec_BB {x : I} (h : HasC (.sl [.sl [.int .u8]]) x) : ∃ l : List (List UInt8), x = bbI l := by
  obtain ⟨l, h1, _⟩ := dec_list (fun _ he => dec_bb he) h
  exact ⟨l, h1⟩
theorem bb_small {l : List (List UInt8)} {n : Nat} (h : bkI (bbI l) ≤ n) : l.length ≤ n ∧ ∀ b ∈ l, b.length ≤ n := by
  refine ⟨Nat.le_trans (bk_len (fun b => [bI b]) l) h, fun b hb => ?_⟩
  have h1 := bk_mem (fun b => [bI b]) hb
  have h2 := bk_B b
  simp only [bkL] at h1
  unfold bbI at h
  omega
end Go.Proofs.Ytdpfjmkilbepgaa
