/- A proof, a gap: from the row's data. -/
import Derived.Test.YthbnhbmakapglaaGapA
import Derived.Test.YthbnhbmakapglaaLaw5A
set_option linter.all false
namespace Go.Proofs.Ythbnhbmakapglaa
open Go Go.Abs Go.RowKit Go.Proofs.Ythbnhbmakapglaa.Ty

theorem dec_bb {e : List I} (h : HasCs [.sl [.int .u8]] e) : ∃ b : List UInt8, e = [bI b] ∧ True := by
  obtain ⟨x, _, rfl, hx, h⟩ := hasCs_cons h
  obtain rfl := hasCs_nil h
  obtain ⟨a, rfl⟩ := dec_B hx
  exact ⟨a, rfl, trivial⟩
theorem dec_BB {x : I} (h : HasC (.sl [.sl [.int .u8]]) x) : ∃ l : List (List UInt8), x = bbI l := by
  obtain ⟨l, h1, _⟩ := dec_list (fun _ he => dec_bb he) h
  exact ⟨l, h1⟩
theorem dec_Proof {e : List I} (h : HasCs [.int .i64, .int .i64, .sl [.int .u8], .sl [.int .u8], .sl [.sl [.int .u8]]] e) : ∃ p : ProofD, e = formI p := by
  obtain ⟨x1, _, rfl, h1, h⟩ := hasCs_cons h
  obtain ⟨x2, _, rfl, h2, h⟩ := hasCs_cons h
  obtain ⟨x3, _, rfl, h3, h⟩ := hasCs_cons h
  obtain ⟨x4, _, rfl, h4, h⟩ := hasCs_cons h
  obtain ⟨x5, _, rfl, h5, h⟩ := hasCs_cons h
  obtain rfl := hasCs_nil h
  obtain ⟨a, rfl, _⟩ := dec_int h1
  obtain ⟨b, rfl, _⟩ := dec_int h2
  obtain ⟨c, rfl⟩ := dec_B h3
  obtain ⟨d, rfl⟩ := dec_B h4
  obtain ⟨q, rfl⟩ := dec_BB h5
  exact ⟨⟨a, b, c, d, q⟩, rfl⟩
def gapI (g : GapD) : List I := .s (.bool g.hl) :: .s (.bool g.hr) :: (formI g.left ++ formI g.right)
theorem dec_Gap {e : List I} (h : HasCs [.bool, .bool, .int .i64, .int .i64, .sl [.int .u8], .sl [.int .u8], .sl [.sl [.int .u8]], .int .i64, .int .i64, .sl [.int .u8], .sl [.int .u8], .sl [.sl [.int .u8]]] e) : ∃ g : GapD, e = gapI g := by
  obtain ⟨y1, _, rfl, k1, h⟩ := hasCs_cons h
  obtain ⟨y2, _, rfl, k2, h⟩ := hasCs_cons h
  obtain ⟨x1, _, rfl, h1, h⟩ := hasCs_cons h
  obtain ⟨x2, _, rfl, h2, h⟩ := hasCs_cons h
  obtain ⟨x3, _, rfl, h3, h⟩ := hasCs_cons h
  obtain ⟨x4, _, rfl, h4, h⟩ := hasCs_cons h
  obtain ⟨x5, _, rfl, h5, h⟩ := hasCs_cons h
  obtain ⟨p, rfl⟩ := dec_Proof h
  obtain ⟨a, rfl, _⟩ := dec_int h1
  obtain ⟨b, rfl, _⟩ := dec_int h2
  obtain ⟨c, rfl⟩ := dec_B h3
  obtain ⟨d, rfl⟩ := dec_B h4
  obtain ⟨q, rfl⟩ := dec_BB h5
  obtain ⟨u, rfl⟩ := dec_bool k1
  obtain ⟨v, rfl⟩ := dec_bool k2
  exact ⟨⟨u, v, ⟨a, b, c, d, q⟩, p⟩, rfl⟩
theorem proofD_formI (p : ProofD) : D.agg ((formI p).map .i) = proofD p := rfl
theorem gapD_gapI (g : GapD) : D.agg ((gapI g).map .i) = gapD g := rfl

end Go.Proofs.Ythbnhbmakapglaa
