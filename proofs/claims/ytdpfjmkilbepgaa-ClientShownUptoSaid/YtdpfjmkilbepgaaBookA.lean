/- book.Wrong, Leaf, Node, Top, Split, Tree, Root: by value. -/
import Derived.Test.YtdpfjmkilbepgaaFind
import Derived.Test.YtdpfjmkilbepgaaShaD
set_option linter.all false
namespace Go.Proofs.Ytdpfjmkilbepgaa
open Go Go.Abs Go.RowKit Go.Proofs.Ytdpfjmkilbepgaa.Ty

def fltD (e i : Nat) : D := .agg [intD e, intD i]
def bigP (p : PairD) : Bool := decide (60 < p.k.length) || decide (200 < p.v.length)
def wrongGo (l : List PairD) (i : Nat) : Nat × Nat :=
  if h : i < l.length then
    if bigP l[i] then (4, i)
    else if 0 < i ∧ 0 ≤ Lib.compareBytes (l[i - 1]'(by omega)).k l[i].k then (2, i)
    else wrongGo l (i + 1)
  else (0, 0)
termination_by l.length - i
def wrongF (l : List PairD) : Nat × Nat := if 200 < l.length then (5, 0) else wrongGo l 0

set_option maxHeartbeats 2000000
end Go.Proofs.Ytdpfjmkilbepgaa
