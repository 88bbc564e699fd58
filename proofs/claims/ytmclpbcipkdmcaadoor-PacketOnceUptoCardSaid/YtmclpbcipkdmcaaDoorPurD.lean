/- Purses, as plain data. -/
import Derived.Test.YtmclpbcipkdmcaaDoorAbs4
set_option linter.all false
namespace Go.Proofs.YtmclpbcipkdmcaaDoor
open Go Go.Abs
structure PurseD where
  o : ByteArray
  d : ByteArray
  n : Nat
def encPu (p : PurseD) : List I := [.s (.string p.o), .s (.string p.d), .s (.int .u64 p.n)]
def puD (p : PurseD) : D := .agg [.i (.s (.string p.o)), .i (.s (.string p.d)), .i (.s (.int .u64 p.n))]
def pusI (l : List PurseD) : I := .sl (l.map encPu)
end Go.Proofs.YtmclpbcipkdmcaaDoor
