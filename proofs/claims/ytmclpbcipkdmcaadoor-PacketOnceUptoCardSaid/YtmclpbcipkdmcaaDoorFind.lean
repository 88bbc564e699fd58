/- book.Find: by value, of pairs whose keys rise. -/
import Derived.Test.YtmclpbcipkdmcaaDoorAbs4
import Derived.Test.YtmclpbcipkdmcaaDoorCmp
set_option linter.all false
namespace Go.Proofs.YtmclpbcipkdmcaaDoor
open Go Go.Abs Go.RowKit Go.Proofs.YtmclpbcipkdmcaaDoor.Ty

structure PairD where
  k : List UInt8
  v : List UInt8
def encPr (p : PairD) : List I := [bI p.k, bI p.v]
def prD (p : PairD) : D := .agg [.i (bI p.k), .i (bI p.v)]
def psI (l : List PairD) : I := .sl (l.map encPr)

set_option maxHeartbeats 2000000
end Go.Proofs.YtmclpbcipkdmcaaDoor
