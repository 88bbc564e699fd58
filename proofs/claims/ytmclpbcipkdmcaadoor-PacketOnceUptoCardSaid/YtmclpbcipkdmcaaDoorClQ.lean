/- Encoders that walks open by themselves. -/
import Derived.Test.YtmclpbcipkdmcaaDoorClP
import Derived.Test.YtmclpbcipkdmcaaDoorHdA
import Derived.Test.YtmclpbcipkdmcaaDoorWq
set_option linter.all false
namespace Go.Proofs.YtmclpbcipkdmcaaDoor
open Go Go.Abs
attribute [simp, go_sem] encV encX valsI votesI encH hdrD encS signedD valD encK knownI knownD encC clientD encU updD sD u64D zeroC zeroK
end Go.Proofs.YtmclpbcipkdmcaaDoor
