/- Merged texts: Law14A, Wld. -/
import Derived.Test.YtdmeldhlbpdeeaaGreatDoorBrF
import Derived.Test.YtdmeldhlbpdeeaaGreatDoorGLw
set_option linter.all false
set_option maxHeartbeats 16000000
set_option maxRecDepth 20000
namespace Go.Proofs.YtdmeldhlbpdeeaaGreatDoor
open Go Go.Abs Go.RowKit Go.Proofs.YtdmeldhlbpdeeaaGreatDoor.Ty
def ev4:EvD:=⟨1,0,4,0,0,zeroMsg⟩
def ahV (w:kY):List D:=[.i (.s (.string w.1.s.name)),.i (.s (.int .i64 w.1.s.h)),.i (.s (.int .i64 w.1.s.t)),.i (.sl (w.1.s.cls.map gF)),.i (.sl (w.1.s.cns.map d_)),.i (.sl (w.1.s.chs.map bK)),.i (.sl (w.1.s.sent.map bJ)),.i (.sl (w.1.s.got.map bJ)),.i (.sl (w.1.s.acks.map bJ)),.i (.sl (w.1.s.pus.map bf)),
 .i (.s (.string w.2.s.name)),.i (.s (.int .i64 w.2.s.h)),.i (.s (.int .i64 w.2.s.t)),.i (.sl (w.2.s.cls.map gF)),.i (.sl (w.2.s.cns.map d_)),.i (.sl (w.2.s.chs.map bK)),.i (.sl (w.2.s.sent.map bJ)),.i (.sl (w.2.s.got.map bJ)),.i (.sl (w.2.s.acks.map bJ)),.i (.sl (w.2.s.pus.map bf))]
attribute [simp,go_sem] ahV
end Go.Proofs.YtdmeldhlbpdeeaaGreatDoor
