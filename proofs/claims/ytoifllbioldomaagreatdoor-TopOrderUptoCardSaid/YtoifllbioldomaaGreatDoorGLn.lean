/- Merged texts: Law14A, Wld. -/
import Derived.Test.YtoifllbioldomaaGreatDoorBrF
import Derived.Test.YtoifllbioldomaaGreatDoorGLw
set_option linter.all false
set_option maxHeartbeats 16000000
set_option maxRecDepth 20000
namespace Go.Proofs.YtoifllbioldomaaGreatDoor
open Go Go.Abs Go.RowKit Go.Proofs.YtoifllbioldomaaGreatDoor.Ty
def ev4:EvD:=⟨1,0,4,0,0,zeroMsg⟩
def agP (w:jw):List D:=[.i (.s (.string w.1.s.name)),.i (.s (.int .i64 w.1.s.h)),.i (.s (.int .i64 w.1.s.t)),.i (.sl (w.1.s.cls.map gJ)),.i (.sl (w.1.s.cns.map dN)),.i (.sl (w.1.s.chs.map bA)),.i (.sl (w.1.s.sent.map bB)),.i (.sl (w.1.s.got.map bB)),.i (.sl (w.1.s.acks.map bB)),.i (.sl (w.1.s.pus.map aZ)),
 .i (.s (.string w.2.s.name)),.i (.s (.int .i64 w.2.s.h)),.i (.s (.int .i64 w.2.s.t)),.i (.sl (w.2.s.cls.map gJ)),.i (.sl (w.2.s.cns.map dN)),.i (.sl (w.2.s.chs.map bA)),.i (.sl (w.2.s.sent.map bB)),.i (.sl (w.2.s.got.map bB)),.i (.sl (w.2.s.acks.map bB)),.i (.sl (w.2.s.pus.map aZ))]
attribute [simp,go_sem] agP
end Go.Proofs.YtoifllbioldomaaGreatDoor
