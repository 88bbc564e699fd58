/- landlaw14.side: by value. -/
import Derived.Test.YtfenipelcpmkpaaGreatDoorBrF
set_option linter.all false
set_option maxHeartbeats 16000000
set_option maxRecDepth 20000
namespace Go.Proofs.YtfenipelcpmkpaaGreatDoor
open Go Go.Abs Go.RowKit Go.Proofs.YtfenipelcpmkpaaGreatDoor.Ty
def Zi (w:qD):List D:=[.i (.s (.string w.1.s.name)),.i (.s (.int .i64 w.1.s.h)),.i (.s (.int .i64 w.1.s.t)),.i (.sl (w.1.s.cls.map gG)),.i (.sl (w.1.s.cns.map dU)),.i (.sl (w.1.s.chs.map bG)),.i (.sl (w.1.s.sent.map bN)),.i (.sl (w.1.s.got.map bN)),.i (.sl (w.1.s.acks.map bN)),.i (.sl (w.1.s.pus.map aX)),
 .i (.s (.string w.2.s.name)),.i (.s (.int .i64 w.2.s.h)),.i (.s (.int .i64 w.2.s.t)),.i (.sl (w.2.s.cls.map gG)),.i (.sl (w.2.s.cns.map dU)),.i (.sl (w.2.s.chs.map bG)),.i (.sl (w.2.s.sent.map bN)),.i (.sl (w.2.s.got.map bN)),.i (.sl (w.2.s.acks.map bN)),.i (.sl (w.2.s.pus.map aX))]
attribute [simp,go_sem] Zi
theorem Tc (w:qD):PureD Tryz.prog 30 [.agg (Zi w),intD 0] (stateD w.1.s):=by
 refine ak fun R hR=>?_
 refine aa 11 Tryz.func30 rfl rfl rfl (fun _ _=>rfl) ?_
 exact wkl trivial
theorem Ta (w:qD) (k:Int) (h:¬ k=0):PureD Tryz.prog 30 [.agg (Zi w),intD k] (stateD w.2.s):=by
 refine ak fun R hR=>?_
 refine aa 11 Tryz.func30 rfl rfl rfl (fun _ _=>rfl) ?_
 exact wkl trivial
end Go.Proofs.YtfenipelcpmkpaaGreatDoor
