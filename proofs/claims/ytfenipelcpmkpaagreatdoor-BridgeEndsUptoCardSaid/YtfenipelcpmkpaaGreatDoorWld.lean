/- landlaw14.side: by value. -/
import Derived.Test.YtfenipelcpmkpaaGreatDoorBrF
set_option linter.all false
set_option maxHeartbeats 16000000
set_option maxRecDepth 20000
namespace Go.Proofs.YtfenipelcpmkpaaGreatDoor
open Go Go.Abs Go.RowKit Go.Proofs.YtfenipelcpmkpaaGreatDoor.Ty
def Oc (w:uX):List D:=[.i (.s (.string w.1.s.name)),.i (.s (.int .i64 w.1.s.h)),.i (.s (.int .i64 w.1.s.t)),.i (.sl (w.1.s.cls.map gI)),.i (.sl (w.1.s.cns.map dF)),.i (.sl (w.1.s.chs.map bF)),.i (.sl (w.1.s.sent.map bQ)),.i (.sl (w.1.s.got.map bQ)),.i (.sl (w.1.s.acks.map bQ)),.i (.sl (w.1.s.pus.map aZ)),
 .i (.s (.string w.2.s.name)),.i (.s (.int .i64 w.2.s.h)),.i (.s (.int .i64 w.2.s.t)),.i (.sl (w.2.s.cls.map gI)),.i (.sl (w.2.s.cns.map dF)),.i (.sl (w.2.s.chs.map bF)),.i (.sl (w.2.s.sent.map bQ)),.i (.sl (w.2.s.got.map bQ)),.i (.sl (w.2.s.acks.map bQ)),.i (.sl (w.2.s.pus.map aZ))]
attribute [simp,go_sem] Oc
theorem Jp (w:uX):PureD Tryz.prog 30 [.agg (Oc w),intD 0] (stateD w.1.s):=by
 refine au fun R hR=>?_
 refine aa 11 Tryz.func30 rfl rfl rfl (fun _ _=>rfl) ?_
 exact wkl trivial
theorem Jo (w:uX) (k:Int) (h:¬ k=0):PureD Tryz.prog 30 [.agg (Oc w),intD k] (stateD w.2.s):=by
 refine au fun R hR=>?_
 refine aa 11 Tryz.func30 rfl rfl rfl (fun _ _=>rfl) ?_
 exact wkl trivial
end Go.Proofs.YtfenipelcpmkpaaGreatDoor
