/- landlaw14.side: by value. -/
import Derived.Test.YtfenipelcpmkpaaGreatDoorBrF
set_option linter.all false
set_option maxHeartbeats 16000000
set_option maxRecDepth 20000
namespace Go.Proofs.YtfenipelcpmkpaaGreatDoor
open Go Go.Abs Go.RowKit Go.Proofs.YtfenipelcpmkpaaGreatDoor.Ty
def Rm (w:qA):List D:=[.i (.s (.string w.1.s.name)),.i (.s (.int .i64 w.1.s.h)),.i (.s (.int .i64 w.1.s.t)),.i (.sl (w.1.s.cls.map fZ)),.i (.sl (w.1.s.cns.map dS)),.i (.sl (w.1.s.chs.map bK)),.i (.sl (w.1.s.sent.map bM)),.i (.sl (w.1.s.got.map bM)),.i (.sl (w.1.s.acks.map bM)),.i (.sl (w.1.s.pus.map aZ)),
 .i (.s (.string w.2.s.name)),.i (.s (.int .i64 w.2.s.h)),.i (.s (.int .i64 w.2.s.t)),.i (.sl (w.2.s.cls.map fZ)),.i (.sl (w.2.s.cns.map dS)),.i (.sl (w.2.s.chs.map bK)),.i (.sl (w.2.s.sent.map bM)),.i (.sl (w.2.s.got.map bM)),.i (.sl (w.2.s.acks.map bM)),.i (.sl (w.2.s.pus.map aZ))]
attribute [simp,go_sem] Rm
theorem Jc (w:qA):PureD Tryz.prog 30 [.agg (Rm w),intD 0] (stateD w.1.s):=by
 refine au fun R hR=>?_
 refine aa 11 Tryz.func30 rfl rfl rfl (fun _ _=>rfl) ?_
 exact wkl trivial
theorem Jb (w:qA) (k:Int) (h:¬ k=0):PureD Tryz.prog 30 [.agg (Rm w),intD k] (stateD w.2.s):=by
 refine au fun R hR=>?_
 refine aa 11 Tryz.func30 rfl rfl rfl (fun _ _=>rfl) ?_
 exact wkl trivial
end Go.Proofs.YtfenipelcpmkpaaGreatDoor
