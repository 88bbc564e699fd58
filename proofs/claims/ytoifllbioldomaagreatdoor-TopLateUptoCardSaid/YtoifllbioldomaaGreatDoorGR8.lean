/- Merged texts: R8A, R8B. -/
import Derived.Test.YtoifllbioldomaaGreatDoorGBk
import Derived.Test.YtoifllbioldomaaGreatDoorGKs
import Derived.Test.YtoifllbioldomaaGreatDoorGR3
set_option linter.all false
set_option maxHeartbeats 8000000
set_option maxRecDepth 20000
namespace Go.Proofs.YtoifllbioldomaaGreatDoor
open Go Go.Abs Go.RowKit Go.Proofs.YtoifllbioldomaaGreatDoor.Ty
theorem Ot (least n:Int):inB least n=nm n least:=by unfold inB nm;by_cases h1:least<=n<;>by_cases h2:n<=1000000000000<;>simp[h1,h2]
theorem wP (least a:Int):PureD Tryz.prog 28 [intD least,.i (.sl [[.s (.int .i64 a)]])] (boolD (nm a least)):=by have h:=OG least [a] (by simp);simp only[KY,List.map_cons,List.map_nil,List.all_cons,List.all_nil,Bool.and_true,Ot]at h;exact h
theorem OH (least a b:Int):PureD Tryz.prog 28 [intD least,.i (.sl [[.s (.int .i64 a)],[.s (.int .i64 b)]])] (boolD (nm a least&&nm b least)):=by have h:=OG least [a,b] (by simp);simp only[KY,List.map_cons,List.map_nil,List.all_cons,List.all_nil,Bool.and_true,Ot]at h;exact h
theorem Zv (least a b c:Int):PureD Tryz.prog 28 [intD least,.i (.sl [[.s (.int .i64 a)],[.s (.int .i64 b)],[.s (.int .i64 c)]])] (boolD (nm a least&&(nm b least&&nm c least))):=by have h:=OG least [a,b,c] (by simp);simp only[KY,List.map_cons,List.map_nil,List.all_cons,List.all_nil,Bool.and_true,Ot]at h;exact h
def ahm (w:Int):List I:=[.s (.int .i64 w)]
attribute [simp,go_sem] ahm
end Go.Proofs.YtoifllbioldomaaGreatDoor
