/- A row that lists package variables: what its list gives, and a world for the witness. -/
import Derived.Test.YtdmeldhlbpdeeaaGreatDoorRow2
import Derived.Test.YtdmeldhlbpdeeaaGreatDoorTie
import Derived.WalkKit
import Derived.ProofKit
import Derived.OpenShut
import Derived.Deep.DeepHandedRow
import Derived.Lib.LaidTab
import Derived.Stop.LaidErr
set_option linter.all false
namespace Go.Proofs.YtdmeldhlbpdeeaaGreatDoor.Door
open Go Go.ChangeShapes Go.WideShapes Go.ChangeAt Go.RowKit Go.Abs
theorem gv {W:World}{rest:List (String×DataW Unit)}(h:laidMet Tryz.prog (("internal/strconv.uint64pow10",Rows.laid_internal_strconv_uint64pow10)::rest) W):∀q∈ER,W.var? Tryz.prog q.1=some q.2:=by intro q hq;simp only[ER,List.mem_singleton]at hq;subst hq;exact Lib.tabIs_of_head (rest:=rest) (zs:=Lib.pow10Tab) (k:=.u64) (g:=3) (by kernel_rfl) (by kernel_rfl) Tryz.underlying364 Tryz.underlying59 (by kernel_rfl) (by kernel_rfl) h
def aeZ:DataW Unit->Array Value
 | .agg l=>(l.map λd=>match d with | .lit (.int k z)=>Value.int k z|_=>undef).toArray
 |_=>#[]
noncomputable def aip (n:String) (d:DataW Unit) (h:Array Obj):Array Obj :=
 match (Tryz.prog).globalNamed n with
 |some g=>h.modify g λ| .cells _ t f=>.cells (aeZ d) t f|o=>o
 |none=>h
noncomputable def world (os:Os) (l:List (String×DataW Unit)):World :=
 {World.holding Tryz.prog os ⟨#[],#[],[]⟩with heap:=l.foldl (λh p=>aip p.1 p.2 h) (World.holding Tryz.prog os ⟨#[],#[],[]⟩).heap}
end Go.Proofs.YtdmeldhlbpdeeaaGreatDoor.Door
