/- From a law's by-value contract to its row. -/
import Derived.Test.YtdmeldhlbpdeeaaGreatDoorTy
import Derived.Test.YtdmeldhlbpdeeaaGreatDoorRows
set_option linter.all false
namespace Go.Proofs.YtdmeldhlbpdeeaaGreatDoor.R2
open Go.ChangeShapes Go.WideShapes Go.ChangeAt Go.RowKit Go.Deep Go.Abs
theorem own:ownKnob Tryz.prog.godebug=none:=by kernel_rfl
theorem ZU:laidOutB Tryz.prog=true:=by kernel_rfl
section
variable {H:Type}{enc:TypeId×Value->H}{W W':World}
theorem zk:∀{ts:List TypeId}{vs:List Value}{ds:List (DataW H)}{ps:List MemPlace},DataW.TrodAll enc Tryz.prog W 0 (λ_=>true) true ts vs ds ps->Below W.heap.size W W' ->
  (∀t∈ts,Tryz.prog.readableRec t=true/\t<Tryz.prog.types.size)->DataW.TrodAll enc Tryz.prog W' 0 (λb=>decide (b<W.heap.size)) true ts vs ds ps
 |[],vs,ds,ps,h,_,_=>by cases vs<;>cases ds<;>simp[DataW.TrodAll]at h⊢;exact h
 |t::ts,vs,ds,ps,h,hb,hr=>by
  obtain⟨v,vs',d,ds',p,q,rfl,rfl,rfl,h0,h1⟩:=trodAll_cons h;have lt0:∀x∈p,x.block<W.heap.size:=by obtain⟨m,hm⟩:=h0;exact DataW.trod_lt m _ _ _ hm
  exact trodAll_cons_mk (Below.trod ZU (hr t (by simp)).1 (hr t (by simp)).2 h0 hb lt0) (zk h1 hb (λt ht=>hr t (by simp[ht])))
theorem bulk:Bulk (Rows.uptoBulk (H:=H)) (Rows.uptoBulkAll (H:=H)) :=
 ⟨λb=>by simp[Rows.uptoBulk],λk n=>by simp[Rows.uptoBulk],λb=>by simp[Rows.uptoBulk],by simp[Rows.uptoBulk],λe s=>by simp[Rows.uptoBulk],λe=>by simp[Rows.uptoBulk],by simp[Rows.uptoBulkAll],λd r=>by simp[Rows.uptoBulkAll]⟩
end
end Go.Proofs.YtdmeldhlbpdeeaaGreatDoor.R2
