/- Merged texts: CoP, CoA, CoB, CoL. -/
import Derived.Test.YtmclpbcipkdmcaaGreatDoorGMk
import Derived.Test.YtmclpbcipkdmcaaGreatDoorGCl
import Derived.Test.YtmclpbcipkdmcaaGreatDoorStK
import Derived.Test.YtmclpbcipkdmcaaGreatDoorGSt
set_option linter.all false
namespace Go.Proofs.YtmclpbcipkdmcaaGreatDoor
open Go Go.Abs
structure ShownD where
 h:Int
 p:ProofD
 g:GapD
def shD (w:ShownD):D:=.agg [.i (.s (.int .i64 w.h)),.i (.s (.int .i64 w.p.i)),.i (.s (.int .i64 w.p.n)),.i (bI w.p.k),.i (bI w.p.v),.i (bbI w.p.path),.i (.s (.bool w.g.hl)),.i (.s (.bool w.g.hr)),
 .i (.s (.int .i64 w.g.left.i)),.i (.s (.int .i64 w.g.left.n)),.i (bI w.g.left.k),.i (bI w.g.left.v),.i (bbI w.g.left.path),.i (.s (.int .i64 w.g.right.i)),.i (.s (.int .i64 w.g.right.n)),.i (bI w.g.right.k),.i (bI w.g.right.v),.i (bbI w.g.right.path)]
attribute [simp,go_sem] shD
def clAt (s:StateD) (c:Int):ClientD:=s.cls.getD c.toNat zeroC
def overE (s:StateD) (c:Int):Int:=if c < 0∨(s.cls.length:Int)≤c then 6 else if activeC (clAt s c) s.t=true then 0 else 12
def zeroCn:ConnD:=⟨0,0,0,0⟩
attribute [simp,go_sem] zeroCn
def cnAt (s:StateD) (i:Int):ConnD:=s.cns.getD i.toNat zeroCn
abbrev StR:=StateD × Int × Int
theorem cnAt_mem {s:StateD} {i:Int} (h:0≤i∧i < (s.cns.length:Int)):cnAt s i=s.cns[i.toNat]'(by omega)∧cnAt s i∈s.cns:=by
 have e:cnAt s i=s.cns[i.toNat]'(by omega):=by
  unfold cnAt
  rw [List.getD_eq_getElem?_getD,List.getElem?_eq_getElem (by omega)]; rfl
 exact ⟨e,by rw [e]; exact List.getElem_mem _⟩
theorem clAt_mem {s:StateD} {i:Int} (h:0≤i∧i < (s.cls.length:Int)):clAt s i=s.cls[i.toNat]'(by omega)∧clAt s i∈s.cls:=by
 have e:clAt s i=s.cls[i.toNat]'(by omega):=by
  unfold clAt
  rw [List.getD_eq_getElem?_getD,List.getElem?_eq_getElem (by omega)]; rfl
 exact ⟨e,by rw [e]; exact List.getElem_mem _⟩
end Go.Proofs.YtmclpbcipkdmcaaGreatDoor
set_option linter.all false
namespace Go.Proofs.YtmclpbcipkdmcaaGreatDoor
open Go Go.Abs Go.RowKit Go.Proofs.YtmclpbcipkdmcaaGreatDoor.Ty
set_option maxHeartbeats 8000000
set_option maxRecDepth 20000
end Go.Proofs.YtmclpbcipkdmcaaGreatDoor
set_option linter.all false
namespace Go.Proofs.YtmclpbcipkdmcaaGreatDoor
open Go Go.Abs Go.RowKit Go.Proofs.YtmclpbcipkdmcaaGreatDoor.Ty
set_option maxHeartbeats 8000000
set_option maxRecDepth 20000
end Go.Proofs.YtmclpbcipkdmcaaGreatDoor
set_option linter.all false
namespace Go.Proofs.YtmclpbcipkdmcaaGreatDoor
open Go Go.Abs
theorem StOk.cn {s:StateD} (h:StOk s) {x:List ConnD} (hl:x.length≤8) (hx:∀ c∈x,CnOk c):StOk { s with cns:=x } :=
 ⟨h.name,h.h,h.t,h.lcl,hl,h.lch,h.lsent,h.lgot,h.lacks,h.lpus,h.cls,hx,h.chs,h.sent,h.got,h.acks,h.pus⟩
structure CnStep (s:StateD) (pos:Int) (t:StateD):Prop where
 ok:StOk t
 same:{ t with cns:=s.cns }=s
 len:s.cns.length≤t.cns.length
 keep:∀ i (h:i < s.cns.length) (h':i < t.cns.length),s.cns[i].st=3∨¬ (i:Int)=pos→t.cns[i]=s.cns[i]
end Go.Proofs.YtmclpbcipkdmcaaGreatDoor
