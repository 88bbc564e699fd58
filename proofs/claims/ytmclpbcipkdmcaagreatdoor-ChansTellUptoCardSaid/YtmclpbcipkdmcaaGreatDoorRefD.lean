/- landref5.At, Show, ShowGap: by value. -/
import Derived.Test.YtmclpbcipkdmcaaGreatDoorRefC
set_option linter.all false
namespace Go.Proofs.YtmclpbcipkdmcaaGreatDoor
open Go Go.Abs Go.RowKit Go.Proofs.YtmclpbcipkdmcaaGreatDoor.Ty
def rpath (l:List PairD) (w:List TurnD) (m:Nat):List (List UInt8):=(w.reverse.take m).map (fun t=>treeF ((l.drop t.fr).take t.n))
theorem rpath_zero (l:List PairD) (w:List TurnD):rpath l w 0=[]:=rfl
theorem rpath_succ (l:List PairD) {w:List TurnD} {m:Nat} (h:m < w.length):rpath l w (m+1)=rpath l w m++[treeF ((l.drop (w[w.length - 1 - m]).fr).take (w[w.length - 1 - m]).n)]:=by
 unfold rpath
 rw [List.take_succ_eq_append_getElem (by simp; exact h),List.map_append,List.getElem_reverse]
 rfl
theorem rpath_all (l:List PairD) (w:List TurnD):rpath l w w.length=w.reverse.map (fun t=>treeF ((l.drop t.fr).take t.n)):=by
 unfold rpath; rw [List.take_of_length_le (by simp)]
theorem rpath_len (l:List PairD) (w:List TurnD) (m:Nat):(rpath l w m).length≤w.length:=by
 unfold rpath; simp; omega
set_option maxHeartbeats 4000000
end Go.Proofs.YtmclpbcipkdmcaaGreatDoor
