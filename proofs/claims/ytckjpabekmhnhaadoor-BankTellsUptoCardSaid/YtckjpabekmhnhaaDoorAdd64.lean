/- math/bits: sums of two words, by value. -/
import Derived.Test.YtckjpabekmhnhaaDoorTy
import Derived.Shelf.Bits.Mul64
import Derived.Laws.Externs
set_option linter.all false
namespace Go.Proofs.YtckjpabekmhnhaaDoor
open Go Go.Abs Go.RowKit Go.Proofs.YtckjpabekmhnhaaDoor.Ty
set_option maxHeartbeats 1000000
theorem add64_X (x y c:Nat) (hx:x < 18446744073709551616) (hy:y < 18446744073709551616) (hc:c≤1) (G:Nat→Ob) :
  DirD Tryd.prog 36 [.i (.s (.int .u64 (x:Int))),.i (.s (.int .u64 (y:Int))),.i (.s (.int .u64 (c:Int)))] G (.tup [.i (.s (.int .u64 (((x+y+c) % 18446744073709551616:Nat):Int))),.i (.s (.int .u64 (((x+y+c) / 18446744073709551616:Nat):Int)))]) G:=by
 refine dir_flat (vs:=[.int .u64 (x:Int),.int .u64 (y:Int),.int .u64 (c:Int)]) (v:=.tuple #[.int .u64 (((x+y+c) % 18446744073709551616:Nat):Int),.int .u64 (((x+y+c) / 18446744073709551616:Nat):Int)]) rfl (fun w=>?_) (fun K=>?_)
 ·show (callFunc 36 #[.int .u64 (x:Int),.int .u64 (y:Int),.int .u64 (c:Int)]).run Tryd.prog w=_
  rw [run_callFunc_extern Tryd.func36 (by kernel_rfl) (by kernel_rfl) (by kernel_rfl) (e:=add64Entry) (by kernel_rfl),run_add64 _ _ _ (by omega) (by omega) (by omega) (by omega)]
  simp
 ·refine .tup _ _ rfl (fun j d hd=>?_)
  rcases j with _ | _ | j <;> simp at hd <;> subst hd <;> exact .i (.s _ rfl)
end Go.Proofs.YtckjpabekmhnhaaDoor
