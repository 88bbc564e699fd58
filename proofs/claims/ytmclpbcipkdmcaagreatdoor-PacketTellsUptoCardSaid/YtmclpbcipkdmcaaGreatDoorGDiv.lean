/- Merged texts: Add64, Bits, DivS, Len64, Div64, Hor. -/
import Derived.Test.YtmclpbcipkdmcaaGreatDoorTy
import Derived.Shelf.Bits.Mul64
import Derived.Laws.Externs
import Derived.Test.YtmclpbcipkdmcaaGreatDoorAbs4
import Derived.Test.YtmclpbcipkdmcaaGreatDoorGSha
set_option linter.all false
namespace Go.Proofs.YtmclpbcipkdmcaaGreatDoor
open Go Go.Abs Go.RowKit Go.Proofs.YtmclpbcipkdmcaaGreatDoor.Ty
set_option maxHeartbeats 1000000
theorem add64_X (x y c:Nat) (hx:x < 18446744073709551616) (hy:y < 18446744073709551616) (hc:c≤1) (G:Nat→Ob) :
  DirD Tryz.prog 200 [.i (.s (.int .u64 (x:Int))),.i (.s (.int .u64 (y:Int))),.i (.s (.int .u64 (c:Int)))] G (.tup [.i (.s (.int .u64 (((x+y+c) % 18446744073709551616:Nat):Int))),.i (.s (.int .u64 (((x+y+c) / 18446744073709551616:Nat):Int)))]) G:=by
 refine dir_flat (vs:=[.int .u64 (x:Int),.int .u64 (y:Int),.int .u64 (c:Int)]) (v:=.tuple #[.int .u64 (((x+y+c) % 18446744073709551616:Nat):Int),.int .u64 (((x+y+c) / 18446744073709551616:Nat):Int)]) rfl (fun w=>?_) (fun K=>?_)
 ·show (callFunc 200 #[.int .u64 (x:Int),.int .u64 (y:Int),.int .u64 (c:Int)]).run Tryz.prog w=_
  rw [run_callFunc_extern Tryz.func200 (by kernel_rfl) (by kernel_rfl) (by kernel_rfl) (e:=add64Entry) (by kernel_rfl),run_add64 _ _ _ (by omega) (by omega) (by omega) (by omega)]
  simp
 ·refine .tup _ _ rfl (fun j d hd=>?_)
  rcases j with _ | _ | j <;> simp at hd <;> subst hd <;> exact .i (.s _ rfl)
end Go.Proofs.YtmclpbcipkdmcaaGreatDoor
set_option linter.all false
namespace Go.Proofs.YtmclpbcipkdmcaaGreatDoor
open Go Go.Abs Go.RowKit Go.Proofs.YtmclpbcipkdmcaaGreatDoor.Ty
theorem tyBits0:(type_of% @Ty.T92):=@Ty.T92
theorem shr32 (a:Nat):(a:Int).fdiv (2 ^ min 32 (IntKind.bits .u64))=((a / 4294967296:Nat):Int):=by
 rw [show min 32 (IntKind.bits .u64)=32 from rfl,Int.fdiv_eq_ediv_of_nonneg _ (by decide)]; omega
set_option maxHeartbeats 1000000
theorem mul64_A (x y:Nat) (hx:x < 18446744073709551616) (hy:y < 18446744073709551616) :
  PureD Tryz.prog 199 [.i (.s (.int .u64 (x:Int))),.i (.s (.int .u64 (y:Int)))] (.tup [.i (.s (.int .u64 ((x * y / 18446744073709551616:Nat):Int))),.i (.s (.int .u64 ((x * y % 18446744073709551616:Nat):Int)))]):=by
 obtain ⟨bd,bt,bw,hhi⟩:=Lib.mul64_hi x y hx hy
 have ba:=Lib.half_mul_le (a:=x / 4294967296) (b:=y / 4294967296) (by omega) (by omega)
 have bb:=Lib.half_mul_le (a:=x / 4294967296) (b:=y % 4294967296) (by omega) (by omega)
 have bc:=Lib.half_mul_le (a:=x % 4294967296) (b:=y / 4294967296) (by omega) (by omega)
 have ba':x / 4294967296 * (y / 4294967296) < 18446744073709551616:=by omega
 have bb':x / 4294967296 * (y % 4294967296) < 18446744073709551616:=by omega
 have bc':x % 4294967296 * (y / 4294967296) < 18446744073709551616:=by omega
 have bh1:x / 4294967296 * (y / 4294967296)+(x / 4294967296 * (y % 4294967296)+x % 4294967296 * (y % 4294967296) / 4294967296) / 4294967296 < 18446744073709551616:=by omega
 have bh:x / 4294967296 * (y / 4294967296)+(x / 4294967296 * (y % 4294967296)+x % 4294967296 * (y % 4294967296) / 4294967296) / 4294967296+((x / 4294967296 * (y % 4294967296)+x % 4294967296 * (y % 4294967296) / 4294967296) % 4294967296+x % 4294967296 * (y / 4294967296)) / 4294967296 < 18446744073709551616:=by
  rw [hhi]; exact Nat.div_lt_of_lt_mul (Nat.mul_lt_mul'' hx hy)
 refine callD_W 51 Tryz.func199 rfl rfl rfl (fun _ _=>rfl) ?_
 (repeat (first | (simp -implicitDefEqProofs only [ev,mixed,Nat.reduceLT,Nat.reduceAdd,Nat.reduceMul,reduceIte,Nat.reduceEqDiff,reduceCtorEq,Nat.reducePow,Nat.reduceLeDiff,Int.reduceLE,Int.reduceLT,Int.reduceToNat,Int.reduceEq,Nat.reduceBEq,itsOf,gdA,byteI,opid,lenQ,ixQ,ldH,readAt,readCells,asCell,faQ,exQ,fldQ,partA,buildQ,slQ,stH,bslH,appH,dcells,convI,elemsOf,D.one,nilS,fillD,convN,cvH,tyBits0,shr32,Mul64.maskN x hx,Mul64.maskN y hy,Mul64.mulN,Mul64.addN,Mul64.wrapN _ bd,Mul64.wrapN _ bb',Mul64.wrapN _ bt,Mul64.maskN _ bt,Mul64.wrapN _ bc',Mul64.wrapN _ bw,Mul64.wrapN _ ba',Mul64.wrapN _ bh1,Mul64.wrapN _ bh,Mul64.wrapM (x * y)]) | (with_reducible refine ⟨?_,?_⟩; (· first | (obtain ⟨rfl⟩:=‹Hq _ _›; with_reducible refine chk_ok ?_; kernel_rfl) | kernel_rfl)) | (with_reducible intro ops hops)))
 rw [hhi]
 refine fin_tt [] rfl ?_
 simp [cv,cvT,cv1,cv0,upd]
end Go.Proofs.YtmclpbcipkdmcaaGreatDoor
set_option linter.all false
namespace Go.Proofs.YtmclpbcipkdmcaaGreatDoor
open Go Go.Abs Go.RowKit
section
variable {B y1 y0 u d q r Y Q:Nat}
end
end Go.Proofs.YtmclpbcipkdmcaaGreatDoor
set_option linter.all false
namespace Go.Proofs.YtmclpbcipkdmcaaGreatDoor
open Go Go.Abs Go.RowKit Go.Proofs.YtmclpbcipkdmcaaGreatDoor.Ty
section
variable {P:Program} {sl:Nat→D} {H:Nat→Ob} {t:TypeId} {x y:Operand}
end
set_option maxHeartbeats 4000000
end Go.Proofs.YtmclpbcipkdmcaaGreatDoor
set_option linter.all false
namespace Go.Proofs.YtmclpbcipkdmcaaGreatDoor
open Go Go.Abs Go.RowKit Go.Proofs.YtmclpbcipkdmcaaGreatDoor.Ty
set_option maxHeartbeats 8000000
end Go.Proofs.YtmclpbcipkdmcaaGreatDoor
set_option linter.all false
namespace Go.Proofs.YtmclpbcipkdmcaaGreatDoor
open Go Go.Abs Go.RowKit Go.Proofs.YtmclpbcipkdmcaaGreatDoor.Ty
def hor (l:List UInt8) (i:Nat):Nat→Nat
 | 0=>0
 | k+1=>hor l i k * 256+bnth l (i+k)
theorem hor_lt (l:List UInt8) (i:Nat):∀ k,hor l i k < 256 ^ k
 | 0=>by simp [hor]
 | k+1=>by have:=hor_lt l i k; have:=bnth_lt l (i+k); simp only [hor,Nat.pow_succ]; omega
theorem be64_get (N:Nat):∀ t,t < 8→(be64 N)[t]?=some (byteOf N (256 ^ (7 - t))):=by
 intro t ht
 have:t=0∨t=1∨t=2∨t=3∨t=4∨t=5∨t=6∨t=7:=by omega
 rcases this with rfl | rfl | rfl | rfl | rfl | rfl | rfl | rfl <;> rfl
theorem be32_get (N:Nat):∀ t,t < 4→(be32 N)[t]?=some (byteOf N (256 ^ (3 - t))):=by
 intro t ht
 have:t=0∨t=1∨t=2∨t=3:=by omega
 rcases this with rfl | rfl | rfl | rfl <;> rfl
theorem take_snoc' {α:Type} {l:List α} {t:Nat} {x:α} (h:l[t]?=some x):l.take (t+1)=l.take t++[x]:=by
 obtain ⟨h1,rfl⟩:=List.getElem?_eq_some_iff.1 h
 exact List.take_succ_eq_append_getElem h1
theorem sh_fdiv (x n:Nat) (k:IntKind) (hn:n≤k.bits):(x:Int).fdiv (2 ^ (min n k.bits))=((x / 2 ^ n:Nat):Int):=by
 rw [show min n k.bits=n by omega,Int.fdiv_eq_ediv_of_nonneg _ (Int.le_of_lt (Int.pow_pos (by decide)))]
 have e:((2:Int) ^ n)=((2 ^ n:Nat):Int):=by simp
 rw [e]; exact (Int.natCast_ediv _ _).symm
theorem byte_shift {k:IntKind} (N d:Nat) (hd:8 * d≤k.bits):IntKind.u8.wrap ((N:Int).fdiv (2 ^ (min (8 * d) k.bits)))=((byteOf N (256 ^ d)).toNat:Int):=by
 rw [sh_fdiv N (8 * d) k hd,show (2:Nat) ^ (8 * d)=256 ^ d by rw [Nat.pow_mul],IntKind.wrap_u8,byteOf,UInt8.toNat_ofNat']
 omega
end Go.Proofs.YtmclpbcipkdmcaaGreatDoor
