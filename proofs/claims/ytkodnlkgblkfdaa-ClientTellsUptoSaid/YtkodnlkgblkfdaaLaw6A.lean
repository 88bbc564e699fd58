/- landlaw6.four, block, alive: by value. (hdrD signedD) -/
import Derived.Test.YtkodnlkgblkfdaaHdD
import Derived.Test.YtkodnlkgblkfdaaRHdA
import Derived.Test.YtkodnlkgblkfdaaR2C
import Derived.Test.YtkodnlkgblkfdaaGSeal
set_option linter.all false
namespace Go.Proofs.Ytkodnlkgblkfdaa
open Go Go.Abs Go.RowKit Go.Proofs.Ytkodnlkgblkfdaa.Ty
def plV (l:List ValD) (v:ValD):Nat:=(l.takeWhile fun x=>decide (x.k < v.k)).length
def insV (l:List ValD) (v:ValD):List ValD:=l.take (plV l v)++v :: l.drop (plV l v)
theorem plV_le (l:List ValD) (v:ValD):plV l v≤l.length:=(List.takeWhile_prefix _).length_le
theorem plV_cons (a:ValD) (t:List ValD) (v:ValD):plV (a :: t) v=if a.k < v.k then 1+plV t v else 0:=by
 unfold plV
 rw [List.takeWhile_cons]
 by_cases h:a.k < v.k
 ·rw [if_pos h,decide_eq_true h]; simp; omega
 ·rw [if_neg h,decide_eq_false h]; simp
def seedK (i:Nat):List UInt8:=[UInt8.ofNat i]
def fourV (p:Nat):Nat→List ValD
 | 0=>[]
 | i+1=>insV (fourV p i) ⟨keyF (seedK i),p⟩
def seedsK (i:Nat):List (List UInt8):=(List.range i).map seedK
theorem insV_len (l:List ValD) (v:ValD):(insV l v).length=l.length+1:=by
 unfold insV; have:=plV_le l v; simp; omega
theorem fourV_len (p:Nat):∀ i,(fourV p i).length=i
 | 0=>rfl
 | i+1=>by rw [fourV,insV_len,fourV_len p i]
theorem byte8 (i:Nat) (h:i < 256):((UInt8.ofNat i).toNat:Int)=(i:Int):=by rw [UInt8.toNat_ofNat']; omega
set_option maxHeartbeats 4000000
end Go.Proofs.Ytkodnlkgblkfdaa
