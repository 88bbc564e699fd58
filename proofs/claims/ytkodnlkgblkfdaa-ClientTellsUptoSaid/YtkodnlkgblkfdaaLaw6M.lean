/- HeaderMore: by value. (hdrD signedD) -/
import Derived.Test.YtkodnlkgblkfdaaLaw6B
import Derived.Test.YtkodnlkgblkfdaaDecHd
set_option linter.all false
namespace Go.Proofs.Ytkodnlkgblkfdaa
open Go Go.Abs Go.RowKit Go.Proofs.Ytkodnlkgblkfdaa.Ty
theorem uni_bb (l:List (List UInt8)):uni 1 (l.map fun b=>[bI b])=true:=uni_map (s:=1) (f:=fun b=>[bI b]) (fun _=>rfl) _
theorem more_bb {a b:List (List UInt8)} (ha:SeedsSm a) (hb:SeedsSm b) (h:a.length+b.length≤1048576):SeedsSm (a++b):=⟨by simp; omega,fun s hs=>by
 rcases List.mem_append.1 hs with h | h
 ·exact ha.b s h
 ·exact hb.b s h⟩
theorem take_app2 (s t:List (List UInt8)) (f:List UInt8→List I):List.take (s.length+t.length) (s.map f++t.map f)=s.map f++t.map f:=List.take_of_length_le (by simp)
set_option maxHeartbeats 4000000
end Go.Proofs.Ytkodnlkgblkfdaa
