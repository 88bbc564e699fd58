/- client.believe: by value. -/
import Derived.Test.YtkodnlkgblkfdaaGCl
import Derived.Test.YtkodnlkgblkfdaaHdD
set_option linter.all false
namespace Go.Proofs.Ytkodnlkgblkfdaa
open Go Go.Abs Go.RowKit Go.Proofs.Ytkodnlkgblkfdaa.Ty
set_option maxHeartbeats 4000000
set_option maxRecDepth 20000
structure UpSm (u:UpdD):Prop where
 s:SgnSm u.sg
 l:u.tr.length≤1048576
 k:∀ v∈u.tr,v.k < 18446744073709551616∧v.p < 18446744073709551616
 n:u.sg.hdr.next.length≤1048576
theorem cbelieve_A (c:ClientD) (u:UpdD) (now:Int) (hc:ClOk c) (hu:UpSm u) (hn:0≤now∧now≤1000000000000) :
  PureD Try.prog 24 [.rp (encC c) 0,.rp (encU u) 0,intD now] (intD (beE c u now)):=by
 refine hide_r fun R hR=>?_
 have c1:=hcheck_A u.sg hu.s
 have c2:=cat_A c u.fr hc.sm
 unfold beE at hR
 by_cases h1:checkS u.sg=0
 ·rw [if_pos h1] at hR
  rw [h1] at c1
  obtain ⟨hv,hl,hw⟩:=check_vals h1
  unfold atR at c2
  cases h2:atC c u.fr with
  | none =>
   rw [h2] at hR c2
   simp only [zeroK] at c2
   clear hu h1 h2
   refine callD_W 127 Try.func24 rfl rfl rfl (fun _ _=>rfl) ?_
   exact wkl trivial
  | some k =>
   rw [h2] at hR c2
   simp only at hR c2
   have hk:=hc.k k (at_mem h2).1
   have k1:=hk.h
   have k2:=hk.t
   have w1:IntKind.i64.wrap (now - k.t)=now - k.t:=wrap64 (by omega) (by omega)
   have w2:IntKind.i64.wrap (now+10)=now+10:=wrap64 (by omega) (by omega)
   have w3:IntKind.i64.wrap (k.h+1)=k.h+1:=wrap64 (by omega) (by omega)
   have c3:=equal_A u.sg.hdr.vals k.next
   have c4:=hvals_A u.tr hu.l
   unfold beE1 beE2 at hR
   by_cases h3:valsW u.tr=0
   ·have ho:=valsW_zero.1 h3
    rw [h3] at c4
    rw [if_pos h3] at hR
    have c5:=hdigest_A u.tr (by have:=ho.len; omega) hu.k
    have c6:=equal_A (digestV u.tr) k.next
    have c7:=hover_A u.tr u.sg ho hv hl
    clear hu h1 h2 h3 ho hv hl hw hk
    generalize digestV u.tr=X at *
    generalize overF u.tr u.sg=V at *
    refine callD_W 127 Try.func24 rfl rfl rfl (fun _ _=>rfl) ?_
    exact wkl trivial
   ·rw [if_neg h3] at hR
    generalize valsW u.tr=W at *
    clear hu h1 h2 hv hl hw hk
    refine callD_W 127 Try.func24 rfl rfl rfl (fun _ _=>rfl) ?_
    exact wkl trivial
 ·rw [if_neg h1] at hR
  generalize checkS u.sg=W at *
  clear hu c2
  refine callD_W 127 Try.func24 rfl rfl rfl (fun _ _=>rfl) ?_
  exact wkl trivial
end Go.Proofs.Ytkodnlkgblkfdaa
