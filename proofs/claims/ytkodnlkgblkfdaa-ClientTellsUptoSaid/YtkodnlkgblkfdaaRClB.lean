/- landref7.Believe, neighbour, same: by value. -/
import Derived.Test.YtkodnlkgblkfdaaRClA
import Derived.Test.YtkodnlkgblkfdaaClC
import Derived.Test.YtkodnlkgblkfdaaRHdE
import Derived.Test.YtkodnlkgblkfdaaRClP
set_option linter.all false
namespace Go.Proofs.Ytkodnlkgblkfdaa
open Go Go.Abs Go.RowKit Go.Proofs.Ytkodnlkgblkfdaa.Ty
set_option maxHeartbeats 8000000
set_option maxRecDepth 20000
theorem rbelieve_A (c:ClientD) (u:UpdD) (now:Int) (hc:ClOk c) (hu:UpSm u) (hn:0≤now∧now≤1000000000000) :
  PureD Try.prog 31 [clientD c,updD u,intD now] (intD (beE c u now)):=by
 refine hide_r fun R hR=>?_
 have c1:=rcheck_A u.sg hu.s
 have c2:=ratC_A c u.fr (by have:=hc.len; omega)
 unfold beE at hR
 by_cases h1:checkS u.sg=0
 ·rw [if_pos h1] at hR
  rw [h1] at c1
  obtain ⟨hv,hl,hw⟩:=check_vals h1
  obtain ⟨n1,n2,n3,n4,n5,n6,n7⟩:=wrongH_nums hw
  unfold atR at c2
  cases h2:atC c u.fr with
  | none =>
   rw [h2] at hR c2
   simp only [zeroK] at c2
   clear hu h1 h2
   refine callD_W 90 Try.func31 rfl rfl rfl (fun _ _=>rfl) ?_
   exact wkl trivial
  | some k =>
   rw [h2] at hR c2
   simp only at hR c2
   obtain ⟨hm,hfr⟩:=at_mem h2
   have hk:=hc.k k hm
   have k1:=hk.h
   have k2:=hk.t
   have kt:=hc.trust
   have w1:IntKind.i64.wrap (k.t+c.trust)=k.t+c.trust:=wrap64 (by omega) (by omega)
   have w2:IntKind.i64.wrap (u.sg.hdr.t - 10)=u.sg.hdr.t - 10:=wrap64 (by omega) (by omega)
   have w3:IntKind.i64.wrap (u.fr+1)=u.fr+1:=wrap64 (by omega) (by omega)
   have c3:=same_A u.sg.hdr.vals k.next (by omega)
   have c4:=rvals_A u.tr hu.l
   unfold beE1 beE2 at hR
   have z1:(c.trust≤now - k.t)=(k.t+c.trust≤now):=propext ⟨fun h=>by omega,fun h=>by omega⟩
   have z2:(u.sg.hdr.t≤k.t∨now+10 < u.sg.hdr.t)=(u.sg.hdr.t≤k.t∨now < u.sg.hdr.t - 10):=propext ⟨fun h=>by omega,fun h=>by omega⟩
   simp only [z1,z2,hfr] at hR
   rw [hfr] at k1
   clear z1 z2 hfr
   by_cases h3:valsW u.tr=0
   ·have ho:=valsW_zero.1 h3
    rw [h3] at c4
    rw [if_pos h3] at hR
    have c5:=rdigest_A u.tr (by have:=ho.len; omega) hu.k
    have c6:=same_A (digestV u.tr) k.next (by show (sha _).length≤_; rw [sha_length]; omega)
    have c7:=rover_A u.tr u.sg ho hv hl
    clear hu h1 h2 h3 ho hv hl hw hk hm hc
    generalize digestV u.tr=X at *
    generalize overF u.tr u.sg=V at *
    refine callD_W 90 Try.func31 rfl rfl rfl (fun _ _=>rfl) ?_
    exact wkl trivial
   ·rw [if_neg h3] at hR
    generalize valsW u.tr=W at *
    clear hu h1 h2 hv hl hw hk hm hc
    refine callD_W 90 Try.func31 rfl rfl rfl (fun _ _=>rfl) ?_
    exact wkl trivial
 ·rw [if_neg h1] at hR
  generalize checkS u.sg=W at *
  clear hu c2
  refine callD_W 90 Try.func31 rfl rfl rfl (fun _ _=>rfl) ?_
  exact wkl trivial
theorem rnei_A (c:ClientD) (a b:Int) (hl:c.known.length≤1048576):PureD Try.prog 32 [clientD c,intD a,intD b] (boolD (neiL a b c.known)):=by
 refine hide_r fun R hR=>?_
 refine callD_W 39 Try.func32 rfl rfl rfl (fun _ _=>rfl) ?_
 refine wkl ?_
 clear hR; intro hR
 have hR':Hr (boolD (neiL a b (c.known.drop 0))) R:=hR
 clear hR
 refine W_loopR (ι:=Nat) (fun i=>i≤c.known.length∧Hr (boolD (neiL a b (c.known.drop i))) R)
  (fun i=>stOf [(1,intD a),(2,intD b),(10,.i (knownI c.known)),(11,intD c.known.length),(12,intD i)] []) (fun i=>c.known.length - i) 0 ⟨Nat.zero_le _,hR'⟩ ?_ ?_
 ·exact le_ok [] []
 ·rintro i ⟨hi,hR⟩ RL hL
  clear hR'
  rw [stOf_eq]
  by_cases hlt:i < c.known.length
  ·have e1:=get_lt (f:=encK) hlt
   have b1:=fun σ' (hq:Hr _ R)=>bk [] [] (hL (i+1) σ' ⟨hlt,hq⟩)
   rw [List.drop_eq_getElem_cons hlt,neiL] at hR
   clear hL
   generalize c.known[i]=k at *
   by_cases q:(a < k.h∧k.h < b)∨(b < k.h∧k.h < a)
   ·rw [if_pos q] at hR
    exact wkl trivial
   ·rw [if_neg q] at hR
    exact wkl trivial
  ·rw [List.drop_eq_nil_of_le (by omega),neiL] at hR
   exact wkl trivial
theorem rsam_A (c:ClientD) (h:HdrD) (hc:ClOk c):PureD Try.prog 33 [clientD c,hdrD h] (boolD (!samK (atR c h.h).1 (ofH h))):=by
 refine hide_r fun R hR=>?_
 have c1:=ratC_A c h.h (by have:=hc.len; omega)
 have hk:(atR c h.h).1.root.length≤32∧(atR c h.h).1.next.length≤32:=by
  unfold atR
  split
  ·rename_i k hk
   have:=hc.k k (at_mem hk).1
   have q1:=this.r
   have q2:=this.n
   simp only
   omega
  ·simp [zeroK]
 generalize atR c h.h=A at *
 obtain ⟨o,e⟩:=A
 have c2:=same_A o.root h.root (by simp only at hk; omega)
 have c3:=same_A o.next h.next (by simp only at hk; omega)
 simp only [samK,ofH] at hR c1
 clear hk hc
 by_cases a1:o.t=h.t <;> by_cases a2:o.root=h.root <;> by_cases a3:o.next=h.next <;> simp [a1,a2,a3] at hR c2 c3
 all_goals
  refine callD_W 35 Try.func33 rfl rfl rfl (fun _ _=>rfl) ?_
  exact wkl trivial
end Go.Proofs.Ytkodnlkgblkfdaa
