/- landref7.Wrong, At, New, Active, Asked: by value. -/
import Derived.Test.YtkodnlkgblkfdaaGCl
import Derived.Test.YtkodnlkgblkfdaaGProof
import Derived.Test.YtkodnlkgblkfdaaRNum
import Derived.Test.YtkodnlkgblkfdaaRName
set_option linter.all false
namespace Go.Proofs.Ytkodnlkgblkfdaa
open Go Go.Abs Go.RowKit Go.Proofs.Ytkodnlkgblkfdaa.Ty
def rknE (k:KnownD):Int :=
 if k.h=0∨¬ numB k.h=true∨¬ numB k.t=true then 3
 else if ¬ (k.root.length:Int)=32∨¬ (k.next.length:Int)=32 then 2 else 0
theorem rknE_eq (k:KnownD):rknE k=knE k:=by
 unfold rknE knE numB
 simp only [decide_eq_true_eq]
 by_cases h:k.h=0∨¬ (0≤k.h∧k.h≤1000000000000)∨¬ (0≤k.t∧k.t≤1000000000000)
 ·rw [if_pos h,if_pos (show k.h < 1∨¬ (0≤k.h∧k.h≤1000000000000)∨¬ (0≤k.t∧k.t≤1000000000000) by omega)]
 ·rw [if_neg h,if_neg (show ¬ (k.h < 1∨¬ (0≤k.h∧k.h≤1000000000000)∨¬ (0≤k.t∧k.t≤1000000000000)) by omega)]
def lastH:Option KnownD→Int
 | none=>0
 | some k=>k.h
@[simp] theorem last0 (l:List KnownD):lastH (preK l 0)=0:=rfl
def rknsE:Option KnownD→List KnownD→Int
 | _,[]=>0
 | o,k :: t=>if rknE k=0 then (if o.isSome=true∧k.h≤lastH o then 2 else rknsE (some k) t) else rknE k
theorem rknsE_eq:∀ (o:Option KnownD) (l:List KnownD),rknsE o l=knsE o l
 | _,[]=>rfl
 | o,k :: t=>by
  rw [rknsE,knsE,rknE_eq,rknsE_eq (some k) t]
  cases o <;> simp [lastH]
def rwrongF (c:ClientD):Int :=
 if nameOk c.c=true then
  (if c.trust=0∨¬ numB c.trust=true then 3
  else if (c.known.length:Int)=0∨(30:Int) < c.known.length then 5 else rknsE none c.known)
 else 7
theorem rwrongF_eq (c:ClientD):rwrongF c=wrongC c:=by
 unfold rwrongF wrongC numB
 rw [rknsE_eq]
 simp only [decide_eq_true_eq]
 by_cases h:c.trust=0∨¬ (0≤c.trust∧c.trust≤1000000000000)
 ·rw [if_pos h,if_pos (show c.trust < 1∨¬ (0≤c.trust∧c.trust≤1000000000000) by omega)]
 ·rw [if_neg h,if_neg (show ¬ (c.trust < 1∨¬ (0≤c.trust∧c.trust≤1000000000000)) by omega)]
  by_cases h2:(c.known.length:Int)=0∨(30:Int) < c.known.length
  ·rw [if_pos h2,if_pos (show (c.known.length:Int) < 1∨(30:Int) < c.known.length by omega)]
  ·rw [if_neg h2,if_neg (show ¬ ((c.known.length:Int) < 1∨(30:Int) < c.known.length) by omega)]
set_option maxHeartbeats 4000000
set_option maxRecDepth 20000
theorem rwrongC_A (c:ClientD) (hl:c.known.length≤1048576):PureD Try.prog 5 [clientD c] (intD (wrongC c)):=by
 refine hide_r fun R hR=>?_
 have c1:=name_A c.c
 have c2:=rnum_A c.trust
 rw [← rwrongF_eq] at hR
 unfold rwrongF at hR
 by_cases hn0:(c.known.length:Int)=0
 ·simp only [hn0,true_or,if_true] at hR
  refine callD_W 73 Try.func5 rfl rfl rfl (fun _ _=>rfl) ?_
  exact wkl trivial
 simp only [hn0,false_or] at hR
 refine callD_W 73 Try.func5 rfl rfl rfl (fun _ _=>rfl) ?_
 refine wkl ?_
 clear hR; intro hR _ _ _ _
 have hR':Hr (intD (rknsE (preK c.known 0) (c.known.drop 0))) R:=hR
 clear hR
 refine W_loopR (ι:=Nat) (fun i=>i≤c.known.length∧Hr (intD (rknsE (preK c.known i) (c.known.drop i))) R)
  (fun i=>stOf [(1,.pt 100 0 0 0),(3,intD (lastH (preK c.known i))),(30,.i (knownI c.known)),(31,intD c.known.length),(32,intD i)] [(100,.box ((encC c).map .i))]) (fun i=>c.known.length - i) 0 ⟨Nat.zero_le _,hR'⟩ ?_ ?_
 ·exact le_ok [] [(100,1000)]
 ·rintro i ⟨hi,hR⟩ RL hL
  clear hR'
  rw [stOf_eq]
  by_cases h:i < c.known.length
  ·have e1:=get_lt (f:=encK) h
   rw [List.drop_eq_getElem_cons h,rknsE] at hR
   have hnx:preK c.known (i+1)=some c.known[i]:=by simp [preK,h]
   have b1:=fun σ' (hq:Hr _ R)=>bk [] [(100,100)] (hL (i+1) σ' ⟨h,hq⟩)
   rw [hnx] at b1
   simp only [lastH] at b1
   clear hL hnx
   have c3:=rnum_A c.known[i].h
   have c4:=rnum_A c.known[i].t
   unfold rknE at hR
   have hpre:(preK c.known i).isSome=true↔0 < i:=by
    unfold preK
    split
    ·simp; omega
    ·simp; omega
   simp only [hpre] at hR
   generalize lastH (preK c.known i)=Lh at *
   clear hpre
   generalize c.known[i]=v at *
   by_cases hz:0 < i
   ·have hz':(0:Int) < (i:Int):=by omega
    simp only [hz,true_and] at hR
    exact wkl trivial
   ·have hz':¬ (0:Int) < (i:Int):=by omega
    simp only [hz,false_and,if_false] at hR
    exact wkl trivial
  ·rw [List.drop_eq_nil_of_le (by omega),rknsE] at hR
   exact wkl trivial
def atFrom (l:List KnownD) (h:Int) (i:Nat):KnownD × Bool:=match (l.drop i).find? (fun k=>decide (k.h=h)) with | some k=>(k,true) | none=>(zeroK,false)
theorem ratC_A (c:ClientD) (h:Int) (hl:c.known.length≤1048576):PureD Try.prog 45 [clientD c,intD h] (.tup [knownD (atR c h).1,boolD (atR c h).2]):=by
 refine hide_r fun R hR=>?_
 refine callD_W 22 Try.func45 rfl rfl rfl (fun _ _=>rfl) ?_
 refine wkl ?_
 clear hR; intro hR
 have hR':Hr (.tup [knownD (atFrom c.known h 0).1,boolD (atFrom c.known h 0).2]) R:=hR
 clear hR
 refine W_loopR (ι:=Nat) (fun i=>i≤c.known.length∧Hr (.tup [knownD (atFrom c.known h i).1,boolD (atFrom c.known h i).2]) R)
  (fun i=>stOf [(1,intD h),(2,.pt 100 0 0 0),(4,.pt 101 0 0 0),(9,.i (knownI c.known)),(10,intD c.known.length),(11,intD i)] [(100,.box ((encC c).map .i)),(101,.box ((encK zeroK).map .i))]) (fun i=>c.known.length - i) 0 ⟨Nat.zero_le _,hR'⟩ ?_ ?_
 ·exact le_ok [] [(100,1000),(101,1001)]
 ·rintro i ⟨hi,hR⟩ RL hL
  clear hR'
  rw [stOf_eq]
  by_cases hlt:i < c.known.length
  ·have e1:=get_lt (f:=encK) hlt
   have b1:=fun σ' (hq:Hr _ R)=>bk [] [(100,100),(101,101)] (hL (i+1) σ' ⟨hlt,hq⟩)
   clear hL
   have hstep:atFrom c.known h i=if c.known[i].h=h then (c.known[i],true) else atFrom c.known h (i+1):=by
    unfold atFrom
    rw [List.drop_eq_getElem_cons hlt,List.find?_cons]
    by_cases e:c.known[i].h=h <;> simp [e]
   rw [hstep] at hR
   clear hstep
   generalize c.known[i]=v at *
   by_cases e:v.h=h
   ·rw [if_pos e] at hR
    simp only at hR
    exact wkl trivial
   ·rw [if_neg e] at hR
    exact wkl trivial
  ·have hend:atFrom c.known h i=(zeroK,false):=by unfold atFrom; rw [List.drop_eq_nil_of_le (by omega)]; rfl
   rw [hend] at hR
   simp only [zeroK] at hR
   exact wkl trivial
theorem rnewC_A (c:ByteArray) (t:Int) (k:KnownD):PureD Try.prog 7 [sD c,intD t,knownD k] (.tup [clientD (newC c t k).1,intD (newC c t k).2]):=by
 refine hide_r fun R hR=>?_
 have c1:=rwrongC_A ⟨c,t,false,[k]⟩ (by simp)
 unfold newC at hR
 by_cases h:wrongC ⟨c,t,false,[k]⟩=0
 ·rw [if_pos h] at hR
  rw [h] at c1
  clear h
  refine callD_W 22 Try.func7 rfl rfl rfl (fun _ _=>rfl) ?_
  exact wkl trivial
 ·rw [if_neg h] at hR
  simp only [zeroC] at hR
  generalize wrongC ⟨c,t,false,[k]⟩=W at *
  refine callD_W 22 Try.func7 rfl rfl rfl (fun _ _=>rfl) ?_
  exact wkl trivial
theorem raskedC_A (c:ClientD) (now:Int) (hl:c.known.length≤1048576):PureD Try.prog 30 [clientD c,intD now] (intD (askedE c now)):=by
 refine hide_r fun R hR=>?_
 have c1:=rwrongC_A c hl
 have c2:=rnum_A now
 unfold askedE at hR
 generalize wrongC c=W at *
 refine callD_W 16 Try.func30 rfl rfl rfl (fun _ _=>rfl) ?_
 exact wkl trivial
theorem rlast_A (c:ClientD) (hl:0 < c.known.length) (hl':c.known.length≤1048576):PureD Try.prog 22 [clientD c] (knownD (lastC c)):=by
 refine hide_r fun R hR=>?_
 have hi:c.known.length - 1 < c.known.length:=by omega
 have s0:=get_lt (f:=encK) hi
 have hlast:lastC c=c.known[c.known.length - 1]:=by unfold lastC; rw [List.getLastD_eq_getLast?,List.getLast?_eq_getElem?,List.getElem?_eq_getElem hi]; rfl
 rw [hlast] at hR
 have w1:IntKind.i64.wrap ((c.known.length:Int) - 1)=((c.known.length - 1:Nat):Int):=by rw [wrap64 (by omega) (by omega)]; omega
 clear hlast
 generalize c.known[c.known.length - 1]=k at *
 refine callD_W 11 Try.func22 rfl rfl rfl (fun _ _=>rfl) ?_
 exact wkl trivial
theorem ractC_A {c:ClientD} {now:Int} (ok:ClOk c) (hn:0≤now∧now≤1000000000000):PureD Try.prog 11 [clientD c,intD now] (boolD (activeC c now)):=by
 refine hide_r fun R hR=>?_
 have hl:=ok.len
 have hm:lastC c∈c.known:=by
  unfold lastC
  rw [List.getLastD_eq_getLast?,List.getLast?_eq_getElem?,List.getElem?_eq_getElem (by omega)]
  exact List.getElem_mem _
 have hk:=(ok.k _ hm).t
 have ht:=ok.trust
 have c1:=rlast_A c (by omega) (by omega)
 unfold activeC at hR
 generalize lastC c=k at *
 have w2:IntKind.i64.wrap (k.t+c.trust)=k.t+c.trust:=wrap64 (by omega) (by omega)
 have he:decide (now < k.t+c.trust)=decide (now - k.t < c.trust):=decide_eq_decide.2 (by omega)
 clear hm ok
 cases hf:c.frozen
 all_goals
  rw [hf] at hR
  simp only [Bool.not_true,Bool.not_false,Bool.true_and,Bool.false_and] at hR
  refine callD_W 18 Try.func11 rfl rfl rfl (fun _ _=>rfl) ?_
  exact wkl trivial
end Go.Proofs.Ytkodnlkgblkfdaa
