/- landref7.Wrong, At, New, Active, Asked: by value. -/
import Derived.Test.YtoifllbioldomaaGreatDoorGR3
import Derived.Test.YtoifllbioldomaaGreatDoorGBk
set_option linter.all false
set_option maxHeartbeats 4000000
set_option maxRecDepth 20000
namespace Go.Proofs.YtoifllbioldomaaGreatDoor
open Go Go.Abs Go.RowKit Go.Proofs.YtoifllbioldomaaGreatDoor.Ty
def abm (k:aH):Int :=
 if k.h=0\/¬kz k.h=true\/¬kz k.t=true then 3
 else if ¬(k.root.length:Int)=32\/¬(k.next.length:Int)=32 then 2 else 0
theorem Yk (k:aH):abm k=knE k:=by
 unfold abm knE kz;simp only[decide_eq_true_eq];by_cases h:k.h=0\/¬(0<=k.h/\k.h<=1000000000000)\/¬(0<=k.t/\k.t<=1000000000000)
 ·rw[if_pos h,if_pos (show k.h<1\/¬(0<=k.h/\k.h<=1000000000000)\/¬(0<=k.t/\k.t<=1000000000000) by omega)]
 ·rw[if_neg h,if_neg (show ¬(k.h<1\/¬(0<=k.h/\k.h<=1000000000000)\/¬(0<=k.t/\k.t<=1000000000000)) by omega)]
def Kj:Option aH->Int
 |none=>0
 |some k=>k.h
@[simp] theorem ahl (l:List aH):Kj (Dq l 0)=0:=rfl
def BH:Option aH->List aH->Int
 |_,[]=>0
 |o,k::t=>if abm k=0 then(if o.isSome=true/\k.h<=Kj o then 2 else BH (some k) t)else abm k
theorem Ga:∀(o:Option aH)(l:List aH),BH o l=NZ o l
 |_,[]=>rfl
 |o,k::t=>by rw[BH,NZ,Yk,Ga (some k) t];cases o<;>simp[Kj]
def DZ (c:ax):Int :=
 if fO c.c=true then
  (if c.trust=0\/¬kz c.trust=true then 3
  else if(c.known.length:Int)=0\/(30:Int)<c.known.length then 5 else BH none c.known)
 else 7
theorem JV (c:ax):DZ c=wrongC c:=by
 unfold DZ wrongC kz;rw[Ga];simp only[decide_eq_true_eq];by_cases h:c.trust=0\/¬(0<=c.trust/\c.trust<=1000000000000)
 ·rw[if_pos h,if_pos (show c.trust<1\/¬(0<=c.trust/\c.trust<=1000000000000) by omega)]
 ·rw[if_neg h,if_neg (show ¬(c.trust<1\/¬(0<=c.trust/\c.trust<=1000000000000)) by omega)];by_cases h2:(c.known.length:Int)=0\/(30:Int)<c.known.length
  ·rw[if_pos h2,if_pos (show(c.known.length:Int)<1\/(30:Int)<c.known.length by omega)]
  ·rw[if_neg h2,if_neg (show ¬((c.known.length:Int)<1\/(30:Int)<c.known.length) by omega)]
theorem Mm (c:ax)(hl:c.known.length<=1048576):PureD Tryz.prog 29 [dO c] (intD (wrongC c)):=by
 refine af λR hR=>?_;have c1:=Wn c.c;have c2:=Mw c.trust;rw[<- JV]at hR;unfold DZ at hR;by_cases hn0:(c.known.length:Int)=0
 ·simp only[hn0,true_or,if_true]at hR;refine aa 73 Tryz.func29 ?_;exact wkl trivial
 simp only[hn0,false_or]at hR;refine aa 73 Tryz.func29 ?_;refine wkl ?_;clear hR;intro hR _ _ _ _;have hR':Hr (intD (BH (Dq c.known 0) (c.known.drop 0))) R:=hR;clear hR;refine aF (ι:=Nat) (λi=>i<=c.known.length/\Hr (intD (BH (Dq c.known i) (c.known.drop i))) R)
  (λi=>cO [(1,.pt 100 0 0 0),(3,intD (Kj (Dq c.known i))),(30,.i (kM c.known)),(31,intD c.known.length),(32,intD i)] [(100,.box ((gJ c).map .i))]) (λi=>c.known.length-i) 0 ⟨Nat.zero_le _,hR'⟩ ?_ ?_
 ·exact bO [] [(100,1000)]
 ·rintro i ⟨hi,hR⟩ RL hL;clear hR';rw[ae];by_cases h:i<c.known.length
  ·have e1:=ay (f:=jL) h;rw[List.drop_eq_getElem_cons h,BH]at hR;have hnx:Dq c.known (i+1)=some c.known[i]:=by simp[Dq,h]
   have b1:=λσ' (hq:Hr _ R)=>bk [] [(100,100)] (hL (i+1) σ' ⟨h,hq⟩);rw[hnx]at b1;simp only[Kj]at b1;clear hL hnx;have c3:=Mw c.known[i].h;have c4:=Mw c.known[i].t;unfold abm at hR;have hpre:(Dq c.known i).isSome=true↔0<i:=by
    unfold Dq;split
    ·simp;omega
    ·simp;omega
   simp only[hpre]at hR;generalize Kj (Dq c.known i)=Lh at*;clear hpre;generalize c.known[i]=v at*;by_cases hz:0<i
   ·have hz':(0:Int)<(i:Int):=by omega
    simp only[hz,true_and]at hR;exact wkl trivial
   ·have hz':¬(0:Int)<(i:Int):=by omega
    simp only[hz,false_and,if_false]at hR;exact wkl trivial
  ·rw[List.drop_eq_nil_of_le (by omega),BH]at hR;exact wkl trivial
end Go.Proofs.YtoifllbioldomaaGreatDoor
