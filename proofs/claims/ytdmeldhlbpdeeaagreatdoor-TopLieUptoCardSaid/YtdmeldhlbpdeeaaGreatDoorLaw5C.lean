/- ProofClash, ProofEdited: by-value contracts. -/
import Derived.Test.YtdmeldhlbpdeeaaGreatDoorClashW
import Derived.Test.YtdmeldhlbpdeeaaGreatDoorGDec
import Derived.Test.YtdmeldhlbpdeeaaGreatDoorGLaw5
set_option linter.all false
set_option maxHeartbeats 4000000
namespace Go.Proofs.YtdmeldhlbpdeeaaGreatDoor
open Go Go.Abs Go.RowKit Go.Proofs.YtdmeldhlbpdeeaaGreatDoor.Ty
theorem Aj {leaf:List UInt8}(hl:leaf.length=32):∀(r:List (List UInt8))(i n:Nat),(bV leaf i n r).1.length<=32:=by
 intro r;cases r with
 |nil =>
  intro i n;simp only[bV];split
  ·exact Nat.le_of_eq hl
  ·simp
 |cons d r =>
  intro i n;simp only[bV];split
  ·exact Nat.le_of_eq hl
  ·split<;>exact Nat.le_of_eq (bg _)
theorem qd (l:List aN):(aZ l).length<=32:=by
 by_cases h:l=[]
 ·subst h;simp[aZ]
 ·exact Nat.le_of_eq (fP l h)
def rf (r:CR):Prop:=r.1.length<=2097152/\r.2.1.length<=2097152
theorem zR {a b:List UInt8}(ha:a.length<=32)(hb:b.length<=32):(fH a b).length<=2097152:=by simp[fH];omega
theorem AC (p:b_)(hk:p.k.length<=60)(hv:p.v.length<=200):∀(rev:List (List UInt8))(l:List aN)(i:Nat),(∀q∈l,q.k.length<=60/\q.v.length<=200)->(∀d∈rev,d.length=32)->rf (iw p l i rev):=by
 have last:∀l:List aN,(∀q∈l,q.k.length<=60/\q.v.length<=200)->rf (zX p l):=by
  intro l hq;cases l with
  |nil=>simp[zX,rf]
  |cons q r =>
   have:=hq q (by simp);have h4:∀n,(four n).length=4:=λ_=>rfl;simp only[zX];split
   ·simp[rf]
   ·simp[rf,l_,h4];omega
 have hlf:(dU p.k p.v).length=32:=bg _;intro rev;induction rev with
 |nil=>intro l i hq _;exact last l hq
 |cons d r ih =>
  intro l i hq hd;have hd0:=hd d (by simp);have hdr:∀x∈r,x.length=32:=λx hx=>hd x (by simp[hx]);simp only[iw];split
  ·split
   ·split
    ·exact ih _ _ (λq hx=>hq q (List.mem_of_mem_take hx)) hdr
    ·exact⟨zR (qd _) (qd _),zR (Aj hlf _ _ _) (by omega)⟩
   ·split
    ·exact ih _ _ (λq hx=>hq q (List.mem_of_mem_drop hx)) hdr
    ·exact⟨zR (qd _) (qd _),zR (by omega) (Aj hlf _ _ _)⟩
  ·exact last l hq
theorem clash_small {l:List aN}{p:b_}:rf (jr l p):=by
 unfold jr;split
 ·rename_i h0;have hr:=nZ h0;split
  ·rename_i h;obtain⟨hf,ht,htop⟩:=shownF_all h;obtain⟨a1,a2,a3,a4,a5,a6,a7,a8⟩:=formF_yes hf;split
   ·exact AC p a5 a6 _ _ _ hr.big (λd hd=>a8 d (by simpa using hd))
   ·have h4:∀n,(four n).length=4:=λ_=>rfl;have t1:=qd l;have t2:(eZ p).1.length<=32:=Aj (bg _) _ _ _;simp[rf,qf,h4];omega
  ·simp[rf]
 ·simp[rf]
structure Yes (C:CR):Prop where
 s1:C.1.length<=2097152
 s2:C.2.1.length<=2097152
 ne:C.1≠C.2.1
 eq:sha C.1=sha C.2.1
end Go.Proofs.YtdmeldhlbpdeeaaGreatDoor
