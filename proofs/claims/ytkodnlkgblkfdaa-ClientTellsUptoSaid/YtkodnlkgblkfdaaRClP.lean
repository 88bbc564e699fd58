/- What landref7.Follow makes of the known is what putK makes of it. No program is in sight. -/
import Derived.Test.YtkodnlkgblkfdaaGCl
set_option linter.all false
namespace Go.Proofs.Ytkodnlkgblkfdaa
def neiL (a b:Int):List KnownD→Bool
 | []=>true
 | k :: t=>if (a < k.h∧k.h < b)∨(b < k.h∧k.h < a) then false else neiL a b t
def stF (l:List KnownD) (x k:KnownD) (f:Bool):Bool :=
 if k.h=x.h then (if samK k x=true then f else true)
 else if (k.h < x.h∧x.t≤k.t)∨(x.h < k.h∧k.t≤x.t) then (f || neiL k.h x.h l) else f
def frzL (l:List KnownD) (x:KnownD):List KnownD→Bool→Bool
 | [],f=>f
 | k :: t,f=>frzL l x t (stF l x k f)
def putL (x:KnownD):List KnownD→Bool→Bool
 | [],p=>p
 | k :: t,p=>putL x t (if k.h=x.h then true else p)
def insK (x:KnownD):List KnownD→List KnownD
 | []=>[x]
 | k :: t=>if x.h < k.h then x :: k :: t else k :: insK x t
def finK (c:ClientD) (x:KnownD) (P F:Bool) (T:List KnownD):ClientD :=
 if P=true then { c with frozen:=!samK (atR c x.h).1 x }
 else if F=true then { c with frozen:=true }
 else { c with frozen:=false,known:=cutK T }
def refK (c:ClientD) (x:KnownD):ClientD:=finK c x (putL x c.known false) (frzL c.known x c.known false) (insK x c.known)
theorem neiL_iff (a b:Int):∀ {l:List KnownD},neiL a b l=true↔∀ k∈l,¬ ((a < k.h∧k.h < b)∨(b < k.h∧k.h < a))
 | []=>by simp [neiL]
 | k :: t=>by
  rw [neiL]
  split
  ·rename_i h
   simp only [Bool.false_eq_true,List.mem_cons,forall_eq_or_imp,false_iff]
   exact fun q=>q.1 h
  ·rename_i h
   rw [neiL_iff a b]
   simp only [List.mem_cons,forall_eq_or_imp]
   exact ⟨fun q=>⟨h,q⟩,fun q=>q.2⟩
theorem putL_iff (x:KnownD):∀ {l:List KnownD} {p:Bool},putL x l p=true↔p=true∨∃ k∈l,k.h=x.h
 | [],p=>by simp [putL]
 | k :: t,p=>by
  rw [putL,putL_iff x]
  by_cases h:k.h=x.h <;> simp [h]
theorem frzL_iff (l:List KnownD) (x:KnownD):∀ {m:List KnownD} {f:Bool},(∀ k∈m,¬ k.h=x.h)→(frzL l x m f=true↔f=true∨∃ k∈m,((k.h < x.h∧x.t≤k.t)∨(x.h < k.h∧k.t≤x.t))∧neiL k.h x.h l=true)
 | [],f,_=>by simp [frzL]
 | k :: t,f,h=>by
  rw [frzL,frzL_iff l x (fun y hy=>h y (by simp [hy])),stF,if_neg (h k (by simp))]
  by_cases q:(k.h < x.h∧x.t≤k.t)∨(x.h < k.h∧k.t≤x.t)
  ·rw [if_pos q]
   cases f <;> simp [q]
  ·rw [if_neg q]
   simp [q]
theorem insK_eq (x:KnownD):∀ {l:List KnownD},(∀ k∈l,¬ k.h=x.h)→l.Pairwise (fun a b=>a.h < b.h)→insK x l=l.take (lowK l x.h)++x :: l.drop (lowK l x.h)
 | [],_,_=>by simp [insK,lowK]
 | k :: t,hn,hs=>by
  have h0:=hn k (by simp)
  rw [insK]
  by_cases h:x.h < k.h
  ·rw [if_pos h]
   have:lowK (k :: t) x.h=0:=by simp [lowK,List.takeWhile_cons,show ¬ k.h < x.h by omega]
   rw [this]; simp
  ·rw [if_neg h]
   have:lowK (k :: t) x.h=lowK t x.h+1:=by simp [lowK,List.takeWhile_cons,show k.h < x.h by omega]
   rw [this,insK_eq x (fun y hy=>hn y (by simp [hy])) (List.pairwise_cons.1 hs).2]
   simp
theorem frz_bad {l:List KnownD} (x:KnownD) (hn:∀ k∈l,¬ k.h=x.h) (hs:l.Pairwise (fun a b=>a.h < b.h)):frzL l x l false=badK l (lowK l x.h) x:=by
 have hlow:=low_iff (h:=x.h) hs
 have hle:=low_le l x.h
 have hp:=List.pairwise_iff_getElem.1 hs
 have hb:(badK l (lowK l x.h) x=true)↔((0 < lowK l x.h∧∃ h:lowK l x.h - 1 < l.length,x.t≤l[lowK l x.h - 1].t)∨∃ h:lowK l x.h < l.length,l[lowK l x.h].t≤x.t):=by
  unfold badK
  by_cases h1:lowK l x.h - 1 < l.length <;> by_cases h2:lowK l x.h < l.length <;> simp [h1,h2]
 generalize lowK l x.h=p at *
 rw [Bool.eq_iff_iff,frzL_iff l x hn,hb]
 simp only [Bool.false_eq_true,false_or]
 constructor
 ·rintro ⟨k,hk,hc,hnei⟩
  rw [neiL_iff] at hnei
  obtain ⟨j,hj,rfl⟩:=List.getElem_of_mem hk
  rcases hc with ⟨h1,h2⟩ | ⟨h1,h2⟩
  ·have h3:=(hlow j hj).1 h1
   left
   have hj1:j=p - 1:=by
    rcases Nat.lt_or_ge (j+1) p with h | h
    ·exfalso
     have h4:=(hlow (j+1) (by omega)).2 h
     have h5:=hp j (j+1) hj (by omega) (by omega)
     exact hnei _ (List.getElem_mem (by omega)) (.inl ⟨h5,h4⟩)
    ·omega
   subst hj1
   exact ⟨by omega,hj,h2⟩
  ·right
   have h3:¬ j < p:=fun h=>by have:=(hlow j hj).2 h; omega
   have hj1:j=p:=by
    rcases Nat.lt_or_ge p j with h | h
    ·exfalso
     have h4:¬ l[p].h < x.h:=fun q=>by have:=(hlow p (by omega)).1 q; omega
     have h5:=hp p j (by omega) hj h
     have h6:=hn _ (List.getElem_mem (show p < l.length by omega))
     exact hnei _ (List.getElem_mem (show p < l.length by omega)) (.inr ⟨by omega,h5⟩)
    ·omega
   subst hj1
   exact ⟨hj,h2⟩
 ·rintro (⟨h1,h2,h3⟩ | ⟨h2,h3⟩)
  ·refine ⟨l[p - 1],List.getElem_mem h2,.inl ⟨(hlow _ h2).2 (by omega),h3⟩,?_⟩
   rw [neiL_iff]
   intro k hk
   obtain ⟨j,hj,rfl⟩:=List.getElem_of_mem hk
   have g1:=hlow j hj
   have g2:=(hlow (p - 1) h2).2 (by omega)
   rintro (⟨q1,q2⟩ | ⟨q1,q2⟩)
   ·have:=g1.1 q2
    rcases Nat.lt_or_ge j (p - 1) with h | h
    ·have:=hp j (p - 1) hj h2 h; omega
    ·obtain rfl:j=p - 1:=by omega
     omega
   ·omega
  ·have g0:¬ l[p].h < x.h:=fun q=>by have:=(hlow p h2).1 q; omega
   have g6:=hn _ (List.getElem_mem h2)
   refine ⟨l[p],List.getElem_mem h2,.inr ⟨by omega,h3⟩,?_⟩
   rw [neiL_iff]
   intro k hk
   obtain ⟨j,hj,rfl⟩:=List.getElem_of_mem hk
   have g1:=hlow j hj
   rintro (⟨q1,q2⟩ | ⟨q1,q2⟩)
   ·omega
   ·have:¬ j < p:=fun h=>by have:=g1.2 h; omega
    rcases Nat.lt_or_ge p j with h | h
    ·have:=hp p j h2 hj h; omega
    ·obtain rfl:j=p:=by omega
     omega
theorem refK_eq {c:ClientD} (hs:c.known.Pairwise (fun a b=>a.h < b.h)) (hf:c.frozen=false) (x:KnownD):refK c x=putK c x:=by
 unfold refK finK putK atR
 cases h:atC c x.h with
 | none =>
  have hn:∀ k∈c.known,¬ k.h=x.h:=by
   intro k hk e
   have:=List.find?_eq_none.1 h k hk
   simp [e] at this
  have hp:¬ putL x c.known false=true:=by
   rw [putL_iff]
   rintro (h | ⟨k,hk,e⟩)
   ·cases h
   ·exact hn k hk e
  rw [if_neg hp,frz_bad x hn hs,insK_eq x hn hs]
  simp only [← hf]
 | some o =>
  have hp:putL x c.known false=true:=by
   rw [putL_iff]
   obtain ⟨h1,h2⟩:=at_mem h
   exact .inr ⟨o,h1,h2⟩
  rw [if_pos hp]
  simp only
  by_cases q:samK o x=true
  ·rw [if_pos q,q]
   cases c; simp only at hf; subst hf; rfl
  ·rw [if_neg q]
   simp only [Bool.not_eq_true] at q
   rw [q]; rfl
end Go.Proofs.Ytkodnlkgblkfdaa
