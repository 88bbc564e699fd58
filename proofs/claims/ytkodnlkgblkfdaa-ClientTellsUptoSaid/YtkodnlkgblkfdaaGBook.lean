/- Merged texts: Find, BookA, BookB, BookO, BookC. -/
import Derived.Test.YtkodnlkgblkfdaaAbs4
import Derived.Test.YtkodnlkgblkfdaaGHd
import Derived.Test.YtkodnlkgblkfdaaGSha
import Derived.Test.YtkodnlkgblkfdaaG0
set_option linter.all false
namespace Go.Proofs.Ytkodnlkgblkfdaa
open Go Go.Abs Go.RowKit Go.Proofs.Ytkodnlkgblkfdaa.Ty
structure PairD where
 k:List UInt8
 v:List UInt8
def encPr (p:PairD):List I:=[bI p.k,bI p.v]
def prD (p:PairD):D:=.agg [.i (bI p.k),.i (bI p.v)]
def psI (l:List PairD):I:=.sl (l.map encPr)
set_option maxHeartbeats 2000000
end Go.Proofs.Ytkodnlkgblkfdaa
set_option linter.all false
namespace Go.Proofs.Ytkodnlkgblkfdaa
open Go Go.Abs Go.RowKit Go.Proofs.Ytkodnlkgblkfdaa.Ty
def fltD (e i:Nat):D:=.agg [intD e,intD i]
def bigP (p:PairD):Bool:=decide (60 < p.k.length) || decide (200 < p.v.length)
def wrongGo (l:List PairD) (i:Nat):Nat × Nat :=
 if h:i < l.length then
  if bigP l[i] then (4,i)
  else if 0 < i∧0≤Lib.compareBytes (l[i - 1]'(by omega)).k l[i].k then (2,i)
  else wrongGo l (i+1)
 else (0,0)
termination_by l.length - i
def wrongF (l:List PairD):Nat × Nat:=if 200 < l.length then (5,0) else wrongGo l 0
set_option maxHeartbeats 2000000
end Go.Proofs.Ytkodnlkgblkfdaa
set_option linter.all false
namespace Go.Proofs.Ytkodnlkgblkfdaa
open Go Go.Abs Go.RowKit Go.Proofs.Ytkodnlkgblkfdaa.Ty
def four (n:Nat):List UInt8:=[byteOf n 16777216,byteOf n 65536,byteOf n 256,byteOf n 1]
def leafF (k v:List UInt8):List UInt8:=sha (0 :: (four k.length++(k++v)))
def nodeF (a b:List UInt8):List UInt8:=sha (1 :: (a++b))
def topF (n:Nat) (t:List UInt8):List UInt8:=sha (2 :: (four n++t))
def splitF (n:Nat):Nat:=2 ^ Nat.log2 (n - 1)
theorem splitF_lt {n:Nat} (h:2≤n):0 < splitF n∧splitF n < n:=by
 have:=Nat.log2_self_le (n:=n - 1) (by omega)
 have h2:0 < 2 ^ Nat.log2 (n - 1):=Nat.pow_pos (by decide)
 simp only [splitF]; omega
theorem splitF_le {n:Nat}:n≤2 * splitF n:=by
 have:=Nat.lt_log2_self (n:=n - 1)
 rw [Nat.pow_succ] at this
 simp only [splitF]; omega
def treeF (l:List PairD):List UInt8 :=
 match l with
 | []=>[]
 | [p]=>leafF p.k p.v
 | p :: q :: r=>nodeF (treeF ((p :: q :: r).take (splitF (p :: q :: r).length))) (treeF ((p :: q :: r).drop (splitF (p :: q :: r).length)))
termination_by l.length
decreasing_by
 all_goals
  have:=splitF_lt (n:=(p :: q :: r).length) (by simp)
  simp only [List.length_take,List.length_drop]
  omega
theorem treeF_one (p:PairD):treeF [p]=leafF p.k p.v:=by rw [treeF]
theorem treeF_two {l:List PairD} (h:2≤l.length):treeF l=nodeF (treeF (l.take (splitF l.length))) (treeF (l.drop (splitF l.length))):=by
 match l,h with
 | p :: q :: r,_=>conv=>lhs; rw [treeF]
theorem treeF_len (l:List PairD) (h:l≠[]):(treeF l).length=32:=by
 match l,h with
 | [p],_=>rw [treeF_one]; exact sha_length _
 | p :: q :: r,_=>rw [treeF_two (by simp)]; exact sha_length _
def rootF (l:List PairD):List UInt8:=topF l.length (treeF l)
theorem byte24 (n d k:Nat) (hd:d=2 ^ k) (hk:k < 64):IntKind.u8.wrap ((n:Int).fdiv (2 ^ min k (IntKind.bits .i64)))=((byteOf n d).toNat:Int):=by
 have hm:min k (IntKind.bits .i64)=k:=by simp [IntKind.bits]; omega
 rw [hm,Int.fdiv_eq_ediv_of_nonneg _ (by exact_mod_cast Nat.zero_le _),IntKind.wrap_u8]
 have:(n:Int) / 2 ^ k=((n / 2 ^ k:Nat):Int):=by rw [Int.natCast_ediv,Int.natCast_pow]; rfl
 rw [this,byteOf,hd]
 generalize n / 2 ^ k=x
 rw [UInt8.toNat_ofNat']; omega
theorem byte1 (n:Nat):IntKind.u8.wrap (n:Int)=((byteOf n 1).toNat:Int):=by
 rw [IntKind.wrap_u8,byteOf,Nat.div_one,UInt8.toNat_ofNat']; omega
set_option maxHeartbeats 2000000
theorem pow2_split {n i:Nat} (h1:2 ^ i=1∨2 ^ i < n) (h2:n≤2 * 2 ^ i) (hn:1≤n):2 ^ i=splitF n:=by
 unfold splitF
 congr 1
 have hle:i≤Nat.log2 (n - 1)∨n - 1=0:=by
  by_cases h0:n - 1=0
  ·exact .inr h0
  ·refine .inl ((Nat.le_log2 h0).2 ?_)
   rcases h1 with h1 | h1 <;> omega
 have hge:n - 1=0∨Nat.log2 (n - 1) < i+1:=by
  by_cases h0:n - 1=0
  ·exact .inl h0
  ·refine .inr ((Nat.log2_lt h0).2 ?_)
   rw [Nat.pow_succ]; omega
 rcases hle with hle | hle
 ·rcases hge with hge | hge
  ·rw [hge] at hle ⊢; simp at hle ⊢; omega
  ·omega
 ·rw [hle]
  have:n=1:=by omega
  subst this
  simp
  rcases h1 with h1 | h1
  ·cases i with
   | zero=>rfl
   | succ i=>rw [Nat.pow_succ] at h1; omega
  ·have:0 < 2 ^ i:=Nat.pow_pos (by decide); omega
end Go.Proofs.Ytkodnlkgblkfdaa
set_option linter.all false
namespace Go.Proofs.Ytkodnlkgblkfdaa
open Go Go.Abs
structure Right (l:List PairD):Prop where
 len:l.length≤200
 big:∀ p∈l,p.k.length≤60∧p.v.length≤200
 ord:∀ i j (hi:i < l.length) (hj:j < l.length),i < j→Lib.compareBytes l[i].k l[j].k < 0
theorem bigP_no {p:PairD} (h:bigP p=false):p.k.length≤60∧p.v.length≤200:=by
 simp [bigP] at h; omega
theorem wrongGo_ok (l:List PairD):∀ (d i:Nat),l.length - i=d→(wrongGo l i).1=0→∀ a (ha:a < l.length),i≤a→bigP l[a]=false∧(∀ h:0 < a,Lib.compareBytes (l[a - 1]'(by omega)).k l[a].k < 0):=by
 intro d
 induction d with
 | zero=>intro i hd _ a ha hia; omega
 | succ d ih =>
  intro i hd hw a ha hia
  rw [wrongGo,dif_pos (by omega)] at hw
  split at hw
  ·cases hw
  ·rename_i hb
   split at hw
   ·cases hw
   ·rename_i hc
    by_cases hai:a=i
    ·subst hai
     refine ⟨by simpa using hb,fun h=>?_⟩
     have:¬ 0≤Lib.compareBytes (l[a - 1]'(by omega)).k l[a].k:=fun h'=>hc ⟨h,h'⟩
     omega
    ·exact ih (i+1) (by omega) hw a ha (by omega)
theorem right_of {l:List PairD} (h:(wrongF l).1=0):Right l:=by
 unfold wrongF at h
 split at h
 ·cases h
 ·rename_i hl
  have hw:=wrongGo_ok l _ 0 rfl h
  refine ⟨by omega,fun p hp=>?_,?_⟩
  ·obtain ⟨a,ha,rfl⟩:=List.getElem_of_mem hp
   exact bigP_no (hw a ha (Nat.zero_le _)).1
  ·intro i j
   induction j with
   | zero=>intro _ _ h; omega
   | succ j ih =>
    intro hi hj hij
    have h1:=(hw (j+1) hj (Nat.zero_le _)).2 (by omega)
    simp only [Nat.add_sub_cancel] at h1
    by_cases hc:i=j
    ·subst hc; exact h1
    ·exact cmp_trans _ _ _ (ih hi (by omega) (by omega)) h1
theorem wrongGo_right {l:List PairD} (h:Right l):∀ (d i:Nat),l.length - i=d→wrongGo l i=(0,0):=by
 intro d
 induction d with
 | zero=>intro i hd; rw [wrongGo,dif_neg (by omega)]
 | succ d ih =>
  intro i hd
  have hi:i < l.length:=by omega
  rw [wrongGo,dif_pos hi]
  have hb:=h.big _ (List.getElem_mem hi)
  rw [if_neg (by simp [bigP]; omega),if_neg,ih (i+1) (by omega)]
  rintro ⟨h1,h2⟩
  have:=h.ord (i - 1) i (by omega) hi (by omega)
  omega
theorem wrong_right {l:List PairD} (h:Right l):wrongF l=(0,0):=by
 rw [wrongF,if_neg (by have:=h.len; omega)]; exact wrongGo_right h _ 0 rfl
theorem wrong_zero {l:List PairD} (h:(wrongF l).1=0):wrongF l=(0,0):=wrong_right (right_of h)
def placeF (l:List PairD) (key:List UInt8):Nat:=(l.takeWhile fun p=>decide (Lib.compareBytes p.k key < 0)).length
def thereF (l:List PairD) (key:List UInt8):Bool:=if h:placeF l key < l.length then decide (l[placeF l key].k=key) else false
theorem placeF_le (l:List PairD) (key:List UInt8):placeF l key≤l.length:=(List.takeWhile_sublist _).length_le
theorem placeF_lo (key:List UInt8):∀ (l:List PairD) (a:Nat) (ha:a < l.length),a < placeF l key→Lib.compareBytes l[a].k key < 0
 | [],a,ha,_=>by simp at ha
 | p :: t,a,ha,h=>by
  unfold placeF at h
  rw [List.takeWhile_cons] at h
  split at h
  ·rename_i hp
   cases a with
   | zero=>simpa using hp
   | succ a=>exact placeF_lo key t a (by simpa using ha) (by simpa [placeF] using h)
  ·simp at h
theorem placeF_at (key:List UInt8):∀ (l:List PairD) (h:placeF l key < l.length),¬ Lib.compareBytes l[placeF l key].k key < 0
 | [],h=>by simp at h
 | p :: t,h=>by
  unfold placeF at h
  simp only [placeF]
  by_cases hp:decide (Lib.compareBytes p.k key < 0)=true
  ·have e:(List.takeWhile (fun p=>decide (Lib.compareBytes p.k key < 0)) (p :: t)).length=placeF t key+1:=by
    rw [List.takeWhile_cons,if_pos hp]; rfl
   simp only [e] at h ⊢
   have:=placeF_at key t (by simpa using h)
   simpa using this
  ·have e:(List.takeWhile (fun p=>decide (Lib.compareBytes p.k key < 0)) (p :: t)).length=0:=by
    rw [List.takeWhile_cons,if_neg hp]; rfl
   simp only [e]
   simpa using hp
theorem placeF_iff {l:List PairD} (h:Right l) (key:List UInt8):∀ a (ha:a < l.length),Lib.compareBytes l[a].k key < 0↔a < placeF l key:=by
 intro a ha
 refine ⟨fun h1=>?_,placeF_lo key l a ha⟩
 apply Decidable.byContradiction
 intro hc
 have hp:placeF l key < l.length:=by omega
 have h2:=placeF_at key l hp
 by_cases he:a=placeF l key
 ·subst he; exact h2 h1
 ·exact h2 (cmp_trans _ _ _ (h.ord _ a hp ha (by omega)) h1)
end Go.Proofs.Ytkodnlkgblkfdaa
set_option linter.all false
namespace Go.Proofs.Ytkodnlkgblkfdaa
open Go Go.Abs Go.RowKit Go.Proofs.Ytkodnlkgblkfdaa.Ty
set_option maxHeartbeats 2000000
def rootR (l:List PairD):List UInt8:=if (wrongF l).1=0 then rootF l else []
end Go.Proofs.Ytkodnlkgblkfdaa
