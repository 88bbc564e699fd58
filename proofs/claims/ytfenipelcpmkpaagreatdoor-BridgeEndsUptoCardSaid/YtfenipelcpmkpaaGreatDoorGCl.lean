/- Merged texts: ClP, ClQ, ClA, ClnKn, ClB, ClO, ClL, ClF. -/
import Derived.Test.YtfenipelcpmkpaaGreatDoorGProof
set_option linter.all false
set_option maxHeartbeats 4000000
set_option maxRecDepth 20000
namespace Go.Proofs.YtfenipelcpmkpaaGreatDoor
open Go Go.Abs
structure aT where
 h:Int
 t:Int
 root:List UInt8
 next:List UInt8
structure aG where
 c:ByteArray
 trust:Int
 frozen:Bool
 known:List aT
structure zA where
 fr:Int
 sg:gU
 tr:List dR
def je (k:aT):List I:=[.s (.int .i64 k.h),.s (.int .i64 k.t),bI k.root,bI k.next]
def lm (l:List aT):I:=.sl (l.map je)
def Au (k:aT):D:=.agg [.i (.s (.int .i64 k.h)),.i (.s (.int .i64 k.t)),.i (bI k.root),.i (bI k.next)]
def gI (c:aG):List I:=[.s (.string c.c),.s (.int .i64 c.trust),.s (.bool c.frozen),lm c.known]
def fo (c:aG):D:=.agg [.i (.s (.string c.c)),.i (.s (.int .i64 c.trust)),.i (.s (.bool c.frozen)),.i (lm c.known)]
def Zv (u:zA):List I:=.s (.int .i64 u.fr) :: (Sw u.sg++[valsI u.tr])
def Zm (u:zA):D:=.agg [.i (.s (.int .i64 u.fr)),.i (.s (.string u.sg.hdr.c)),.i (.s (.int .i64 u.sg.hdr.h)),.i (.s (.int .i64 u.sg.hdr.t)),.i (bI u.sg.hdr.root),.i (bI u.sg.hdr.vals),.i (bI u.sg.hdr.next),.i (valsI u.sg.vals),.i (votesI u.sg.votes),.i (valsI u.tr)]
def BA:aT:=⟨0,0,[],[]⟩
def jE:aG:=⟨⟨#[]⟩,0,false,[]⟩
def knE (k:aT):Int :=
 if k.h < 1\/¬ vw k.h=true\/¬ vw k.t=true then 3
 else if ¬ (k.root.length:Int)=32\/¬ (k.next.length:Int)=32 then 2 else 0
def PQ:Option aT->List aT->Int
 | _,[]=>0
 | o,k :: t=>if knE k=0 then (if (o.any fun q=>decide (k.h<=q.h))=true then 2 else PQ (some k) t) else knE k
def wrongC (c:aG):Int :=
 if jK c.c=true then
  (if c.trust < 1\/¬ vw c.trust=true then 3
  else if (c.known.length:Int) < 1\/(30:Int) < c.known.length then 5 else PQ none c.known)
 else 7
def kz (l:List aT) (h:Int) (i:Nat):Int:=match (l.drop i).findIdx? (fun k=>decide (k.h=h)) with | some j=>((i+j:Nat):Int) | none=>-1
def ixK (l:List aT) (h:Int):Int:=kz l h 0
theorem Aw {l:List aT} {h:Int} {i:Nat} (hi:i < l.length):kz l h i=if l[i].h=h then (i:Int) else kz l h (i+1):=by
 unfold kz
 rw [List.drop_eq_getElem_cons hi,List.findIdx?_cons]
 by_cases e:l[i].h=h
 ·simp [e]
 ·simp only [e,decide_false,Bool.false_eq_true,if_false]
  cases (l.drop (i+1)).findIdx? (fun k=>decide (k.h=h)) with
  | none=>rfl
  | some j=>simp; omega
theorem Ay {l:List aT} {h:Int} {i:Nat} (hi:¬ i < l.length):kz l h i=-1:=by
 unfold kz
 rw [List.drop_eq_nil_of_le (by omega)]; rfl
def atC (c:aG) (h:Int):Option aT:=c.known.find? fun k=>decide (k.h=h)
theorem at_case (c:aG) (h:Int):(atC c h=none/\ixK c.known h=-1)\/∃ i,∃ hi:i < c.known.length,ixK c.known h=i/\atC c h=some c.known[i]:=by
 unfold atC ixK kz
 rw [List.drop_zero]
 cases e:c.known.findIdx? (fun k=>decide (k.h=h)) with
 | none =>
  left
  rw [List.findIdx?_eq_none_iff] at e
  exact ⟨List.find?_eq_none.2 fun x hx=>by simpa using e x hx,rfl⟩
 | some i =>
  right
  obtain ⟨hi,h1,h2⟩:=List.findIdx?_eq_some_iff_getElem.1 e
  refine ⟨i,hi,by simp,?_⟩
  rw [List.find?_eq_some_iff_getElem]
  exact ⟨h1,i,hi,rfl,fun j hj=>by simpa using h2 j hj⟩
def atR (c:aG) (h:Int):aT × Bool:=match atC c h with | some k=>(k,true) | none=>(BA,false)
def kK (c:aG):aT:=c.known.getLastD BA
def gT (c:aG) (now:Int):Bool:=!c.frozen && decide (now - (kK c).t < c.trust)
def IJ (c:ByteArray) (trust:Int) (k:aT):aG × Int:=if wrongC ⟨c,trust,false,[k]⟩=0 then (⟨c,trust,false,[k]⟩,0) else (jE,wrongC ⟨c,trust,false,[k]⟩)
def abh (u:zA) (k:aT):Int :=
 if u.sg.hdr.h=k.h+1 then (if u.sg.hdr.vals=k.next then 0 else 8)
 else if jw u.tr=0 then (if dh u.tr=k.next then (if Ps u.tr u.sg=true then 0 else 10) else 8) else jw u.tr
def aaE (c:aG) (u:zA) (now:Int) (k:aT):Int :=
 if u.sg.hdr.c=c.c then
  (if c.trust<=now - k.t then 11
  else if u.sg.hdr.h<=k.h then 3
  else if u.sg.hdr.t<=k.t\/now+10 < u.sg.hdr.t then 11
  else abh u k)
 else 7
def beE (c:aG) (u:zA) (now:Int):Int :=
 if oG u.sg=0 then (match atC c u.fr with | none=>6 | some k=>aaE c u now k) else oG u.sg
def fG (c:aG) (now:Int):Int :=
 if wrongC c=0 then (if vw now=true then (if c.frozen=true then 12 else 0) else 3) else wrongC c
def ofH (h:oQ):aT:=⟨h.h,h.t,h.root,h.next⟩
def jD (l:List aT) (h:Int):Nat:=(l.takeWhile fun k=>decide (k.h < h)).length
def Oo (l:List aT):List aT:=if (30:Int) < l.length then l.drop 1 else l
def Zn (o k:aT):Bool:=decide (o.t=k.t) && (decide (o.root=k.root) && decide (o.next=k.next))
def Zx (l:List aT) (i:Nat) (k:aT):Bool:=(decide (0 < i) && (l[i - 1]?).any fun p=>decide (k.t<=p.t)) || (l[i]?).any fun p=>decide (p.t<=k.t)
def Br (c:aG) (k:aT):aG :=
 match atC c k.h with
 | some o=>if Zn o k=true then c else { c with frozen:=true }
 | none=>if Zx c.known (jD c.known k.h) k=true then { c with frozen:=true }
  else { c with known:=Oo (c.known.take (jD c.known k.h)++k :: c.known.drop (jD c.known k.h)) }
def iA (c:aG) (u:zA) (now:Int):aG × Int :=
 if fG c now=0 then (if beE c u now=0 then (Br c (ofH u.sg.hdr),0) else (jE,beE c u now)) else (jE,fG c now)
def mU (c:aG) (a b:zA) (now:Int):aG × Int :=
 if fG c now=0 then (if beE c a now=0 then (if beE c b now=0 then (if a.sg.hdr.h=b.sg.hdr.h/\¬ dn a.sg.hdr=dn b.sg.hdr then ({ c with frozen:=true },0) else (jE,8)) else (jE,beE c b now)) else (jE,beE c a now)) else (jE,fG c now)
attribute [simp,go_sem] jd FQ valsI votesI Ws Ol Sw pF abp je lm Au gI fo Zv Zm sD bR jE BA
open Go.RowKit Go.Proofs.YtfenipelcpmkpaaGreatDoor.Ty
theorem QL (k:aT):PureD Tryz.prog 131 [.rp (je k) 0] (intD (knE k)):=by
 refine au fun R hR=>?_
 have c1:=qP k.h
 have c2:=qP k.t
 unfold knE at hR
 refine aa 40 Tryz.func131 rfl rfl rfl (fun _ _=>rfl) ?_
 exact wkl trivial
def Tz (l:List aT) (i:Nat):Option aT:=if i=0 then none else l[i - 1]?
theorem yO (c:aG) (hl:c.known.length<=1048576):PureD Tryz.prog 80 [fo c] (intD (wrongC c)):=by
 refine au fun R hR=>?_
 have c1:=C_ c.c
 have c2:=qP c.trust
 unfold wrongC at hR
 refine aa 64 Tryz.func80 rfl rfl rfl (fun _ _=>rfl) ?_
 refine wkl ?_
 clear hR; intro hR _ _ _ _ _
 have hR':Hr (intD (PQ (Tz c.known 0) (c.known.drop 0))) R:=hR
 clear hR
 refine aW (ι:=Nat) (fun i=>i<=c.known.length/\Hr (intD (PQ (Tz c.known i) (c.known.drop i))) R)
  (fun i=>dZ [(1,.pt 100 0 0 0),(33,intD c.known.length),(34,intD i)] [(100,.box ((gI c).map .i))]) (fun i=>c.known.length - i) 0 ⟨Nat.zero_le _,hR'⟩ ?_ ?_
 ·exact dK [] [(100,1000)]
 ·rintro i ⟨hi,hR⟩ RL hL
  clear hR'
  rw [ak]
  by_cases h:i < c.known.length
  ·have e1:=aF (f:=je) h
   rw [List.drop_eq_getElem_cons h,PQ] at hR
   have hnx:Tz c.known (i+1)=some c.known[i]:=by simp [Tz,h]
   rw [<- hnx] at hR
   have c3:=QL c.known[i]
   have b1:=fun σ' (hq:Hr _ R)=>bk [] [(100,100)] (hL (i+1) σ' ⟨h,hq⟩)
   clear hL
   cases i with
   | zero =>
    have hp:Tz c.known 0=none:=rfl
    rw [hp] at hR
    simp only [Option.any_none,Bool.false_eq_true,if_false] at hR
    clear hp hnx
    generalize hv0:c.known[0]=v at *
    exact wkl trivial
   | succ j =>
    have hj:j < c.known.length:=by omega
    have hp:Tz c.known (j+1)=some c.known[j]:=by simp [Tz,hj]
    have e2:=aF (f:=je) hj
    rw [hp] at hR
    simp only [Option.any_some,decide_eq_true_eq] at hR
    have hg0:(0:Int) < ((j+1:Nat):Int):=by omega
    have w0:IntKind.i64.wrap (((j+1:Nat):Int) - 1)=(j:Int):=by rw [aC (by omega) (by omega)]; omega
    have n0:(((j+1:Nat):Int)).toNat=j+1:=by omega
    clear hnx hp
    generalize hv0:c.known[j+1]=v at *
    generalize hq0:c.known[j]=q at *
    exact wkl trivial
  ·rw [List.drop_eq_nil_of_le (by omega),PQ] at hR
   exact wkl trivial
theorem wR:(type_of% @Ty.T0)/\(type_of% @Ty.T3)/\(type_of% @Ty.T5)/\(type_of% @Ty.T29)/\(type_of% @Ty.T35)/\(type_of% @Ty.T72):=⟨@Ty.T0,@Ty.T3,@Ty.T5,@Ty.T29,@Ty.T35,@Ty.T72⟩
theorem WJ (l:List aT):uni 4 (l.map je)=true:=by simp [uni,je]
theorem zg (l:List aT) (hl:l.length<=1048576):aS Tryz.prog 150 [.i (.sl (l.map je))] noH (.os 1 4 0 l.length) (hOf noH [(1,.arr 4 (l.map je))]):=by
 cases l with
 | nil =>
  refine jc (fI Tryz.func150 rfl rfl) fun K vs hrd=>?_
  obtain ⟨hs,hg⟩:=hrd
  obtain ⟨a,c,hv⟩:=sl_nil (hg 0 _ rfl)
  refine ⟨[.i (.s (.slice a 0 c))],?_,hs,fun j d hd=>?_⟩
  ·have hun:=abt
   refine aa 8 Tryz.func150 rfl rfl rfl (fun _ _=>rfl) ?_
   cases a with
   | none =>
    simp -implicitDefEqProofs only [ev,mixed,Nat.reduceLT,Nat.reduceAdd,Nat.reduceMul,reduceIte,Nat.reduceEqDiff,reduceCtorEq,Nat.reducePow,Nat.reduceLeDiff,Int.reduceLE,Int.reduceLT,Int.reduceToNat,Int.reduceEq,Nat.reduceBEq,dV,gdA,af,gW,j_,ixQ,ldH,aD,aj,bC,faQ,exQ,kD,dN,bV,slQ,stH,kE,kF,aP,bq,ae,D.one,jC,dD,dW,cvH,wR,dQ hun,Option.isNone_none]
    exact zG [] []
   | some a =>
    simp -implicitDefEqProofs only [ev,mixed,Nat.reduceLT,Nat.reduceAdd,Nat.reduceMul,reduceIte,Nat.reduceEqDiff,reduceCtorEq,Nat.reducePow,Nat.reduceLeDiff,Int.reduceLE,Int.reduceLT,Int.reduceToNat,Int.reduceEq,Nat.reduceBEq,dV,gdA,af,gW,j_,ixQ,ldH,aD,aj,bC,faQ,exQ,kD,dN,bV,slQ,stH,kE,kF,aP,bq,ae,D.one,jC,dD,dW,cvH,wR,dQ hun,Option.isNone_some]
    exact zG [] [(1,1770)]
  ·cases j with
   | zero=>simp at hd; subst hd; rw [hv]; exact .i (.s _ rfl)
   | succ j=>simp at hd
 | cons p t =>
  have hu:=WJ t
  have e3:t.length+1<=140737488355328:=by simp at hl; omega
  have e4:(t.length+1) * 64<=140737488355328:=by simp at hl; omega
  have e5:(je p).length=4:=rfl
  refine aa 8 Tryz.func150 rfl rfl rfl (fun _ _=>rfl) ?_
  refine gx (an (an (an (an (an (an (an wR hu) e3) e4) e5) @List.map_cons.{0,0}) @List.length_cons.{0}) @List.length_map.{0,0}) ?_
  exact zG [] [(1,1770)]
structure aaQ (k:aT):Prop where
 r:k.root.length<=1048576
 n:k.next.length<=1048576
structure Zl (c:aG):Prop where
 l:c.known.length<=1048576
 k:∀ k∈c.known,aaQ k
theorem pG {α:Type} {f:α->List I} {l:List α} {i:Nat} (h:i < l.length):(l.map f).set i (f l[i])=l.map f:=by
 refine List.ext_getElem (by simp) fun j h1 h2=>?_
 rw [List.getElem_set]
 split
 ·rename_i e; subst e; simp
 ·rfl
theorem Mf (c:aG) (hc:Zl c):PureD Tryz.prog 96 [fo c] (fo c):=by
 refine au fun R hR=>?_
 have hcl:=hc.l
 have e1:=zg c.known hcl
 refine aa 35 Tryz.func96 rfl rfl rfl (fun _ _=>rfl) ?_
 refine wkl ?_
 clear hR; intro hR
 refine aW (ι:=Nat) (fun i=>i<=c.known.length)
  (fun i=>dZ [(1,.pt 100 0 0 0),(2,.pt 101 0 0 0),(10,.os 102 4 0 c.known.length),(11,intD c.known.length),(12,intD i)] [(100,.box [.i (.s (.string c.c)),.i (.s (.int .i64 c.trust)),.i (.s (.bool c.frozen)),.os 102 4 0 c.known.length]),(101,.box ((gI jE).map .i)),(102,.arr 4 (c.known.map je))])
  (fun i=>c.known.length - i) 0 (Nat.zero_le _) ?_ ?_
 ·exact dK [] [(100,1000),(101,1001),(102,901)]
 ·rintro i hi RL hL
  rw [ak]
  by_cases h:i < c.known.length
  ·have s0:=aF (f:=je) h
   have s1:=pG (f:=je) h
   have hk:=hc.k _ (List.getElem_mem h)
   have c1:=dX c.known[i].root (by have:=hk.r; omega)
   have c2:=dX c.known[i].next (by have:=hk.n; omega)
   have b1:=fun σ'=>bk [] [(100,100),(101,101),(102,102)] (hL (i+1) σ' h)
   clear hL e1 hk
   generalize c.known[i]=k at *
   simp only [je,bI] at s0 s1
   exact wkl trivial
  ·exact wkl trivial
theorem Vj (k:aT) (h:Int):PureD Tryz.prog 112 [Au k,.rp [.s (.int .i64 h)] 0] (boolD (decide (k.h=h))):=by
 refine au fun R hR=>?_
 refine aa 8 Tryz.func112 rfl rfl rfl (fun _ _=>rfl) ?_
 exact wkl trivial
theorem QM (l:List aT) (h:Int) (hl:l.length<=1048576):PureD Tryz.prog 111 [.i (lm l),.fn 112 [.rp [.s (.int .i64 h)] 0]] (intD (ixK l h)):=by
 refine au fun R hR=>?_
 refine aa 19 Tryz.func111 rfl rfl rfl (fun _ _=>rfl) ?_
 refine wkl ?_
 clear hR; intro hR
 have hR':Hr (intD (kz l h 0)) R:=hR
 clear hR
 refine aW (ι:=Nat) (fun i=>i<=l.length/\Hr (intD (kz l h i)) R)
  (fun i=>dZ [(0,.i (lm l)),(1,.fn 112 [.rp [.s (.int .i64 h)] 0]),(7,intD l.length),(8,intD i)] [])
  (fun i=>l.length - i) 0 ⟨Nat.zero_le _,hR'⟩ ?_ ?_
 ·exact dK [] []
 ·rintro i ⟨hi,hR⟩ RL hL
  clear hR'
  rw [ak]
  by_cases hlt:i < l.length
  ·have s0:=aF (f:=je) hlt
   rw [Aw hlt] at hR
   have c1:=Vj l[i] h
   have b1:=fun σ' (hq:Hr _ R)=>bk [] [] (hL (i+1) σ' ⟨hlt,hq⟩)
   clear hL
   generalize l[i]=k at *
   exact wkl trivial
  ·rw [Ay hlt] at hR
   exact wkl trivial
theorem Vp (c:aG) (h:Int) (hc:Zl c):PureD Tryz.prog 57 [fo c,intD h] (.tup [Au (atR c h).1,boolD (atR c h).2]):=by
 refine au fun R hR=>?_
 have c1:=QM c.known h hc.l
 have c2:=Mf c hc
 unfold atR at hR
 rcases at_case c h with ⟨h1,h2⟩ | ⟨i,hi,h1,h2⟩
 ·rw [h2] at c1
  rw [h1] at hR
  simp only [BA] at hR
  clear h1 h2
  refine aa 20 Tryz.func57 rfl rfl rfl (fun _ _=>rfl) ?_
  exact wkl trivial
 ·rw [h1] at c1
  rw [h2] at hR
  have s0:=aF (f:=je) hi
  have hg:¬ (i:Int) < 0:=by omega
  clear h1 h2
  generalize c.known[i]=k at *
  refine aa 20 Tryz.func57 rfl rfl rfl (fun _ _=>rfl) ?_
  exact wkl trivial
theorem YT (c:ByteArray) (t:Int) (k:aT) (hk:aaQ k):PureD Tryz.prog 50 [sD c,intD t,Au k] (.tup [fo (IJ c t k).1,intD (IJ c t k).2]):=by
 refine au fun R hR=>?_
 have c1:=yO ⟨c,t,false,[k]⟩ (by simp)
 have c2:=Mf ⟨c,t,false,[k]⟩ ⟨by simp,by simpa using hk⟩
 unfold IJ at hR
 by_cases h:wrongC ⟨c,t,false,[k]⟩=0
 ·rw [if_pos h] at hR
  rw [h] at c1
  clear h hk
  refine aa 23 Tryz.func50 rfl rfl rfl (fun _ _=>rfl) ?_
  exact wkl trivial
 ·rw [if_neg h] at hR
  simp only [jE] at hR
  generalize wrongC ⟨c,t,false,[k]⟩=W at *
  clear hk c2
  refine aa 23 Tryz.func50 rfl rfl rfl (fun _ _=>rfl) ?_
  exact wkl trivial
theorem MI (c:aG) (now:Int) (hl:0 < c.known.length) (hn:-1000000000001<=now/\now<=1000000000001) (ht:-1000000000001<=(kK c).t/\(kK c).t<=1000000000001) (hl':c.known.length<=1048576) :
  PureD Tryz.prog 58 [fo c,intD now] (boolD (gT c now)):=by
 refine au fun R hR=>?_
 unfold gT at hR
 have hi:c.known.length - 1 < c.known.length:=by omega
 have s0:=aF (f:=je) hi
 have hlast:kK c=c.known[c.known.length - 1]:=by unfold kK; rw [List.getLastD_eq_getLast?,List.getLast?_eq_getElem?,List.getElem?_eq_getElem hi]; rfl
 rw [hlast] at hR ht
 have w1:IntKind.i64.wrap ((c.known.length:Int) - 1)=((c.known.length - 1:Nat):Int):=by rw [aC (by omega) (by omega)]; omega
 clear hlast
 generalize c.known[c.known.length - 1]=k at *
 have w2:IntKind.i64.wrap (now - k.t)=now - k.t:=aC (by omega) (by omega)
 cases hf:c.frozen
 all_goals
  rw [hf] at hR
  simp only [Bool.not_true,Bool.not_false,Bool.true_and,Bool.false_and] at hR
  refine aa 24 Tryz.func58 rfl rfl rfl (fun _ _=>rfl) ?_
  exact wkl trivial
theorem rZ (c:aG) (now:Int) (hl:c.known.length<=1048576):PureD Tryz.prog 56 [.rp (gI c) 0,intD now] (intD (fG c now)):=by
 refine au fun R hR=>?_
 have c1:=yO c hl
 have c2:=qP now
 unfold fG at hR
 generalize wrongC c=W at *
 refine aa 20 Tryz.func56 rfl rfl rfl (fun _ _=>rfl) ?_
 exact wkl trivial
theorem check_vals {s:gU} (h:oG s=0):oK s.vals/\s.votes.length=s.vals.length/\fC s.hdr=0:=by
 unfold oG at h
 by_cases h1:fC s.hdr=0
 ·rw [if_pos h1] at h
  by_cases h2:jw s.vals=0
  ·rw [if_pos h2] at h
   by_cases h3:(s.votes.length:Int)=s.vals.length
   ·exact ⟨jF.1 h2,by omega,h1⟩
   ·rw [if_neg h3] at h; cases h
  ·rw [if_neg h2] at h; exact absurd h h2
 ·rw [if_neg h1] at h; exact absurd h h1
theorem BD {h:oQ} (hw:fC h=0):1<=h.h/\h.h<=1000000000000/\0<=h.t/\h.t<=1000000000000/\h.root.length=32/\h.vals.length=32/\h.next.length=32:=by
 unfold fC vw at hw
 simp only [decide_eq_true_eq] at hw
 split at hw
 ·split at hw
  ·cases hw
  ·split at hw
   ·cases hw
   ·rename_i a b; omega
 ·cases hw
structure SH (k:aT):Prop where
 h:1<=k.h/\k.h<=1000000000000
 t:0<=k.t/\k.t<=1000000000000
 r:k.root.length=32
 n:k.next.length=32
theorem knE_zero {k:aT}:knE k=0↔SH k:=by
 unfold knE vw
 simp only [decide_eq_true_eq]
 constructor
 ·intro h
  split at h
  ·cases h
  ·split at h
   ·cases h
   ·exact ⟨by omega,by omega,by omega,by omega⟩
 ·rintro ⟨a,b,c,d⟩
  rw [if_neg (by omega),if_neg (by omega)]
theorem knsE_zero:∀ {o:Option aT} {l:List aT},PQ o l=0↔(∀ k∈l,SH k)/\l.Pairwise (fun a b=>a.h < b.h)/\(∀ q,o=some q->∀ k∈l,q.h < k.h)
 | o,[]=>by simp [PQ]
 | o,k :: t=>by
  rw [PQ]
  have ih:=knsE_zero (o:=some k) (l:=t)
  by_cases h1:knE k=0
  ·rw [if_pos h1]
   have k1:=knE_zero.1 h1
   by_cases h2:(o.any fun q=>decide (k.h<=q.h))=true
   ·rw [if_pos h2]
    constructor
    ·intro h; cases h
    ·rintro ⟨_,_,h⟩
     cases o with
     | none=>simp at h2
     | some q=>have:=h q rfl k (List.mem_cons_self ..); simp at h2; omega
   ·rw [if_neg h2,ih]
    constructor
    ·rintro ⟨a,b,c⟩
     refine ⟨fun x hx=>?_,List.pairwise_cons.2 ⟨c k rfl,b⟩,fun q hq x hx=>?_⟩
     ·rcases List.mem_cons.1 hx with rfl | hx
      ·exact k1
      ·exact a x hx
     ·subst hq
      simp at h2
      rcases List.mem_cons.1 hx with rfl | hx
      ·omega
      ·have:=c k rfl x hx; omega
    ·rintro ⟨a,b,c⟩
     have hb:=List.pairwise_cons.1 b
     exact ⟨fun x hx=>a x (List.mem_cons_of_mem _ hx),hb.2,fun q hq=>by injection hq with hq; subst hq; exact hb.1⟩
  ·rw [if_neg h1]
   constructor
   ·intro h; exact absurd h h1
   ·rintro ⟨a,_,_⟩; exact absurd (knE_zero.2 (a k (List.mem_cons_self ..))) h1
structure Bw (c:aG):Prop where
 name:jK c.c=true
 trust:1<=c.trust/\c.trust<=1000000000000
 len:1<=c.known.length/\c.known.length<=30
 k:∀ k∈c.known,SH k
 rise:c.known.Pairwise fun a b=>a.h < b.h
theorem iN {c:aG}:wrongC c=0↔Bw c:=by
 unfold wrongC vw
 simp only [decide_eq_true_eq]
 constructor
 ·intro h
  split at h
  ·split at h
   ·cases h
   ·split at h
    ·cases h
    ·obtain ⟨a,b,_⟩:=knsE_zero.1 h
     exact ⟨by assumption,by omega,by omega,a,b⟩
  ·cases h
 ·rintro ⟨a,b,d,e,f⟩
  rw [if_pos a,if_neg (by omega),if_neg (by omega)]
  exact knsE_zero.2 ⟨e,f,fun q hq=>by cases hq⟩
theorem Bw.sm {c:aG} (h:Bw c):Zl c:=⟨by have:=h.len; omega,fun k hk=>⟨by have:=(h.k k hk).r; omega,by have:=(h.k k hk).n; omega⟩⟩
theorem at_mem {c:aG} {h:Int} {k:aT} (e:atC c h=some k):k∈c.known/\k.h=h:=by
 unfold atC at e
 exact ⟨List.mem_of_find?_eq_some e,by simpa using List.find?_some e⟩
theorem RX (l:List aT) (h:Int):jD l h<=l.length:=(List.takeWhile_prefix _).length_le
theorem pW {h:Int}:∀ {l:List aT},l.Pairwise (fun a b=>a.h < b.h)->∀ a (ha:a < l.length),l[a].h < h↔a < jD l h
 | k :: t,hs,a,ha=>by
  obtain ⟨h1,h2⟩:=List.pairwise_cons.1 hs
  unfold jD
  by_cases hk:k.h < h
  ·rw [List.takeWhile_cons_of_pos (by simpa using hk),List.length_cons]
   cases a with
   | zero=>simp [hk]
   | succ a =>
    have:=pW (h:=h) h2 a (by simpa using ha)
    unfold jD at this
    simp only [List.getElem_cons_succ]; omega
  ·rw [List.takeWhile_cons_of_neg (by simpa using hk),List.length_nil]
   cases a with
   | zero=>simp only [List.getElem_cons_zero]; omega
   | succ a =>
    have ha':a < t.length:=by simpa using ha
    have:=h1 t[a] (List.getElem_mem _)
    simp only [List.getElem_cons_succ]; omega
theorem low_case {c:aG} (h:Int) (hs:c.known.Pairwise fun a b=>a.h < b.h) :
  (∃ hp:jD c.known h < c.known.length,(c.known[jD c.known h]'hp).h=h/\atC c h=some (c.known[jD c.known h]'hp))\/((∀ hp:jD c.known h < c.known.length,¬ (c.known[jD c.known h]'hp).h=h)/\atC c h=none):=by
 cases e:atC c h with
 | some k =>
  left
  obtain ⟨hm,hk⟩:=at_mem e
  obtain ⟨i,hi,rfl⟩:=List.getElem_of_mem hm
  have h1:=(pW (h:=h) hs i hi)
  have h2:¬ i < jD c.known h:=by rw [<- h1]; omega
  have h3:¬ jD c.known h < i:=by
   intro h3
   have a1:=pW (h:=h) hs (jD c.known h) (by omega)
   have a2:=List.pairwise_iff_getElem.1 hs _ _ (by omega) hi h3
   omega
  have h4:jD c.known h=i:=by omega
  revert h4
  generalize jD c.known h=p
  rintro rfl
  exact ⟨hi,hk,rfl⟩
 | none =>
  right
  refine ⟨fun hp hk=>?_,rfl⟩
  have:=List.find?_eq_none.1 e _ (List.getElem_mem hp)
  simp [hk] at this
theorem asked_zero {c:aG} {now:Int}:fG c now=0↔Bw c/\(0<=now/\now<=1000000000000)/\c.frozen=false:=by
 unfold fG vw
 simp only [decide_eq_true_eq]
 constructor
 ·intro h
  split at h
  ·rename_i hw
   split at h
   ·rename_i hn
    split at h
    ·cases h
    ·rename_i hf; exact ⟨iN.1 hw,hn,by simpa using hf⟩
   ·cases h
  ·exact absurd h ‹_›
 ·rintro ⟨a,b,d⟩
  rw [if_pos (iN.2 a),if_pos b,d]; rfl
theorem Vy {c:aG} {u:zA} {now:Int} (h:beE c u now=0):oG u.sg=0/\∃ k,atC c u.fr=some k/\aaE c u now k=0:=by
 unfold beE at h
 split at h
 ·refine ⟨by assumption,?_⟩
  split at h
  ·cases h
  ·exact ⟨_,by assumption,h⟩
 ·exact absurd h ‹_›
theorem be_hdr {c:aG} {u:zA} {now:Int} (h:beE c u now=0):SH (ofH u.sg.hdr)/\u.sg.hdr.vals.length=32:=by
 have:=BD (check_vals (Vy h).1).2.2
 exact ⟨⟨⟨this.1,this.2.1⟩,⟨this.2.2.1,this.2.2.2.1⟩,this.2.2.2.2.1,this.2.2.2.2.2.2⟩,this.2.2.2.2.2.1⟩
attribute [simp,go_sem] ay IK bbI
def cZ (c:aG) (now h:Int) (key val:List UInt8) (p:fH):Int :=
 if fG c now=0 then
  (match atC c h with
  | none=>6
  | some k=>if gT c now=true then (if p.k=key/\p.v=val/\iQ k.root p=true then 0 else 9) else 11)
 else fG c now
def ou (c:aG) (now h:Int) (key:List UInt8) (g:SI):Int :=
 if fG c now=0 then
  (match atC c h with
  | none=>6
  | some k=>if gT c now=true then (if zy k.root key g=true then 0 else 9) else 11)
 else fG c now
theorem PN {c:aG} (h:1<=c.known.length):kK c∈c.known:=by
 unfold kK
 rw [List.getLastD_eq_getLast?,List.getLast?_eq_getElem?,List.getElem?_eq_getElem (by omega)]
 exact List.getElem_mem _
theorem Rh {c:aG} {now:Int} (ok:Bw c) (hn:0<=now/\now<=1000000000000):PureD Tryz.prog 58 [fo c,intD now] (boolD (gT c now)):=by
 have hl:=ok.len
 have hk:=(ok.k _ (PN hl.1)).t
 exact MI c now (by omega) (by omega) (by omega) (by omega)
theorem lM (c:aG) (now h:Int) (key val:List UInt8) (p:fH) (hl:c.known.length<=1048576) :
  PureD Tryz.prog 18 [fo c,intD now,intD h,.i (bI key),.i (bI val),ay p] (intD (cZ c now h key val p)):=by
 refine au fun R hR=>?_
 have c1:=rZ c now hl
 unfold cZ at hR
 by_cases h1:fG c now=0
 ·obtain ⟨ok,hn,hfz⟩:=asked_zero.1 h1
  rw [if_pos h1] at hR
  rw [h1] at c1
  have c2:=Vp c h ok.sm
  have c3:=Rh ok hn
  have c4:=gB p.k key
  have c5:=gB p.v val
  unfold atR at c2
  clear h1 ok hn hfz hl
  cases h2:atC c h with
  | none =>
   rw [h2] at c2 hR
   simp only [BA] at c2
   clear h2
   refine aa 55 Tryz.func18 rfl rfl rfl (fun _ _=>rfl) ?_
   exact wkl trivial
  | some k =>
   rw [h2] at c2 hR
   simp only at c2 hR
   have c6:=BU k.root p
   clear h2
   generalize gT c now=A at *
   generalize iQ k.root p=B at *
   by_cases m1:p.k=key <;> by_cases m2:p.v=val <;> simp only [m1,m2,true_and,false_and,decide_true,decide_false,if_false] at hR c4 c5
   all_goals
    refine aa 55 Tryz.func18 rfl rfl rfl (fun _ _=>rfl) ?_
    exact wkl trivial
 ·rw [if_neg h1] at hR
  generalize fG c now=W at *
  refine aa 55 Tryz.func18 rfl rfl rfl (fun _ _=>rfl) ?_
  exact wkl trivial
theorem Ij (c:aG) (now h:Int) (key:List UInt8) (g:SI) (hl:c.known.length<=1048576) :
  PureD Tryz.prog 20 [fo c,intD now,intD h,.i (bI key),IK g] (intD (ou c now h key g)):=by
 refine au fun R hR=>?_
 have c1:=rZ c now hl
 unfold ou at hR
 by_cases h1:fG c now=0
 ·obtain ⟨ok,hn,hfz⟩:=asked_zero.1 h1
  rw [if_pos h1] at hR
  rw [h1] at c1
  have c2:=Vp c h ok.sm
  have c3:=Rh ok hn
  unfold atR at c2
  clear h1 ok hn hfz hl
  cases h2:atC c h with
  | none =>
   rw [h2] at c2 hR
   simp only [BA] at c2
   clear h2
   refine aa 40 Tryz.func20 rfl rfl rfl (fun _ _=>rfl) ?_
   exact wkl trivial
  | some k =>
   rw [h2] at c2 hR
   simp only at c2 hR
   have c6:=Ri k.root key g
   clear h2
   generalize gT c now=A at *
   generalize zy k.root key g=B at *
   refine aa 40 Tryz.func20 rfl rfl rfl (fun _ _=>rfl) ?_
   exact wkl trivial
 ·rw [if_neg h1] at hR
  generalize fG c now=W at *
  refine aa 40 Tryz.func20 rfl rfl rfl (fun _ _=>rfl) ?_
  exact wkl trivial
end Go.Proofs.YtfenipelcpmkpaaGreatDoor
