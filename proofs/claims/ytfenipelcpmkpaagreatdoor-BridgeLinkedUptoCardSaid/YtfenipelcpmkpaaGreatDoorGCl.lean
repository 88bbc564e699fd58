/- Merged texts: ClP, ClQ, ClA, ClnKn, ClB, ClO, ClL, ClF. -/
import Derived.Test.YtfenipelcpmkpaaGreatDoorGProof
set_option linter.all false
set_option maxHeartbeats 4000000
set_option maxRecDepth 20000
namespace Go.Proofs.YtfenipelcpmkpaaGreatDoor
open Go Go.Abs
structure aU where
 h:Int
 t:Int
 root:List UInt8
 next:List UInt8
structure aG where
 c:ByteArray
 trust:Int
 frozen:Bool
 known:List aU
structure Ab where
 fr:Int
 sg:gQ
 tr:List dJ
def jw (k:aU):List I:=[.s (.int .i64 k.h),.s (.int .i64 k.t),bI k.root,bI k.next]
def lQ (l:List aU):I:=.sl (l.map jw)
def Bc (k:aU):D:=.agg [.i (.s (.int .i64 k.h)),.i (.s (.int .i64 k.t)),.i (bI k.root),.i (bI k.next)]
def gW (c:aG):List I:=[.s (.string c.c),.s (.int .i64 c.trust),.s (.bool c.frozen),lQ c.known]
def fF (c:aG):D:=.agg [.i (.s (.string c.c)),.i (.s (.int .i64 c.trust)),.i (.s (.bool c.frozen)),.i (lQ c.known)]
def aax (u:Ab):List I:=.s (.int .i64 u.fr) :: (TG u.sg++[valsI u.tr])
def aaq (u:Ab):D:=.agg [.i (.s (.int .i64 u.fr)),.i (.s (.string u.sg.hdr.c)),.i (.s (.int .i64 u.sg.hdr.h)),.i (.s (.int .i64 u.sg.hdr.t)),.i (bI u.sg.hdr.root),.i (bI u.sg.hdr.vals),.i (bI u.sg.hdr.next),.i (valsI u.sg.vals),.i (votesI u.sg.votes),.i (valsI u.tr)]
def Ai:aU:=⟨0,0,[],[]⟩
def jQ:aG:=⟨⟨#[]⟩,0,false,[]⟩
def knE (k:aU):Int :=
 if k.h < 1\/¬ m_ k.h=true\/¬ m_ k.t=true then 3
 else if ¬ (k.root.length:Int)=32\/¬ (k.next.length:Int)=32 then 2 else 0
def QH:Option aU->List aU->Int
 | _,[]=>0
 | o,k :: t=>if knE k=0 then (if (o.any fun q=>decide (k.h<=q.h))=true then 2 else QH (some k) t) else knE k
def wrongC (c:aG):Int :=
 if iy c.c=true then
  (if c.trust < 1\/¬ m_ c.trust=true then 3
  else if (c.known.length:Int) < 1\/(30:Int) < c.known.length then 5 else QH none c.known)
 else 7
def kQ (l:List aU) (h:Int) (i:Nat):Int:=match (l.drop i).findIdx? (fun k=>decide (k.h=h)) with | some j=>((i+j:Nat):Int) | none=>-1
def ixK (l:List aU) (h:Int):Int:=kQ l h 0
theorem Be {l:List aU} {h:Int} {i:Nat} (hi:i < l.length):kQ l h i=if l[i].h=h then (i:Int) else kQ l h (i+1):=by
 unfold kQ
 rw [List.drop_eq_getElem_cons hi,List.findIdx?_cons]
 by_cases e:l[i].h=h
 ·simp [e]
 ·simp only [e,decide_false,Bool.false_eq_true,if_false]
  cases (l.drop (i+1)).findIdx? (fun k=>decide (k.h=h)) with
  | none=>rfl
  | some j=>simp; omega
theorem Bf {l:List aU} {h:Int} {i:Nat} (hi:¬ i < l.length):kQ l h i=-1:=by
 unfold kQ
 rw [List.drop_eq_nil_of_le (by omega)]; rfl
def atC (c:aG) (h:Int):Option aU:=c.known.find? fun k=>decide (k.h=h)
theorem at_case (c:aG) (h:Int):(atC c h=none/\ixK c.known h=-1)\/∃ i,∃ hi:i < c.known.length,ixK c.known h=i/\atC c h=some c.known[i]:=by
 unfold atC ixK kQ
 rw [List.drop_zero]
 cases e:c.known.findIdx? (fun k=>decide (k.h=h)) with
 | none =>
  left
  rw [List.findIdx?_eq_none_iff] at e
  exact ⟨List.find?_eq_none.2 fun x hx=>by simpa using e x hx,rfl⟩
 | some i =>
  right
  obtain ⟨hi,h1,h2⟩:=List.findIdx?_eq_some_iff_getElem.1 e
  refine ⟨i,hi,by simp,?_⟩
  rw [List.find?_eq_some_iff_getElem]
  exact ⟨h1,i,hi,rfl,fun j hj=>by simpa using h2 j hj⟩
def atR (c:aG) (h:Int):aU × Bool:=match atC c h with | some k=>(k,true) | none=>(Ai,false)
def jy (c:aG):aU:=c.known.getLastD Ai
def gp (c:aG) (now:Int):Bool:=!c.frozen && decide (now - (jy c).t < c.trust)
def FX (c:ByteArray) (trust:Int) (k:aU):aG × Int:=if wrongC ⟨c,trust,false,[k]⟩=0 then (⟨c,trust,false,[k]⟩,0) else (jQ,wrongC ⟨c,trust,false,[k]⟩)
def abG (u:Ab) (k:aU):Int :=
 if u.sg.hdr.h=k.h+1 then (if u.sg.hdr.vals=k.next then 0 else 8)
 else if jJ u.tr=0 then (if bW u.tr=k.next then (if Qk u.tr u.sg=true then 0 else 10) else 8) else jJ u.tr
def aaz (c:aG) (u:Ab) (now:Int) (k:aU):Int :=
 if u.sg.hdr.c=c.c then
  (if c.trust<=now - k.t then 11
  else if u.sg.hdr.h<=k.h then 3
  else if u.sg.hdr.t<=k.t\/now+10 < u.sg.hdr.t then 11
  else abG u k)
 else 7
def beE (c:aG) (u:Ab) (now:Int):Int :=
 if kg u.sg=0 then (match atC c u.fr with | none=>6 | some k=>aaz c u now k) else kg u.sg
def eU (c:aG) (now:Int):Int :=
 if wrongC c=0 then (if m_ now=true then (if c.frozen=true then 12 else 0) else 3) else wrongC c
def ofH (h:lm):aU:=⟨h.h,h.t,h.root,h.next⟩
def ja (l:List aU) (h:Int):Nat:=(l.takeWhile fun k=>decide (k.h < h)).length
def IK (l:List aU):List aU:=if (30:Int) < l.length then l.drop 1 else l
def aar (o k:aU):Bool:=decide (o.t=k.t) && (decide (o.root=k.root) && decide (o.next=k.next))
def WI (l:List aU) (i:Nat) (k:aU):Bool:=(decide (0 < i) && (l[i - 1]?).any fun p=>decide (k.t<=p.t)) || (l[i]?).any fun p=>decide (p.t<=k.t)
def Ag (c:aG) (k:aU):aG :=
 match atC c k.h with
 | some o=>if aar o k=true then c else { c with frozen:=true }
 | none=>if WI c.known (ja c.known k.h) k=true then { c with frozen:=true }
  else { c with known:=IK (c.known.take (ja c.known k.h)++k :: c.known.drop (ja c.known k.h)) }
def gM (c:aG) (u:Ab) (now:Int):aG × Int :=
 if eU c now=0 then (if beE c u now=0 then (Ag c (ofH u.sg.hdr),0) else (jQ,beE c u now)) else (jQ,eU c now)
def nG (c:aG) (a b:Ab) (now:Int):aG × Int :=
 if eU c now=0 then (if beE c a now=0 then (if beE c b now=0 then (if a.sg.hdr.h=b.sg.hdr.h/\¬ bQ a.sg.hdr=bQ b.sg.hdr then ({ c with frozen:=true },0) else (jQ,8)) else (jQ,beE c b now)) else (jQ,beE c a now)) else (jQ,eU c now)
attribute [simp,go_sem] jZ IG valsI votesI Xw Pi TG pX acx jw lQ Bc gW fF aax aaq sD bO jQ Ai
open Go.RowKit Go.Proofs.YtfenipelcpmkpaaGreatDoor.Ty
theorem RG (k:aU):PureD Tryz.prog 131 [.rp (jw k) 0] (intD (knE k)):=by
 refine ak fun R hR=>?_
 have c1:=rJ k.h
 have c2:=rJ k.t
 unfold knE at hR
 refine aa 40 Tryz.func131 rfl rfl rfl (fun _ _=>rfl) ?_
 exact wkl trivial
def Uw (l:List aU) (i:Nat):Option aU:=if i=0 then none else l[i - 1]?
theorem zz (c:aG) (hl:c.known.length<=1048576):PureD Tryz.prog 80 [fF c] (intD (wrongC c)):=by
 refine ak fun R hR=>?_
 have c1:=Dz c.c
 have c2:=rJ c.trust
 unfold wrongC at hR
 refine aa 64 Tryz.func80 rfl rfl rfl (fun _ _=>rfl) ?_
 refine wkl ?_
 clear hR; intro hR _ _ _ _ _
 have hR':Hr (intD (QH (Uw c.known 0) (c.known.drop 0))) R:=hR
 clear hR
 refine aZ (ι:=Nat) (fun i=>i<=c.known.length/\Hr (intD (QH (Uw c.known i) (c.known.drop i))) R)
  (fun i=>ek [(1,.pt 100 0 0 0),(33,intD c.known.length),(34,intD i)] [(100,.box ((gW c).map .i))]) (fun i=>c.known.length - i) 0 ⟨Nat.zero_le _,hR'⟩ ?_ ?_
 ·exact dP [] [(100,1000)]
 ·rintro i ⟨hi,hR⟩ RL hL
  clear hR'
  rw [au]
  by_cases h:i < c.known.length
  ·have e1:=aH (f:=jw) h
   rw [List.drop_eq_getElem_cons h,QH] at hR
   have hnx:Uw c.known (i+1)=some c.known[i]:=by simp [Uw,h]
   rw [<- hnx] at hR
   have c3:=RG c.known[i]
   have b1:=fun σ' (hq:Hr _ R)=>bk [] [(100,100)] (hL (i+1) σ' ⟨h,hq⟩)
   clear hL
   cases i with
   | zero =>
    have hp:Uw c.known 0=none:=rfl
    rw [hp] at hR
    simp only [Option.any_none,Bool.false_eq_true,if_false] at hR
    clear hp hnx
    generalize hv0:c.known[0]=v at *
    exact wkl trivial
   | succ j =>
    have hj:j < c.known.length:=by omega
    have hp:Uw c.known (j+1)=some c.known[j]:=by simp [Uw,hj]
    have e2:=aH (f:=jw) hj
    rw [hp] at hR
    simp only [Option.any_some,decide_eq_true_eq] at hR
    have hg0:(0:Int) < ((j+1:Nat):Int):=by omega
    have w0:IntKind.i64.wrap (((j+1:Nat):Int) - 1)=(j:Int):=by rw [aD (by omega) (by omega)]; omega
    have n0:(((j+1:Nat):Int)).toNat=j+1:=by omega
    clear hnx hp
    generalize hv0:c.known[j+1]=v at *
    generalize hq0:c.known[j]=q at *
    exact wkl trivial
  ·rw [List.drop_eq_nil_of_le (by omega),QH] at hR
   exact wkl trivial
theorem xA:(type_of% @Ty.T0)/\(type_of% @Ty.T3)/\(type_of% @Ty.T5)/\(type_of% @Ty.T29)/\(type_of% @Ty.T35)/\(type_of% @Ty.T72):=⟨@Ty.T0,@Ty.T3,@Ty.T5,@Ty.T29,@Ty.T35,@Ty.T72⟩
theorem XL (l:List aU):uni 4 (l.map jw)=true:=by simp [uni,jw]
theorem zO (l:List aU) (hl:l.length<=1048576):aN Tryz.prog 150 [.i (.sl (l.map jw))] noH (.os 1 4 0 l.length) (hOf noH [(1,.arr 4 (l.map jw))]):=by
 cases l with
 | nil =>
  refine jv (fU Tryz.func150 rfl rfl) fun K vs hrd=>?_
  obtain ⟨hs,hg⟩:=hrd
  obtain ⟨a,c,hv⟩:=sl_nil (hg 0 _ rfl)
  refine ⟨[.i (.s (.slice a 0 c))],?_,hs,fun j d hd=>?_⟩
  ·have hun:=acA
   refine aa 8 Tryz.func150 rfl rfl rfl (fun _ _=>rfl) ?_
   cases a with
   | none =>
    simp -implicitDefEqProofs only [ev,mixed,Nat.reduceLT,Nat.reduceAdd,Nat.reduceMul,reduceIte,Nat.reduceEqDiff,reduceCtorEq,Nat.reducePow,Nat.reduceLeDiff,Int.reduceLE,Int.reduceLT,Int.reduceToNat,Int.reduceEq,Nat.reduceBEq,dV,gdA,af,il,kE,ixQ,ldH,aF,aj,bC,faQ,exQ,kU,dO,bS,slQ,stH,kV,kW,aS,bq,ae,D.one,jP,dH,dX,cvH,xA,dR hun,Option.isNone_none]
    exact Ah [] []
   | some a =>
    simp -implicitDefEqProofs only [ev,mixed,Nat.reduceLT,Nat.reduceAdd,Nat.reduceMul,reduceIte,Nat.reduceEqDiff,reduceCtorEq,Nat.reducePow,Nat.reduceLeDiff,Int.reduceLE,Int.reduceLT,Int.reduceToNat,Int.reduceEq,Nat.reduceBEq,dV,gdA,af,il,kE,ixQ,ldH,aF,aj,bC,faQ,exQ,kU,dO,bS,slQ,stH,kV,kW,aS,bq,ae,D.one,jP,dH,dX,cvH,xA,dR hun,Option.isNone_some]
    exact Ah [] [(1,1770)]
  ·cases j with
   | zero=>simp at hd; subst hd; rw [hv]; exact .i (.s _ rfl)
   | succ j=>simp at hd
 | cons p t =>
  have hu:=XL t
  have e3:t.length+1<=140737488355328:=by simp at hl; omega
  have e4:(t.length+1) * 64<=140737488355328:=by simp at hl; omega
  have e5:(jw p).length=4:=rfl
  refine aa 8 Tryz.func150 rfl rfl rfl (fun _ _=>rfl) ?_
  refine gx (an (an (an (an (an (an (an xA hu) e3) e4) e5) @List.map_cons.{0,0}) @List.length_cons.{0}) @List.length_map.{0,0}) ?_
  exact Ah [] [(1,1770)]
structure abS (k:aU):Prop where
 r:k.root.length<=1048576
 n:k.next.length<=1048576
structure aap (c:aG):Prop where
 l:c.known.length<=1048576
 k:∀ k∈c.known,abS k
theorem p_ {α:Type} {f:α->List I} {l:List α} {i:Nat} (h:i < l.length):(l.map f).set i (f l[i])=l.map f:=by
 refine List.ext_getElem (by simp) fun j h1 h2=>?_
 rw [List.getElem_set]
 split
 ·rename_i e; subst e; simp
 ·rfl
theorem MU (c:aG) (hc:aap c):PureD Tryz.prog 96 [fF c] (fF c):=by
 refine ak fun R hR=>?_
 have hcl:=hc.l
 have e1:=zO c.known hcl
 refine aa 35 Tryz.func96 rfl rfl rfl (fun _ _=>rfl) ?_
 refine wkl ?_
 clear hR; intro hR
 refine aZ (ι:=Nat) (fun i=>i<=c.known.length)
  (fun i=>ek [(1,.pt 100 0 0 0),(2,.pt 101 0 0 0),(10,.os 102 4 0 c.known.length),(11,intD c.known.length),(12,intD i)] [(100,.box [.i (.s (.string c.c)),.i (.s (.int .i64 c.trust)),.i (.s (.bool c.frozen)),.os 102 4 0 c.known.length]),(101,.box ((gW jQ).map .i)),(102,.arr 4 (c.known.map jw))])
  (fun i=>c.known.length - i) 0 (Nat.zero_le _) ?_ ?_
 ·exact dP [] [(100,1000),(101,1001),(102,901)]
 ·rintro i hi RL hL
  rw [au]
  by_cases h:i < c.known.length
  ·have s0:=aH (f:=jw) h
   have s1:=p_ (f:=jw) h
   have hk:=hc.k _ (List.getElem_mem h)
   have c1:=dZ c.known[i].root (by have:=hk.r; omega)
   have c2:=dZ c.known[i].next (by have:=hk.n; omega)
   have b1:=fun σ'=>bk [] [(100,100),(101,101),(102,102)] (hL (i+1) σ' h)
   clear hL e1 hk
   generalize c.known[i]=k at *
   simp only [jw,bI] at s0 s1
   exact wkl trivial
  ·exact wkl trivial
theorem Wo (k:aU) (h:Int):PureD Tryz.prog 112 [Bc k,.rp [.s (.int .i64 h)] 0] (boolD (decide (k.h=h))):=by
 refine ak fun R hR=>?_
 refine aa 8 Tryz.func112 rfl rfl rfl (fun _ _=>rfl) ?_
 exact wkl trivial
theorem RH (l:List aU) (h:Int) (hl:l.length<=1048576):PureD Tryz.prog 111 [.i (lQ l),.fn 112 [.rp [.s (.int .i64 h)] 0]] (intD (ixK l h)):=by
 refine ak fun R hR=>?_
 refine aa 19 Tryz.func111 rfl rfl rfl (fun _ _=>rfl) ?_
 refine wkl ?_
 clear hR; intro hR
 have hR':Hr (intD (kQ l h 0)) R:=hR
 clear hR
 refine aZ (ι:=Nat) (fun i=>i<=l.length/\Hr (intD (kQ l h i)) R)
  (fun i=>ek [(0,.i (lQ l)),(1,.fn 112 [.rp [.s (.int .i64 h)] 0]),(7,intD l.length),(8,intD i)] [])
  (fun i=>l.length - i) 0 ⟨Nat.zero_le _,hR'⟩ ?_ ?_
 ·exact dP [] []
 ·rintro i ⟨hi,hR⟩ RL hL
  clear hR'
  rw [au]
  by_cases hlt:i < l.length
  ·have s0:=aH (f:=jw) hlt
   rw [Be hlt] at hR
   have c1:=Wo l[i] h
   have b1:=fun σ' (hq:Hr _ R)=>bk [] [] (hL (i+1) σ' ⟨hlt,hq⟩)
   clear hL
   generalize l[i]=k at *
   exact wkl trivial
  ·rw [Bf hlt] at hR
   exact wkl trivial
theorem Wv (c:aG) (h:Int) (hc:aap c):PureD Tryz.prog 57 [fF c,intD h] (.tup [Bc (atR c h).1,boolD (atR c h).2]):=by
 refine ak fun R hR=>?_
 have c1:=RH c.known h hc.l
 have c2:=MU c hc
 unfold atR at hR
 rcases at_case c h with ⟨h1,h2⟩ | ⟨i,hi,h1,h2⟩
 ·rw [h2] at c1
  rw [h1] at hR
  simp only [Ai] at hR
  clear h1 h2
  refine aa 20 Tryz.func57 rfl rfl rfl (fun _ _=>rfl) ?_
  exact wkl trivial
 ·rw [h1] at c1
  rw [h2] at hR
  have s0:=aH (f:=jw) hi
  have hg:¬ (i:Int) < 0:=by omega
  clear h1 h2
  generalize c.known[i]=k at *
  refine aa 20 Tryz.func57 rfl rfl rfl (fun _ _=>rfl) ?_
  exact wkl trivial
theorem ZX (c:ByteArray) (t:Int) (k:aU) (hk:abS k):PureD Tryz.prog 50 [sD c,intD t,Bc k] (.tup [fF (FX c t k).1,intD (FX c t k).2]):=by
 refine ak fun R hR=>?_
 have c1:=zz ⟨c,t,false,[k]⟩ (by simp)
 have c2:=MU ⟨c,t,false,[k]⟩ ⟨by simp,by simpa using hk⟩
 unfold FX at hR
 by_cases h:wrongC ⟨c,t,false,[k]⟩=0
 ·rw [if_pos h] at hR
  rw [h] at c1
  clear h hk
  refine aa 23 Tryz.func50 rfl rfl rfl (fun _ _=>rfl) ?_
  exact wkl trivial
 ·rw [if_neg h] at hR
  simp only [jQ] at hR
  generalize wrongC ⟨c,t,false,[k]⟩=W at *
  clear hk c2
  refine aa 23 Tryz.func50 rfl rfl rfl (fun _ _=>rfl) ?_
  exact wkl trivial
theorem Nz (c:aG) (now:Int) (hl:0 < c.known.length) (hn:-1000000000001<=now/\now<=1000000000001) (ht:-1000000000001<=(jy c).t/\(jy c).t<=1000000000001) (hl':c.known.length<=1048576) :
  PureD Tryz.prog 58 [fF c,intD now] (boolD (gp c now)):=by
 refine ak fun R hR=>?_
 unfold gp at hR
 have hi:c.known.length - 1 < c.known.length:=by omega
 have s0:=aH (f:=jw) hi
 have hlast:jy c=c.known[c.known.length - 1]:=by unfold jy; rw [List.getLastD_eq_getLast?,List.getLast?_eq_getElem?,List.getElem?_eq_getElem hi]; rfl
 rw [hlast] at hR ht
 have w1:IntKind.i64.wrap ((c.known.length:Int) - 1)=((c.known.length - 1:Nat):Int):=by rw [aD (by omega) (by omega)]; omega
 clear hlast
 generalize c.known[c.known.length - 1]=k at *
 have w2:IntKind.i64.wrap (now - k.t)=now - k.t:=aD (by omega) (by omega)
 cases hf:c.frozen
 all_goals
  rw [hf] at hR
  simp only [Bool.not_true,Bool.not_false,Bool.true_and,Bool.false_and] at hR
  refine aa 24 Tryz.func58 rfl rfl rfl (fun _ _=>rfl) ?_
  exact wkl trivial
theorem tL (c:aG) (now:Int) (hl:c.known.length<=1048576):PureD Tryz.prog 56 [.rp (gW c) 0,intD now] (intD (eU c now)):=by
 refine ak fun R hR=>?_
 have c1:=zz c hl
 have c2:=rJ now
 unfold eU at hR
 generalize wrongC c=W at *
 refine aa 20 Tryz.func56 rfl rfl rfl (fun _ _=>rfl) ?_
 exact wkl trivial
theorem check_vals {s:gQ} (h:kg s=0):nH s.vals/\s.votes.length=s.vals.length/\fq s.hdr=0:=by
 unfold kg at h
 by_cases h1:fq s.hdr=0
 ·rw [if_pos h1] at h
  by_cases h2:jJ s.vals=0
  ·rw [if_pos h2] at h
   by_cases h3:(s.votes.length:Int)=s.vals.length
   ·exact ⟨gY.1 h2,by omega,h1⟩
   ·rw [if_neg h3] at h; cases h
  ·rw [if_neg h2] at h; exact absurd h h2
 ·rw [if_neg h1] at h; exact absurd h h1
theorem B_ {h:lm} (hw:fq h=0):1<=h.h/\h.h<=1000000000000/\0<=h.t/\h.t<=1000000000000/\h.root.length=32/\h.vals.length=32/\h.next.length=32:=by
 unfold fq m_ at hw
 simp only [decide_eq_true_eq] at hw
 split at hw
 ·split at hw
  ·cases hw
  ·split at hw
   ·cases hw
   ·rename_i a b; omega
 ·cases hw
structure TQ (k:aU):Prop where
 h:1<=k.h/\k.h<=1000000000000
 t:0<=k.t/\k.t<=1000000000000
 r:k.root.length=32
 n:k.next.length=32
theorem knE_zero {k:aU}:knE k=0↔TQ k:=by
 unfold knE m_
 simp only [decide_eq_true_eq]
 constructor
 ·intro h
  split at h
  ·cases h
  ·split at h
   ·cases h
   ·exact ⟨by omega,by omega,by omega,by omega⟩
 ·rintro ⟨a,b,c,d⟩
  rw [if_neg (by omega),if_neg (by omega)]
theorem knsE_zero:∀ {o:Option aU} {l:List aU},QH o l=0↔(∀ k∈l,TQ k)/\l.Pairwise (fun a b=>a.h < b.h)/\(∀ q,o=some q->∀ k∈l,q.h < k.h)
 | o,[]=>by simp [QH]
 | o,k :: t=>by
  rw [QH]
  have ih:=knsE_zero (o:=some k) (l:=t)
  by_cases h1:knE k=0
  ·rw [if_pos h1]
   have k1:=knE_zero.1 h1
   by_cases h2:(o.any fun q=>decide (k.h<=q.h))=true
   ·rw [if_pos h2]
    constructor
    ·intro h; cases h
    ·rintro ⟨_,_,h⟩
     cases o with
     | none=>simp at h2
     | some q=>have:=h q rfl k (List.mem_cons_self ..); simp at h2; omega
   ·rw [if_neg h2,ih]
    constructor
    ·rintro ⟨a,b,c⟩
     refine ⟨fun x hx=>?_,List.pairwise_cons.2 ⟨c k rfl,b⟩,fun q hq x hx=>?_⟩
     ·rcases List.mem_cons.1 hx with rfl | hx
      ·exact k1
      ·exact a x hx
     ·subst hq
      simp at h2
      rcases List.mem_cons.1 hx with rfl | hx
      ·omega
      ·have:=c k rfl x hx; omega
    ·rintro ⟨a,b,c⟩
     have hb:=List.pairwise_cons.1 b
     exact ⟨fun x hx=>a x (List.mem_cons_of_mem _ hx),hb.2,fun q hq=>by injection hq with hq; subst hq; exact hb.1⟩
  ·rw [if_neg h1]
   constructor
   ·intro h; exact absurd h h1
   ·rintro ⟨a,_,_⟩; exact absurd (knE_zero.2 (a k (List.mem_cons_self ..))) h1
structure BN (c:aG):Prop where
 name:iy c.c=true
 trust:1<=c.trust/\c.trust<=1000000000000
 len:1<=c.known.length/\c.known.length<=30
 k:∀ k∈c.known,TQ k
 rise:c.known.Pairwise fun a b=>a.h < b.h
theorem fu {c:aG}:wrongC c=0↔BN c:=by
 unfold wrongC m_
 simp only [decide_eq_true_eq]
 constructor
 ·intro h
  split at h
  ·split at h
   ·cases h
   ·split at h
    ·cases h
    ·obtain ⟨a,b,_⟩:=knsE_zero.1 h
     exact ⟨by assumption,by omega,by omega,a,b⟩
  ·cases h
 ·rintro ⟨a,b,d,e,f⟩
  rw [if_pos a,if_neg (by omega),if_neg (by omega)]
  exact knsE_zero.2 ⟨e,f,fun q hq=>by cases hq⟩
theorem BN.sm {c:aG} (h:BN c):aap c:=⟨by have:=h.len; omega,fun k hk=>⟨by have:=(h.k k hk).r; omega,by have:=(h.k k hk).n; omega⟩⟩
theorem at_mem {c:aG} {h:Int} {k:aU} (e:atC c h=some k):k∈c.known/\k.h=h:=by
 unfold atC at e
 exact ⟨List.mem_of_find?_eq_some e,by simpa using List.find?_some e⟩
theorem Tk (l:List aU) (h:Int):ja l h<=l.length:=(List.takeWhile_prefix _).length_le
theorem qx {h:Int}:∀ {l:List aU},l.Pairwise (fun a b=>a.h < b.h)->∀ a (ha:a < l.length),l[a].h < h↔a < ja l h
 | k :: t,hs,a,ha=>by
  obtain ⟨h1,h2⟩:=List.pairwise_cons.1 hs
  unfold ja
  by_cases hk:k.h < h
  ·rw [List.takeWhile_cons_of_pos (by simpa using hk),List.length_cons]
   cases a with
   | zero=>simp [hk]
   | succ a =>
    have:=qx (h:=h) h2 a (by simpa using ha)
    unfold ja at this
    simp only [List.getElem_cons_succ]; omega
  ·rw [List.takeWhile_cons_of_neg (by simpa using hk),List.length_nil]
   cases a with
   | zero=>simp only [List.getElem_cons_zero]; omega
   | succ a =>
    have ha':a < t.length:=by simpa using ha
    have:=h1 t[a] (List.getElem_mem _)
    simp only [List.getElem_cons_succ]; omega
theorem low_case {c:aG} (h:Int) (hs:c.known.Pairwise fun a b=>a.h < b.h) :
  (∃ hp:ja c.known h < c.known.length,(c.known[ja c.known h]'hp).h=h/\atC c h=some (c.known[ja c.known h]'hp))\/((∀ hp:ja c.known h < c.known.length,¬ (c.known[ja c.known h]'hp).h=h)/\atC c h=none):=by
 cases e:atC c h with
 | some k =>
  left
  obtain ⟨hm,hk⟩:=at_mem e
  obtain ⟨i,hi,rfl⟩:=List.getElem_of_mem hm
  have h1:=(qx (h:=h) hs i hi)
  have h2:¬ i < ja c.known h:=by rw [<- h1]; omega
  have h3:¬ ja c.known h < i:=by
   intro h3
   have a1:=qx (h:=h) hs (ja c.known h) (by omega)
   have a2:=List.pairwise_iff_getElem.1 hs _ _ (by omega) hi h3
   omega
  have h4:ja c.known h=i:=by omega
  revert h4
  generalize ja c.known h=p
  rintro rfl
  exact ⟨hi,hk,rfl⟩
 | none =>
  right
  refine ⟨fun hp hk=>?_,rfl⟩
  have:=List.find?_eq_none.1 e _ (List.getElem_mem hp)
  simp [hk] at this
theorem asked_zero {c:aG} {now:Int}:eU c now=0↔BN c/\(0<=now/\now<=1000000000000)/\c.frozen=false:=by
 unfold eU m_
 simp only [decide_eq_true_eq]
 constructor
 ·intro h
  split at h
  ·rename_i hw
   split at h
   ·rename_i hn
    split at h
    ·cases h
    ·rename_i hf; exact ⟨fu.1 hw,hn,by simpa using hf⟩
   ·cases h
  ·exact absurd h ‹_›
 ·rintro ⟨a,b,d⟩
  rw [if_pos (fu.2 a),if_pos b,d]; rfl
theorem WF {c:aG} {u:Ab} {now:Int} (h:beE c u now=0):kg u.sg=0/\∃ k,atC c u.fr=some k/\aaz c u now k=0:=by
 unfold beE at h
 split at h
 ·refine ⟨by assumption,?_⟩
  split at h
  ·cases h
  ·exact ⟨_,by assumption,h⟩
 ·exact absurd h ‹_›
theorem be_hdr {c:aG} {u:Ab} {now:Int} (h:beE c u now=0):TQ (ofH u.sg.hdr)/\u.sg.hdr.vals.length=32:=by
 have:=B_ (check_vals (WF h).1).2.2
 exact ⟨⟨⟨this.1,this.2.1⟩,⟨this.2.2.1,this.2.2.2.1⟩,this.2.2.2.2.1,this.2.2.2.2.2.2⟩,this.2.2.2.2.2.1⟩
attribute [simp,go_sem] ay Jn bbI
def bV (c:aG) (now h:Int) (key val:List UInt8) (p:gu):Int :=
 if eU c now=0 then
  (match atC c h with
  | none=>6
  | some k=>if gp c now=true then (if p.k=key/\p.v=val/\gJ k.root p=true then 0 else 9) else 11)
 else eU c now
def oV (c:aG) (now h:Int) (key:List UInt8) (g:TR):Int :=
 if eU c now=0 then
  (match atC c h with
  | none=>6
  | some k=>if gp c now=true then (if z_ k.root key g=true then 0 else 9) else 11)
 else eU c now
theorem QE {c:aG} (h:1<=c.known.length):jy c∈c.known:=by
 unfold jy
 rw [List.getLastD_eq_getLast?,List.getLast?_eq_getElem?,List.getElem?_eq_getElem (by omega)]
 exact List.getElem_mem _
theorem Sn {c:aG} {now:Int} (ok:BN c) (hn:0<=now/\now<=1000000000000):PureD Tryz.prog 58 [fF c,intD now] (boolD (gp c now)):=by
 have hl:=ok.len
 have hk:=(ok.k _ (QE hl.1)).t
 exact Nz c now (by omega) (by omega) (by omega) (by omega)
theorem mf (c:aG) (now h:Int) (key val:List UInt8) (p:gu) (hl:c.known.length<=1048576) :
  PureD Tryz.prog 18 [fF c,intD now,intD h,.i (bI key),.i (bI val),ay p] (intD (bV c now h key val p)):=by
 refine ak fun R hR=>?_
 have c1:=tL c now hl
 unfold bV at hR
 by_cases h1:eU c now=0
 ·obtain ⟨ok,hn,hfz⟩:=asked_zero.1 h1
  rw [if_pos h1] at hR
  rw [h1] at c1
  have c2:=Wv c h ok.sm
  have c3:=Sn ok hn
  have c4:=gN p.k key
  have c5:=gN p.v val
  unfold atR at c2
  clear h1 ok hn hfz hl
  cases h2:atC c h with
  | none =>
   rw [h2] at c2 hR
   simp only [Ai] at c2
   clear h2
   refine aa 55 Tryz.func18 rfl rfl rfl (fun _ _=>rfl) ?_
   exact wkl trivial
  | some k =>
   rw [h2] at c2 hR
   simp only at c2 hR
   have c6:=Cs k.root p
   clear h2
   generalize gp c now=A at *
   generalize gJ k.root p=B at *
   by_cases m1:p.k=key <;> by_cases m2:p.v=val <;> simp only [m1,m2,true_and,false_and,decide_true,decide_false,if_false] at hR c4 c5
   all_goals
    refine aa 55 Tryz.func18 rfl rfl rfl (fun _ _=>rfl) ?_
    exact wkl trivial
 ·rw [if_neg h1] at hR
  generalize eU c now=W at *
  refine aa 55 Tryz.func18 rfl rfl rfl (fun _ _=>rfl) ?_
  exact wkl trivial
theorem IP (c:aG) (now h:Int) (key:List UInt8) (g:TR) (hl:c.known.length<=1048576) :
  PureD Tryz.prog 20 [fF c,intD now,intD h,.i (bI key),Jn g] (intD (oV c now h key g)):=by
 refine ak fun R hR=>?_
 have c1:=tL c now hl
 unfold oV at hR
 by_cases h1:eU c now=0
 ·obtain ⟨ok,hn,hfz⟩:=asked_zero.1 h1
  rw [if_pos h1] at hR
  rw [h1] at c1
  have c2:=Wv c h ok.sm
  have c3:=Sn ok hn
  unfold atR at c2
  clear h1 ok hn hfz hl
  cases h2:atC c h with
  | none =>
   rw [h2] at c2 hR
   simp only [Ai] at c2
   clear h2
   refine aa 40 Tryz.func20 rfl rfl rfl (fun _ _=>rfl) ?_
   exact wkl trivial
  | some k =>
   rw [h2] at c2 hR
   simp only at c2 hR
   have c6:=Sq k.root key g
   clear h2
   generalize gp c now=A at *
   generalize z_ k.root key g=B at *
   refine aa 40 Tryz.func20 rfl rfl rfl (fun _ _=>rfl) ?_
   exact wkl trivial
 ·rw [if_neg h1] at hR
  generalize eU c now=W at *
  refine aa 40 Tryz.func20 rfl rfl rfl (fun _ _=>rfl) ?_
  exact wkl trivial
end Go.Proofs.YtfenipelcpmkpaaGreatDoor
