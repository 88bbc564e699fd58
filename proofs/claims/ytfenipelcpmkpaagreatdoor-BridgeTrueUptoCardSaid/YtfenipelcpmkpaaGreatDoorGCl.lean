/- Merged texts: ClP, ClQ, ClA, ClnKn, ClB, ClO, ClL, ClF. -/
import Derived.Test.YtfenipelcpmkpaaGreatDoorGProof
set_option linter.all false
set_option maxHeartbeats 4000000
set_option maxRecDepth 20000
namespace Go.Proofs.YtfenipelcpmkpaaGreatDoor
open Go Go.Abs
structure aS where
 h:Int
 t:Int
 root:List UInt8
 next:List UInt8
structure aG where
 c:ByteArray
 trust:Int
 frozen:Bool
 known:List aS
structure zu where
 fr:Int
 sg:gU
 tr:List dN
def iP (k:aS):List I:=[.s (.int .i64 k.h),.s (.int .i64 k.t),bI k.root,bI k.next]
def lh (l:List aS):I:=.sl (l.map iP)
def Al (k:aS):D:=.agg [.i (.s (.int .i64 k.h)),.i (.s (.int .i64 k.t)),.i (bI k.root),.i (bI k.next)]
def fZ (c:aG):List I:=[.s (.string c.c),.s (.int .i64 c.trust),.s (.bool c.frozen),lh c.known]
def fo (c:aG):D:=.agg [.i (.s (.string c.c)),.i (.s (.int .i64 c.trust)),.i (.s (.bool c.frozen)),.i (lh c.known)]
def Zr (u:zu):List I:=.s (.int .i64 u.fr) :: (Sq u.sg++[valsI u.tr])
def Zk (u:zu):D:=.agg [.i (.s (.int .i64 u.fr)),.i (.s (.string u.sg.hdr.c)),.i (.s (.int .i64 u.sg.hdr.h)),.i (.s (.int .i64 u.sg.hdr.t)),.i (bI u.sg.hdr.root),.i (bI u.sg.hdr.vals),.i (bI u.sg.hdr.next),.i (valsI u.sg.vals),.i (votesI u.sg.votes),.i (valsI u.tr)]
def Bp:aS:=⟨0,0,[],[]⟩
def jG:aG:=⟨⟨#[]⟩,0,false,[]⟩
def knE (k:aS):Int :=
 if k.h < 1\/¬ vg k.h=true\/¬ vg k.t=true then 3
 else if ¬ (k.root.length:Int)=32\/¬ (k.next.length:Int)=32 then 2 else 0
def PE:Option aS->List aS->Int
 | _,[]=>0
 | o,k :: t=>if knE k=0 then (if (o.any fun q=>decide (k.h<=q.h))=true then 2 else PE (some k) t) else knE k
def wrongC (c:aG):Int :=
 if jN c.c=true then
  (if c.trust < 1\/¬ vg c.trust=true then 3
  else if (c.known.length:Int) < 1\/(30:Int) < c.known.length then 5 else PE none c.known)
 else 7
def kC (l:List aS) (h:Int) (i:Nat):Int:=match (l.drop i).findIdx? (fun k=>decide (k.h=h)) with | some j=>((i+j:Nat):Int) | none=>-1
def ixK (l:List aS) (h:Int):Int:=kC l h 0
theorem Ao {l:List aS} {h:Int} {i:Nat} (hi:i < l.length):kC l h i=if l[i].h=h then (i:Int) else kC l h (i+1):=by
 unfold kC
 rw [List.drop_eq_getElem_cons hi,List.findIdx?_cons]
 by_cases e:l[i].h=h
 ·simp [e]
 ·simp only [e,decide_false,Bool.false_eq_true,if_false]
  cases (l.drop (i+1)).findIdx? (fun k=>decide (k.h=h)) with
  | none=>rfl
  | some j=>simp; omega
theorem Ap {l:List aS} {h:Int} {i:Nat} (hi:¬ i < l.length):kC l h i=-1:=by
 unfold kC
 rw [List.drop_eq_nil_of_le (by omega)]; rfl
def atC (c:aG) (h:Int):Option aS:=c.known.find? fun k=>decide (k.h=h)
theorem at_case (c:aG) (h:Int):(atC c h=none/\ixK c.known h=-1)\/∃ i,∃ hi:i < c.known.length,ixK c.known h=i/\atC c h=some c.known[i]:=by
 unfold atC ixK kC
 rw [List.drop_zero]
 cases e:c.known.findIdx? (fun k=>decide (k.h=h)) with
 | none =>
  left
  rw [List.findIdx?_eq_none_iff] at e
  exact ⟨List.find?_eq_none.2 fun x hx=>by simpa using e x hx,rfl⟩
 | some i =>
  right
  obtain ⟨hi,h1,h2⟩:=List.findIdx?_eq_some_iff_getElem.1 e
  refine ⟨i,hi,by simp,?_⟩
  rw [List.find?_eq_some_iff_getElem]
  exact ⟨h1,i,hi,rfl,fun j hj=>by simpa using h2 j hj⟩
def atR (c:aG) (h:Int):aS × Bool:=match atC c h with | some k=>(k,true) | none=>(Bp,false)
def kN (c:aG):aS:=c.known.getLastD Bp
def gT (c:aG) (now:Int):Bool:=!c.frozen && decide (now - (kN c).t < c.trust)
def Ha (c:ByteArray) (trust:Int) (k:aS):aG × Int:=if wrongC ⟨c,trust,false,[k]⟩=0 then (⟨c,trust,false,[k]⟩,0) else (jG,wrongC ⟨c,trust,false,[k]⟩)
def abb (u:zu) (k:aS):Int :=
 if u.sg.hdr.h=k.h+1 then (if u.sg.hdr.vals=k.next then 0 else 8)
 else if jB u.tr=0 then (if bX u.tr=k.next then (if Pf u.tr u.sg=true then 0 else 10) else 8) else jB u.tr
def aaz (c:aG) (u:zu) (now:Int) (k:aS):Int :=
 if u.sg.hdr.c=c.c then
  (if c.trust<=now - k.t then 11
  else if u.sg.hdr.h<=k.h then 3
  else if u.sg.hdr.t<=k.t\/now+10 < u.sg.hdr.t then 11
  else abb u k)
 else 7
def beE (c:aG) (u:zu) (now:Int):Int :=
 if oq u.sg=0 then (match atC c u.fr with | none=>6 | some k=>aaz c u now k) else oq u.sg
def fG (c:aG) (now:Int):Int :=
 if wrongC c=0 then (if vg now=true then (if c.frozen=true then 12 else 0) else 3) else wrongC c
def ofH (h:oJ):aS:=⟨h.h,h.t,h.root,h.next⟩
def iH (l:List aS) (h:Int):Nat:=(l.takeWhile fun k=>decide (k.h < h)).length
def LM (l:List aS):List aS:=if (30:Int) < l.length then l.drop 1 else l
def Wh (o k:aS):Bool:=decide (o.t=k.t) && (decide (o.root=k.root) && decide (o.next=k.next))
def Wt (l:List aS) (i:Nat) (k:aS):Bool:=(decide (0 < i) && (l[i - 1]?).any fun p=>decide (k.t<=p.t)) || (l[i]?).any fun p=>decide (p.t<=k.t)
def zA (c:aG) (k:aS):aG :=
 match atC c k.h with
 | some o=>if Wh o k=true then c else { c with frozen:=true }
 | none=>if Wt c.known (iH c.known k.h) k=true then { c with frozen:=true }
  else { c with known:=LM (c.known.take (iH c.known k.h)++k :: c.known.drop (iH c.known k.h)) }
def iF (c:aG) (u:zu) (now:Int):aG × Int :=
 if fG c now=0 then (if beE c u now=0 then (zA c (ofH u.sg.hdr),0) else (jG,beE c u now)) else (jG,fG c now)
def mQ (c:aG) (a b:zu) (now:Int):aG × Int :=
 if fG c now=0 then (if beE c a now=0 then (if beE c b now=0 then (if a.sg.hdr.h=b.sg.hdr.h/\¬ dh a.sg.hdr=dh b.sg.hdr then ({ c with frozen:=true },0) else (jG,8)) else (jG,beE c b now)) else (jG,beE c a now)) else (jG,fG c now)
attribute [simp,go_sem] jh FH valsI votesI Wo N_ Sq oW abm iP lh Al fZ fo Zr Zk sD bN jG Bp
open Go.RowKit Go.Proofs.YtfenipelcpmkpaaGreatDoor.Ty
theorem QD (k:aS):PureD Tryz.prog 131 [.rp (iP k) 0] (intD (knE k)):=by
 refine au fun R hR=>?_
 have c1:=qK k.h
 have c2:=qK k.t
 unfold knE at hR
 refine aa 40 Tryz.func131 rfl rfl rfl (fun _ _=>rfl) ?_
 exact wkl trivial
def Tu (l:List aS) (i:Nat):Option aS:=if i=0 then none else l[i - 1]?
theorem yL (c:aG) (hl:c.known.length<=1048576):PureD Tryz.prog 80 [fo c] (intD (wrongC c)):=by
 refine au fun R hR=>?_
 have c1:=CQ c.c
 have c2:=qK c.trust
 unfold wrongC at hR
 refine aa 64 Tryz.func80 rfl rfl rfl (fun _ _=>rfl) ?_
 refine wkl ?_
 clear hR; intro hR _ _ _ _ _
 have hR':Hr (intD (PE (Tu c.known 0) (c.known.drop 0))) R:=hR
 clear hR
 refine aW (ι:=Nat) (fun i=>i<=c.known.length/\Hr (intD (PE (Tu c.known i) (c.known.drop i))) R)
  (fun i=>dQ [(1,.pt 100 0 0 0),(33,intD c.known.length),(34,intD i)] [(100,.box ((fZ c).map .i))]) (fun i=>c.known.length - i) 0 ⟨Nat.zero_le _,hR'⟩ ?_ ?_
 ·exact dA [] [(100,1000)]
 ·rintro i ⟨hi,hR⟩ RL hL
  clear hR'
  rw [ak]
  by_cases h:i < c.known.length
  ·have e1:=aF (f:=iP) h
   rw [List.drop_eq_getElem_cons h,PE] at hR
   have hnx:Tu c.known (i+1)=some c.known[i]:=by simp [Tu,h]
   rw [<- hnx] at hR
   have c3:=QD c.known[i]
   have b1:=fun σ' (hq:Hr _ R)=>bk [] [(100,100)] (hL (i+1) σ' ⟨h,hq⟩)
   clear hL
   cases i with
   | zero =>
    have hp:Tu c.known 0=none:=rfl
    rw [hp] at hR
    simp only [Option.any_none,Bool.false_eq_true,if_false] at hR
    clear hp hnx
    generalize hv0:c.known[0]=v at *
    exact wkl trivial
   | succ j =>
    have hj:j < c.known.length:=by omega
    have hp:Tu c.known (j+1)=some c.known[j]:=by simp [Tu,hj]
    have e2:=aF (f:=iP) hj
    rw [hp] at hR
    simp only [Option.any_some,decide_eq_true_eq] at hR
    have hg0:(0:Int) < ((j+1:Nat):Int):=by omega
    have w0:IntKind.i64.wrap (((j+1:Nat):Int) - 1)=(j:Int):=by rw [aC (by omega) (by omega)]; omega
    have n0:(((j+1:Nat):Int)).toNat=j+1:=by omega
    clear hnx hp
    generalize hv0:c.known[j+1]=v at *
    generalize hq0:c.known[j]=q at *
    exact wkl trivial
  ·rw [List.drop_eq_nil_of_le (by omega),PE] at hR
   exact wkl trivial
theorem wM:(type_of% @Ty.T0)/\(type_of% @Ty.T3)/\(type_of% @Ty.T5)/\(type_of% @Ty.T29)/\(type_of% @Ty.T35)/\(type_of% @Ty.T72):=⟨@Ty.T0,@Ty.T3,@Ty.T5,@Ty.T29,@Ty.T35,@Ty.T72⟩
theorem WH (l:List aS):uni 4 (l.map iP)=true:=by simp [uni,iP]
theorem y_ (l:List aS) (hl:l.length<=1048576):aT Tryz.prog 150 [.i (.sl (l.map iP))] noH (.os 1 4 0 l.length) (hOf noH [(1,.arr 4 (l.map iP))]):=by
 cases l with
 | nil =>
  refine jg (fH Tryz.func150 rfl rfl) fun K vs hrd=>?_
  obtain ⟨hs,hg⟩:=hrd
  obtain ⟨a,c,hv⟩:=sl_nil (hg 0 _ rfl)
  refine ⟨[.i (.s (.slice a 0 c))],?_,hs,fun j d hd=>?_⟩
  ·have hun:=abp
   refine aa 8 Tryz.func150 rfl rfl rfl (fun _ _=>rfl) ?_
   cases a with
   | none =>
    simp -implicitDefEqProofs only [ev,mixed,Nat.reduceLT,Nat.reduceAdd,Nat.reduceMul,reduceIte,Nat.reduceEqDiff,reduceCtorEq,Nat.reducePow,Nat.reduceLeDiff,Int.reduceLE,Int.reduceLT,Int.reduceToNat,Int.reduceEq,Nat.reduceBEq,dR,gdA,af,gX,jZ,ixQ,ldH,aD,aj,bB,faQ,exQ,kF,dJ,bR,slQ,stH,kH,kI,aQ,bq,ae,D.one,jF,dB,dU,cvH,wM,dM hun,Option.isNone_none]
    exact zB [] []
   | some a =>
    simp -implicitDefEqProofs only [ev,mixed,Nat.reduceLT,Nat.reduceAdd,Nat.reduceMul,reduceIte,Nat.reduceEqDiff,reduceCtorEq,Nat.reducePow,Nat.reduceLeDiff,Int.reduceLE,Int.reduceLT,Int.reduceToNat,Int.reduceEq,Nat.reduceBEq,dR,gdA,af,gX,jZ,ixQ,ldH,aD,aj,bB,faQ,exQ,kF,dJ,bR,slQ,stH,kH,kI,aQ,bq,ae,D.one,jF,dB,dU,cvH,wM,dM hun,Option.isNone_some]
    exact zB [] [(1,1770)]
  ·cases j with
   | zero=>simp at hd; subst hd; rw [hv]; exact .i (.s _ rfl)
   | succ j=>simp at hd
 | cons p t =>
  have hu:=WH t
  have e3:t.length+1<=140737488355328:=by simp at hl; omega
  have e4:(t.length+1) * 64<=140737488355328:=by simp at hl; omega
  have e5:(iP p).length=4:=rfl
  refine aa 8 Tryz.func150 rfl rfl rfl (fun _ _=>rfl) ?_
  refine gx (an (an (an (an (an (an (an wM hu) e3) e4) e5) @List.map_cons.{0,0}) @List.length_cons.{0}) @List.length_map.{0,0}) ?_
  exact zB [] [(1,1770)]
structure aaL (k:aS):Prop where
 r:k.root.length<=1048576
 n:k.next.length<=1048576
structure Zj (c:aG):Prop where
 l:c.known.length<=1048576
 k:∀ k∈c.known,aaL k
theorem o_ {α:Type} {f:α->List I} {l:List α} {i:Nat} (h:i < l.length):(l.map f).set i (f l[i])=l.map f:=by
 refine List.ext_getElem (by simp) fun j h1 h2=>?_
 rw [List.getElem_set]
 split
 ·rename_i e; subst e; simp
 ·rfl
theorem LU (c:aG) (hc:Zj c):PureD Tryz.prog 96 [fo c] (fo c):=by
 refine au fun R hR=>?_
 have hcl:=hc.l
 have e1:=y_ c.known hcl
 refine aa 35 Tryz.func96 rfl rfl rfl (fun _ _=>rfl) ?_
 refine wkl ?_
 clear hR; intro hR
 refine aW (ι:=Nat) (fun i=>i<=c.known.length)
  (fun i=>dQ [(1,.pt 100 0 0 0),(2,.pt 101 0 0 0),(10,.os 102 4 0 c.known.length),(11,intD c.known.length),(12,intD i)] [(100,.box [.i (.s (.string c.c)),.i (.s (.int .i64 c.trust)),.i (.s (.bool c.frozen)),.os 102 4 0 c.known.length]),(101,.box ((fZ jG).map .i)),(102,.arr 4 (c.known.map iP))])
  (fun i=>c.known.length - i) 0 (Nat.zero_le _) ?_ ?_
 ·exact dA [] [(100,1000),(101,1001),(102,901)]
 ·rintro i hi RL hL
  rw [ak]
  by_cases h:i < c.known.length
  ·have s0:=aF (f:=iP) h
   have s1:=o_ (f:=iP) h
   have hk:=hc.k _ (List.getElem_mem h)
   have c1:=dV c.known[i].root (by have:=hk.r; omega)
   have c2:=dV c.known[i].next (by have:=hk.n; omega)
   have b1:=fun σ'=>bk [] [(100,100),(101,101),(102,102)] (hL (i+1) σ' h)
   clear hL e1 hk
   generalize c.known[i]=k at *
   simp only [iP,bI] at s0 s1
   exact wkl trivial
  ·exact wkl trivial
theorem Vf (k:aS) (h:Int):PureD Tryz.prog 112 [Al k,.rp [.s (.int .i64 h)] 0] (boolD (decide (k.h=h))):=by
 refine au fun R hR=>?_
 refine aa 8 Tryz.func112 rfl rfl rfl (fun _ _=>rfl) ?_
 exact wkl trivial
theorem QE (l:List aS) (h:Int) (hl:l.length<=1048576):PureD Tryz.prog 111 [.i (lh l),.fn 112 [.rp [.s (.int .i64 h)] 0]] (intD (ixK l h)):=by
 refine au fun R hR=>?_
 refine aa 19 Tryz.func111 rfl rfl rfl (fun _ _=>rfl) ?_
 refine wkl ?_
 clear hR; intro hR
 have hR':Hr (intD (kC l h 0)) R:=hR
 clear hR
 refine aW (ι:=Nat) (fun i=>i<=l.length/\Hr (intD (kC l h i)) R)
  (fun i=>dQ [(0,.i (lh l)),(1,.fn 112 [.rp [.s (.int .i64 h)] 0]),(7,intD l.length),(8,intD i)] [])
  (fun i=>l.length - i) 0 ⟨Nat.zero_le _,hR'⟩ ?_ ?_
 ·exact dA [] []
 ·rintro i ⟨hi,hR⟩ RL hL
  clear hR'
  rw [ak]
  by_cases hlt:i < l.length
  ·have s0:=aF (f:=iP) hlt
   rw [Ao hlt] at hR
   have c1:=Vf l[i] h
   have b1:=fun σ' (hq:Hr _ R)=>bk [] [] (hL (i+1) σ' ⟨hlt,hq⟩)
   clear hL
   generalize l[i]=k at *
   exact wkl trivial
  ·rw [Ap hlt] at hR
   exact wkl trivial
theorem Vl (c:aG) (h:Int) (hc:Zj c):PureD Tryz.prog 57 [fo c,intD h] (.tup [Al (atR c h).1,boolD (atR c h).2]):=by
 refine au fun R hR=>?_
 have c1:=QE c.known h hc.l
 have c2:=LU c hc
 unfold atR at hR
 rcases at_case c h with ⟨h1,h2⟩ | ⟨i,hi,h1,h2⟩
 ·rw [h2] at c1
  rw [h1] at hR
  simp only [Bp] at hR
  clear h1 h2
  refine aa 20 Tryz.func57 rfl rfl rfl (fun _ _=>rfl) ?_
  exact wkl trivial
 ·rw [h1] at c1
  rw [h2] at hR
  have s0:=aF (f:=iP) hi
  have hg:¬ (i:Int) < 0:=by omega
  clear h1 h2
  generalize c.known[i]=k at *
  refine aa 20 Tryz.func57 rfl rfl rfl (fun _ _=>rfl) ?_
  exact wkl trivial
theorem YR (c:ByteArray) (t:Int) (k:aS) (hk:aaL k):PureD Tryz.prog 50 [sD c,intD t,Al k] (.tup [fo (Ha c t k).1,intD (Ha c t k).2]):=by
 refine au fun R hR=>?_
 have c1:=yL ⟨c,t,false,[k]⟩ (by simp)
 have c2:=LU ⟨c,t,false,[k]⟩ ⟨by simp,by simpa using hk⟩
 unfold Ha at hR
 by_cases h:wrongC ⟨c,t,false,[k]⟩=0
 ·rw [if_pos h] at hR
  rw [h] at c1
  clear h hk
  refine aa 23 Tryz.func50 rfl rfl rfl (fun _ _=>rfl) ?_
  exact wkl trivial
 ·rw [if_neg h] at hR
  simp only [jG] at hR
  generalize wrongC ⟨c,t,false,[k]⟩=W at *
  clear hk c2
  refine aa 23 Tryz.func50 rfl rfl rfl (fun _ _=>rfl) ?_
  exact wkl trivial
theorem Mt (c:aG) (now:Int) (hl:0 < c.known.length) (hn:-1000000000001<=now/\now<=1000000000001) (ht:-1000000000001<=(kN c).t/\(kN c).t<=1000000000001) (hl':c.known.length<=1048576) :
  PureD Tryz.prog 58 [fo c,intD now] (boolD (gT c now)):=by
 refine au fun R hR=>?_
 unfold gT at hR
 have hi:c.known.length - 1 < c.known.length:=by omega
 have s0:=aF (f:=iP) hi
 have hlast:kN c=c.known[c.known.length - 1]:=by unfold kN; rw [List.getLastD_eq_getLast?,List.getLast?_eq_getElem?,List.getElem?_eq_getElem hi]; rfl
 rw [hlast] at hR ht
 have w1:IntKind.i64.wrap ((c.known.length:Int) - 1)=((c.known.length - 1:Nat):Int):=by rw [aC (by omega) (by omega)]; omega
 clear hlast
 generalize c.known[c.known.length - 1]=k at *
 have w2:IntKind.i64.wrap (now - k.t)=now - k.t:=aC (by omega) (by omega)
 cases hf:c.frozen
 all_goals
  rw [hf] at hR
  simp only [Bool.not_true,Bool.not_false,Bool.true_and,Bool.false_and] at hR
  refine aa 24 Tryz.func58 rfl rfl rfl (fun _ _=>rfl) ?_
  exact wkl trivial
theorem rV (c:aG) (now:Int) (hl:c.known.length<=1048576):PureD Tryz.prog 56 [.rp (fZ c) 0,intD now] (intD (fG c now)):=by
 refine au fun R hR=>?_
 have c1:=yL c hl
 have c2:=qK now
 unfold fG at hR
 generalize wrongC c=W at *
 refine aa 20 Tryz.func56 rfl rfl rfl (fun _ _=>rfl) ?_
 exact wkl trivial
theorem check_vals {s:gU} (h:oq s=0):oC s.vals/\s.votes.length=s.vals.length/\fB s.hdr=0:=by
 unfold oq at h
 by_cases h1:fB s.hdr=0
 ·rw [if_pos h1] at h
  by_cases h2:jB s.vals=0
  ·rw [if_pos h2] at h
   by_cases h3:(s.votes.length:Int)=s.vals.length
   ·exact ⟨jI.1 h2,by omega,h1⟩
   ·rw [if_neg h3] at h; cases h
  ·rw [if_neg h2] at h; exact absurd h h2
 ·rw [if_neg h1] at h; exact absurd h h1
theorem Bt {h:oJ} (hw:fB h=0):1<=h.h/\h.h<=1000000000000/\0<=h.t/\h.t<=1000000000000/\h.root.length=32/\h.vals.length=32/\h.next.length=32:=by
 unfold fB vg at hw
 simp only [decide_eq_true_eq] at hw
 split at hw
 ·split at hw
  ·cases hw
  ·split at hw
   ·cases hw
   ·rename_i a b; omega
 ·cases hw
structure SC (k:aS):Prop where
 h:1<=k.h/\k.h<=1000000000000
 t:0<=k.t/\k.t<=1000000000000
 r:k.root.length=32
 n:k.next.length=32
theorem knE_zero {k:aS}:knE k=0↔SC k:=by
 unfold knE vg
 simp only [decide_eq_true_eq]
 constructor
 ·intro h
  split at h
  ·cases h
  ·split at h
   ·cases h
   ·exact ⟨by omega,by omega,by omega,by omega⟩
 ·rintro ⟨a,b,c,d⟩
  rw [if_neg (by omega),if_neg (by omega)]
theorem knsE_zero:∀ {o:Option aS} {l:List aS},PE o l=0↔(∀ k∈l,SC k)/\l.Pairwise (fun a b=>a.h < b.h)/\(∀ q,o=some q->∀ k∈l,q.h < k.h)
 | o,[]=>by simp [PE]
 | o,k :: t=>by
  rw [PE]
  have ih:=knsE_zero (o:=some k) (l:=t)
  by_cases h1:knE k=0
  ·rw [if_pos h1]
   have k1:=knE_zero.1 h1
   by_cases h2:(o.any fun q=>decide (k.h<=q.h))=true
   ·rw [if_pos h2]
    constructor
    ·intro h; cases h
    ·rintro ⟨_,_,h⟩
     cases o with
     | none=>simp at h2
     | some q=>have:=h q rfl k (List.mem_cons_self ..); simp at h2; omega
   ·rw [if_neg h2,ih]
    constructor
    ·rintro ⟨a,b,c⟩
     refine ⟨fun x hx=>?_,List.pairwise_cons.2 ⟨c k rfl,b⟩,fun q hq x hx=>?_⟩
     ·rcases List.mem_cons.1 hx with rfl | hx
      ·exact k1
      ·exact a x hx
     ·subst hq
      simp at h2
      rcases List.mem_cons.1 hx with rfl | hx
      ·omega
      ·have:=c k rfl x hx; omega
    ·rintro ⟨a,b,c⟩
     have hb:=List.pairwise_cons.1 b
     exact ⟨fun x hx=>a x (List.mem_cons_of_mem _ hx),hb.2,fun q hq=>by injection hq with hq; subst hq; exact hb.1⟩
  ·rw [if_neg h1]
   constructor
   ·intro h; exact absurd h h1
   ·rintro ⟨a,_,_⟩; exact absurd (knE_zero.2 (a k (List.mem_cons_self ..))) h1
structure Bn (c:aG):Prop where
 name:jN c.c=true
 trust:1<=c.trust/\c.trust<=1000000000000
 len:1<=c.known.length/\c.known.length<=30
 k:∀ k∈c.known,SC k
 rise:c.known.Pairwise fun a b=>a.h < b.h
theorem iT {c:aG}:wrongC c=0↔Bn c:=by
 unfold wrongC vg
 simp only [decide_eq_true_eq]
 constructor
 ·intro h
  split at h
  ·split at h
   ·cases h
   ·split at h
    ·cases h
    ·obtain ⟨a,b,_⟩:=knsE_zero.1 h
     exact ⟨by assumption,by omega,by omega,a,b⟩
  ·cases h
 ·rintro ⟨a,b,d,e,f⟩
  rw [if_pos a,if_neg (by omega),if_neg (by omega)]
  exact knsE_zero.2 ⟨e,f,fun q hq=>by cases hq⟩
theorem Bn.sm {c:aG} (h:Bn c):Zj c:=⟨by have:=h.len; omega,fun k hk=>⟨by have:=(h.k k hk).r; omega,by have:=(h.k k hk).n; omega⟩⟩
theorem at_mem {c:aG} {h:Int} {k:aS} (e:atC c h=some k):k∈c.known/\k.h=h:=by
 unfold atC at e
 exact ⟨List.mem_of_find?_eq_some e,by simpa using List.find?_some e⟩
theorem RQ (l:List aS) (h:Int):iH l h<=l.length:=(List.takeWhile_prefix _).length_le
theorem pM {h:Int}:∀ {l:List aS},l.Pairwise (fun a b=>a.h < b.h)->∀ a (ha:a < l.length),l[a].h < h↔a < iH l h
 | k :: t,hs,a,ha=>by
  obtain ⟨h1,h2⟩:=List.pairwise_cons.1 hs
  unfold iH
  by_cases hk:k.h < h
  ·rw [List.takeWhile_cons_of_pos (by simpa using hk),List.length_cons]
   cases a with
   | zero=>simp [hk]
   | succ a =>
    have:=pM (h:=h) h2 a (by simpa using ha)
    unfold iH at this
    simp only [List.getElem_cons_succ]; omega
  ·rw [List.takeWhile_cons_of_neg (by simpa using hk),List.length_nil]
   cases a with
   | zero=>simp only [List.getElem_cons_zero]; omega
   | succ a =>
    have ha':a < t.length:=by simpa using ha
    have:=h1 t[a] (List.getElem_mem _)
    simp only [List.getElem_cons_succ]; omega
theorem low_case {c:aG} (h:Int) (hs:c.known.Pairwise fun a b=>a.h < b.h) :
  (∃ hp:iH c.known h < c.known.length,(c.known[iH c.known h]'hp).h=h/\atC c h=some (c.known[iH c.known h]'hp))\/((∀ hp:iH c.known h < c.known.length,¬ (c.known[iH c.known h]'hp).h=h)/\atC c h=none):=by
 cases e:atC c h with
 | some k =>
  left
  obtain ⟨hm,hk⟩:=at_mem e
  obtain ⟨i,hi,rfl⟩:=List.getElem_of_mem hm
  have h1:=(pM (h:=h) hs i hi)
  have h2:¬ i < iH c.known h:=by rw [<- h1]; omega
  have h3:¬ iH c.known h < i:=by
   intro h3
   have a1:=pM (h:=h) hs (iH c.known h) (by omega)
   have a2:=List.pairwise_iff_getElem.1 hs _ _ (by omega) hi h3
   omega
  have h4:iH c.known h=i:=by omega
  revert h4
  generalize iH c.known h=p
  rintro rfl
  exact ⟨hi,hk,rfl⟩
 | none =>
  right
  refine ⟨fun hp hk=>?_,rfl⟩
  have:=List.find?_eq_none.1 e _ (List.getElem_mem hp)
  simp [hk] at this
theorem asked_zero {c:aG} {now:Int}:fG c now=0↔Bn c/\(0<=now/\now<=1000000000000)/\c.frozen=false:=by
 unfold fG vg
 simp only [decide_eq_true_eq]
 constructor
 ·intro h
  split at h
  ·rename_i hw
   split at h
   ·rename_i hn
    split at h
    ·cases h
    ·rename_i hf; exact ⟨iT.1 hw,hn,by simpa using hf⟩
   ·cases h
  ·exact absurd h ‹_›
 ·rintro ⟨a,b,d⟩
  rw [if_pos (iT.2 a),if_pos b,d]; rfl
theorem Vt {c:aG} {u:zu} {now:Int} (h:beE c u now=0):oq u.sg=0/\∃ k,atC c u.fr=some k/\aaz c u now k=0:=by
 unfold beE at h
 split at h
 ·refine ⟨by assumption,?_⟩
  split at h
  ·cases h
  ·exact ⟨_,by assumption,h⟩
 ·exact absurd h ‹_›
theorem be_hdr {c:aG} {u:zu} {now:Int} (h:beE c u now=0):SC (ofH u.sg.hdr)/\u.sg.hdr.vals.length=32:=by
 have:=Bt (check_vals (Vt h).1).2.2
 exact ⟨⟨⟨this.1,this.2.1⟩,⟨this.2.2.1,this.2.2.2.1⟩,this.2.2.2.2.1,this.2.2.2.2.2.2⟩,this.2.2.2.2.2.1⟩
attribute [simp,go_sem] az Ip bbI
def eH (c:aG) (now h:Int) (key val:List UInt8) (p:fU):Int :=
 if fG c now=0 then
  (match atC c h with
  | none=>6
  | some k=>if gT c now=true then (if p.k=key/\p.v=val/\iX k.root p=true then 0 else 9) else 11)
 else fG c now
def nZ (c:aG) (now h:Int) (key:List UInt8) (g:SE):Int :=
 if fG c now=0 then
  (match atC c h with
  | none=>6
  | some k=>if gT c now=true then (if zq k.root key g=true then 0 else 9) else 11)
 else fG c now
theorem Py {c:aG} (h:1<=c.known.length):kN c∈c.known:=by
 unfold kN
 rw [List.getLastD_eq_getLast?,List.getLast?_eq_getElem?,List.getElem?_eq_getElem (by omega)]
 exact List.getElem_mem _
theorem QX {c:aG} {now:Int} (ok:Bn c) (hn:0<=now/\now<=1000000000000):PureD Tryz.prog 58 [fo c,intD now] (boolD (gT c now)):=by
 have hl:=ok.len
 have hk:=(ok.k _ (Py hl.1)).t
 exact Mt c now (by omega) (by omega) (by omega) (by omega)
theorem lJ (c:aG) (now h:Int) (key val:List UInt8) (p:fU) (hl:c.known.length<=1048576) :
  PureD Tryz.prog 18 [fo c,intD now,intD h,.i (bI key),.i (bI val),az p] (intD (eH c now h key val p)):=by
 refine au fun R hR=>?_
 have c1:=rV c now hl
 unfold eH at hR
 by_cases h1:fG c now=0
 ·obtain ⟨ok,hn,hfz⟩:=asked_zero.1 h1
  rw [if_pos h1] at hR
  rw [h1] at c1
  have c2:=Vl c h ok.sm
  have c3:=QX ok hn
  have c4:=gD p.k key
  have c5:=gD p.v val
  unfold atR at c2
  clear h1 ok hn hfz hl
  cases h2:atC c h with
  | none =>
   rw [h2] at c2 hR
   simp only [Bp] at c2
   clear h2
   refine aa 55 Tryz.func18 rfl rfl rfl (fun _ _=>rfl) ?_
   exact wkl trivial
  | some k =>
   rw [h2] at c2 hR
   simp only at c2 hR
   have c6:=BK k.root p
   clear h2
   generalize gT c now=A at *
   generalize iX k.root p=B at *
   by_cases m1:p.k=key <;> by_cases m2:p.v=val <;> simp only [m1,m2,true_and,false_and,decide_true,decide_false,if_false] at hR c4 c5
   all_goals
    refine aa 55 Tryz.func18 rfl rfl rfl (fun _ _=>rfl) ?_
    exact wkl trivial
 ·rw [if_neg h1] at hR
  generalize fG c now=W at *
  refine aa 55 Tryz.func18 rfl rfl rfl (fun _ _=>rfl) ?_
  exact wkl trivial
theorem Hw (c:aG) (now h:Int) (key:List UInt8) (g:SE) (hl:c.known.length<=1048576) :
  PureD Tryz.prog 20 [fo c,intD now,intD h,.i (bI key),Ip g] (intD (nZ c now h key g)):=by
 refine au fun R hR=>?_
 have c1:=rV c now hl
 unfold nZ at hR
 by_cases h1:fG c now=0
 ·obtain ⟨ok,hn,hfz⟩:=asked_zero.1 h1
  rw [if_pos h1] at hR
  rw [h1] at c1
  have c2:=Vl c h ok.sm
  have c3:=QX ok hn
  unfold atR at c2
  clear h1 ok hn hfz hl
  cases h2:atC c h with
  | none =>
   rw [h2] at c2 hR
   simp only [Bp] at c2
   clear h2
   refine aa 40 Tryz.func20 rfl rfl rfl (fun _ _=>rfl) ?_
   exact wkl trivial
  | some k =>
   rw [h2] at c2 hR
   simp only at c2 hR
   have c6:=QY k.root key g
   clear h2
   generalize gT c now=A at *
   generalize zq k.root key g=B at *
   refine aa 40 Tryz.func20 rfl rfl rfl (fun _ _=>rfl) ?_
   exact wkl trivial
 ·rw [if_neg h1] at hR
  generalize fG c now=W at *
  refine aa 40 Tryz.func20 rfl rfl rfl (fun _ _=>rfl) ?_
  exact wkl trivial
end Go.Proofs.YtfenipelcpmkpaaGreatDoor
