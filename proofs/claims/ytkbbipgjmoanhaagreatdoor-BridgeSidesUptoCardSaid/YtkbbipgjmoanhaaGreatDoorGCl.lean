/- Merged texts: ClP, ClQ, ClA, ClnKn, ClB, ClO, ClL, ClF. -/
import Derived.Test.YtkbbipgjmoanhaaGreatDoorGProof
set_option linter.all false
set_option maxHeartbeats 4000000
set_option maxRecDepth 20000
namespace Go.Proofs.YtkbbipgjmoanhaaGreatDoor
open Go Go.Abs
structure aP where
 h:Int
 t:Int
 root:List UInt8
 next:List UInt8
structure aD where
 c:ByteArray
 trust:Int
 frozen:Bool
 known:List aP
structure yV where
 fr:Int
 sg:gH
 tr:List dI
def iQ (k:aP):List I:=[.s (.int .i64 k.h),.s (.int .i64 k.t),bI k.root,bI k.next]
def jF (l:List aP):I:=.sl (l.map iQ)
def zS (k:aP):D:=.agg [.i (.s (.int .i64 k.h)),.i (.s (.int .i64 k.t)),.i (bI k.root),.i (bI k.next)]
def fM (c:aD):List I:=[.s (.string c.c),.s (.int .i64 c.trust),.s (.bool c.frozen),jF c.known]
def dS (c:aD):D:=.agg [.i (.s (.string c.c)),.i (.s (.int .i64 c.trust)),.i (.s (.bool c.frozen)),.i (jF c.known)]
def Yc (u:yV):List I:=.s (.int .i64 u.fr) :: (encS u.sg++[valsI u.tr])
def XY (u:yV):D:=.agg [.i (.s (.int .i64 u.fr)),.i (.s (.string u.sg.hdr.c)),.i (.s (.int .i64 u.sg.hdr.h)),.i (.s (.int .i64 u.sg.hdr.t)),.i (bI u.sg.hdr.root),.i (bI u.sg.hdr.vals),.i (bI u.sg.hdr.next),.i (valsI u.sg.vals),.i (votesI u.sg.votes),.i (valsI u.tr)]
def AQ:aP:=⟨0,0,[],[]⟩
def jo:aD:=⟨⟨#[]⟩,0,false,[]⟩
def knE (k:aP):Int :=
 if k.h < 1\/¬ uG k.h=true\/¬ uG k.t=true then 3
 else if ¬ (k.root.length:Int)=32\/¬ (k.next.length:Int)=32 then 2 else 0
def OD:Option aP->List aP->Int
 | _,[]=>0
 | o,k :: t=>if knE k=0 then (if (o.any fun q=>decide (k.h<=q.h))=true then 2 else OD (some k) t) else knE k
def wrongC (c:aD):Int :=
 if mi c.c=true then
  (if c.trust < 1\/¬ uG c.trust=true then 3
  else if (c.known.length:Int) < 1\/(30:Int) < c.known.length then 5 else OD none c.known)
 else 7
def jZ (l:List aP) (h:Int) (i:Nat):Int:=match (l.drop i).findIdx? (fun k=>decide (k.h=h)) with | some j=>((i+j:Nat):Int) | none=>-1
def ixK (l:List aP) (h:Int):Int:=jZ l h 0
theorem zU {l:List aP} {h:Int} {i:Nat} (hi:i < l.length):jZ l h i=if l[i].h=h then (i:Int) else jZ l h (i+1):=by
 unfold jZ
 rw [List.drop_eq_getElem_cons hi,List.findIdx?_cons]
 by_cases e:l[i].h=h
 ·simp [e]
 ·simp only [e,decide_false,Bool.false_eq_true,if_false]
  cases (l.drop (i+1)).findIdx? (fun k=>decide (k.h=h)) with
  | none=>rfl
  | some j=>simp; omega
theorem zV {l:List aP} {h:Int} {i:Nat} (hi:¬ i < l.length):jZ l h i=-1:=by
 unfold jZ
 rw [List.drop_eq_nil_of_le (by omega)]; rfl
def atC (c:aD) (h:Int):Option aP:=c.known.find? fun k=>decide (k.h=h)
theorem at_case (c:aD) (h:Int):(atC c h=none/\ixK c.known h=-1)\/∃ i,∃ hi:i < c.known.length,ixK c.known h=i/\atC c h=some c.known[i]:=by
 unfold atC ixK jZ
 rw [List.drop_zero]
 cases e:c.known.findIdx? (fun k=>decide (k.h=h)) with
 | none =>
  left
  rw [List.findIdx?_eq_none_iff] at e
  exact ⟨List.find?_eq_none.2 fun x hx=>by simpa using e x hx,rfl⟩
 | some i =>
  right
  obtain ⟨hi,h1,h2⟩:=List.findIdx?_eq_some_iff_getElem.1 e
  refine ⟨i,hi,by simp,?_⟩
  rw [List.find?_eq_some_iff_getElem]
  exact ⟨h1,i,hi,rfl,fun j hj=>by simpa using h2 j hj⟩
def atR (c:aD) (h:Int):aP × Bool:=match atC c h with | some k=>(k,true) | none=>(AQ,false)
def kw (c:aD):aP:=c.known.getLastD AQ
def gG (c:aD) (now:Int):Bool:=!c.frozen && decide (now - (kw c).t < c.trust)
def GY (c:ByteArray) (trust:Int) (k:aP):aD × Int:=if wrongC ⟨c,trust,false,[k]⟩=0 then (⟨c,trust,false,[k]⟩,0) else (jo,wrongC ⟨c,trust,false,[k]⟩)
def ZG (u:yV) (k:aP):Int :=
 if u.sg.hdr.h=k.h+1 then (if u.sg.hdr.vals=k.next then 0 else 8)
 else if jf u.tr=0 then (if bX u.tr=k.next then (if Og u.tr u.sg=true then 0 else 10) else 8) else jf u.tr
def Zc (c:aD) (u:yV) (now:Int) (k:aP):Int :=
 if u.sg.hdr.c=c.c then
  (if c.trust<=now - k.t then 11
  else if u.sg.hdr.h<=k.h then 3
  else if u.sg.hdr.t<=k.t\/now+10 < u.sg.hdr.t then 11
  else ZG u k)
 else 7
def beE (c:aD) (u:yV) (now:Int):Int :=
 if nY u.sg=0 then (match atC c u.fr with | none=>6 | some k=>Zc c u now k) else nY u.sg
def fD (c:aD) (now:Int):Int :=
 if wrongC c=0 then (if uG now=true then (if c.frozen=true then 12 else 0) else 3) else wrongC c
def ofH (h:oq):aP:=⟨h.h,h.t,h.root,h.next⟩
def jm (l:List aP) (h:Int):Nat:=(l.takeWhile fun k=>decide (k.h < h)).length
def Nj (l:List aP):List aP:=if (30:Int) < l.length then l.drop 1 else l
def XZ (o k:aP):Bool:=decide (o.t=k.t) && (decide (o.root=k.root) && decide (o.next=k.next))
def Ye (l:List aP) (i:Nat) (k:aP):Bool:=(decide (0 < i) && (l[i - 1]?).any fun p=>decide (k.t<=p.t)) || (l[i]?).any fun p=>decide (p.t<=k.t)
def AJ (c:aD) (k:aP):aD :=
 match atC c k.h with
 | some o=>if XZ o k=true then c else { c with frozen:=true }
 | none=>if Ye c.known (jm c.known k.h) k=true then { c with frozen:=true }
  else { c with known:=Nj (c.known.take (jm c.known k.h)++k :: c.known.drop (jm c.known k.h)) }
def g_ (c:aD) (u:yV) (now:Int):aD × Int :=
 if fD c now=0 then (if beE c u now=0 then (AJ c (ofH u.sg.hdr),0) else (jo,beE c u now)) else (jo,fD c now)
def mF (c:aD) (a b:yV) (now:Int):aD × Int :=
 if fD c now=0 then (if beE c a now=0 then (if beE c b now=0 then (if a.sg.hdr.h=b.sg.hdr.h/\¬ cu a.sg.hdr=cu b.sg.hdr then ({ c with frozen:=true },0) else (jo,8)) else (jo,beE c b now)) else (jo,beE c a now)) else (jo,fD c now)
attribute [simp,go_sem] encV encX valsI votesI encH hdrD encS signedD ZN iQ jF zS fM dS Yc XY sD u64D jo AQ
open Go.RowKit Go.Proofs.YtkbbipgjmoanhaaGreatDoor.Ty
theorem PM (k:aP):PureD Tryz.prog 159 [.rp (iQ k) 0] (intD (knE k)):=by
 refine aj fun R hR=>?_
 have c1:=qm k.h
 have c2:=qm k.t
 unfold knE at hR
 refine aa 40 Tryz.func159 rfl rfl rfl (fun _ _=>rfl) ?_
 exact wkl trivial
def RU (l:List aP) (i:Nat):Option aP:=if i=0 then none else l[i - 1]?
theorem ym (c:aD) (hl:c.known.length<=1048576):PureD Tryz.prog 104 [dS c] (intD (wrongC c)):=by
 refine aj fun R hR=>?_
 have c1:=Co c.c
 have c2:=qm c.trust
 unfold wrongC at hR
 refine aa 64 Tryz.func104 rfl rfl rfl (fun _ _=>rfl) ?_
 refine wkl ?_
 clear hR; intro hR _ _ _ _ _
 have hR':Hr (intD (OD (RU c.known 0) (c.known.drop 0))) R:=hR
 clear hR
 refine aT (ι:=Nat) (fun i=>i<=c.known.length/\Hr (intD (OD (RU c.known i) (c.known.drop i))) R)
  (fun i=>dW [(1,.pt 100 0 0 0),(33,intD c.known.length),(34,intD i)] [(100,.box ((fM c).map .i))]) (fun i=>c.known.length - i) 0 ⟨Nat.zero_le _,hR'⟩ ?_ ?_
 ·exact dF [] [(100,1000)]
 ·rintro i ⟨hi,hR⟩ RL hL
  clear hR'
  rw [au]
  by_cases h:i < c.known.length
  ·have e1:=get_lt (f:=iQ) h
   rw [List.drop_eq_getElem_cons h,OD] at hR
   have hnx:RU c.known (i+1)=some c.known[i]:=by simp [RU,h]
   rw [<- hnx] at hR
   have c3:=PM c.known[i]
   have b1:=fun σ' (hq:Hr _ R)=>bk [] [(100,100)] (hL (i+1) σ' ⟨h,hq⟩)
   clear hL
   cases i with
   | zero =>
    have hp:RU c.known 0=none:=rfl
    rw [hp] at hR
    simp only [Option.any_none,Bool.false_eq_true,if_false] at hR
    clear hp hnx
    generalize hv0:c.known[0]=v at *
    exact wkl trivial
   | succ j =>
    have hj:j < c.known.length:=by omega
    have hp:RU c.known (j+1)=some c.known[j]:=by simp [RU,hj]
    have e2:=get_lt (f:=iQ) hj
    rw [hp] at hR
    simp only [Option.any_some,decide_eq_true_eq] at hR
    have hg0:(0:Int) < ((j+1:Nat):Int):=by omega
    have w0:IntKind.i64.wrap (((j+1:Nat):Int) - 1)=(j:Int):=by rw [ay (by omega) (by omega)]; omega
    have n0:(((j+1:Nat):Int)).toNat=j+1:=by omega
    clear hnx hp
    generalize hv0:c.known[j+1]=v at *
    generalize hq0:c.known[j]=q at *
    exact wkl trivial
  ·rw [List.drop_eq_nil_of_le (by omega),OD] at hR
   exact wkl trivial
theorem vU:(type_of% @Ty.T0)/\(type_of% @Ty.T3)/\(type_of% @Ty.T5)/\(type_of% @Ty.T38)/\(type_of% @Ty.T40)/\(type_of% @Ty.T95):=⟨@Ty.T0,@Ty.T3,@Ty.T5,@Ty.T38,@Ty.T40,@Ty.T95⟩
theorem Vv (l:List aP):uni 4 (l.map iQ)=true:=by simp [uni,iQ]
theorem yH (l:List aP) (hl:l.length<=1048576):aN Tryz.prog 61 [.i (.sl (l.map iQ))] noH (.os 1 4 0 l.length) (hOf noH [(1,.arr 4 (l.map iQ))]):=by
 cases l with
 | nil =>
  refine iU (fE Tryz.func61 rfl rfl) fun K vs hrd=>?_
  obtain ⟨hs,hg⟩:=hrd
  obtain ⟨a,c,hv⟩:=sl_nil (hg 0 _ rfl)
  refine ⟨[.i (.s (.slice a 0 c))],?_,hs,fun j d hd=>?_⟩
  ·have hun:=ZT
   refine aa 8 Tryz.func61 rfl rfl rfl (fun _ _=>rfl) ?_
   cases a with
   | none =>
    simp -implicitDefEqProofs only [ev,mixed,Nat.reduceLT,Nat.reduceAdd,Nat.reduceMul,reduceIte,Nat.reduceEqDiff,reduceCtorEq,Nat.reducePow,Nat.reduceLeDiff,Int.reduceLE,Int.reduceLT,Int.reduceToNat,Int.reduceEq,Nat.reduceBEq,ek,gdA,af,ic,kQ,ixQ,ldH,aC,ak,bG,faQ,exQ,lQ,dR,bS,slQ,stH,lW,lY,aO,bi,ae,D.one,jY,dM,eB,cvH,vU,dH hun,Option.isNone_none]
    exact y_ [] []
   | some a =>
    simp -implicitDefEqProofs only [ev,mixed,Nat.reduceLT,Nat.reduceAdd,Nat.reduceMul,reduceIte,Nat.reduceEqDiff,reduceCtorEq,Nat.reducePow,Nat.reduceLeDiff,Int.reduceLE,Int.reduceLT,Int.reduceToNat,Int.reduceEq,Nat.reduceBEq,ek,gdA,af,ic,kQ,ixQ,ldH,aC,ak,bG,faQ,exQ,lQ,dR,bS,slQ,stH,lW,lY,aO,bi,ae,D.one,jY,dM,eB,cvH,vU,dH hun,Option.isNone_some]
    exact y_ [] [(1,1770)]
  ·cases j with
   | zero=>simp at hd; subst hd; rw [hv]; exact .i (.s _ rfl)
   | succ j=>simp at hd
 | cons p t =>
  have hu:=Vv t
  have e3:t.length+1<=140737488355328:=by simp at hl; omega
  have e4:(t.length+1) * 64<=140737488355328:=by simp at hl; omega
  have e5:(iQ p).length=4:=rfl
  refine aa 8 Tryz.func61 rfl rfl rfl (fun _ _=>rfl) ?_
  refine gx (an (an (an (an (an (an (an vU hu) e3) e4) e5) @List.map_cons.{0,0}) @List.length_cons.{0}) @List.length_map.{0,0}) ?_
  exact y_ [] [(1,1770)]
structure Zn (k:aP):Prop where
 r:k.root.length<=1048576
 n:k.next.length<=1048576
structure Vk (c:aD):Prop where
 l:c.known.length<=1048576
 k:∀ k∈c.known,Zn k
theorem oI {α:Type} {f:α->List I} {l:List α} {i:Nat} (h:i < l.length):(l.map f).set i (f l[i])=l.map f:=by
 refine List.ext_getElem (by simp) fun j h1 h2=>?_
 rw [List.getElem_set]
 split
 ·rename_i e; subst e; simp
 ·rfl
theorem KU (c:aD) (hc:Vk c):PureD Tryz.prog 170 [dS c] (dS c):=by
 refine aj fun R hR=>?_
 have hcl:=hc.l
 have e1:=yH c.known hcl
 refine aa 35 Tryz.func170 rfl rfl rfl (fun _ _=>rfl) ?_
 refine wkl ?_
 clear hR; intro hR
 refine aT (ι:=Nat) (fun i=>i<=c.known.length)
  (fun i=>dW [(1,.pt 100 0 0 0),(2,.pt 101 0 0 0),(10,.os 102 4 0 c.known.length),(11,intD c.known.length),(12,intD i)] [(100,.box [.i (.s (.string c.c)),.i (.s (.int .i64 c.trust)),.i (.s (.bool c.frozen)),.os 102 4 0 c.known.length]),(101,.box ((fM jo).map .i)),(102,.arr 4 (c.known.map iQ))])
  (fun i=>c.known.length - i) 0 (Nat.zero_le _) ?_ ?_
 ·exact dF [] [(100,1000),(101,1001),(102,901)]
 ·rintro i hi RL hL
  rw [au]
  by_cases h:i < c.known.length
  ·have s0:=get_lt (f:=iQ) h
   have s1:=oI (f:=iQ) h
   have hk:=hc.k _ (List.getElem_mem h)
   have c1:=dN c.known[i].root (by have:=hk.r; omega)
   have c2:=dN c.known[i].next (by have:=hk.n; omega)
   have b1:=fun σ'=>bk [] [(100,100),(101,101),(102,102)] (hL (i+1) σ' h)
   clear hL e1 hk
   generalize c.known[i]=k at *
   simp only [iQ,bI] at s0 s1
   exact wkl trivial
  ·exact wkl trivial
theorem Ub (k:aP) (h:Int):PureD Tryz.prog 250 [zS k,.rp [.s (.int .i64 h)] 0] (boolD (decide (k.h=h))):=by
 refine aj fun R hR=>?_
 refine aa 8 Tryz.func250 rfl rfl rfl (fun _ _=>rfl) ?_
 exact wkl trivial
theorem PN (l:List aP) (h:Int) (hl:l.length<=1048576):PureD Tryz.prog 249 [.i (jF l),.fn 250 [.rp [.s (.int .i64 h)] 0]] (intD (ixK l h)):=by
 refine aj fun R hR=>?_
 refine aa 19 Tryz.func249 rfl rfl rfl (fun _ _=>rfl) ?_
 refine wkl ?_
 clear hR; intro hR
 have hR':Hr (intD (jZ l h 0)) R:=hR
 clear hR
 refine aT (ι:=Nat) (fun i=>i<=l.length/\Hr (intD (jZ l h i)) R)
  (fun i=>dW [(0,.i (jF l)),(1,.fn 250 [.rp [.s (.int .i64 h)] 0]),(7,intD l.length),(8,intD i)] [])
  (fun i=>l.length - i) 0 ⟨Nat.zero_le _,hR'⟩ ?_ ?_
 ·exact dF [] []
 ·rintro i ⟨hi,hR⟩ RL hL
  clear hR'
  rw [au]
  by_cases hlt:i < l.length
  ·have s0:=get_lt (f:=iQ) hlt
   rw [zU hlt] at hR
   have c1:=Ub l[i] h
   have b1:=fun σ' (hq:Hr _ R)=>bk [] [] (hL (i+1) σ' ⟨hlt,hq⟩)
   clear hL
   generalize l[i]=k at *
   exact wkl trivial
  ·rw [zV hlt] at hR
   exact wkl trivial
theorem Uh (c:aD) (h:Int) (hc:Vk c):PureD Tryz.prog 220 [dS c,intD h] (.tup [zS (atR c h).1,boolD (atR c h).2]):=by
 refine aj fun R hR=>?_
 have c1:=PN c.known h hc.l
 have c2:=KU c hc
 unfold atR at hR
 rcases at_case c h with ⟨h1,h2⟩ | ⟨i,hi,h1,h2⟩
 ·rw [h2] at c1
  rw [h1] at hR
  simp only [AQ] at hR
  clear h1 h2
  refine aa 20 Tryz.func220 rfl rfl rfl (fun _ _=>rfl) ?_
  exact wkl trivial
 ·rw [h1] at c1
  rw [h2] at hR
  have s0:=get_lt (f:=iQ) hi
  have hg:¬ (i:Int) < 0:=by omega
  clear h1 h2
  generalize c.known[i]=k at *
  refine aa 20 Tryz.func220 rfl rfl rfl (fun _ _=>rfl) ?_
  exact wkl trivial
theorem XE (c:ByteArray) (t:Int) (k:aP) (hk:Zn k):PureD Tryz.prog 116 [sD c,intD t,zS k] (.tup [dS (GY c t k).1,intD (GY c t k).2]):=by
 refine aj fun R hR=>?_
 have c1:=ym ⟨c,t,false,[k]⟩ (by simp)
 have c2:=KU ⟨c,t,false,[k]⟩ ⟨by simp,by simpa using hk⟩
 unfold GY at hR
 by_cases h:wrongC ⟨c,t,false,[k]⟩=0
 ·rw [if_pos h] at hR
  rw [h] at c1
  clear h hk
  refine aa 23 Tryz.func116 rfl rfl rfl (fun _ _=>rfl) ?_
  exact wkl trivial
 ·rw [if_neg h] at hR
  simp only [jo] at hR
  generalize wrongC ⟨c,t,false,[k]⟩=W at *
  clear hk c2
  refine aa 23 Tryz.func116 rfl rfl rfl (fun _ _=>rfl) ?_
  exact wkl trivial
theorem Lv (c:aD) (now:Int) (hl:0 < c.known.length) (hn:-1000000000001<=now/\now<=1000000000001) (ht:-1000000000001<=(kw c).t/\(kw c).t<=1000000000001) (hl':c.known.length<=1048576) :
  PureD Tryz.prog 224 [dS c,intD now] (boolD (gG c now)):=by
 refine aj fun R hR=>?_
 unfold gG at hR
 have hi:c.known.length - 1 < c.known.length:=by omega
 have s0:=get_lt (f:=iQ) hi
 have hlast:kw c=c.known[c.known.length - 1]:=by unfold kw; rw [List.getLastD_eq_getLast?,List.getLast?_eq_getElem?,List.getElem?_eq_getElem hi]; rfl
 rw [hlast] at hR ht
 have w1:IntKind.i64.wrap ((c.known.length:Int) - 1)=((c.known.length - 1:Nat):Int):=by rw [ay (by omega) (by omega)]; omega
 clear hlast
 generalize c.known[c.known.length - 1]=k at *
 have w2:IntKind.i64.wrap (now - k.t)=now - k.t:=ay (by omega) (by omega)
 cases hf:c.frozen
 all_goals
  rw [hf] at hR
  simp only [Bool.not_true,Bool.not_false,Bool.true_and,Bool.false_and] at hR
  refine aa 24 Tryz.func224 rfl rfl rfl (fun _ _=>rfl) ?_
  exact wkl trivial
theorem ry (c:aD) (now:Int) (hl:c.known.length<=1048576):PureD Tryz.prog 171 [.rp (fM c) 0,intD now] (intD (fD c now)):=by
 refine aj fun R hR=>?_
 have c1:=ym c hl
 have c2:=qm now
 unfold fD at hR
 generalize wrongC c=W at *
 refine aa 20 Tryz.func171 rfl rfl rfl (fun _ _=>rfl) ?_
 exact wkl trivial
theorem check_vals {s:gH} (h:nY s=0):og s.vals/\s.votes.length=s.vals.length/\fo s.hdr=0:=by
 unfold nY at h
 by_cases h1:fo s.hdr=0
 ·rw [if_pos h1] at h
  by_cases h2:jf s.vals=0
  ·rw [if_pos h2] at h
   by_cases h3:(s.votes.length:Int)=s.vals.length
   ·exact ⟨jr.1 h2,by omega,h1⟩
   ·rw [if_neg h3] at h; cases h
  ·rw [if_neg h2] at h; exact absurd h h2
 ·rw [if_neg h1] at h; exact absurd h h1
theorem AX {h:oq} (hw:fo h=0):1<=h.h/\h.h<=1000000000000/\0<=h.t/\h.t<=1000000000000/\h.root.length=32/\h.vals.length=32/\h.next.length=32:=by
 unfold fo uG at hw
 simp only [decide_eq_true_eq] at hw
 split at hw
 ·split at hw
  ·cases hw
  ·split at hw
   ·cases hw
   ·rename_i a b; omega
 ·cases hw
structure Rh (k:aP):Prop where
 h:1<=k.h/\k.h<=1000000000000
 t:0<=k.t/\k.t<=1000000000000
 r:k.root.length=32
 n:k.next.length=32
theorem knE_zero {k:aP}:knE k=0↔Rh k:=by
 unfold knE uG
 simp only [decide_eq_true_eq]
 constructor
 ·intro h
  split at h
  ·cases h
  ·split at h
   ·cases h
   ·exact ⟨by omega,by omega,by omega,by omega⟩
 ·rintro ⟨a,b,c,d⟩
  rw [if_neg (by omega),if_neg (by omega)]
theorem knsE_zero:∀ {o:Option aP} {l:List aP},OD o l=0↔(∀ k∈l,Rh k)/\l.Pairwise (fun a b=>a.h < b.h)/\(∀ q,o=some q->∀ k∈l,q.h < k.h)
 | o,[]=>by simp [OD]
 | o,k :: t=>by
  rw [OD]
  have ih:=knsE_zero (o:=some k) (l:=t)
  by_cases h1:knE k=0
  ·rw [if_pos h1]
   have k1:=knE_zero.1 h1
   by_cases h2:(o.any fun q=>decide (k.h<=q.h))=true
   ·rw [if_pos h2]
    constructor
    ·intro h; cases h
    ·rintro ⟨_,_,h⟩
     cases o with
     | none=>simp at h2
     | some q=>have:=h q rfl k (List.mem_cons_self ..); simp at h2; omega
   ·rw [if_neg h2,ih]
    constructor
    ·rintro ⟨a,b,c⟩
     refine ⟨fun x hx=>?_,List.pairwise_cons.2 ⟨c k rfl,b⟩,fun q hq x hx=>?_⟩
     ·rcases List.mem_cons.1 hx with rfl | hx
      ·exact k1
      ·exact a x hx
     ·subst hq
      simp at h2
      rcases List.mem_cons.1 hx with rfl | hx
      ·omega
      ·have:=c k rfl x hx; omega
    ·rintro ⟨a,b,c⟩
     have hb:=List.pairwise_cons.1 b
     exact ⟨fun x hx=>a x (List.mem_cons_of_mem _ hx),hb.2,fun q hq=>by injection hq with hq; subst hq; exact hb.1⟩
  ·rw [if_neg h1]
   constructor
   ·intro h; exact absurd h h1
   ·rintro ⟨a,_,_⟩; exact absurd (knE_zero.2 (a k (List.mem_cons_self ..))) h1
structure AP (c:aD):Prop where
 name:mi c.c=true
 trust:1<=c.trust/\c.trust<=1000000000000
 len:1<=c.known.length/\c.known.length<=30
 k:∀ k∈c.known,Rh k
 rise:c.known.Pairwise fun a b=>a.h < b.h
theorem iF {c:aD}:wrongC c=0↔AP c:=by
 unfold wrongC uG
 simp only [decide_eq_true_eq]
 constructor
 ·intro h
  split at h
  ·split at h
   ·cases h
   ·split at h
    ·cases h
    ·obtain ⟨a,b,_⟩:=knsE_zero.1 h
     exact ⟨by assumption,by omega,by omega,a,b⟩
  ·cases h
 ·rintro ⟨a,b,d,e,f⟩
  rw [if_pos a,if_neg (by omega),if_neg (by omega)]
  exact knsE_zero.2 ⟨e,f,fun q hq=>by cases hq⟩
theorem AP.sm {c:aD} (h:AP c):Vk c:=⟨by have:=h.len; omega,fun k hk=>⟨by have:=(h.k k hk).r; omega,by have:=(h.k k hk).n; omega⟩⟩
theorem at_mem {c:aD} {h:Int} {k:aP} (e:atC c h=some k):k∈c.known/\k.h=h:=by
 unfold atC at e
 exact ⟨List.mem_of_find?_eq_some e,by simpa using List.find?_some e⟩
theorem QJ (l:List aP) (h:Int):jm l h<=l.length:=(List.takeWhile_prefix _).length_le
theorem oV {h:Int}:∀ {l:List aP},l.Pairwise (fun a b=>a.h < b.h)->∀ a (ha:a < l.length),l[a].h < h↔a < jm l h
 | k :: t,hs,a,ha=>by
  obtain ⟨h1,h2⟩:=List.pairwise_cons.1 hs
  unfold jm
  by_cases hk:k.h < h
  ·rw [List.takeWhile_cons_of_pos (by simpa using hk),List.length_cons]
   cases a with
   | zero=>simp [hk]
   | succ a =>
    have:=oV (h:=h) h2 a (by simpa using ha)
    unfold jm at this
    simp only [List.getElem_cons_succ]; omega
  ·rw [List.takeWhile_cons_of_neg (by simpa using hk),List.length_nil]
   cases a with
   | zero=>simp only [List.getElem_cons_zero]; omega
   | succ a =>
    have ha':a < t.length:=by simpa using ha
    have:=h1 t[a] (List.getElem_mem _)
    simp only [List.getElem_cons_succ]; omega
theorem low_case {c:aD} (h:Int) (hs:c.known.Pairwise fun a b=>a.h < b.h) :
  (∃ hp:jm c.known h < c.known.length,(c.known[jm c.known h]'hp).h=h/\atC c h=some (c.known[jm c.known h]'hp))\/((∀ hp:jm c.known h < c.known.length,¬ (c.known[jm c.known h]'hp).h=h)/\atC c h=none):=by
 cases e:atC c h with
 | some k =>
  left
  obtain ⟨hm,hk⟩:=at_mem e
  obtain ⟨i,hi,rfl⟩:=List.getElem_of_mem hm
  have h1:=(oV (h:=h) hs i hi)
  have h2:¬ i < jm c.known h:=by rw [<- h1]; omega
  have h3:¬ jm c.known h < i:=by
   intro h3
   have a1:=oV (h:=h) hs (jm c.known h) (by omega)
   have a2:=List.pairwise_iff_getElem.1 hs _ _ (by omega) hi h3
   omega
  have h4:jm c.known h=i:=by omega
  revert h4
  generalize jm c.known h=p
  rintro rfl
  exact ⟨hi,hk,rfl⟩
 | none =>
  right
  refine ⟨fun hp hk=>?_,rfl⟩
  have:=List.find?_eq_none.1 e _ (List.getElem_mem hp)
  simp [hk] at this
theorem asked_zero {c:aD} {now:Int}:fD c now=0↔AP c/\(0<=now/\now<=1000000000000)/\c.frozen=false:=by
 unfold fD uG
 simp only [decide_eq_true_eq]
 constructor
 ·intro h
  split at h
  ·rename_i hw
   split at h
   ·rename_i hn
    split at h
    ·cases h
    ·rename_i hf; exact ⟨iF.1 hw,hn,by simpa using hf⟩
   ·cases h
  ·exact absurd h ‹_›
 ·rintro ⟨a,b,d⟩
  rw [if_pos (iF.2 a),if_pos b,d]; rfl
theorem Ur {c:aD} {u:yV} {now:Int} (h:beE c u now=0):nY u.sg=0/\∃ k,atC c u.fr=some k/\Zc c u now k=0:=by
 unfold beE at h
 split at h
 ·refine ⟨by assumption,?_⟩
  split at h
  ·cases h
  ·exact ⟨_,by assumption,h⟩
 ·exact absurd h ‹_›
theorem be_hdr {c:aD} {u:yV} {now:Int} (h:beE c u now=0):Rh (ofH u.sg.hdr)/\u.sg.hdr.vals.length=32:=by
 have:=AX (check_vals (Ur h).1).2.2
 exact ⟨⟨⟨this.1,this.2.1⟩,⟨this.2.2.1,this.2.2.2.1⟩,this.2.2.2.2.1,this.2.2.2.2.2.2⟩,this.2.2.2.2.2.1⟩
attribute [simp,go_sem] ax GZ bbI
def fw (c:aD) (now h:Int) (key val:List UInt8) (p:fJ):Int :=
 if fD c now=0 then
  (match atC c h with
  | none=>6
  | some k=>if gG c now=true then (if p.k=key/\p.v=val/\iJ k.root p=true then 0 else 9) else 11)
 else fD c now
def nQ (c:aD) (now h:Int) (key:List UInt8) (g:Ri):Int :=
 if fD c now=0 then
  (match atC c h with
  | none=>6
  | some k=>if gG c now=true then (if yT k.root key g=true then 0 else 9) else 11)
 else fD c now
theorem OB {c:aD} (h:1<=c.known.length):kw c∈c.known:=by
 unfold kw
 rw [List.getLastD_eq_getLast?,List.getLast?_eq_getElem?,List.getElem?_eq_getElem (by omega)]
 exact List.getElem_mem _
theorem Qf {c:aD} {now:Int} (ok:AP c) (hn:0<=now/\now<=1000000000000):PureD Tryz.prog 224 [dS c,intD now] (boolD (gG c now)):=by
 have hl:=ok.len
 have hk:=(ok.k _ (OB hl.1)).t
 exact Lv c now (by omega) (by omega) (by omega) (by omega)
theorem lm (c:aD) (now h:Int) (key val:List UInt8) (p:fJ) (hl:c.known.length<=1048576) :
  PureD Tryz.prog 200 [dS c,intD now,intD h,.i (bI key),.i (bI val),ax p] (intD (fw c now h key val p)):=by
 refine aj fun R hR=>?_
 have c1:=ry c now hl
 unfold fw at hR
 by_cases h1:fD c now=0
 ·obtain ⟨ok,hn,hfz⟩:=asked_zero.1 h1
  rw [if_pos h1] at hR
  rw [h1] at c1
  have c2:=Uh c h ok.sm
  have c3:=Qf ok hn
  have c4:=fZ p.k key
  have c5:=fZ p.v val
  unfold atR at c2
  clear h1 ok hn hfz hl
  cases h2:atC c h with
  | none =>
   rw [h2] at c2 hR
   simp only [AQ] at c2
   clear h2
   refine aa 55 Tryz.func200 rfl rfl rfl (fun _ _=>rfl) ?_
   exact wkl trivial
  | some k =>
   rw [h2] at c2 hR
   simp only at c2 hR
   have c6:=Bj k.root p
   clear h2
   generalize gG c now=A at *
   generalize iJ k.root p=B at *
   by_cases m1:p.k=key <;> by_cases m2:p.v=val <;> simp only [m1,m2,true_and,false_and,decide_true,decide_false,if_false] at hR c4 c5
   all_goals
    refine aa 55 Tryz.func200 rfl rfl rfl (fun _ _=>rfl) ?_
    exact wkl trivial
 ·rw [if_neg h1] at hR
  generalize fD c now=W at *
  refine aa 55 Tryz.func200 rfl rfl rfl (fun _ _=>rfl) ?_
  exact wkl trivial
theorem Gw (c:aD) (now h:Int) (key:List UInt8) (g:Ri) (hl:c.known.length<=1048576) :
  PureD Tryz.prog 203 [dS c,intD now,intD h,.i (bI key),GZ g] (intD (nQ c now h key g)):=by
 refine aj fun R hR=>?_
 have c1:=ry c now hl
 unfold nQ at hR
 by_cases h1:fD c now=0
 ·obtain ⟨ok,hn,hfz⟩:=asked_zero.1 h1
  rw [if_pos h1] at hR
  rw [h1] at c1
  have c2:=Uh c h ok.sm
  have c3:=Qf ok hn
  unfold atR at c2
  clear h1 ok hn hfz hl
  cases h2:atC c h with
  | none =>
   rw [h2] at c2 hR
   simp only [AQ] at c2
   clear h2
   refine aa 40 Tryz.func203 rfl rfl rfl (fun _ _=>rfl) ?_
   exact wkl trivial
  | some k =>
   rw [h2] at c2 hR
   simp only at c2 hR
   have c6:=Qg k.root key g
   clear h2
   generalize gG c now=A at *
   generalize yT k.root key g=B at *
   refine aa 40 Tryz.func203 rfl rfl rfl (fun _ _=>rfl) ?_
   exact wkl trivial
 ·rw [if_neg h1] at hR
  generalize fD c now=W at *
  refine aa 40 Tryz.func203 rfl rfl rfl (fun _ _=>rfl) ?_
  exact wkl trivial
end Go.Proofs.YtkbbipgjmoanhaaGreatDoor
