/- Merged texts: ClP, ClQ, ClA, ClnKn, ClB, ClO, ClL, ClF. -/
import Derived.Test.YtadoaljnfeoecaaGreatDoorGHd
import Derived.Test.YtadoaljnfeoecaaGreatDoorGWk
import Derived.Test.YtadoaljnfeoecaaGreatDoorGx
import Derived.Test.YtadoaljnfeoecaaGreatDoorGProof
set_option linter.all false
namespace Go.Proofs.YtadoaljnfeoecaaGreatDoor
open Go Go.Abs
structure KnownD where
 h:Int
 t:Int
 root:List UInt8
 next:List UInt8
structure ClientD where
 c:ByteArray
 trust:Int
 frozen:Bool
 known:List KnownD
structure UpdD where
 fr:Int
 sg:SignedD
 tr:List ValD
def encK (k:KnownD):List I:=[.s (.int .i64 k.h),.s (.int .i64 k.t),bI k.root,bI k.next]
def knownI (l:List KnownD):I:=.sl (l.map encK)
def knownD (k:KnownD):D:=.agg [.i (.s (.int .i64 k.h)),.i (.s (.int .i64 k.t)),.i (bI k.root),.i (bI k.next)]
def encC (c:ClientD):List I:=[.s (.string c.c),.s (.int .i64 c.trust),.s (.bool c.frozen),knownI c.known]
def clientD (c:ClientD):D:=.agg [.i (.s (.string c.c)),.i (.s (.int .i64 c.trust)),.i (.s (.bool c.frozen)),.i (knownI c.known)]
def encU (u:UpdD):List I:=.s (.int .i64 u.fr) :: (encS u.sg++[valsI u.tr])
def updD (u:UpdD):D:=.agg [.i (.s (.int .i64 u.fr)),.i (.s (.string u.sg.hdr.c)),.i (.s (.int .i64 u.sg.hdr.h)),.i (.s (.int .i64 u.sg.hdr.t)),.i (bI u.sg.hdr.root),.i (bI u.sg.hdr.vals),.i (bI u.sg.hdr.next),.i (valsI u.sg.vals),.i (votesI u.sg.votes),.i (valsI u.tr)]
def zeroK:KnownD:=⟨0,0,[],[]⟩
def zeroC:ClientD:=⟨⟨#[]⟩,0,false,[]⟩
def knE (k:KnownD):Int :=
 if k.h < 1∨¬ numB k.h=true∨¬ numB k.t=true then 3
 else if ¬ (k.root.length:Int)=32∨¬ (k.next.length:Int)=32 then 2 else 0
def knsE:Option KnownD→List KnownD→Int
 | _,[]=>0
 | o,k :: t=>if knE k=0 then (if (o.any fun q=>decide (k.h≤q.h))=true then 2 else knsE (some k) t) else knE k
def wrongC (c:ClientD):Int :=
 if nameOk c.c=true then
  (if c.trust < 1∨¬ numB c.trust=true then 3
  else if (c.known.length:Int) < 1∨(30:Int) < c.known.length then 5 else knsE none c.known)
 else 7
def ixFrom (l:List KnownD) (h:Int) (i:Nat):Int:=match (l.drop i).findIdx? (fun k=>decide (k.h=h)) with | some j=>((i+j:Nat):Int) | none=>-1
def ixK (l:List KnownD) (h:Int):Int:=ixFrom l h 0
theorem ixFrom_lt {l:List KnownD} {h:Int} {i:Nat} (hi:i < l.length):ixFrom l h i=if l[i].h=h then (i:Int) else ixFrom l h (i+1):=by
 unfold ixFrom
 rw [List.drop_eq_getElem_cons hi,List.findIdx?_cons]
 by_cases e:l[i].h=h
 ·simp [e]
 ·simp only [e,decide_false,Bool.false_eq_true,if_false]
  cases (l.drop (i+1)).findIdx? (fun k=>decide (k.h=h)) with
  | none=>rfl
  | some j=>simp; omega
theorem ixFrom_ge {l:List KnownD} {h:Int} {i:Nat} (hi:¬ i < l.length):ixFrom l h i=-1:=by
 unfold ixFrom
 rw [List.drop_eq_nil_of_le (by omega)]; rfl
def atC (c:ClientD) (h:Int):Option KnownD:=c.known.find? fun k=>decide (k.h=h)
theorem at_case (c:ClientD) (h:Int):(atC c h=none∧ixK c.known h=-1)∨∃ i,∃ hi:i < c.known.length,ixK c.known h=i∧atC c h=some c.known[i]:=by
 unfold atC ixK ixFrom
 rw [List.drop_zero]
 cases e:c.known.findIdx? (fun k=>decide (k.h=h)) with
 | none =>
  left
  rw [List.findIdx?_eq_none_iff] at e
  exact ⟨List.find?_eq_none.2 fun x hx=>by simpa using e x hx,rfl⟩
 | some i =>
  right
  obtain ⟨hi,h1,h2⟩:=List.findIdx?_eq_some_iff_getElem.1 e
  refine ⟨i,hi,by simp,?_⟩
  rw [List.find?_eq_some_iff_getElem]
  exact ⟨h1,i,hi,rfl,fun j hj=>by simpa using h2 j hj⟩
def atR (c:ClientD) (h:Int):KnownD × Bool:=match atC c h with | some k=>(k,true) | none=>(zeroK,false)
def lastC (c:ClientD):KnownD:=c.known.getLastD zeroK
def activeC (c:ClientD) (now:Int):Bool:=!c.frozen && decide (now - (lastC c).t < c.trust)
def newC (c:ByteArray) (trust:Int) (k:KnownD):ClientD × Int:=if wrongC ⟨c,trust,false,[k]⟩=0 then (⟨c,trust,false,[k]⟩,0) else (zeroC,wrongC ⟨c,trust,false,[k]⟩)
def beE2 (u:UpdD) (k:KnownD):Int :=
 if u.sg.hdr.h=k.h+1 then (if u.sg.hdr.vals=k.next then 0 else 8)
 else if valsW u.tr=0 then (if digestV u.tr=k.next then (if overF u.tr u.sg=true then 0 else 10) else 8) else valsW u.tr
def beE1 (c:ClientD) (u:UpdD) (now:Int) (k:KnownD):Int :=
 if u.sg.hdr.c=c.c then
  (if c.trust≤now - k.t then 11
  else if u.sg.hdr.h≤k.h then 3
  else if u.sg.hdr.t≤k.t∨now+10 < u.sg.hdr.t then 11
  else beE2 u k)
 else 7
def beE (c:ClientD) (u:UpdD) (now:Int):Int :=
 if checkS u.sg=0 then (match atC c u.fr with | none=>6 | some k=>beE1 c u now k) else checkS u.sg
def askedE (c:ClientD) (now:Int):Int :=
 if wrongC c=0 then (if numB now=true then (if c.frozen=true then 12 else 0) else 3) else wrongC c
def ofH (h:HdrD):KnownD:=⟨h.h,h.t,h.root,h.next⟩
def lowK (l:List KnownD) (h:Int):Nat:=(l.takeWhile fun k=>decide (k.h < h)).length
def cutK (l:List KnownD):List KnownD:=if (30:Int) < l.length then l.drop 1 else l
def samK (o k:KnownD):Bool:=decide (o.t=k.t) && (decide (o.root=k.root) && decide (o.next=k.next))
def badK (l:List KnownD) (i:Nat) (k:KnownD):Bool:=(decide (0 < i) && (l[i - 1]?).any fun p=>decide (k.t≤p.t)) || (l[i]?).any fun p=>decide (p.t≤k.t)
def putK (c:ClientD) (k:KnownD):ClientD :=
 match atC c k.h with
 | some o=>if samK o k=true then c else { c with frozen:=true }
 | none=>if badK c.known (lowK c.known k.h) k=true then { c with frozen:=true }
  else { c with known:=cutK (c.known.take (lowK c.known k.h)++k :: c.known.drop (lowK c.known k.h)) }
def followC (c:ClientD) (u:UpdD) (now:Int):ClientD × Int :=
 if askedE c now=0 then (if beE c u now=0 then (putK c (ofH u.sg.hdr),0) else (zeroC,beE c u now)) else (zeroC,askedE c now)
def catchC (c:ClientD) (a b:UpdD) (now:Int):ClientD × Int :=
 if askedE c now=0 then (if beE c a now=0 then (if beE c b now=0 then (if a.sg.hdr.h=b.sg.hdr.h∧¬ bytesH a.sg.hdr=bytesH b.sg.hdr then ({ c with frozen:=true },0) else (zeroC,8)) else (zeroC,beE c b now)) else (zeroC,beE c a now)) else (zeroC,askedE c now)
end Go.Proofs.YtadoaljnfeoecaaGreatDoor
set_option linter.all false
namespace Go.Proofs.YtadoaljnfeoecaaGreatDoor
open Go Go.Abs
attribute [simp,go_sem] encV encX valsI votesI encH hdrD encS signedD valD encK knownI knownD encC clientD encU updD sD u64D zeroC zeroK
end Go.Proofs.YtadoaljnfeoecaaGreatDoor
set_option linter.all false
namespace Go.Proofs.YtadoaljnfeoecaaGreatDoor
open Go Go.Abs Go.RowKit Go.Proofs.YtadoaljnfeoecaaGreatDoor.Ty
set_option maxHeartbeats 4000000
theorem cknown_A (k:KnownD):PureD Tryz.prog 34 [.rp (encK k) 0] (intD (knE k)):=by
 refine hide_r fun R hR=>?_
 have c1:=hnum_A k.h
 have c2:=hnum_A k.t
 unfold knE at hR
 refine callD_W 40 Tryz.func34 rfl rfl rfl (fun _ _=>rfl) ?_
 exact wkl trivial
def preK (l:List KnownD) (i:Nat):Option KnownD:=if i=0 then none else l[i - 1]?
theorem cwrong_A (c:ClientD) (hl:c.known.length≤1048576):PureD Tryz.prog 17 [clientD c] (intD (wrongC c)):=by
 refine hide_r fun R hR=>?_
 have c1:=hname_A c.c
 have c2:=hnum_A c.trust
 unfold wrongC at hR
 refine callD_W 64 Tryz.func17 rfl rfl rfl (fun _ _=>rfl) ?_
 refine wkl ?_
 clear hR; intro hR _ _ _ _ _
 have hR':Hr (intD (knsE (preK c.known 0) (c.known.drop 0))) R:=hR
 clear hR
 refine W_loopR (ι:=Nat) (fun i=>i≤c.known.length∧Hr (intD (knsE (preK c.known i) (c.known.drop i))) R)
  (fun i=>stOf [(1,.pt 100 0 0 0),(33,intD c.known.length),(34,intD i)] [(100,.box ((encC c).map .i))]) (fun i=>c.known.length - i) 0 ⟨Nat.zero_le _,hR'⟩ ?_ ?_
 ·exact le_ok [] [(100,1000)]
 ·rintro i ⟨hi,hR⟩ RL hL
  clear hR'
  rw [stOf_eq]
  by_cases h:i < c.known.length
  ·have e1:=get_lt (f:=encK) h
   rw [List.drop_eq_getElem_cons h,knsE] at hR
   have hnx:preK c.known (i+1)=some c.known[i]:=by simp [preK,h]
   rw [← hnx] at hR
   have c3:=cknown_A c.known[i]
   have b1:=fun σ' (hq:Hr _ R)=>bk [] [(100,100)] (hL (i+1) σ' ⟨h,hq⟩)
   clear hL
   cases i with
   | zero =>
    have hp:preK c.known 0=none:=rfl
    rw [hp] at hR
    simp only [Option.any_none,Bool.false_eq_true,if_false] at hR
    clear hp hnx
    generalize hv0:c.known[0]=v at *
    exact wkl trivial
   | succ j =>
    have hj:j < c.known.length:=by omega
    have hp:preK c.known (j+1)=some c.known[j]:=by simp [preK,hj]
    have e2:=get_lt (f:=encK) hj
    rw [hp] at hR
    simp only [Option.any_some,decide_eq_true_eq] at hR
    have hg0:(0:Int) < ((j+1:Nat):Int):=by omega
    have w0:IntKind.i64.wrap (((j+1:Nat):Int) - 1)=(j:Int):=by rw [wrap64 (by omega) (by omega)]; omega
    have n0:(((j+1:Nat):Int)).toNat=j+1:=by omega
    clear hnx hp
    generalize hv0:c.known[j+1]=v at *
    generalize hq0:c.known[j]=q at *
    exact wkl trivial
  ·rw [List.drop_eq_nil_of_le (by omega),knsE] at hR
   exact wkl trivial
end Go.Proofs.YtadoaljnfeoecaaGreatDoor
set_option linter.all false
namespace Go.Proofs.YtadoaljnfeoecaaGreatDoor
open Go Go.Abs Go.RowKit Go.Proofs.YtadoaljnfeoecaaGreatDoor.Ty
theorem tyClnKn0:(type_of% @Ty.T0)∧(type_of% @Ty.T3)∧(type_of% @Ty.T5)∧(type_of% @Ty.T29)∧(type_of% @Ty.T31)∧(type_of% @Ty.T76):=⟨@Ty.T0,@Ty.T3,@Ty.T5,@Ty.T29,@Ty.T31,@Ty.T76⟩
set_option maxHeartbeats 4000000
theorem uni_Kn (l:List KnownD):uni 4 (l.map encK)=true:=by simp [uni,encK]
theorem clone_Kn (l:List KnownD) (hl:l.length≤1048576):CallD Tryz.prog 63 [.i (.sl (l.map encK))] noH (.os 1 4 0 l.length) (hOf noH [(1,.arr 4 (l.map encK))]):=by
 cases l with
 | nil =>
  refine call_case (Enters_of Tryz.func63 rfl rfl) fun K vs hrd=>?_
  obtain ⟨hs,hg⟩:=hrd
  obtain ⟨a,c,hv⟩:=sl_nil (hg 0 _ rfl)
  refine ⟨[.i (.s (.slice a 0 c))],?_,hs,fun j d hd=>?_⟩
  ·have hun:=un76
   refine callD_W 8 Tryz.func63 rfl rfl rfl (fun _ _=>rfl) ?_
   cases a with
   | none =>
    simp -implicitDefEqProofs only [ev,mixed,Nat.reduceLT,Nat.reduceAdd,Nat.reduceMul,reduceIte,Nat.reduceEqDiff,reduceCtorEq,Nat.reducePow,Nat.reduceLeDiff,Int.reduceLE,Int.reduceLT,Int.reduceToNat,Int.reduceEq,Nat.reduceBEq,itsOf,gdA,byteI,opid,lenQ,ixQ,ldH,readAt,readCells,asCell,faQ,exQ,fldQ,partA,buildQ,slQ,stH,bslH,appH,dcells,convI,elemsOf,D.one,nilS,fillD,convN,cvH,tyClnKn0,bq_eqnil hun,Option.isNone_none]
    exact newD [] []
   | some a =>
    simp -implicitDefEqProofs only [ev,mixed,Nat.reduceLT,Nat.reduceAdd,Nat.reduceMul,reduceIte,Nat.reduceEqDiff,reduceCtorEq,Nat.reducePow,Nat.reduceLeDiff,Int.reduceLE,Int.reduceLT,Int.reduceToNat,Int.reduceEq,Nat.reduceBEq,itsOf,gdA,byteI,opid,lenQ,ixQ,ldH,readAt,readCells,asCell,faQ,exQ,fldQ,partA,buildQ,slQ,stH,bslH,appH,dcells,convI,elemsOf,D.one,nilS,fillD,convN,cvH,tyClnKn0,bq_eqnil hun,Option.isNone_some]
    exact newD [] [(1,1770)]
  ·cases j with
   | zero=>simp at hd; subst hd; rw [hv]; exact .i (.s _ rfl)
   | succ j=>simp at hd
 | cons p t =>
  have hu:=uni_Kn t
  have e3:t.length+1≤140737488355328:=by simp at hl; omega
  have e4:(t.length+1) * 64≤140737488355328:=by simp at hl; omega
  have e5:(encK p).length=4:=rfl
  refine callD_W 8 Tryz.func63 rfl rfl rfl (fun _ _=>rfl) ?_
  refine gx (an (an (an (an (an (an (an tyClnKn0 hu) e3) e4) e5) @List.map_cons.{0,0}) @List.length_cons.{0}) @List.length_map.{0,0}) ?_
  exact newD [] [(1,1770)]
end Go.Proofs.YtadoaljnfeoecaaGreatDoor
set_option linter.all false
namespace Go.Proofs.YtadoaljnfeoecaaGreatDoor
open Go Go.Abs Go.RowKit Go.Proofs.YtadoaljnfeoecaaGreatDoor.Ty
set_option maxHeartbeats 4000000
structure KnSm (k:KnownD):Prop where
 r:k.root.length≤1048576
 n:k.next.length≤1048576
structure ClSm (c:ClientD):Prop where
 l:c.known.length≤1048576
 k:∀ k∈c.known,KnSm k
theorem set_map {α:Type} {f:α→List I} {l:List α} {i:Nat} (h:i < l.length):(l.map f).set i (f l[i])=l.map f:=by
 refine List.ext_getElem (by simp) fun j h1 h2=>?_
 rw [List.getElem_set]
 split
 ·rename_i e; subst e; simp
 ·rfl
theorem cown_A (c:ClientD) (hc:ClSm c):PureD Tryz.prog 70 [clientD c] (clientD c):=by
 refine hide_r fun R hR=>?_
 have hcl:=hc.l
 have e1:=clone_Kn c.known hcl
 refine callD_W 35 Tryz.func70 rfl rfl rfl (fun _ _=>rfl) ?_
 refine wkl ?_
 clear hR; intro hR
 refine W_loopR (ι:=Nat) (fun i=>i≤c.known.length)
  (fun i=>stOf [(1,.pt 100 0 0 0),(2,.pt 101 0 0 0),(10,.os 102 4 0 c.known.length),(11,intD c.known.length),(12,intD i)] [(100,.box [.i (.s (.string c.c)),.i (.s (.int .i64 c.trust)),.i (.s (.bool c.frozen)),.os 102 4 0 c.known.length]),(101,.box ((encC zeroC).map .i)),(102,.arr 4 (c.known.map encK))])
  (fun i=>c.known.length - i) 0 (Nat.zero_le _) ?_ ?_
 ·exact le_ok [] [(100,1000),(101,1001),(102,901)]
 ·rintro i hi RL hL
  rw [stOf_eq]
  by_cases h:i < c.known.length
  ·have s0:=get_lt (f:=encK) h
   have s1:=set_map (f:=encK) h
   have hk:=hc.k _ (List.getElem_mem h)
   have c1:=clone_A c.known[i].root (by have:=hk.r; omega)
   have c2:=clone_A c.known[i].next (by have:=hk.n; omega)
   have b1:=fun σ'=>bk [] [(100,100),(101,101),(102,102)] (hL (i+1) σ' h)
   clear hL e1 hk
   generalize c.known[i]=k at *
   simp only [encK,bI] at s0 s1
   exact wkl trivial
  ·exact wkl trivial
theorem csame_A (k:KnownD) (h:Int):PureD Tryz.prog 148 [knownD k,.rp [.s (.int .i64 h)] 0] (boolD (decide (k.h=h))):=by
 refine hide_r fun R hR=>?_
 refine callD_W 8 Tryz.func148 rfl rfl rfl (fun _ _=>rfl) ?_
 exact wkl trivial
theorem cindex_A (l:List KnownD) (h:Int) (hl:l.length≤1048576):PureD Tryz.prog 147 [.i (knownI l),.fn 148 [.rp [.s (.int .i64 h)] 0]] (intD (ixK l h)):=by
 refine hide_r fun R hR=>?_
 refine callD_W 19 Tryz.func147 rfl rfl rfl (fun _ _=>rfl) ?_
 refine wkl ?_
 clear hR; intro hR
 have hR':Hr (intD (ixFrom l h 0)) R:=hR
 clear hR
 refine W_loopR (ι:=Nat) (fun i=>i≤l.length∧Hr (intD (ixFrom l h i)) R)
  (fun i=>stOf [(0,.i (knownI l)),(1,.fn 148 [.rp [.s (.int .i64 h)] 0]),(7,intD l.length),(8,intD i)] [])
  (fun i=>l.length - i) 0 ⟨Nat.zero_le _,hR'⟩ ?_ ?_
 ·exact le_ok [] []
 ·rintro i ⟨hi,hR⟩ RL hL
  clear hR'
  rw [stOf_eq]
  by_cases hlt:i < l.length
  ·have s0:=get_lt (f:=encK) hlt
   rw [ixFrom_lt hlt] at hR
   have c1:=csame_A l[i] h
   have b1:=fun σ' (hq:Hr _ R)=>bk [] [] (hL (i+1) σ' ⟨hlt,hq⟩)
   clear hL
   generalize l[i]=k at *
   exact wkl trivial
  ·rw [ixFrom_ge hlt] at hR
   exact wkl trivial
theorem cat_A (c:ClientD) (h:Int) (hc:ClSm c):PureD Tryz.prog 111 [clientD c,intD h] (.tup [knownD (atR c h).1,boolD (atR c h).2]):=by
 refine hide_r fun R hR=>?_
 have c1:=cindex_A c.known h hc.l
 have c2:=cown_A c hc
 unfold atR at hR
 rcases at_case c h with ⟨h1,h2⟩ | ⟨i,hi,h1,h2⟩
 ·rw [h2] at c1
  rw [h1] at hR
  simp only [zeroK] at hR
  clear h1 h2
  refine callD_W 20 Tryz.func111 rfl rfl rfl (fun _ _=>rfl) ?_
  exact wkl trivial
 ·rw [h1] at c1
  rw [h2] at hR
  have s0:=get_lt (f:=encK) hi
  have hg:¬ (i:Int) < 0:=by omega
  clear h1 h2
  generalize c.known[i]=k at *
  refine callD_W 20 Tryz.func111 rfl rfl rfl (fun _ _=>rfl) ?_
  exact wkl trivial
theorem cnew_A (c:ByteArray) (t:Int) (k:KnownD) (hk:KnSm k):PureD Tryz.prog 37 [sD c,intD t,knownD k] (.tup [clientD (newC c t k).1,intD (newC c t k).2]):=by
 refine hide_r fun R hR=>?_
 have c1:=cwrong_A ⟨c,t,false,[k]⟩ (by simp)
 have c2:=cown_A ⟨c,t,false,[k]⟩ ⟨by simp,by simpa using hk⟩
 unfold newC at hR
 by_cases h:wrongC ⟨c,t,false,[k]⟩=0
 ·rw [if_pos h] at hR
  rw [h] at c1
  clear h hk
  refine callD_W 23 Tryz.func37 rfl rfl rfl (fun _ _=>rfl) ?_
  exact wkl trivial
 ·rw [if_neg h] at hR
  simp only [zeroC] at hR
  generalize wrongC ⟨c,t,false,[k]⟩=W at *
  clear hk c2
  refine callD_W 23 Tryz.func37 rfl rfl rfl (fun _ _=>rfl) ?_
  exact wkl trivial
theorem cactive_A (c:ClientD) (now:Int) (hl:0 < c.known.length) (hn:-1000000000001≤now∧now≤1000000000001) (ht:-1000000000001≤(lastC c).t∧(lastC c).t≤1000000000001) (hl':c.known.length≤1048576) :
  PureD Tryz.prog 120 [clientD c,intD now] (boolD (activeC c now)):=by
 refine hide_r fun R hR=>?_
 unfold activeC at hR
 have hi:c.known.length - 1 < c.known.length:=by omega
 have s0:=get_lt (f:=encK) hi
 have hlast:lastC c=c.known[c.known.length - 1]:=by unfold lastC; rw [List.getLastD_eq_getLast?,List.getLast?_eq_getElem?,List.getElem?_eq_getElem hi]; rfl
 rw [hlast] at hR ht
 have w1:IntKind.i64.wrap ((c.known.length:Int) - 1)=((c.known.length - 1:Nat):Int):=by rw [wrap64 (by omega) (by omega)]; omega
 clear hlast
 generalize c.known[c.known.length - 1]=k at *
 have w2:IntKind.i64.wrap (now - k.t)=now - k.t:=wrap64 (by omega) (by omega)
 cases hf:c.frozen
 all_goals
  rw [hf] at hR
  simp only [Bool.not_true,Bool.not_false,Bool.true_and,Bool.false_and] at hR
  refine callD_W 24 Tryz.func120 rfl rfl rfl (fun _ _=>rfl) ?_
  exact wkl trivial
theorem casked_A (c:ClientD) (now:Int) (hl:c.known.length≤1048576):PureD Tryz.prog 71 [.rp (encC c) 0,intD now] (intD (askedE c now)):=by
 refine hide_r fun R hR=>?_
 have c1:=cwrong_A c hl
 have c2:=hnum_A now
 unfold askedE at hR
 generalize wrongC c=W at *
 refine callD_W 20 Tryz.func71 rfl rfl rfl (fun _ _=>rfl) ?_
 exact wkl trivial
end Go.Proofs.YtadoaljnfeoecaaGreatDoor
set_option linter.all false
namespace Go.Proofs.YtadoaljnfeoecaaGreatDoor
open Go Go.Abs
theorem check_vals {s:SignedD} (h:checkS s=0):ValsOk s.vals∧s.votes.length=s.vals.length∧wrongH s.hdr=0:=by
 unfold checkS at h
 by_cases h1:wrongH s.hdr=0
 ·rw [if_pos h1] at h
  by_cases h2:valsW s.vals=0
  ·rw [if_pos h2] at h
   by_cases h3:(s.votes.length:Int)=s.vals.length
   ·exact ⟨valsW_zero.1 h2,by omega,h1⟩
   ·rw [if_neg h3] at h; cases h
  ·rw [if_neg h2] at h; exact absurd h h2
 ·rw [if_neg h1] at h; exact absurd h h1
theorem wrongH_nums {h:HdrD} (hw:wrongH h=0):1≤h.h∧h.h≤1000000000000∧0≤h.t∧h.t≤1000000000000∧h.root.length=32∧h.vals.length=32∧h.next.length=32:=by
 unfold wrongH numB at hw
 simp only [decide_eq_true_eq] at hw
 split at hw
 ·split at hw
  ·cases hw
  ·split at hw
   ·cases hw
   ·rename_i a b; omega
 ·cases hw
structure KnOk (k:KnownD):Prop where
 h:1≤k.h∧k.h≤1000000000000
 t:0≤k.t∧k.t≤1000000000000
 r:k.root.length=32
 n:k.next.length=32
theorem knE_zero {k:KnownD}:knE k=0↔KnOk k:=by
 unfold knE numB
 simp only [decide_eq_true_eq]
 constructor
 ·intro h
  split at h
  ·cases h
  ·split at h
   ·cases h
   ·exact ⟨by omega,by omega,by omega,by omega⟩
 ·rintro ⟨a,b,c,d⟩
  rw [if_neg (by omega),if_neg (by omega)]
theorem knsE_zero:∀ {o:Option KnownD} {l:List KnownD},knsE o l=0↔(∀ k∈l,KnOk k)∧l.Pairwise (fun a b=>a.h < b.h)∧(∀ q,o=some q→∀ k∈l,q.h < k.h)
 | o,[]=>by simp [knsE]
 | o,k :: t=>by
  rw [knsE]
  have ih:=knsE_zero (o:=some k) (l:=t)
  by_cases h1:knE k=0
  ·rw [if_pos h1]
   have k1:=knE_zero.1 h1
   by_cases h2:(o.any fun q=>decide (k.h≤q.h))=true
   ·rw [if_pos h2]
    constructor
    ·intro h; cases h
    ·rintro ⟨_,_,h⟩
     cases o with
     | none=>simp at h2
     | some q=>have:=h q rfl k (List.mem_cons_self ..); simp at h2; omega
   ·rw [if_neg h2,ih]
    constructor
    ·rintro ⟨a,b,c⟩
     refine ⟨fun x hx=>?_,List.pairwise_cons.2 ⟨c k rfl,b⟩,fun q hq x hx=>?_⟩
     ·rcases List.mem_cons.1 hx with rfl | hx
      ·exact k1
      ·exact a x hx
     ·subst hq
      simp at h2
      rcases List.mem_cons.1 hx with rfl | hx
      ·omega
      ·have:=c k rfl x hx; omega
    ·rintro ⟨a,b,c⟩
     have hb:=List.pairwise_cons.1 b
     exact ⟨fun x hx=>a x (List.mem_cons_of_mem _ hx),hb.2,fun q hq=>by injection hq with hq; subst hq; exact hb.1⟩
  ·rw [if_neg h1]
   constructor
   ·intro h; exact absurd h h1
   ·rintro ⟨a,_,_⟩; exact absurd (knE_zero.2 (a k (List.mem_cons_self ..))) h1
structure ClOk (c:ClientD):Prop where
 name:nameOk c.c=true
 trust:1≤c.trust∧c.trust≤1000000000000
 len:1≤c.known.length∧c.known.length≤30
 k:∀ k∈c.known,KnOk k
 rise:c.known.Pairwise fun a b=>a.h < b.h
theorem wrongC_zero {c:ClientD}:wrongC c=0↔ClOk c:=by
 unfold wrongC numB
 simp only [decide_eq_true_eq]
 constructor
 ·intro h
  split at h
  ·split at h
   ·cases h
   ·split at h
    ·cases h
    ·obtain ⟨a,b,_⟩:=knsE_zero.1 h
     exact ⟨by assumption,by omega,by omega,a,b⟩
  ·cases h
 ·rintro ⟨a,b,d,e,f⟩
  rw [if_pos a,if_neg (by omega),if_neg (by omega)]
  exact knsE_zero.2 ⟨e,f,fun q hq=>by cases hq⟩
theorem ClOk.sm {c:ClientD} (h:ClOk c):ClSm c:=⟨by have:=h.len; omega,fun k hk=>⟨by have:=(h.k k hk).r; omega,by have:=(h.k k hk).n; omega⟩⟩
theorem at_mem {c:ClientD} {h:Int} {k:KnownD} (e:atC c h=some k):k∈c.known∧k.h=h:=by
 unfold atC at e
 exact ⟨List.mem_of_find?_eq_some e,by simpa using List.find?_some e⟩
end Go.Proofs.YtadoaljnfeoecaaGreatDoor
set_option linter.all false
namespace Go.Proofs.YtadoaljnfeoecaaGreatDoor
open Go Go.Abs
theorem low_le (l:List KnownD) (h:Int):lowK l h≤l.length:=(List.takeWhile_prefix _).length_le
theorem low_iff {h:Int}:∀ {l:List KnownD},l.Pairwise (fun a b=>a.h < b.h)→∀ a (ha:a < l.length),l[a].h < h↔a < lowK l h
 | k :: t,hs,a,ha=>by
  obtain ⟨h1,h2⟩:=List.pairwise_cons.1 hs
  unfold lowK
  by_cases hk:k.h < h
  ·rw [List.takeWhile_cons_of_pos (by simpa using hk),List.length_cons]
   cases a with
   | zero=>simp [hk]
   | succ a =>
    have:=low_iff (h:=h) h2 a (by simpa using ha)
    unfold lowK at this
    simp only [List.getElem_cons_succ]; omega
  ·rw [List.takeWhile_cons_of_neg (by simpa using hk),List.length_nil]
   cases a with
   | zero=>simp only [List.getElem_cons_zero]; omega
   | succ a =>
    have ha':a < t.length:=by simpa using ha
    have:=h1 t[a] (List.getElem_mem _)
    simp only [List.getElem_cons_succ]; omega
theorem low_case {c:ClientD} (h:Int) (hs:c.known.Pairwise fun a b=>a.h < b.h) :
  (∃ hp:lowK c.known h < c.known.length,(c.known[lowK c.known h]'hp).h=h∧atC c h=some (c.known[lowK c.known h]'hp))∨((∀ hp:lowK c.known h < c.known.length,¬ (c.known[lowK c.known h]'hp).h=h)∧atC c h=none):=by
 cases e:atC c h with
 | some k =>
  left
  obtain ⟨hm,hk⟩:=at_mem e
  obtain ⟨i,hi,rfl⟩:=List.getElem_of_mem hm
  have h1:=(low_iff (h:=h) hs i hi)
  have h2:¬ i < lowK c.known h:=by rw [← h1]; omega
  have h3:¬ lowK c.known h < i:=by
   intro h3
   have a1:=low_iff (h:=h) hs (lowK c.known h) (by omega)
   have a2:=List.pairwise_iff_getElem.1 hs _ _ (by omega) hi h3
   omega
  have h4:lowK c.known h=i:=by omega
  revert h4
  generalize lowK c.known h=p
  rintro rfl
  exact ⟨hi,hk,rfl⟩
 | none =>
  right
  refine ⟨fun hp hk=>?_,rfl⟩
  have:=List.find?_eq_none.1 e _ (List.getElem_mem hp)
  simp [hk] at this
theorem asked_zero {c:ClientD} {now:Int}:askedE c now=0↔ClOk c∧(0≤now∧now≤1000000000000)∧c.frozen=false:=by
 unfold askedE numB
 simp only [decide_eq_true_eq]
 constructor
 ·intro h
  split at h
  ·rename_i hw
   split at h
   ·rename_i hn
    split at h
    ·cases h
    ·rename_i hf; exact ⟨wrongC_zero.1 hw,hn,by simpa using hf⟩
   ·cases h
  ·exact absurd h ‹_›
 ·rintro ⟨a,b,d⟩
  rw [if_pos (wrongC_zero.2 a),if_pos b,d]; rfl
theorem be_zero {c:ClientD} {u:UpdD} {now:Int} (h:beE c u now=0):checkS u.sg=0∧∃ k,atC c u.fr=some k∧beE1 c u now k=0:=by
 unfold beE at h
 split at h
 ·refine ⟨by assumption,?_⟩
  split at h
  ·cases h
  ·exact ⟨_,by assumption,h⟩
 ·exact absurd h ‹_›
theorem be_hdr {c:ClientD} {u:UpdD} {now:Int} (h:beE c u now=0):KnOk (ofH u.sg.hdr)∧u.sg.hdr.vals.length=32:=by
 have:=wrongH_nums (check_vals (be_zero h).1).2.2
 exact ⟨⟨⟨this.1,this.2.1⟩,⟨this.2.2.1,this.2.2.2.1⟩,this.2.2.2.2.1,this.2.2.2.2.2.2⟩,this.2.2.2.2.2.1⟩
end Go.Proofs.YtadoaljnfeoecaaGreatDoor
set_option linter.all false
namespace Go.Proofs.YtadoaljnfeoecaaGreatDoor
open Go Go.Abs Go.RowKit Go.Proofs.YtadoaljnfeoecaaGreatDoor.Ty
attribute [simp,go_sem] proofD gapD bbI
def memberE (c:ClientD) (now h:Int) (key val:List UInt8) (p:ProofD):Int :=
 if askedE c now=0 then
  (match atC c h with
  | none=>6
  | some k=>if activeC c now=true then (if p.k=key∧p.v=val∧shownF k.root p=true then 0 else 9) else 11)
 else askedE c now
def missingE (c:ClientD) (now h:Int) (key:List UInt8) (g:GapD):Int :=
 if askedE c now=0 then
  (match atC c h with
  | none=>6
  | some k=>if activeC c now=true then (if absentF k.root key g=true then 0 else 9) else 11)
 else askedE c now
theorem last_mem {c:ClientD} (h:1≤c.known.length):lastC c∈c.known:=by
 unfold lastC
 rw [List.getLastD_eq_getLast?,List.getLast?_eq_getElem?,List.getElem?_eq_getElem (by omega)]
 exact List.getElem_mem _
theorem act_A {c:ClientD} {now:Int} (ok:ClOk c) (hn:0≤now∧now≤1000000000000):PureD Tryz.prog 120 [clientD c,intD now] (boolD (activeC c now)):=by
 have hl:=ok.len
 have hk:=(ok.k _ (last_mem hl.1)).t
 exact cactive_A c now (by omega) (by omega) (by omega) (by omega)
set_option maxHeartbeats 4000000
set_option maxRecDepth 20000
theorem cmember_A (c:ClientD) (now h:Int) (key val:List UInt8) (p:ProofD) (hl:c.known.length≤1048576) :
  PureD Tryz.prog 102 [clientD c,intD now,intD h,.i (bI key),.i (bI val),proofD p] (intD (memberE c now h key val p)):=by
 refine hide_r fun R hR=>?_
 have c1:=casked_A c now hl
 unfold memberE at hR
 by_cases h1:askedE c now=0
 ·obtain ⟨ok,hn,hfz⟩:=asked_zero.1 h1
  rw [if_pos h1] at hR
  rw [h1] at c1
  have c2:=cat_A c h ok.sm
  have c3:=act_A ok hn
  have c4:=equal_A p.k key
  have c5:=equal_A p.v val
  unfold atR at c2
  clear h1 ok hn hfz hl
  cases h2:atC c h with
  | none =>
   rw [h2] at c2 hR
   simp only [zeroK] at c2
   clear h2
   refine callD_W 55 Tryz.func102 rfl rfl rfl (fun _ _=>rfl) ?_
   exact wkl trivial
  | some k =>
   rw [h2] at c2 hR
   simp only at c2 hR
   have c6:=shown_A k.root p
   clear h2
   generalize activeC c now=A at *
   generalize shownF k.root p=B at *
   by_cases m1:p.k=key <;> by_cases m2:p.v=val <;> simp only [m1,m2,true_and,false_and,decide_true,decide_false,if_false] at hR c4 c5
   all_goals
    refine callD_W 55 Tryz.func102 rfl rfl rfl (fun _ _=>rfl) ?_
    exact wkl trivial
 ·rw [if_neg h1] at hR
  generalize askedE c now=W at *
  refine callD_W 55 Tryz.func102 rfl rfl rfl (fun _ _=>rfl) ?_
  exact wkl trivial
theorem cmissing_A (c:ClientD) (now h:Int) (key:List UInt8) (g:GapD) (hl:c.known.length≤1048576) :
  PureD Tryz.prog 109 [clientD c,intD now,intD h,.i (bI key),gapD g] (intD (missingE c now h key g)):=by
 refine hide_r fun R hR=>?_
 have c1:=casked_A c now hl
 unfold missingE at hR
 by_cases h1:askedE c now=0
 ·obtain ⟨ok,hn,hfz⟩:=asked_zero.1 h1
  rw [if_pos h1] at hR
  rw [h1] at c1
  have c2:=cat_A c h ok.sm
  have c3:=act_A ok hn
  unfold atR at c2
  clear h1 ok hn hfz hl
  cases h2:atC c h with
  | none =>
   rw [h2] at c2 hR
   simp only [zeroK] at c2
   clear h2
   refine callD_W 40 Tryz.func109 rfl rfl rfl (fun _ _=>rfl) ?_
   exact wkl trivial
  | some k =>
   rw [h2] at c2 hR
   simp only at c2 hR
   have c6:=absent_A k.root key g
   clear h2
   generalize activeC c now=A at *
   generalize absentF k.root key g=B at *
   refine callD_W 40 Tryz.func109 rfl rfl rfl (fun _ _=>rfl) ?_
   exact wkl trivial
 ·rw [if_neg h1] at hR
  generalize askedE c now=W at *
  refine callD_W 40 Tryz.func109 rfl rfl rfl (fun _ _=>rfl) ?_
  exact wkl trivial
end Go.Proofs.YtadoaljnfeoecaaGreatDoor
