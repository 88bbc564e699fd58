/- The law BridgeEnds: the walk. -/
import Derived.Test.YtfenipelcpmkpaaGreatDoorLaw14A
import Derived.Test.YtfenipelcpmkpaaGreatDoorHon
import Derived.Test.YtfenipelcpmkpaaGreatDoorWld
set_option linter.all false
set_option maxHeartbeats 16000000
set_option maxRecDepth 20000
namespace Go.Proofs.YtfenipelcpmkpaaGreatDoor
open Go Go.Abs Go.RowKit Go.Proofs.YtfenipelcpmkpaaGreatDoor.Ty
structure Zi (A B S O:aR) (k:Nat):Prop where
 s:PureD Tryz.prog 30 [.agg (Oc (A,B)),intD k] (stateD S.s)
 o:PureD Tryz.prog 30 [.agg (Oc (A,B)),intD (1 - (k:Int))] (stateD O.s)
 cn:∀ (i:Nat) (hi:i < S.s.cns.length),S.s.cns[i].st=3->(0<=S.s.cns[i].on/\S.s.cns[i].on < (O.s.cns.length:Int))/\2<=(cnAt O.s S.s.cns[i].on).st/\(cnAt O.s S.s.cns[i].on).on=i/\(cnAt O.s S.s.cns[i].on).cl=S.s.cns[i].oc/\(cnAt O.s S.s.cns[i].on).oc=S.s.cns[i].cl
 ch:∀ (i:Nat) (hi:i < S.s.chs.length),S.s.chs[i].st=3->(0<=S.s.chs[i].oc/\S.s.chs[i].oc < (O.s.chs.length:Int))/\2<=(chAt O.s S.s.chs[i].oc).st/\(chAt O.s S.s.chs[i].oc).oc=i/\(chAt O.s S.s.chs[i].oc).ord=S.s.chs[i].ord /\
  (0<=S.s.chs[i].cn/\S.s.chs[i].cn < (S.s.cns.length:Int))/\(cnAt S.s S.s.chs[i].cn).on=(chAt O.s S.s.chs[i].oc).cn
 lcn:S.s.cns.length<=8
 lch:S.s.chs.length<=8
 ocn:O.s.cns.length<=8
 och:O.s.chs.length<=8
theorem EN {A B S O:aR} {k:Nat} (h1:PureD Tryz.prog 30 [.agg (Oc (A,B)),intD k] (stateD S.s)) (h2:PureD Tryz.prog 30 [.agg (Oc (A,B)),intD (1 - (k:Int))] (stateD O.s)) (e:nM S O) (hS:StOk S.s) (hO:StOk O.s):Zi A B S O k:=by
 refine ⟨h1,h2,fun i hi h3=>?_,fun i hi h3=>?_,hS.lcn,hS.lch,hO.lcn,hO.lch⟩
 ·have e1:=(bT (s:=S.s) (i:=(i:Int)) ⟨by omega,by omega⟩).1
  simp only [Int.toNat_natCast] at e1
  rw [<- e1] at h3 ⊢
  obtain ⟨j,a,b,c,d,f,g⟩:=e.cn i hi h3
  rw [a]
  exact ⟨⟨by omega,by omega⟩,c,d,f,g⟩
 ·have e1:=(bO (s:=S.s) (i:=(i:Int)) ⟨by omega,by omega⟩).1
  simp only [Int.toNat_natCast] at e1
  rw [<- e1] at h3 ⊢
  obtain ⟨j,a,b,c,d,f,m,g1,g2,g3,g4⟩:=e.ch i hi h3
  rw [a,g1]
  exact ⟨⟨by omega,by omega⟩,c,d,f,⟨by omega,by omega⟩,g4⟩
theorem walk_BridgeEnds (y0:I) (l:List EvD) (e0:y0=Zu l/\∀ e∈l,uW e.m) (hb:bkI y0<=1048576) :
  ∃ Ds,PureD Tryz.prog 6 Ds (.i (.s (.bool true)))/\Ds=[.i y0]:=by
 obtain ⟨rfl,h64⟩:=e0
 refine ⟨_,?_,rfl⟩
 obtain ⟨he,hl⟩:=evs_sm (n:=1048576) hb (by omega) h64
 clear hb h64
 refine au fun R hR=>?_
 have c1:=Nv
 have c2:=RO l (by omega) he
 unfold Zu
 by_cases h:(120:Int) < l.length
 ·rw [if_pos h] at c2
  clear he
  refine aa 150 Tryz.func6 rfl rfl rfl (fun _ _=>rfl) ?_
  exact wkl trivial
 ·rw [if_neg h] at c2
  by_cases hh:∀ e∈l,trueEv e
  rotate_left
  ·have c3:=Yj l (by omega) false ⟨fun q=>(nomatch q),fun q=>absurd q hh⟩
   clear he hh
   generalize Ca l=W at *
   obtain ⟨⟨A,B⟩,ds⟩:=W
   refine aa 150 Tryz.func6 rfl rfl rfl (fun _ _=>rfl) ?_
   exact wkl trivial
  ·have c3:=Yj l (by omega) true ⟨fun _=>hh,fun _=>rfl⟩
   have ht:=JB l Ip lS (by omega) hh
   have hW:=JA l lS (by omega)
   rw [show (n_ mV l).1=(Ca l).1 from rfl] at ht hW
   clear he hh
   generalize Ca l=W at *
   obtain ⟨⟨A,B⟩,da⟩:=W
   simp only at c2 ht hW
   have key:∀ k:Nat,k < 2->∃ S O:aR,Zi A B S O k:=fun k hk=>by
    rcases (by omega:k=0\/k=1) with rfl | rfl
    ·exact ⟨A,B,EN (Jp (A,B)) (Jo (A,B) (1 - ((0:Nat):Int)) (by decide)) ht.a hW.a.ok hW.b.ok⟩
    ·exact ⟨B,A,EN (Jo (A,B) ((1:Nat):Int) (by decide)) (Jp (A,B)) ht.b hW.b.ok hW.a.ok⟩
   clear ht hW
   refine aa 150 Tryz.func6 rfl rfl rfl (fun _ _=>rfl) ?_
   refine wkl ?_
   clear hR; intro hR
   repeat' (intro _)
   clear c1 c2 c3
   refine aW (ι:=Nat) (fun k=>k<=2) (fun k=>dZ [(3,.pt 100 0 0 0),(30,intD k)]
    [(100,.box (Oc (A,B)))]) (fun k=>2 - k) 0 (Nat.zero_le _) ?_ ?_
   ·exact dK [] [(100,1774)]
   ·rintro k hk RL hL
    rw [ak]
    by_cases h2:k < 2
    ·obtain ⟨S,O,F⟩:=key k h2
     have c1:=F.s
     have c2:=F.o
     have lcn:=F.lcn
     have lch:=F.lch
     have ocn:=F.ocn
     have och:=F.och
     have fcn:=F.cn
     have fch:=F.ch
     have b0:=fun σ'=>bk [] [(100,100)] (hL (k+1) σ' h2)
     clear hL key F
     refine wkl ?_
     clear hR; intro hR
     intros
     clear c1 c2
     refine aW (ι:=Nat) (fun i=>i<=S.s.cns.length) (fun i=>dZ [(3,.pt 100 0 0 0),(30,intD k),(7,.pt 101 0 0 0),(8,.pt 102 0 0 0),(41,.i (.sl (S.s.cns.map dF))),(42,intD S.s.cns.length),(43,intD i)]
      [(100,.box (Oc (A,B))),(101,.box ((encSt S.s).map .i)),(102,.box ((encSt O.s).map .i))]) (fun i=>S.s.cns.length - i) 0 (Nat.zero_le _) ?_ ?_
     ·exact dK [] [(100,100),(101,3311),(102,3312)]
     ·rintro i hi RL hL
      rw [ak]
      by_cases h3:i < S.s.cns.length
      ·have s0:=aF (f:=dF) h3
       have b1:=fun σ'=>bk [] [(100,100),(101,101),(102,102)] (hL (i+1) σ' h3)
       by_cases q:S.s.cns[i].st=3
       ·obtain ⟨⟨q1,q2⟩,q3,q4,q5,q6⟩:=fcn i h3 q
        have r1:S.s.cns[i].on.toNat < O.s.cns.length:=by omega
        have s2:=aF (f:=dF) r1
        rw [<- (bT ⟨q1,q2⟩).1] at s2
        clear fcn fch hL b0
        generalize cnAt O.s S.s.cns[i].on=y at *
        generalize S.s.cns[i]=x at *
        exact wkl trivial
       ·clear fcn fch hL b0
        generalize S.s.cns[i]=x at *
        exact wkl trivial
      ·have hi2:i=S.s.cns.length:=by omega
       subst hi2
       clear hL fcn
       refine wkl ?_
       clear hR; intro hR
       intros
       refine aW (ι:=Nat) (fun i=>i<=S.s.chs.length) (fun i=>dZ [(3,.pt 100 0 0 0),(30,intD k),(7,.pt 101 0 0 0),(8,.pt 102 0 0 0),(93,.i (.sl (S.s.chs.map bF))),(94,intD S.s.chs.length),(95,intD i)]
        [(100,.box (Oc (A,B))),(101,.box ((encSt S.s).map .i)),(102,.box ((encSt O.s).map .i))]) (fun i=>S.s.chs.length - i) 0 (Nat.zero_le _) ?_ ?_
       ·exact dK [] [(100,100),(101,101),(102,102)]
       ·rintro i hi RL2 hL
        rw [ak]
        by_cases h3:i < S.s.chs.length
        ·have s0:=aF (f:=bF) h3
         have b1:=fun σ'=>bk [] [(100,100),(101,101),(102,102)] (hL (i+1) σ' h3)
         by_cases q:S.s.chs[i].st=3
         ·obtain ⟨⟨q1,q2⟩,q3,q4,q5,⟨q6,q7⟩,q8⟩:=fch i h3 q
          have r1:S.s.chs[i].oc.toNat < O.s.chs.length:=by omega
          have s2:=aF (f:=bF) r1
          rw [<- (bO ⟨q1,q2⟩).1] at s2
          have r2:S.s.chs[i].cn.toNat < S.s.cns.length:=by omega
          have s3:=aF (f:=dF) r2
          rw [<- (bT ⟨q6,q7⟩).1] at s3
          have q9:(S.s.chs[i].ord == S.s.chs[i].ord)=true:=by simp
          clear fch hL b0
          generalize chAt O.s S.s.chs[i].oc=y at *
          generalize cnAt S.s S.s.chs[i].cn=z at *
          generalize S.s.chs[i]=x at *
          exact wkl trivial
         ·clear fch hL b0
          generalize S.s.chs[i]=x at *
          exact wkl trivial
        ·have hi2:i=S.s.chs.length:=by omega
         subst hi2
         clear hL fch
         have b1:=b0
         clear b0
         exact wkl trivial
    ·clear hL key
     exact wkl trivial
end Go.Proofs.YtfenipelcpmkpaaGreatDoor
