/- landref8.Same: a state beside itself. -/
import Derived.Test.YtkbbipgjmoanhaaGreatDoorGSt
import Derived.Test.YtkbbipgjmoanhaaGreatDoorRClS
set_option linter.all false
set_option maxHeartbeats 16000000
set_option maxRecDepth 20000
namespace Go.Proofs.YtkbbipgjmoanhaaGreatDoor
open Go Go.Abs Go.RowKit Go.Proofs.YtkbbipgjmoanhaaGreatDoor.Ty
theorem rY (l:List bD) (hl:l.length<=1048576) (hd:∀ m∈l,m.dg.length<=1048576):PureD Tryz.prog 22 [.i (.sl (l.map bq)),.i (.sl (l.map bq))] (boolD true):=by
 refine aj fun R hR=>?_
 refine aa 55 Tryz.func22 rfl rfl rfl (fun _ _=>rfl) ?_
 refine wkl ?_
 clear hR; intro hR
 refine aT (ι:=Nat) (fun i=>i<=l.length) (fun i=>dW [(0,.i (.sl (l.map bq))),(1,.i (.sl (l.map bq))),(12,intD l.length),(13,intD i)] []) (fun i=>l.length - i) 0 (Nat.zero_le _) ?_ ?_
 ·exact dF [] []
 ·rintro i hi RL hL
  rw [au]
  by_cases h:i < l.length
  ·have s0:=get_lt (f:=bq) h
   have c1:=Ir l[i].dg l[i].dg (by have:=hd _ (List.getElem_mem h); omega)
   rw [decide_eq_true rfl] at c1
   have b1:=fun σ'=>bk [] [] (hL (i+1) σ' h)
   clear hL hd
   generalize l[i]=v at *
   exact wkl trivial
  ·clear hL
   exact wkl trivial
theorem qO (s:StateD) (hs:StSm s):PureD Tryz.prog 12 [stateD s,stateD s] (boolD true):=by
 refine aj fun R hR=>?_
 have l1:=hs.cls
 have l2:=hs.cns
 have l3:=hs.chs
 have l4:=hs.pus
 have c1:=rY s.sent hs.sent (fun m hm=>hs.dg m (.inl hm))
 have c2:=rY s.got hs.got (fun m hm=>hs.dg m (.inr (.inl hm)))
 have c3:=rY s.acks hs.acks (fun m hm=>hs.dg m (.inr (.inr hm)))
 have la1:∀ (a:Oper) (l m:List Oper),List.append (a :: l) m=a :: List.append l m:=fun _ _ _=>rfl
 have la2:∀ m:List Oper,List.append [] m=m:=fun _=>rfl
 refine aa 161 Tryz.func12 rfl rfl rfl (fun _ _=>rfl) ?_
 refine wkl ?_
 clear hR c1 c2 c3 la1 la2; intro hR
 refine aT (ι:=Nat) (fun i=>i<=s.cls.length) (fun i=>dW [(2,.pt 100 0 0 0),(3,.pt 101 0 0 0),(90,intD s.cls.length),(91,intD i)] [(100,.box ((encSt s).map .i)),(101,.box ((encSt s).map .i))]) (fun i=>s.cls.length - i) 0 (Nat.zero_le _) ?_ ?_
 ·exact dF [] [(100,1000),(101,1001)]
 ·rintro i hi RL hL
  rw [au]
  by_cases h:i < s.cls.length
  ·have s0:=get_lt (f:=fM) h
   have c1:=NV s.cls[i] (hs.cl _ (List.getElem_mem h))
   have b1:=fun σ'=>bk [] [(100,100),(101,101)] (hL (i+1) σ' h)
   clear hL hs
   generalize s.cls[i]=v at *
   exact wkl trivial
  ·clear hL
   refine wkl ?_
   clear hR; intro hR
   refine aT (ι:=Nat) (fun i=>i<=s.cns.length) (fun i=>dW [(2,.pt 100 0 0 0),(3,.pt 101 0 0 0),(109,intD s.cns.length),(110,intD i)] [(100,.box ((encSt s).map .i)),(101,.box ((encSt s).map .i))]) (fun i=>s.cns.length - i) 0 (Nat.zero_le _) ?_ ?_
   ·exact dF [] [(100,100),(101,101)]
   ·rintro i hi RL hL
    rw [au]
    by_cases h:i < s.cns.length
    ·have s0:=get_lt (f:=dA) h
     have b1:=fun σ'=>bk [] [(100,100),(101,101)] (hL (i+1) σ' h)
     clear hL hs
     generalize s.cns[i]=v at *
     exact wkl trivial
    ·clear hL
     refine wkl ?_
     clear hR; intro hR
     refine aT (ι:=Nat) (fun i=>i<=s.chs.length) (fun i=>dW [(2,.pt 100 0 0 0),(3,.pt 101 0 0 0),(127,intD s.chs.length),(128,intD i)] [(100,.box ((encSt s).map .i)),(101,.box ((encSt s).map .i))]) (fun i=>s.chs.length - i) 0 (Nat.zero_le _) ?_ ?_
     ·exact dF [] [(100,100),(101,101)]
     ·rintro i hi RL hL
      rw [au]
      by_cases h:i < s.chs.length
      ·have s0:=get_lt (f:=bu) h
       have b1:=fun σ'=>bk [] [(100,100),(101,101)] (hL (i+1) σ' h)
       clear hL hs
       generalize s.chs[i]=v at *
       have q1:(v.ord == v.ord)=true:=by cases v.ord <;> rfl
       exact wkl trivial
      ·clear hL
       refine wkl ?_
       clear hR; intro hR
       refine aT (ι:=Nat) (fun i=>i<=s.pus.length) (fun i=>dW [(2,.pt 100 0 0 0),(3,.pt 101 0 0 0),(145,intD s.pus.length),(146,intD i)] [(100,.box ((encSt s).map .i)),(101,.box ((encSt s).map .i))]) (fun i=>s.pus.length - i) 0 (Nat.zero_le _) ?_ ?_
       ·exact dF [] [(100,100),(101,101)]
       ·rintro i hi RL hL
        rw [au]
        by_cases h:i < s.pus.length
        ·have s0:=get_lt (f:=aV) h
         have b1:=fun σ'=>bk [] [(100,100),(101,101)] (hL (i+1) σ' h)
         clear hL hs
         generalize s.pus[i]=v at *
         exact wkl trivial
        ·clear hL
         exact wkl trivial
end Go.Proofs.YtkbbipgjmoanhaaGreatDoor
