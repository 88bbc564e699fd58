/- A part of the proof. -/
import Derived.Test.YtfenipelcpmkpaaGreatDoorBrF
import Derived.Test.YtfenipelcpmkpaaGreatDoorLaw14A
import Derived.Test.YtfenipelcpmkpaaGreatDoorLnk
/- landlaw14.side: by value. -/
set_option linter.all false
set_option maxHeartbeats 16000000
set_option maxRecDepth 20000
namespace Go.Proofs.YtfenipelcpmkpaaGreatDoor
open Go Go.Abs Go.RowKit Go.Proofs.YtfenipelcpmkpaaGreatDoor.Ty
def abU (w:si):List D:=[.i (.s (.string w.1.s.name)),.i (.s (.int .i64 w.1.s.h)),.i (.s (.int .i64 w.1.s.t)),.i (.sl (w.1.s.cls.map gW)),.i (.sl (w.1.s.cns.map dW)),.i (.sl (w.1.s.chs.map bM)),.i (.sl (w.1.s.sent.map bN)),.i (.sl (w.1.s.got.map bN)),.i (.sl (w.1.s.acks.map bN)),.i (.sl (w.1.s.pus.map a_)),
 .i (.s (.string w.2.s.name)),.i (.s (.int .i64 w.2.s.h)),.i (.s (.int .i64 w.2.s.t)),.i (.sl (w.2.s.cls.map gW)),.i (.sl (w.2.s.cns.map dW)),.i (.sl (w.2.s.chs.map bM)),.i (.sl (w.2.s.sent.map bN)),.i (.sl (w.2.s.got.map bN)),.i (.sl (w.2.s.acks.map bN)),.i (.sl (w.2.s.pus.map a_))]
attribute [simp,go_sem] abU
end Go.Proofs.YtfenipelcpmkpaaGreatDoor
/- The law BridgeLinked: the walk. -/
set_option linter.all false
set_option maxHeartbeats 16000000
set_option maxRecDepth 20000
namespace Go.Proofs.YtfenipelcpmkpaaGreatDoor
open Go Go.Abs Go.RowKit Go.Proofs.YtfenipelcpmkpaaGreatDoor.Ty
attribute [local simp,local go_sem] List.map_cons List.map_nil
theorem uQ (r:Bool) (trust:Int):(oW r trust).length=44:=rfl
theorem mem_turn {s:Int} {m:MsgD} {e:EvD} (h:e∈turnL s m):e.m=m\/e.m=zeroMsg:=by
 simp only [turnL,List.mem_cons,List.not_mem_nil,or_false] at h
 rcases h with rfl | rfl | rfl | rfl | rfl
 ·exact .inl rfl
 all_goals exact .inr rfl
theorem QC (r:Bool) (trust:Int):∀ e∈oW r trust,aao e:=by
 intro e he
 have n0:iG 0:=by unfold iG; decide
 have hz:∀ k (o:Bool),aao ⟨0,0,0,0,0,{ zeroMsg with kind:=k,ord:=o }⟩:=fun k o=>⟨⟨b_.kn,b_.up,b_.up2,b_.tn,b_.td,b_.ts,b_.tr,b_.fr,b_.de,b_.data,b_.ack⟩,⟨n0,n0,n0,n0⟩⟩
 have z:∃ k o,zeroMsg={ zeroMsg with kind:=k,ord:=o }:=⟨0,false,rfl⟩
 have t:∀ {s k o},e∈turnL s { zeroMsg with kind:=k,ord:=o }->∃ k o,e.m={ zeroMsg with kind:=k,ord:=o }:=fun h=>by
  rcases mem_turn h with q | q
  ·exact ⟨_,_,q⟩
  ·rw [q]; exact z
 have key:∃ k o,e.m={ zeroMsg with kind:=k,ord:=o }:=by
  unfold oW at he
  rcases List.mem_append.1 he with he | he
  ·simp only [List.mem_cons,List.not_mem_nil,or_false] at he
   rcases he with rfl | rfl | rfl | rfl <;> exact z
  ·iterate 7 (rcases List.mem_append.1 he with he | he; (· exact t he))
   exact t he
 obtain ⟨k,o,q⟩:=key
 have:=hz k o
 unfold aao at this ⊢
 rw [q]; exact this
theorem walk_BridgeLinked (y0:I) (r:Bool) (e0:y0=.s (.bool r)) (y1:I) (trust:Int) (e1:y1=.s (.int .i64 trust)/\(Lit.int .i64 trust).wf=true) (hb:bkI y0+bkI y1<=1048576) :
  ∃ Ds,PureD Tryz.prog 8 Ds (.i (.s (.bool true)))/\Ds=[.i y0,.i y1]:=by
 obtain rfl:=e0
 obtain ⟨rfl,h64⟩:=e1
 refine ⟨_,?_,rfl⟩
 clear hb h64
 refine ak fun R hR=>?_
 have c1:=Om
 by_cases ht:5<=trust/\trust<=1000000000000
 rotate_left
 ·by_cases h5:trust < 5
  ·clear ht
   refine aa 78 Tryz.func8 rfl rfl rfl (fun _ _=>rfl) ?_
   exact wkl trivial
  ·have h6:1000000000000 < trust:=by omega
   clear ht
   refine aa 78 Tryz.func8 rfl rfl rfl (fun _ _=>rfl) ?_
   exact wkl trivial
 ·obtain ⟨t1,t2⟩:=ht
  have c2:=YT r trust
  have c3:=Td (oW r trust) (by rw [uQ]; decide) (QC r trust)
  rw [if_neg (by rw [uQ]; decide)] at c3
  obtain ⟨ho,hk⟩:=link_run (trust:=trust) r (by omega)
  have ea:=hk.a.ends
  have eb:=hk.b.ends
  have hl:(vV (oW r trust)).2.length=44:=by rw [show (vV (oW r trust)).2=(gV rP (oW r trust)).2 from rfl,xR,uQ]
  clear hk
  generalize oW r trust=LL at *
  generalize vV LL=W at *
  obtain ⟨⟨A,B⟩,ds⟩:=W
  have qa:A.s.cns=[⟨3,0,0,0⟩]:=congrArg EndsD.cns ea
  have qb:B.s.cns=[⟨3,0,0,0⟩]:=congrArg EndsD.cns eb
  have ra:A.s.chs=[⟨3,r,0,0,1,1,1⟩]:=congrArg EndsD.chs ea
  have rb:B.s.chs=[⟨3,r,0,0,1,1,1⟩]:=congrArg EndsD.chs eb
  have rr:(r == r)=true:=by simp
  clear ea eb
  generalize LL.map encEv=es at *
  simp only at c3 ho hl
  refine aa 78 Tryz.func8 rfl rfl rfl (fun _ _=>rfl) ?_
  refine wkl ?_
  clear hR; intro hR
  repeat' (intro _)
  clear c1 c2 c3
  refine aZ (ι:=Nat) (fun i=>i<=ds.length) (fun i=>ek [(0,boolD r),(5,.pt 100 0 0 0),(30,.i (.sl (ds.map kF))),(31,intD ds.length),(32,intD i)] [(100,.box (abU (A,B)))]) (fun i=>ds.length - i) 0 (Nat.zero_le _) ?_ ?_
  ·exact dP [] [(100,2288)]
  ·rintro i hi RL hL
   rw [au]
   by_cases h2:i < ds.length
   ·have s0:=aH (f:=kF) h2
    have he:=ho _ (List.getElem_mem h2)
    have b1:=fun σ'=>bk [] [(100,100)] (hL (i+1) σ' h2)
    clear hL ho
    generalize ds[i]=dd at *
    exact wkl trivial
   ·have hi2:i=ds.length:=by omega
    subst hi2
    clear hL ho
    refine wkl ?_
    clear hR; intro hR
    intros
    refine aZ (ι:=Nat) (fun k=>k<=2) (fun k=>ek [(0,boolD r),(44,.os 101 10 0 2),(45,intD 2),(46,intD k)] [(101,.arr 10 [encSt A.s,encSt B.s])]) (fun k=>2 - k) 0 (Nat.zero_le _) ?_ ?_
    ·exact dP [] [(101,4588)]
    ·rintro k hk RL2 hL
     rw [au]
     match k,hk with
     | 0,_ =>
      have b1:=fun σ'=>bk [] [(101,101)] (hL 1 σ' (by omega))
      clear hL
      exact wkl trivial
     | 1,_ =>
      have b1:=fun σ'=>bk [] [(101,101)] (hL 2 σ' (by omega))
      clear hL
      exact wkl trivial
     | 2,_ =>
      clear hL
      exact wkl trivial
end Go.Proofs.YtfenipelcpmkpaaGreatDoor
