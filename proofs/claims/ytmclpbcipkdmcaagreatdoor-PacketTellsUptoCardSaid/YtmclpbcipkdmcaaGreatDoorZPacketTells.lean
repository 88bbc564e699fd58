/- The statement on PacketTells, with the last texts of its proof: for every input of bounded bulk the law answers true and leaves its arguments as they were. -/
import Derived.Test.YtmclpbcipkdmcaaGreatDoorGRW
import Derived.Test.YtmclpbcipkdmcaaGreatDoorGR8
import Derived.Test.YtmclpbcipkdmcaaGreatDoorRClM
import Derived.Test.YtmclpbcipkdmcaaGreatDoorGCo
import Derived.Test.YtmclpbcipkdmcaaGreatDoorPkP
import Derived.Test.YtmclpbcipkdmcaaGreatDoorR1Sum
import Derived.Test.YtmclpbcipkdmcaaGreatDoorGMk
import Derived.Test.YtmclpbcipkdmcaaGreatDoorGProof
import Derived.Test.YtmclpbcipkdmcaaGreatDoorPkL
import Derived.Test.YtmclpbcipkdmcaaGreatDoorGCl
import Derived.Test.YtmclpbcipkdmcaaGreatDoorGSt
import Derived.Test.YtmclpbcipkdmcaaGreatDoorGSha
import Derived.Test.YtmclpbcipkdmcaaGreatDoorAbs4
import Derived.Test.YtmclpbcipkdmcaaGreatDoorPkC
import Derived.Test.YtmclpbcipkdmcaaGreatDoorPkD
import Derived.Test.YtmclpbcipkdmcaaGreatDoorPkB
import Derived.Test.YtmclpbcipkdmcaaGreatDoorRow2
import Derived.Test.YtmclpbcipkdmcaaGreatDoorTie
import Derived.WalkKit
import Derived.ProofKit
import Derived.OpenShut
import Derived.Deep.DeepHandedRow
import Derived.Lib.LaidTab
import Derived.Stop.LaidErr
import Derived.Test.YtmclpbcipkdmcaaGreatDoorCards
/- Merged texts: R9A, R9B, R9C. -/
set_option linter.all false
namespace Go.Proofs.YtmclpbcipkdmcaaGreatDoor
open Go Go.Abs Go.RowKit Go.Proofs.YtmclpbcipkdmcaaGreatDoor.Ty
set_option maxHeartbeats 8000000
set_option maxRecDepth 20000
theorem rcopy_D (s:StateD) (hs:StSm s):CallD Tryz.prog 50 [stateD s] noH
  (.agg [.i (.s (.string s.name)),.i (.s (.int .i64 s.h)),.i (.s (.int .i64 s.t)),.os 1 4 0 s.cls.length,.os 2 4 0 s.cns.length,.os 3 7 0 s.chs.length,.i (.sl (s.sent.map encM)),.i (.sl (s.got.map encM)),.i (.sl (s.acks.map encM)),.os 4 3 0 s.pus.length])
  (hOf noH [(1,.arr 4 (s.cls.map encC)),(2,.arr 4 (s.cns.map encCn)),(3,.arr 7 (s.chs.map encCh)),(4,.arr 3 (s.pus.map encPu))]):=by
 refine hide_c fun R R' hR hR'=>?_
 have l1:=hs.cls
 have l2:=hs.cns
 have l3:=hs.chs
 have l7:=hs.pus
 have u1:uni 4 (s.cls.map encC)=true:=by simp [uni,encC]
 have u2:uni 4 (s.cns.map encCn)=true:=by simp [uni,encCn]
 have u3:uni 7 (s.chs.map encCh)=true:=by simp [uni,encCh]
 have u4:uni 3 (s.pus.map encPu)=true:=by simp [uni,encPu]
 have a1:s.cls.length≤140737488355328:=by omega
 have a2:s.cns.length≤140737488355328:=by omega
 have a3:s.chs.length≤140737488355328:=by omega
 have a4:s.pus.length≤140737488355328:=by omega
 have b1:s.cls.length * 56≤140737488355328:=by omega
 have b2:s.cns.length * 32≤140737488355328:=by omega
 have b3:s.chs.length * 56≤140737488355328:=by omega
 have b4:s.pus.length * 40≤140737488355328:=by omega
 clear hs
 have d1:SrcIs [] [(1,1259),(2,1515),(3,1771),(4,2027)]:=⟨trivial⟩
 obtain ⟨rfl⟩:=hR'
 refine callD_W 24 Tryz.func50 rfl rfl rfl (fun _ _=>rfl) ?_
 exact wkl trivial
theorem rlive_A (s:StateD) (ok:StOk s) (c:Int):PureD Tryz.prog 47 [stateD s,intD c] (intD (overE s c)):=by
 refine hide_r fun R hR=>?_
 unfold overE at hR
 have hl:=ok.lcl
 by_cases h:c < 0∨(s.cls.length:Int)≤c
 ·rw [if_pos h] at hR
  clear ok
  refine callD_W 23 Tryz.func47 rfl rfl rfl (fun _ _=>rfl) ?_
  exact wkl trivial
 ·have hi:c.toNat < s.cls.length:=by omega
  have s0:=get_lt (f:=encC) hi
  have c1:=ractC_A (ok.cls _ (List.getElem_mem hi)) ok.t
  rw [if_neg h,(clAt_mem (s:=s) (i:=c) (by omega)).1] at hR
  clear ok
  generalize s.cls[c.toNat]=x at *
  generalize activeC x s.t=A at *
  refine callD_W 23 Tryz.func47 rfl rfl rfl (fun _ _=>rfl) ?_
  exact wkl trivial
theorem rthere_A (s:StateD) (ok:StOk s) (c:Int) (hc:0≤c∧c < (s.cls.length:Int)) (K V:List UInt8) (w:ShownD) (h1:w.p.k.length≤1048576) (h2:w.p.v.length≤1048576) :
  PureD Tryz.prog 49 [stateD s,intD c,.i (bI K),.i (bI V),shD w] (intD (memberE (clAt s c) s.t w.h K V w.p)):=by
 refine hide_r fun R hR=>?_
 have hl:=ok.lcl
 have hi:c.toNat < s.cls.length:=by omega
 have s0:=get_lt (f:=encC) hi
 have c1:=rmember_A (clAt s c) s.t w.h K V w.p (by have:=(ok.cls _ (clAt_mem hc).2).len; omega) h1 h2
 rw [(clAt_mem hc).1] at hR c1
 clear ok h1 h2
 generalize s.cls[c.toNat]=x at *
 generalize memberE x s.t w.h K V w.p=M at *
 refine callD_W 25 Tryz.func49 rfl rfl rfl (fun _ _=>rfl) ?_
 exact wkl trivial
end Go.Proofs.YtmclpbcipkdmcaaGreatDoor
set_option linter.all false
namespace Go.Proofs.YtmclpbcipkdmcaaGreatDoor
open Go Go.Abs Go.RowKit Go.Proofs.YtmclpbcipkdmcaaGreatDoor.Ty
set_option maxHeartbeats 16000000
set_option maxRecDepth 20000
end Go.Proofs.YtmclpbcipkdmcaaGreatDoor
set_option linter.all false
namespace Go.Proofs.YtmclpbcipkdmcaaGreatDoor
open Go Go.Abs Go.RowKit Go.Proofs.YtmclpbcipkdmcaaGreatDoor.Ty
set_option maxHeartbeats 16000000
set_option maxRecDepth 20000
end Go.Proofs.YtmclpbcipkdmcaaGreatDoor
/- landref9.Over, End, Digest, Wrong: by value. -/
set_option linter.all false
namespace Go.Proofs.YtmclpbcipkdmcaaGreatDoor
open Go Go.Abs Go.RowKit Go.Proofs.YtmclpbcipkdmcaaGreatDoor.Ty
def overR (s:StateD) (i:Int):ConnD × Int :=
 if i < 0∨(s.cns.length:Int)≤i then (zeroCn,6)
 else if (cnAt s i).st=3 then (if (cnAt s i).on < 0 then (cnAt s i,8) else (cnAt s i,overE s (cnAt s i).cl)) else (cnAt s i,12)
theorem overR_e {s:StateD} (ok:StOk s) (i:Int):(overR s i).2=(overCh s i).2:=by
 unfold overR overCh
 by_cases h:i < 0∨(s.cns.length:Int)≤i
 ·rw [if_pos h,if_pos h]
 ·rw [if_neg h,if_neg h]
  have hc:=(ok.cns _ (cnAt_mem (s:=s) (i:=i) (by omega)).2).cl
  unfold N12 at hc
  by_cases h1:(cnAt s i).st=3
  ·rw [if_pos h1,if_pos h1]
   by_cases h2:(cnAt s i).on < 0
   ·rw [if_pos h2,if_pos h2]
   ·rw [if_neg h2,if_neg h2]
    unfold overE
    by_cases h3:(s.cls.length:Int)≤(cnAt s i).cl
    ·rw [if_pos h3,if_pos (.inr h3)]
    ·rw [if_neg h3,if_neg (by omega)]
     split <;> rfl
  ·rw [if_neg h1,if_neg h1]
theorem overR_fst {s:StateD} (ok:StOk s) {i:Int} (h:(overCh s i).2=0):overR s i=(cnAt s i,0):=by
 have he:=overR_e ok i
 rw [h] at he
 obtain ⟨a,b,c,d,e⟩:=overCh_zero.1 h
 unfold overR at he ⊢
 rw [if_neg (by omega),if_pos b,if_neg (by omega)] at he ⊢
 rw [show overE s (cnAt s i).cl=0 from he]
def endR (s:StateD) (i:Int) (cl:Bool):ChanD × ConnD × Int :=
 if wrongS s=0 then (if i < 0∨(s.chs.length:Int)≤i then (zeroCh,zeroCn,6) else if (chAt s i).st=3∨(cl=true∧(chAt s i).st=4) then (chAt s i,(overR s (chAt s i).cn).1,(overR s (chAt s i).cn).2) else (chAt s i,zeroCn,12)) else (zeroCh,zeroCn,wrongS s)
def wsOf (cl:Bool):List Int:=if cl=true then [3,4] else [3]
theorem endR_e (s:StateD) (i:Int) (cl:Bool):(endR s i cl).2.2=(endPk s i (wsOf cl)).2.2:=by
 unfold endR endPk
 by_cases h:wrongS s=0
 ·rw [if_pos h,if_pos h]
  have ok:=wrongS_zero.1 h
  by_cases h1:i < 0∨(s.chs.length:Int)≤i
  ·rw [if_pos h1,if_pos h1]
  ·rw [if_neg h1,if_neg h1]
   have e:(stIn (chAt s i).st (wsOf cl)=true)=((chAt s i).st=3∨(cl=true∧(chAt s i).st=4)):=by
    cases cl <;> simp [stIn,wsOf]
   simp only [e]
   split
   ·exact overR_e ok _
   ·rfl
 ·rw [if_neg h,if_neg h]
theorem endR_fst {s:StateD} {i:Int} {cl:Bool} (h:(endPk s i (wsOf cl)).2.2=0):endR s i cl=(chAt s i,cnAt s (chAt s i).cn,0):=by
 obtain ⟨a,b,c,d⟩:=endPk_zero.1 h
 have e:(chAt s i).st=3∨(cl=true∧(chAt s i).st=4):=by cases cl <;> simpa [stIn,wsOf] using c
 unfold endR
 rw [if_pos (wrongS_zero.2 a),if_neg (by omega),if_pos e,overR_fst a d]
set_option maxHeartbeats 8000000
set_option maxRecDepth 20000
theorem rover9_A (s:StateD) (ok:StOk s) (i:Int):PureD Tryz.prog 67 [stateD s,intD i] (.tup [connD (overR s i).1,intD (overR s i).2]):=by
 refine hide_r fun R hR=>?_
 unfold overR at hR
 have hl:=ok.lcn
 by_cases h:i < 0∨(s.cns.length:Int)≤i
 ·rw [if_pos h] at hR
  clear ok
  refine callD_W 35 Tryz.func67 rfl rfl rfl (fun _ _=>rfl) ?_
  exact wkl trivial
 ·have hi:i.toNat < s.cns.length:=by omega
  have s0:=get_lt (f:=encCn) hi
  have hat:=(cnAt_mem (s:=s) (i:=i) (by omega)).1
  have c1:=rlive_A s ok (cnAt s i).cl
  rw [if_neg h] at hR
  rw [← hat] at s0
  clear ok hat
  generalize cnAt s i=x at *
  generalize overE s x.cl=E at *
  refine callD_W 35 Tryz.func67 rfl rfl rfl (fun _ _=>rfl) ?_
  exact wkl trivial
theorem rdig9_A (p:PackD) (hd:p.data.length≤1048576):PureD Tryz.prog 36 [packD p] (.i (bI (digPk p))):=by
 refine hide_r fun R hR=>?_
 have c1:=rN_A p.fr
 have c2:=rN_A p.de
 have c3:=rN_A p.seq
 have c4:=rN_A p.tout
 have c7:=rB_A p.data
 have c5:=rbytes3_A (pcsPk p) (by simp [pcsPk]) (by intro q hq; simp only [pcsPk,numP,rawB,List.mem_cons,List.not_mem_nil,or_false] at hq; rcases hq with rfl | rfl | rfl | rfl | rfl <;> simp <;> omega)
  (by intro q hq; simp only [pcsPk,numP,rawB,List.mem_cons,List.not_mem_nil,or_false] at hq; rcases hq with rfl | rfl | rfl | rfl | rfl <;> first | exact u64_lt _ | (simp only; omega))
 have c6:=sumref_A (writeF (pcsPk p)).1 (by have:=writeF_len (pcsPk p); omega)
 unfold digPk at hR
 generalize writeF (pcsPk p)=W at *
 simp only [pcsPk,numP,rawB,List.map_cons,List.map_nil,encP,bI] at c5
 generalize u64 p.fr=a1 at *
 generalize u64 p.de=a2 at *
 generalize u64 p.seq=a3 at *
 generalize u64 p.tout=a4 at *
 refine callD_W 21 Tryz.func36 rfl rfl rfl (fun _ _=>rfl) ?_
 exact wkl trivial
theorem wrongPk_eq (p:PackD):wrongPk p=if (nm p.fr 0 && nm p.de 0)=true then (if (nm p.seq 1 && nm p.tout 1)=true then (if (150:Int) < p.data.length then 4 else 0) else 3) else 3:=by
 unfold wrongPk
 by_cases h1:(nm p.fr 0 && nm p.de 0)=true
 ·rw [if_pos h1]
  by_cases h2:(nm p.seq 1 && nm p.tout 1)=true
  ·rw [if_pos h2,if_neg]
   simp only [nm,Bool.and_eq_true,decide_eq_true_eq] at h1 h2
   omega
  ·rw [if_neg h2,if_pos]
   simp only [nm,Bool.and_eq_true,decide_eq_true_eq] at h1 h2
   omega
 ·rw [if_neg h1,if_pos]
  simp only [nm,Bool.and_eq_true,decide_eq_true_eq] at h1
  omega
theorem rwrong9_A (p:PackD):PureD Tryz.prog 34 [packD p] (intD (wrongPk p)):=by
 refine hide_r fun R hR=>?_
 rw [wrongPk_eq] at hR
 have c1:=from2_A 0 p.fr p.de
 have c2:=from2_A 1 p.seq p.tout
 generalize (nm p.fr 0 && nm p.de 0)=B1 at *
 generalize (nm p.seq 1 && nm p.tout 1)=B2 at *
 refine callD_W 23 Tryz.func34 rfl rfl rfl (fun _ _=>rfl) ?_
 exact wkl trivial
theorem rend9_A (s:StateD) (hs:StSm s) (i:Int) (cl:Bool):PureD Tryz.prog 106 [stateD s,intD i,boolD cl] (.tup [chanD (endR s i cl).1,connD (endR s i cl).2.1,intD (endR s i cl).2.2]):=by
 refine hide_r fun R hR=>?_
 have c1:=rwrong8_A s hs
 unfold endR at hR
 by_cases h:wrongS s=0
 ·have ok:=wrongS_zero.1 h
  have hl:=ok.lch
  rw [h] at c1
  rw [if_pos h] at hR
  by_cases h2:i < 0∨(s.chs.length:Int)≤i
  ·rw [if_pos h2] at hR
   clear ok h hs
   refine callD_W 60 Tryz.func106 rfl rfl rfl (fun _ _=>rfl) ?_
   exact wkl trivial
  ·rw [if_neg h2] at hR
   have hi:i.toNat < s.chs.length:=by omega
   have s0:=get_lt (f:=encCh) hi
   have c2:=rover9_A s ok (chAt s i).cn
   rw [(chAt_mem (s:=s) (i:=i) (by omega)).1] at hR c2
   clear ok h hs
   generalize s.chs[i.toNat]=x at *
   generalize overR s x.cn=E at *
   cases cl
   all_goals
    simp only [Bool.false_eq_true,false_and,or_false,true_and] at hR
    refine callD_W 60 Tryz.func106 rfl rfl rfl (fun _ _=>rfl) ?_
    exact wkl trivial
 ·rw [if_neg h] at hR
  generalize wrongS s=W at *
  clear hs
  refine callD_W 60 Tryz.func106 rfl rfl rfl (fun _ _=>rfl) ?_
  exact wkl trivial
end Go.Proofs.YtmclpbcipkdmcaaGreatDoor
/- landref8.Without, With: plain. -/
set_option linter.all false
namespace Go.Proofs.YtmclpbcipkdmcaaGreatDoor
open Go Go.Abs Go.RowKit Go.Proofs.YtmclpbcipkdmcaaGreatDoor.Ty
def woM (l:List MarkD) (ch seq:Int):List MarkD:=l.filter fun m=>decide (¬ (m.ch=ch∧m.seq=seq))
theorem woM_take {l:List MarkD} {ch seq:Int} {i:Nat} (h:i < l.length):woM (l.take (i+1)) ch seq=woM (l.take i) ch seq++(if l[i].ch=ch∧l[i].seq=seq then [] else [l[i]]):=by
 unfold woM
 rw [List.take_succ_eq_append_getElem h,List.filter_append]
 by_cases e:l[i].ch=ch∧l[i].seq=seq
 ·simp [e]
 ·rw [if_neg e]; simp; omega
theorem woM_len (l:List MarkD) (ch seq:Int):(woM l ch seq).length≤l.length:=List.length_filter_le _ _
def wiM (x:MarkD):List MarkD→List MarkD
 | []=>[x]
 | m :: t=>if m.ch > x.ch∨m.ch=x.ch∧m.seq > x.seq then x :: m :: t else m :: wiM x t
theorem wo_drop {l:List MarkD} (h:MksOk l) (ch seq:Int):woM l ch seq=dropM l ch seq:=by
 unfold woM dropM KL.put
 simp only [Option.toList_none,List.nil_append]
 obtain ⟨h1,h2⟩:=h
 clear h1
 induction l with
 | nil=>rfl
 | cons m t ih =>
  have hs:=List.pairwise_cons.1 h2
  have hz:=@cmpM_ok.zero (mk m) (ch,seq)
  have hz':mk m=(ch,seq)↔m.ch=ch∧m.seq=seq:=by simp [mk]
  rcases Int.lt_trichotomy (cmpM (mk m) (ch,seq)) 0 with c | c | c
  ·have e:¬ (m.ch=ch∧m.seq=seq):=fun e=>by have:=hz.2 (hz'.2 e); omega
   rw [List.filter_cons_of_pos (by simp; omega),List.filter_cons_of_pos (by simpa using c),List.filter_cons_of_neg (by simp; omega),ih hs.2]; rfl
  ·have e:m.ch=ch∧m.seq=seq:=hz'.1 (hz.1 c)
   have hk:=hz.1 c
   have g:∀ y∈t,0 < cmpM (mk y) (ch,seq):=fun y hy=>by
    have:=hs.1 y hy
    rw [hk] at this
    exact (cmpM_ok.neg _ _).1 this
   rw [List.filter_cons_of_neg (by simp; omega),List.filter_cons_of_neg (by simp; omega),List.filter_cons_of_neg (by simp; omega),ih hs.2]
  ·have e:¬ (m.ch=ch∧m.seq=seq):=fun e=>by have:=hz.2 (hz'.2 e); omega
   have g:∀ y∈t,0 < cmpM (mk y) (ch,seq):=fun y hy=>by
    have h1:=(cmpM_ok.neg _ _).2 c
    exact (cmpM_ok.neg _ _).1 (cmpM_ok.trans _ _ _ h1 (hs.1 y hy))
   have f:(t.filter fun y=>decide (cmpM (mk y) (ch,seq) < 0))=[]:=List.filter_eq_nil_iff.2 fun y hy=>by have:=g y hy; simp; omega
   have:=ih hs.2
   rw [f] at this
   rw [List.filter_cons_of_pos (by simp; omega),List.filter_cons_of_neg (by simp; omega),List.filter_cons_of_pos (by simpa using c),f,this]; rfl
theorem wi_put {l:List MarkD} (h:MksOk l) (x:MarkD):wiM x (woM l x.ch x.seq)=putM l x:=by
 rw [wo_drop h]
 unfold dropM putM KL.put
 simp only [Option.toList_none,List.nil_append,Option.toList_some,List.cons_append]
 have gt:∀ m:MarkD,(m.ch > x.ch∨m.ch=x.ch∧m.seq > x.seq)↔0 < cmpM (mk m) (x.ch,x.seq):=fun m=>by
  unfold cmpM mk
  simp only
  split <;> omega
 have key:∀ (A B:List MarkD),(∀ m∈A,cmpM (mk m) (x.ch,x.seq) < 0)→(∀ m∈B,0 < cmpM (mk m) (x.ch,x.seq))→wiM x (A++B)=A++x :: B:=by
  intro A
  induction A with
  | nil =>
   intro B _ hB
   cases B with
   | nil=>rfl
   | cons m t=>rw [List.nil_append,wiM,if_pos ((gt m).2 (hB m (List.mem_cons_self ..)))]; rfl
  | cons m t ih =>
   intro B hA hB
   rw [List.cons_append,wiM,if_neg (fun e=>by have:=(gt m).1 e; have:=hA m (List.mem_cons_self ..); omega),ih B (fun y hy=>hA y (List.mem_cons_of_mem _ hy)) hB]; rfl
 exact key _ _ (fun m hm=>by simpa using (List.mem_filter.1 hm).2) (fun m hm=>by simpa using (List.mem_filter.1 hm).2)
end Go.Proofs.YtmclpbcipkdmcaaGreatDoor
/- landref8.Without, With: by value. -/
set_option linter.all false
namespace Go.Proofs.YtmclpbcipkdmcaaGreatDoor
open Go Go.Abs Go.RowKit Go.Proofs.YtmclpbcipkdmcaaGreatDoor.Ty
set_option maxHeartbeats 8000000
set_option maxRecDepth 20000
theorem without_A (l:List MarkD) (ch seq:Int) (hl:l.length≤1048576):PureD Tryz.prog 114 [.i (.sl (l.map encM)),intD ch,intD seq] (.i (.sl ((woM l ch seq).map encM))):=by
 refine hide_r fun R hR=>?_
 refine callD_W 32 Tryz.func114 rfl rfl rfl (fun _ _=>rfl) ?_
 refine wkl ?_
 clear hR; intro hR
 refine W_loopR (ι:=Nat) (fun i=>i≤l.length) (fun i=>stOf [(1,intD ch),(2,intD seq),(7,.os 100 3 0 (woM (l.take i) ch seq).length),(10,.i (.sl (l.map encM))),(11,intD l.length),(12,intD i)] [(100,.arr 3 ((woM (l.take i) ch seq).map encM))]) (fun i=>l.length - i) 0 (Nat.zero_le _) ?_ ?_
 ·have e0:woM [] ch seq=[]:=rfl
  exact le_ok [] []
 ·rintro i hi RL hL
  rw [stOf_eq]
  have hln:=woM_len (l.take i) ch seq
  rw [List.length_take] at hln
  by_cases h:i < l.length
  ·have s0:=get_lt (f:=encM) h
   have b0:=fun F src σ'=>bk F src (hL (i+1) σ' h)
   rw [woM_take h] at b0
   have q0:(woM (l.take i) ch seq).length≤1048577:=by omega
   have q1:((woM (l.take i) ch seq).length+1) * 40≤140737488355328:=by omega
   have q3:(woM (l.take i) ch seq).length * 40≤140737488355328:=by omega
   have q4:(woM (l.take i) ch seq).length+1≤140737488355328:=by omega
   clear hL hR
   generalize woM (l.take i) ch seq=W at *
   generalize l[i]=v at *
   by_cases e:v.ch=ch∧v.seq=seq
   ·rw [if_pos e,List.append_nil] at b0
    have b1:=b0 [] [(100,100)]
    obtain ⟨e1,e2⟩:=e
    clear b0
    exact wkl trivial
   ·rw [if_neg e] at b0
    have b1:=b0 [] [(100,2539)]
    clear b0
    exact wkl trivial
  ·have ht:l.take i=l:=List.take_of_length_le (by omega)
   rw [ht] at hln ⊢
   clear hL ht
   exact wkl trivial
end Go.Proofs.YtmclpbcipkdmcaaGreatDoor
/- landref8.With: by value. -/
set_option linter.all false
namespace Go.Abs
open Go Go.RowKit
theorem fin_sl {P:Program} {sl:Nat→D} {H:Nat→Ob} {fn:Func} {i:Tmp} {o sz len:Nat} {es:List (List I)} (h:fn.results=#[.tmp i]) (hv:sl i=.os o sz 0 len) (hl:len=es.length) (ho:H o=.arr sz es) :
  Fin P fn noH (.i (.sl es)) noH .ret ⟨sl,H⟩:=by
 subst hl
 refine ⟨_,resA_tmp h,?_⟩
 show LER noH (sl i) H _ _
 rw [hv]
 exact ler_of [] [o] [] (by simp [cv,cv1,cv0,ho,elemsOf]) (by simp) rfl (by simp) rfl
end Go.Abs
namespace Go.Proofs.YtmclpbcipkdmcaaGreatDoor
open Go Go.Abs Go.RowKit Go.Proofs.YtmclpbcipkdmcaaGreatDoor.Ty
set_option maxHeartbeats 8000000
set_option maxRecDepth 20000
theorem mk_sz {n:Nat} (h:n≤1048577):(n+1) * 40≤140737488355328∧(n+1+1) * 40≤140737488355328∧n+1≤140737488355328∧n+1+1≤140737488355328:=by omega
theorem with_A (l:List MarkD) (x:MarkD) (hl:l.length≤1048576):PureD Tryz.prog 108 [.i (.sl (l.map encM)),markD x] (.i (.sl ((wiM x (woM l x.ch x.seq)).map encM))):=by
 refine hide_r fun R hR=>?_
 have c1:=without_A l x.ch x.seq hl
 have hln:=woM_len l x.ch x.seq
 generalize woM l x.ch x.seq=W at *
 generalize hT:wiM x W=T at *
 refine callD_W 59 Tryz.func108 rfl rfl rfl (fun _ _=>rfl) ?_
 refine wkl ?_
 clear hR c1; intro hR
 refine W_loopR (ι:=Bool × Nat × List MarkD) (fun q=>q.2.1≤W.length∧q.2.2.length≤q.2.1+(if q.1=true then 1 else 0)∧T=q.2.2++(if q.1=true then W.drop q.2.1 else wiM x (W.drop q.2.1)))
  (fun q=>stOf [(3,.pt 101 0 0 0),(5,.os 100 3 0 q.2.2.length),(6,boolD q.1),(14,.i (.sl (W.map encM))),(15,intD W.length),(16,intD q.2.1)] [(100,.arr 3 (q.2.2.map encM)),(101,.box ((encM x).map .i))]) (fun q=>W.length - q.2.1) (false,0,[]) ⟨Nat.zero_le _,by simp,by simp [hT]⟩ ?_ ?_
 ·exact le_ok [] [(101,1000)]
 ·rintro ⟨b,i,O⟩ ⟨hi,hO,hq⟩ RL hL
  simp only at hi hO hq
  rw [stOf_eq]
  have q0:O.length≤1048577:=by
   have:O.length≤i+1:=by cases b <;> simp at hO <;> omega
   omega
  obtain ⟨q1,q2,q3,q4⟩:=mk_sz q0
  by_cases h:i < W.length
  ·have s0:=get_lt (f:=encM) h
   rw [List.drop_eq_getElem_cons h] at hq
   have h1:b=true→T=(O++[W[i]])++W.drop (i+1):=fun e=>by rw [hq,if_pos e]; simp
   have h2:b=false→(W[i].ch > x.ch∨W[i].ch=x.ch∧W[i].seq > x.seq)→T=(O++[x]++[W[i]])++W.drop (i+1):=fun e g=>by rw [hq,if_neg (by simp [e]),wiM,if_pos g]; simp
   have h3:b=false→¬ (W[i].ch > x.ch∨W[i].ch=x.ch∧W[i].seq > x.seq)→T=(O++[W[i]])++wiM x (W.drop (i+1)):=fun e g=>by rw [hq,if_neg (by simp [e]),wiM,if_neg g]; simp
   clear hq hR hT
   cases b
   ·by_cases g:W[i].ch > x.ch∨W[i].ch=x.ch∧W[i].seq > x.seq
    ·have b1:=fun σ'=>bk [] [(100,3307),(101,101)] (hL (true,i+1,O++[x]++[W[i]]) σ' ⟨h,by simp at hO ⊢; omega,by simpa using h2 rfl g⟩)
     clear hL h1 h2 h3
     simp only at b1
     generalize W[i]=v at *
     exact wkl trivial
    ·have b1:=fun σ'=>bk [] [(100,3307),(101,101)] (hL (false,i+1,O++[W[i]]) σ' ⟨h,by simp at hO ⊢; omega,by simpa using h3 rfl g⟩)
     clear hL h1 h2 h3
     simp only at b1
     generalize W[i]=v at *
     exact wkl trivial
   ·have b1:=fun σ'=>bk [] [(100,3307),(101,101)] (hL (true,i+1,O++[W[i]]) σ' ⟨h,by simp at hO ⊢; omega,by simpa using h1 rfl⟩)
    clear hL h1 h2 h3
    simp only at b1
    generalize W[i]=v at *
    exact wkl trivial
  ·rw [List.drop_eq_nil_of_le (by omega)] at hq
   clear hL hT
   cases b
   ·simp only [Bool.false_eq_true,if_false,wiM] at hq
    obtain ⟨rfl⟩:=hR
    rw [hq,List.map_append,List.map_cons,List.map_nil]
    clear hq
    refine wkl ?_
    repeat' (intro _)
    exact fin_sl (o:=4075) (sz:=3) (len:=O.length+1) rfl (by simp [upd]) (by simp) (by simp [upd,encM])
   ·simp only [if_true,List.append_nil] at hq
    subst hq
    exact wkl trivial
end Go.Proofs.YtmclpbcipkdmcaaGreatDoor
/- landref9.Send: by value. -/
set_option linter.all false
namespace Go.Proofs.YtmclpbcipkdmcaaGreatDoor
open Go Go.Abs Go.RowKit Go.Proofs.YtmclpbcipkdmcaaGreatDoor.Ty
set_option maxHeartbeats 16000000
set_option maxRecDepth 20000
theorem rnoS_A (e:Int):PureD Tryz.prog 105 [intD e] (.tup [stateD zeroSt,packD zeroPk,intD e]):=by
 refine hide_r fun R hR=>?_
 refine callD_W 8 Tryz.func105 rfl rfl rfl (fun _ _=>rfl) ?_
 exact wkl trivial
theorem rsend9_A (s:StateD) (hs:StSm s) (i:Int) (data:List UInt8) (hd:data.length≤1048576) (tout:Int) :
  PureD Tryz.prog 38 [stateD s,intD i,.i (bI data),intD tout] (.tup [stateD (sendPk s i data tout).1,packD (sendPk s i data tout).2.1,intD (sendPk s i data tout).2.2]):=by
 refine hide_r fun R hR=>?_
 have c1:=rend9_A s hs i false
 unfold sendPk at hR
 by_cases h:(endPk s i [3]).2.2=0
 ·rw [if_pos h] at hR
  obtain ⟨ok,hi,hst,hov⟩:=endPk_zero.1 h
  obtain ⟨ov1,ov2,ov3,ov4,ov5⟩:=overCh_zero.1 hov
  have hcl:=(ok.cns _ (cnAt_mem ov1).2).cl
  rw [endR_fst (cl:=false) h] at c1
  have c2:=rwrong9_A ⟨i,(chAt s i).oc,(chAt s i).snd,data,tout⟩
  have hi':i.toNat < s.chs.length:=by omega
  have s0:=get_lt (f:=encCh) hi'
  rw [← (chAt_mem hi).1] at s0
  by_cases hw:wrongPk ⟨i,(chAt s i).oc,(chAt s i).snd,data,tout⟩=0
  ·rw [if_pos hw] at hR
   rw [hw] at c2
   have pk:=wrongPk_zero.1 hw
   have hseq:=pk.seq
   unfold N12 at hseq hcl
   have hci:0≤(cnAt s (chAt s i).cn).cl∧(cnAt s (chAt s i).cn).cl < (s.cls.length:Int):=⟨hcl.1,ov4⟩
   have hm:=clAt_mem hci
   have s1:=get_lt (f:=encC) (l:=s.cls) (i:=(cnAt s (chAt s i).cn).cl.toNat) (by omega)
   rw [← hm.1] at s1
   have hkn:=(ok.cls _ hm.2).len
   have c3:=rlast_A (clOf s i) (by unfold clOf; omega) (by unfold clOf; omega)
   unfold clOf at c3 hR
   have hlen:=ok.lsent
   have hmany:((s.sent.length:Int)=50∨(chAt s i).snd=1000000000000)=((50:Int)≤s.sent.length∨1000000000000≤(chAt s i).snd):=propext (by simp only at hseq; omega)
   simp only [hmany] at hR
   have c4:=rdig9_A ⟨i,(chAt s i).oc,(chAt s i).snd,data,tout⟩ hd
   have c5:=with_A s.sent ⟨i,(chAt s i).snd,digPk ⟨i,(chAt s i).oc,(chAt s i).snd,data,tout⟩⟩ (by omega)
   rw [wi_put ok.sent] at c5
   have c6:=rnoS_A 11
   have c7:=rnoS_A 5
   have e1:=rcopy_D s hs
   unfold sendS at hR
   have w2:IntKind.i64.wrap ((chAt s i).snd+1)=(chAt s i).snd+1:=by simp only at hseq; rw [wrap64 (by omega) (by omega)]
   have s3:(s.chs.map encCh).set i.toNat (encCh { chAt s i with snd:=(chAt s i).snd+1 })=(s.chs.set i.toNat { chAt s i with snd:=(chAt s i).snd+1 }).map encCh:=List.map_set.symm
   have s4:s.chs.length=(s.chs.set i.toNat { chAt s i with snd:=(chAt s i).snd+1 }).length:=by simp
   clear hs h ok hst hov ov1 ov2 ov3 ov5 hcl hm hw pk hmany hkn
   generalize s.chs.set i.toNat { chAt s i with snd:=(chAt s i).snd+1 }=L at *
   generalize digPk ⟨i,(chAt s i).oc,(chAt s i).snd,data,tout⟩=G at *
   generalize chAt s i=x at *
   generalize cnAt s x.cn=y at *
   generalize clAt s y.cl=z at *
   generalize lastC z=k at *
   generalize putM s.sent ⟨i,x.snd,G⟩=M at *
   simp only [encCh] at s3
   simp only [markD,bI] at c5
   refine callD_W 102 Tryz.func38 rfl rfl rfl (fun _ _=>rfl) ?_
   exact wkl trivial
  ·rw [if_neg hw] at hR
   have c9:=rnoS_A (wrongPk ⟨i,(chAt s i).oc,(chAt s i).snd,data,tout⟩)
   generalize wrongPk ⟨i,(chAt s i).oc,(chAt s i).snd,data,tout⟩=W at *
   clear ok hs hov ov1 ov2 ov3 ov4 ov5 hcl
   generalize cnAt s (chAt s i).cn=y at *
   generalize chAt s i=x at *
   refine callD_W 102 Tryz.func38 rfl rfl rfl (fun _ _=>rfl) ?_
   exact wkl trivial
 ·rw [if_neg h] at hR
  have he:=endR_e s i false
  rw [show wsOf false=[3] from rfl] at he
  rw [← he] at h hR
  have c9:=rnoS_A (endR s i false).2.2
  generalize endR s i false=E at *
  clear hs
  refine callD_W 102 Tryz.func38 rfl rfl rfl (fun _ _=>rfl) ?_
  exact wkl trivial
end Go.Proofs.YtmclpbcipkdmcaaGreatDoor
/- landref8.Has: by value. -/
set_option linter.all false
namespace Go.Proofs.YtmclpbcipkdmcaaGreatDoor
open Go Go.Abs Go.RowKit Go.Proofs.YtmclpbcipkdmcaaGreatDoor.Ty
def hasM (l:List MarkD) (ch seq:Int):List UInt8 × Bool:=match l.find? (fun m=>decide (m.ch=ch∧m.seq=seq)) with | some m=>(m.dg,true) | none=>([],false)
theorem hasM_cons {m:MarkD} {t:List MarkD} {ch seq:Int}:hasM (m :: t) ch seq=if m.ch=ch∧m.seq=seq then (m.dg,true) else hasM t ch seq:=by
 unfold hasM
 rw [List.find?_cons]
 by_cases h:m.ch=ch∧m.seq=seq
 ·rw [if_pos h,decide_eq_true h]
 ·rw [if_neg h,decide_eq_false h]
theorem cmpM_zero {m:MarkD} {ch seq:Int}:decide (cmpM (mk m) (ch,seq)=0)=decide (m.ch=ch∧m.seq=seq):=by
 refine decide_eq_decide.2 ?_
 rw [cmpM_ok.zero]
 simp [mk]
theorem hasM_get (l:List MarkD) (ch seq:Int):hasM l ch seq=match getM l ch seq with | some m=>(m.dg,true) | none=>([],false):=by
 unfold hasM getM KL.get
 simp only [cmpM_zero]
set_option maxHeartbeats 8000000
set_option maxRecDepth 20000
theorem has_A (l:List MarkD) (ch seq:Int) (hl:l.length≤1048576):PureD Tryz.prog 111 [.i (.sl (l.map encM)),intD ch,intD seq] (.tup [.i (bI (hasM l ch seq).1),boolD (hasM l ch seq).2]):=by
 refine hide_r fun R hR=>?_
 refine callD_W 29 Tryz.func111 rfl rfl rfl (fun _ _=>rfl) ?_
 refine wkl ?_
 clear hR; intro hR
 have hR':Hr (D.tup [.i (bI (hasM (l.drop 0) ch seq).1),boolD (hasM (l.drop 0) ch seq).2]) R:=hR
 clear hR
 refine W_loopR (ι:=Nat) (fun i=>i≤l.length∧Hr (D.tup [.i (bI (hasM (l.drop i) ch seq).1),boolD (hasM (l.drop i) ch seq).2]) R)
  (fun i=>stOf [(1,intD ch),(2,intD seq),(10,.i (.sl (l.map encM))),(11,intD l.length),(12,intD i)] []) (fun i=>l.length - i) 0 ⟨Nat.zero_le _,hR'⟩ ?_ ?_
 ·exact le_ok [] []
 ·rintro i ⟨hi,hR⟩ RL hL
  clear hR'
  rw [stOf_eq]
  by_cases h:i < l.length
  ·have s0:=get_lt (f:=encM) h
   rw [List.drop_eq_getElem_cons h,hasM_cons] at hR
   have b1:=fun σ' (hq:Hr _ R)=>bk [] [] (hL (i+1) σ' ⟨h,hq⟩)
   clear hL
   generalize l[i]=v at *
   generalize hasM (l.drop (i+1)) ch seq=T at *
   exact wkl trivial
  ·rw [List.drop_eq_nil_of_le (by omega)] at hR
   simp only [hasM,List.find?_nil] at hR
   clear hL
   exact wkl trivial
end Go.Proofs.YtmclpbcipkdmcaaGreatDoor
/- landref9.Recv: by value. -/
set_option linter.all false
namespace Go.Proofs.YtmclpbcipkdmcaaGreatDoor
open Go Go.Abs Go.RowKit Go.Proofs.YtmclpbcipkdmcaaGreatDoor.Ty
set_option maxHeartbeats 16000000
set_option maxRecDepth 20000
theorem hasM_2 (l:List MarkD) (ch seq:Int):(hasM l ch seq).2=(getM l ch seq).isSome:=by
 rw [hasM_get]; cases getM l ch seq <;> rfl
theorem rrecv9_A (s:StateD) (hs:StSm s) (p:PackD) (hd:p.data.length≤1048576) (ack:List UInt8) (ha:ack.length≤1048576) (w:ShownD) (k1:w.p.k.length≤1048576) (k2:w.p.v.length≤1048576) :
  PureD Tryz.prog 40 [stateD s,packD p,.i (bI ack),shD w] (.tup [stateD (recvPk s p ack w).1,intD (recvPk s p ack w).2]):=by
 refine hide_r fun R hR=>?_
 have c1:=rwrong9_A p
 unfold recvPk at hR
 by_cases h0:wrongPk p=0
 ·rw [if_pos h0] at hR
  rw [h0] at c1
  have hpk:=wrongPk_zero.1 h0
  have c2:=rend9_A s hs p.de false
  by_cases h:(endPk s p.de [3]).2.2=0
  ·rw [if_pos h] at hR
   rw [endR_fst (cl:=false) h] at c2
   obtain ⟨ok,hi,hst,hov⟩:=endPk_zero.1 h
   obtain ⟨hj,h4,h5,h6,h7⟩:=overCh_zero.1 hov
   have hch:=ok.chs _ (chAt_mem hi).2
   have hcn:=ok.cns _ (cnAt_mem hj).2
   have q1:=hpk.de
   have q2:=hpk.seq
   have q3:=hpk.fr
   have n1:=ok.lgot
   have n2:=ok.lacks
   have c3:=has_A s.got p.de p.seq (by omega)
   rw [hasM_2] at c3
   have hcl:0≤(cnAt s (chAt s p.de).cn).cl∧(cnAt s (chAt s p.de).cn).cl < (s.cls.length:Int):=⟨hcn.cl.1,h6⟩
   unfold clOf at hR
   have c4:=rkeyM_A wSent (by decide) p.fr p.seq q3 (by unfold N12 at *; omega)
   have c5:=rdig9_A p hd
   have c6:=rthere_A s ok (cnAt s (chAt s p.de).cn).cl hcl (keyM wSent p.fr p.seq) (digPk p) w k1 k2
   have c7:=sumref_A ack (by omega)
   have c8:=with_A s.acks ⟨p.de,p.seq,sha ack⟩ (by omega)
   rw [wi_put ok.acks] at c8
   have c9:=with_A s.got ⟨p.de,p.seq,digPk p⟩ (by omega)
   rw [wi_put ok.got] at c9
   have e1:=rcopy_D s hs
   unfold recvS at hR
   have hsw:((chAt s p.de).oc=p.fr)=(p.fr=(chAt s p.de).oc):=propext ⟨Eq.symm,Eq.symm⟩
   simp only [hsw] at hR
   clear hsw
   have hi':p.de.toNat < s.chs.length:=by omega
   have s2:=get_lt (f:=encCh) hi'
   have hrc:=hch.rcv
   unfold N12 at hrc
   have hmany:((s.got.length:Int)=50∨(s.acks.length:Int)=50∨(150:Int) < ack.length∨(chAt s p.de).rcv=1000000000000)=((50:Int)≤s.got.length∨(50:Int)≤s.acks.length∨(150:Int) < ack.length∨1000000000000≤(chAt s p.de).rcv):=propext (by omega)
   simp only [hmany] at hR
   have w2:IntKind.i64.wrap ((chAt s p.de).rcv+1)=(chAt s p.de).rcv+1:=by rw [wrap64 (by omega) (by omega)]
   have s3:(s.chs.map encCh).set p.de.toNat (encCh { chAt s p.de with rcv:=(chAt s p.de).rcv+1 })=(s.chs.set p.de.toNat { chAt s p.de with rcv:=(chAt s p.de).rcv+1 }).map encCh:=List.map_set.symm
   have s4:s.chs.length=(s.chs.set p.de.toNat { chAt s p.de with rcv:=(chAt s p.de).rcv+1 }).length:=by simp
   rw [← (chAt_mem hi).1] at s2
   clear hs h ok hst hov hj h4 h5 h6 h7 hch hcn hrc hpk h0 hmany k1 k2 hcl
   generalize s.chs.set p.de.toNat { chAt s p.de with rcv:=(chAt s p.de).rcv+1 }=L at *
   generalize memberE (clAt s (cnAt s (chAt s p.de).cn).cl) s.t w.h (keyM wSent p.fr p.seq) (digPk p) w.p=E at *
   generalize keyM wSent p.fr p.seq=K at *
   generalize digPk p=G at *
   generalize sha ack=G2 at *
   generalize chAt s p.de=x at *
   generalize cnAt s x.cn=y at *
   generalize (getM s.got p.de p.seq).isSome=had at *
   generalize (hasM s.got p.de p.seq).1=hdg at *
   generalize putM s.got ⟨p.de,p.seq,G⟩=M at *
   generalize putM s.acks ⟨p.de,p.seq,G2⟩=M2 at *
   simp only [encCh] at s3
   simp only [markD,bI] at c8 c9
   simp only [wSent] at c4
   cases ho:x.ord
   ·simp only [ho,Bool.false_eq_true,false_and,true_and,false_or,if_false] at hR
    clear s2 s3 s4 w2
    refine callD_W 150 Tryz.func40 rfl rfl rfl (fun _ _=>rfl) ?_
    exact wkl trivial
   ·simp only [ho,Bool.true_eq_false,false_and,true_and,or_false,if_true] at hR
    clear c9
    simp only [ho] at s3
    obtain ⟨fr,de,seq,data,tout⟩:=p
    simp only at *
    by_cases hq:seq=x.rcv
    ·subst hq
     simp only [not_true_eq_false,if_false] at hR
     refine callD_W 150 Tryz.func40 rfl rfl rfl (fun _ _=>rfl) ?_
     exact wkl trivial
    ·simp only [hq,not_false_eq_true,if_true] at hR
     refine callD_W 150 Tryz.func40 rfl rfl rfl (fun _ _=>rfl) ?_
     exact wkl trivial
  ·rw [if_neg h] at hR
   have he:=endR_e s p.de false
   rw [show wsOf false=[3] from rfl] at he
   rw [← he] at h hR
   generalize endR s p.de false=E at *
   clear hs
   refine callD_W 150 Tryz.func40 rfl rfl rfl (fun _ _=>rfl) ?_
   exact wkl trivial
 ·rw [if_neg h0] at hR
  generalize wrongPk p=W at *
  clear hs
  refine callD_W 150 Tryz.func40 rfl rfl rfl (fun _ _=>rfl) ?_
  exact wkl trivial
end Go.Proofs.YtmclpbcipkdmcaaGreatDoor
/- landref9.Settle: by value. -/
set_option linter.all false
namespace Go.Proofs.YtmclpbcipkdmcaaGreatDoor
open Go Go.Abs Go.RowKit Go.Proofs.YtmclpbcipkdmcaaGreatDoor.Ty
set_option maxHeartbeats 16000000
set_option maxRecDepth 20000
theorem getM_mem {l:List MarkD} {ch seq:Int} {m:MarkD} (h:getM l ch seq=some m):m∈l:=by
 unfold getM KL.get at h
 exact List.mem_of_find?_eq_some h
theorem keyM_len (w:List UInt8) (hw:w.length≤10) {i j:Int} {a b:Int} (hi:N12 a i) (hj:N12 b j) (ha:-1≤a:=by decide) (hb:-1≤b:=by decide):(keyM w i j).length≤1048576:=by
 have h1:=ito_len (n:=i) (by unfold N12 at hi; unfold Num6; omega)
 have h2:=ito_len (n:=j) (by unfold N12 at hj; unfold Num6; omega)
 simp [keyM]; omega
theorem pendE_ok {s:StateD} {p:PackD} (h:pendE s p=0):wrongPk p=0∧(endPk s p.fr [3,4]).2.2=0∧(chAt s p.fr).oc=p.de∧∃ m,getM s.sent p.fr p.seq=some m∧m.dg=digPk p:=by
 unfold pendE at h
 split at h
 ·split at h
  ·split at h
   ·refine ⟨by assumption,by assumption,by assumption,?_⟩
    split at h
    ·cases h
    ·rename_i m hm
     split at h
     ·exact ⟨m,hm,by assumption⟩
     ·cases h
   ·cases h
  ·exact absurd h ‹_›
 ·exact absurd h ‹_›
theorem rpend9_A (s:StateD) (hs:StSm s) (p:PackD) (hd:p.data.length≤1048576) (late:Bool) (ack:List UInt8) (next:Int) (w:ShownD) (h:¬ pendE s p=0) :
  PureD Tryz.prog 42 [stateD s,packD p,boolD late,.i (bI ack),intD next,shD w] (.tup [stateD zeroSt,intD (pendE s p)]):=by
 refine hide_r fun R hR=>?_
 have c1:=rwrong9_A p
 unfold pendE at h hR
 by_cases h0:wrongPk p=0
 ·rw [if_pos h0] at hR h
  rw [h0] at c1
  have c2:=rend9_A s hs p.fr true
  by_cases h1:(endPk s p.fr [3,4]).2.2=0
  ·rw [if_pos h1] at hR h
   rw [endR_fst (cl:=true) h1] at c2
   obtain ⟨ok,hi,hst,hov⟩:=endPk_zero.1 h1
   have n1:=ok.lsent
   have c3:=has_A s.sent p.fr p.seq (by omega)
   by_cases h2:(chAt s p.fr).oc=p.de
   ·rw [if_pos h2] at hR h
    rw [hasM_get] at c3
    cases hg:getM s.sent p.fr p.seq with
    | none =>
     rw [hg] at c3 hR
     simp only at c3 hR
     clear ok hi hst hov h h1 h0 hs hg
     generalize cnAt s (chAt s p.fr).cn=y at *
     generalize chAt s p.fr=x at *
     refine callD_W 195 Tryz.func42 rfl rfl rfl (fun _ _=>rfl) ?_
     exact wkl trivial
    | some m =>
     rw [hg] at c3 hR h
     simp only at c3 hR h
     have hm:=hs.dg m (.inl (getM_mem hg))
     have c4:=rdig9_A p hd
     have c5:=same_A m.dg (digPk p) (by omega)
     by_cases h3:m.dg=digPk p
     ·rw [if_pos h3] at h; exact absurd rfl h
     ·rw [if_neg h3] at hR
      rw [decide_eq_false h3] at c5
      clear ok hi hst hov h h1 h0 hs hg hm h3
      generalize digPk p=G at *
      generalize m.dg=G2 at *
      generalize cnAt s (chAt s p.fr).cn=y at *
      generalize chAt s p.fr=x at *
      refine callD_W 195 Tryz.func42 rfl rfl rfl (fun _ _=>rfl) ?_
      exact wkl trivial
   ·rw [if_neg h2] at hR
    clear ok hi hst hov h h1 h0 hs
    generalize hasM s.sent p.fr p.seq=H at *
    generalize cnAt s (chAt s p.fr).cn=y at *
    generalize chAt s p.fr=x at *
    refine callD_W 195 Tryz.func42 rfl rfl rfl (fun _ _=>rfl) ?_
    exact wkl trivial
  ·rw [if_neg h1] at hR
   have he:=endR_e s p.fr true
   rw [show wsOf true=[3,4] from rfl] at he
   rw [← he] at h1 hR
   generalize endR s p.fr true=E at *
   clear hs h he
   refine callD_W 195 Tryz.func42 rfl rfl rfl (fun _ _=>rfl) ?_
   exact wkl trivial
 ·rw [if_neg h0] at hR
  generalize wrongPk p=W at *
  clear hs h
  refine callD_W 195 Tryz.func42 rfl rfl rfl (fun _ _=>rfl) ?_
  exact wkl trivial
theorem rack9_A (s:StateD) (hs:StSm s) (p:PackD) (hd:p.data.length≤1048576) (ack:List UInt8) (ha:ack.length≤1048576) (next:Int) (w:ShownD) (k1:w.p.k.length≤1048576) (k2:w.p.v.length≤1048576) :
  PureD Tryz.prog 42 [stateD s,packD p,boolD false,.i (bI ack),intD next,shD w] (.tup [stateD (ackPk s p ack w).1,intD (ackPk s p ack w).2]):=by
 by_cases h:pendE s p=0
 rotate_left
 ·have:=rpend9_A s hs p hd false ack next w h
  unfold ackPk
  rw [if_neg h]
  exact this
 refine hide_r fun R hR=>?_
 unfold ackPk at hR
 rw [if_pos h] at hR
 obtain ⟨h0,h1,h2,m,hg,h3⟩:=pendE_ok h
 have c1:=rwrong9_A p
 rw [h0] at c1
 have hpk:=wrongPk_zero.1 h0
 have c2:=rend9_A s hs p.fr true
 rw [endR_fst (cl:=true) h1] at c2
 obtain ⟨ok,hi,hst,hov⟩:=endPk_zero.1 h1
 obtain ⟨hj,h4,h5,h6,h7⟩:=overCh_zero.1 hov
 have hch:=ok.chs _ (chAt_mem hi).2
 have hcn:=ok.cns _ (cnAt_mem hj).2
 have n1:=ok.lsent
 have q1:=hpk.de
 have q2:=hpk.seq
 have c3:=has_A s.sent p.fr p.seq (by omega)
 rw [hasM_get,hg] at c3
 simp only at c3
 rw [h3] at c3
 have c4:=rdig9_A p hd
 have c5:=same_A (digPk p) (digPk p) (by rw [dig_len]; omega)
 rw [decide_eq_true rfl] at c5
 have c6:=without_A s.sent p.fr p.seq (by omega)
 rw [wo_drop ok.sent] at c6
 have c7:=rkeyM_A wAck (by decide) p.de p.seq q1 (by unfold N12 at *; omega)
 have c8:=sumref_A ack (by omega)
 have hcl:0≤(cnAt s (chAt s p.fr).cn).cl∧(cnAt s (chAt s p.fr).cn).cl < (s.cls.length:Int):=⟨hcn.cl.1,h6⟩
 unfold clOf at hR
 have c9:=rthere_A s ok (cnAt s (chAt s p.fr).cn).cl hcl (keyM wAck p.de p.seq) (sha ack) w k1 k2
 have e1:=rcopy_D s hs
 unfold dropS dropU at hR
 have hi':p.fr.toNat < s.chs.length:=by omega
 have s2:=get_lt (f:=encCh) hi'
 have hrc:=hch.ack
 unfold N12 at hrc
 have hmany:((chAt s p.fr).ack=1000000000000)=(1000000000000≤(chAt s p.fr).ack):=propext (by omega)
 simp only [hmany] at hR
 have w2:IntKind.i64.wrap ((chAt s p.fr).ack+1)=(chAt s p.fr).ack+1:=by rw [wrap64 (by omega) (by omega)]
 have s3:(s.chs.map encCh).set p.fr.toNat (encCh { chAt s p.fr with ack:=(chAt s p.fr).ack+1 })=(s.chs.set p.fr.toNat { chAt s p.fr with ack:=(chAt s p.fr).ack+1 }).map encCh:=List.map_set.symm
 have s4:s.chs.length=(s.chs.set p.fr.toNat { chAt s p.fr with ack:=(chAt s p.fr).ack+1 }).length:=by simp
 rw [← (chAt_mem hi).1] at s2
 clear hs h ok hst hov hj h4 h5 h6 h7 hch hcn hrc hpk h0 h1 h3 hg hmany k1 k2 hcl
 generalize s.chs.set p.fr.toNat { chAt s p.fr with ack:=(chAt s p.fr).ack+1 }=L at *
 generalize memberE (clAt s (cnAt s (chAt s p.fr).cn).cl) s.t w.h (keyM wAck p.de p.seq) (sha ack) w.p=E at *
 generalize keyM wAck p.de p.seq=K at *
 generalize digPk p=G at *
 generalize sha ack=G2 at *
 generalize chAt s p.fr=x at *
 generalize cnAt s x.cn=y at *
 generalize dropM s.sent p.fr p.seq=M at *
 simp only [encCh] at s3
 simp only [wAck] at c7
 cases ho:x.ord
 ·simp only [ho,Bool.false_eq_true,false_and,if_false] at hR
  clear s2 s3 s4 w2
  refine callD_W 195 Tryz.func42 rfl rfl rfl (fun _ _=>rfl) ?_
  exact wkl trivial
 ·simp only [ho,true_and,if_true] at hR
  simp only [ho,h2] at s3
  obtain ⟨fr,de,seq,data,tout⟩:=p
  simp only at *
  by_cases hq:seq=x.ack
  ·subst hq
   simp only [not_true_eq_false,if_false] at hR
   refine callD_W 195 Tryz.func42 rfl rfl rfl (fun _ _=>rfl) ?_
   exact wkl trivial
  ·simp only [hq,not_false_eq_true,if_true] at hR
   refine callD_W 195 Tryz.func42 rfl rfl rfl (fun _ _=>rfl) ?_
   exact wkl trivial
theorem rlate9_A (s:StateD) (hs:StSm s) (p:PackD) (hd:p.data.length≤1048576) (ack:List UInt8) (ha:ack.length≤1048576) (next:Int) (w:ShownD) (k1:w.p.k.length≤1048576) (k2:w.p.v.length≤1048576) :
  PureD Tryz.prog 42 [stateD s,packD p,boolD true,.i (bI ack),intD next,shD w] (.tup [stateD (latePk s p next w).1,intD (latePk s p next w).2]):=by
 by_cases h:pendE s p=0
 rotate_left
 ·have:=rpend9_A s hs p hd true ack next w h
  unfold latePk
  rw [if_neg h]
  exact this
 refine hide_r fun R hR=>?_
 unfold latePk at hR
 rw [if_pos h] at hR
 obtain ⟨h0,h1,h2,m,hg,h3⟩:=pendE_ok h
 have c1:=rwrong9_A p
 rw [h0] at c1
 have hpk:=wrongPk_zero.1 h0
 have c2:=rend9_A s hs p.fr true
 rw [endR_fst (cl:=true) h1] at c2
 obtain ⟨ok,hi,hst,hov⟩:=endPk_zero.1 h1
 obtain ⟨hj,h4,h5,h6,h7⟩:=overCh_zero.1 hov
 have hch:=ok.chs _ (chAt_mem hi).2
 have hcn:=ok.cns _ (cnAt_mem hj).2
 have n1:=ok.lsent
 have q1:=hpk.de
 have q2:=hpk.seq
 have c3:=has_A s.sent p.fr p.seq (by omega)
 rw [hasM_get,hg] at c3
 simp only at c3
 rw [h3] at c3
 have c4:=rdig9_A p hd
 have c5:=same_A (digPk p) (digPk p) (by rw [dig_len]; omega)
 rw [decide_eq_true rfl] at c5
 have c6:=without_A s.sent p.fr p.seq (by omega)
 rw [wo_drop ok.sent] at c6
 have hcl:0≤(cnAt s (chAt s p.fr).cn).cl∧(cnAt s (chAt s p.fr).cn).cl < (s.cls.length:Int):=⟨hcn.cl.1,h6⟩
 unfold clOf at hR
 have hm:=clAt_mem hcl
 have s0:=get_lt (f:=encC) (l:=s.cls) (i:=(cnAt s (chAt s p.fr).cn).cl.toNat) (by omega)
 rw [← hm.1] at s0
 have hkl:=(ok.cls _ hm.2).len
 have e1:=rcopy_D s hs
 unfold dropS dropU at hR
 have hi':p.fr.toNat < s.chs.length:=by omega
 have s2:=get_lt (f:=encCh) hi'
 have s3:(s.chs.map encCh).set p.fr.toNat (encCh { chAt s p.fr with st:=4 })=(s.chs.set p.fr.toNat { chAt s p.fr with st:=4 }).map encCh:=List.map_set.symm
 have s4:s.chs.length=(s.chs.set p.fr.toNat { chAt s p.fr with st:=4 }).length:=by simp
 rw [← (chAt_mem hi).1] at s2
 generalize s.chs.set p.fr.toNat { chAt s p.fr with st:=4 }=L at *
 cases ho:(chAt s p.fr).ord
 ·simp only [ho,Bool.false_eq_true,if_false] at hR
  have c7:=rkeyM_A wGot (by decide) p.de p.seq q1 (by unfold N12 at *; omega)
  have hkey:=keyM_len wGot (by decide) q1 q2
  have c9:=rmissing_A (clAt s (cnAt s (chAt s p.fr).cn).cl) s.t w.h (keyM wGot p.de p.seq) w.g (by omega) hkey
  have q9:=hcl.1
  clear hs h ok hst hov hj h4 h5 h6 h7 hch hcn hpk h0 h1 h3 hg k1 k2 hcl s2 s3 s4 hm hkl hkey
  generalize missingE (clAt s (cnAt s (chAt s p.fr).cn).cl) s.t w.h (keyM wGot p.de p.seq) w.g=E at *
  generalize keyM wGot p.de p.seq=K at *
  generalize digPk p=G at *
  generalize chAt s p.fr=x at *
  generalize cnAt s x.cn=y at *
  generalize clAt s y.cl=z at *
  generalize dropM s.sent p.fr p.seq=M at *
  simp only [wGot] at c7
  refine callD_W 195 Tryz.func42 rfl rfl rfl (fun _ _=>rfl) ?_
  exact wkl trivial
 ·simp only [ho,if_true] at hR
  by_cases hn:next < 1∨p.seq < next
  ·rw [if_pos hn] at hR
   clear hs h ok hst hov hj h4 h5 h6 h7 hch hcn hpk h0 h1 h3 hg k1 k2 hcl s0 s3 s4 hm hkl
   generalize digPk p=G at *
   generalize chAt s p.fr=x at *
   generalize cnAt s x.cn=y at *
   generalize dropM s.sent p.fr p.seq=M at *
   refine callD_W 195 Tryz.func42 rfl rfl rfl (fun _ _=>rfl) ?_
   exact wkl trivial
  ·rw [if_neg hn] at hR
   have c7:=rkeyN_A p.de q1
   have c8:=rN_A next
   have c10:=rbytes3_A [numP (u64 next)] (by simp) (by intro q hq; simp only [numP,List.mem_cons,List.not_mem_nil,or_false] at hq; subst hq; simp) (by intro q hq; simp only [numP,List.mem_cons,List.not_mem_nil,or_false] at hq; subst hq; exact u64_lt _)
   have c9:=rthere_A s ok (cnAt s (chAt s p.fr).cn).cl hcl (keyN p.de) (valN next) w k1 k2
   unfold valN at c9 hR
   simp only [List.map_cons,List.map_nil] at c10
   clear hs h ok hst hov hj h4 h5 h6 h7 hch hcn hpk h0 h1 h3 hg k1 k2 hcl s0 hm hkl
   generalize writeF [numP (u64 next)]=V at *
   generalize memberE (clAt s (cnAt s (chAt s p.fr).cn).cl) s.t w.h (keyN p.de) V.1 w.p=E at *
   generalize keyN p.de=K at *
   generalize digPk p=G at *
   generalize u64 next=nx at *
   generalize chAt s p.fr=x at *
   generalize cnAt s x.cn=y at *
   generalize dropM s.sent p.fr p.seq=M at *
   simp only [encCh,ho,h2] at s3
   simp only [encP,numP,bI,List.map_nil] at c10
   refine callD_W 195 Tryz.func42 rfl rfl rfl (fun _ _=>rfl) ?_
   exact wkl trivial
end Go.Proofs.YtmclpbcipkdmcaaGreatDoor
/- landref7.Same: a client is the same as itself. -/
set_option linter.all false
namespace Go.Proofs.YtmclpbcipkdmcaaGreatDoor
open Go Go.Abs Go.RowKit Go.Proofs.YtmclpbcipkdmcaaGreatDoor.Ty
set_option maxHeartbeats 4000000
set_option maxRecDepth 20000
theorem rsameC_A (a:ClientD) (ha:ClSm a):PureD Tryz.prog 52 [clientD a,clientD a] (boolD true):=by
 refine hide_r fun R hR=>?_
 obtain ⟨c,tr,fr,l⟩:=a
 have hl:=ha.l
 have hk:=ha.k
 simp only at hl hk
 clear ha
 have q1:(fr != fr)=false:=by cases fr <;> rfl
 have q2:(!decide (fr=fr))=false:=by simp
 have q3:(!(fr == fr))=false:=by cases fr <;> rfl
 refine callD_W 81 Tryz.func52 rfl rfl rfl (fun _ _=>rfl) ?_
 refine wkl ?_
 clear hR; intro hR
 refine W_loopR (ι:=Nat) (fun i=>i≤l.length)
  (fun i=>stOf [(2,.pt 100 0 0 0),(3,.pt 101 0 0 0),(38,intD l.length),(39,intD i)] [(100,.box [.i (.s (.string c)),.i (.s (.int .i64 tr)),.i (.s (.bool fr)),.i (knownI l)]),(101,.box [.i (.s (.string c)),.i (.s (.int .i64 tr)),.i (.s (.bool fr)),.i (knownI l)])])
  (fun i=>l.length - i) 0 (Nat.zero_le _) ?_ ?_
 ·exact le_ok [] [(100,1000),(101,1001)]
 ·rintro i hi RL hL
  rw [stOf_eq]
  by_cases h:i < l.length
  ·have e1:=get_lt (f:=encK) h
   have hs:=hk _ (List.getElem_mem h)
   have a1:=hs.r
   have a2:=hs.n
   have b1:=fun σ'=>bk [] [(100,100),(101,101)] (hL (i+1) σ' h)
   clear hL hs hk
   generalize l[i]=k at *
   have c1:=same_A k.root k.root (by omega)
   have c2:=same_A k.next k.next (by omega)
   rw [decide_eq_true rfl] at c1 c2
   exact wkl trivial
  ·exact wkl trivial
end Go.Proofs.YtmclpbcipkdmcaaGreatDoor
/- landref8.Same: a state beside itself. -/
set_option linter.all false
namespace Go.Proofs.YtmclpbcipkdmcaaGreatDoor
open Go Go.Abs Go.RowKit Go.Proofs.YtmclpbcipkdmcaaGreatDoor.Ty
set_option maxHeartbeats 16000000
set_option maxRecDepth 20000
theorem rsameMk_A (l:List MarkD) (hl:l.length≤1048576) (hd:∀ m∈l,m.dg.length≤1048576):PureD Tryz.prog 51 [.i (.sl (l.map encM)),.i (.sl (l.map encM))] (boolD true):=by
 refine hide_r fun R hR=>?_
 refine callD_W 55 Tryz.func51 rfl rfl rfl (fun _ _=>rfl) ?_
 refine wkl ?_
 clear hR; intro hR
 refine W_loopR (ι:=Nat) (fun i=>i≤l.length) (fun i=>stOf [(0,.i (.sl (l.map encM))),(1,.i (.sl (l.map encM))),(12,intD l.length),(13,intD i)] []) (fun i=>l.length - i) 0 (Nat.zero_le _) ?_ ?_
 ·exact le_ok [] []
 ·rintro i hi RL hL
  rw [stOf_eq]
  by_cases h:i < l.length
  ·have s0:=get_lt (f:=encM) h
   have c1:=same_A l[i].dg l[i].dg (by have:=hd _ (List.getElem_mem h); omega)
   rw [decide_eq_true rfl] at c1
   have b1:=fun σ'=>bk [] [] (hL (i+1) σ' h)
   clear hL hd
   generalize l[i]=v at *
   exact wkl trivial
  ·clear hL
   exact wkl trivial
theorem rsameS_A (s:StateD) (hs:StSm s):PureD Tryz.prog 10 [stateD s,stateD s] (boolD true):=by
 refine hide_r fun R hR=>?_
 have l1:=hs.cls
 have l2:=hs.cns
 have l3:=hs.chs
 have l4:=hs.pus
 have c1:=rsameMk_A s.sent hs.sent (fun m hm=>hs.dg m (.inl hm))
 have c2:=rsameMk_A s.got hs.got (fun m hm=>hs.dg m (.inr (.inl hm)))
 have c3:=rsameMk_A s.acks hs.acks (fun m hm=>hs.dg m (.inr (.inr hm)))
 have la1:∀ (a:Oper) (l m:List Oper),List.append (a :: l) m=a :: List.append l m:=fun _ _ _=>rfl
 have la2:∀ m:List Oper,List.append [] m=m:=fun _=>rfl
 refine callD_W 161 Tryz.func10 rfl rfl rfl (fun _ _=>rfl) ?_
 refine wkl ?_
 clear hR c1 c2 c3 la1 la2; intro hR
 refine W_loopR (ι:=Nat) (fun i=>i≤s.cls.length) (fun i=>stOf [(2,.pt 100 0 0 0),(3,.pt 101 0 0 0),(90,intD s.cls.length),(91,intD i)] [(100,.box ((encSt s).map .i)),(101,.box ((encSt s).map .i))]) (fun i=>s.cls.length - i) 0 (Nat.zero_le _) ?_ ?_
 ·exact le_ok [] [(100,1000),(101,1001)]
 ·rintro i hi RL hL
  rw [stOf_eq]
  by_cases h:i < s.cls.length
  ·have s0:=get_lt (f:=encC) h
   have c1:=rsameC_A s.cls[i] (hs.cl _ (List.getElem_mem h))
   have b1:=fun σ'=>bk [] [(100,100),(101,101)] (hL (i+1) σ' h)
   clear hL hs
   generalize s.cls[i]=v at *
   exact wkl trivial
  ·clear hL
   refine wkl ?_
   clear hR; intro hR
   refine W_loopR (ι:=Nat) (fun i=>i≤s.cns.length) (fun i=>stOf [(2,.pt 100 0 0 0),(3,.pt 101 0 0 0),(109,intD s.cns.length),(110,intD i)] [(100,.box ((encSt s).map .i)),(101,.box ((encSt s).map .i))]) (fun i=>s.cns.length - i) 0 (Nat.zero_le _) ?_ ?_
   ·exact le_ok [] [(100,100),(101,101)]
   ·rintro i hi RL hL
    rw [stOf_eq]
    by_cases h:i < s.cns.length
    ·have s0:=get_lt (f:=encCn) h
     have b1:=fun σ'=>bk [] [(100,100),(101,101)] (hL (i+1) σ' h)
     clear hL hs
     generalize s.cns[i]=v at *
     exact wkl trivial
    ·clear hL
     refine wkl ?_
     clear hR; intro hR
     refine W_loopR (ι:=Nat) (fun i=>i≤s.chs.length) (fun i=>stOf [(2,.pt 100 0 0 0),(3,.pt 101 0 0 0),(127,intD s.chs.length),(128,intD i)] [(100,.box ((encSt s).map .i)),(101,.box ((encSt s).map .i))]) (fun i=>s.chs.length - i) 0 (Nat.zero_le _) ?_ ?_
     ·exact le_ok [] [(100,100),(101,101)]
     ·rintro i hi RL hL
      rw [stOf_eq]
      by_cases h:i < s.chs.length
      ·have s0:=get_lt (f:=encCh) h
       have b1:=fun σ'=>bk [] [(100,100),(101,101)] (hL (i+1) σ' h)
       clear hL hs
       generalize s.chs[i]=v at *
       have q1:(v.ord == v.ord)=true:=by cases v.ord <;> rfl
       exact wkl trivial
      ·clear hL
       refine wkl ?_
       clear hR; intro hR
       refine W_loopR (ι:=Nat) (fun i=>i≤s.pus.length) (fun i=>stOf [(2,.pt 100 0 0 0),(3,.pt 101 0 0 0),(145,intD s.pus.length),(146,intD i)] [(100,.box ((encSt s).map .i)),(101,.box ((encSt s).map .i))]) (fun i=>s.pus.length - i) 0 (Nat.zero_le _) ?_ ?_
       ·exact le_ok [] [(100,100),(101,101)]
       ·rintro i hi RL hL
        rw [stOf_eq]
        by_cases h:i < s.pus.length
        ·have s0:=get_lt (f:=encPu) h
         have b1:=fun σ'=>bk [] [(100,100),(101,101)] (hL (i+1) σ' h)
         clear hL hs
         generalize s.pus[i]=v at *
         exact wkl trivial
        ·clear hL
         exact wkl trivial
end Go.Proofs.YtmclpbcipkdmcaaGreatDoor
/- Merged texts: DecB, Dec5, DecC0. -/
set_option linter.all false
namespace Go.Proofs.YtmclpbcipkdmcaaGreatDoor
open Go Go.Abs Go.RowKit
theorem dec_bb {e:List I} (h:HasCs [.sl [.int .u8]] e):∃ b:List UInt8,e=[bI b]∧True:=by
 obtain ⟨x,_,rfl,hx,h⟩:=hasCs_cons h
 obtain rfl:=hasCs_nil h
 obtain ⟨a,rfl⟩:=dec_B hx
 exact ⟨a,rfl,trivial⟩
theorem dec_BB {x:I} (h:HasC (.sl [.sl [.int .u8]]) x):∃ l:List (List UInt8),x=bbI l:=by
 obtain ⟨l,h1,_⟩:=dec_list (fun _ he=>dec_bb he) h
 exact ⟨l,h1⟩
end Go.Proofs.YtmclpbcipkdmcaaGreatDoor
set_option linter.all false
namespace Go.Proofs.YtmclpbcipkdmcaaGreatDoor
open Go Go.Abs Go.RowKit Go.Proofs.YtmclpbcipkdmcaaGreatDoor.Ty
theorem dec_Proof {e:List I} (h:HasCs [.int .i64,.int .i64,.sl [.int .u8],.sl [.int .u8],.sl [.sl [.int .u8]]] e):∃ p:ProofD,e=formI p:=by
 obtain ⟨x1,_,rfl,h1,h⟩:=hasCs_cons h
 obtain ⟨x2,_,rfl,h2,h⟩:=hasCs_cons h
 obtain ⟨x3,_,rfl,h3,h⟩:=hasCs_cons h
 obtain ⟨x4,_,rfl,h4,h⟩:=hasCs_cons h
 obtain ⟨x5,_,rfl,h5,h⟩:=hasCs_cons h
 obtain rfl:=hasCs_nil h
 obtain ⟨a,rfl,_⟩:=dec_int h1
 obtain ⟨b,rfl,_⟩:=dec_int h2
 obtain ⟨c,rfl⟩:=dec_B h3
 obtain ⟨d,rfl⟩:=dec_B h4
 obtain ⟨q,rfl⟩:=dec_BB h5
 exact ⟨⟨a,b,c,d,q⟩,rfl⟩
def gapI (g:GapD):List I:=.s (.bool g.hl) :: .s (.bool g.hr) :: (formI g.left++formI g.right)
theorem dec_Gap {e:List I} (h:HasCs [.bool,.bool,.int .i64,.int .i64,.sl [.int .u8],.sl [.int .u8],.sl [.sl [.int .u8]],.int .i64,.int .i64,.sl [.int .u8],.sl [.int .u8],.sl [.sl [.int .u8]]] e):∃ g:GapD,e=gapI g:=by
 obtain ⟨y1,_,rfl,k1,h⟩:=hasCs_cons h
 obtain ⟨y2,_,rfl,k2,h⟩:=hasCs_cons h
 obtain ⟨x1,_,rfl,h1,h⟩:=hasCs_cons h
 obtain ⟨x2,_,rfl,h2,h⟩:=hasCs_cons h
 obtain ⟨x3,_,rfl,h3,h⟩:=hasCs_cons h
 obtain ⟨x4,_,rfl,h4,h⟩:=hasCs_cons h
 obtain ⟨x5,_,rfl,h5,h⟩:=hasCs_cons h
 obtain ⟨p,rfl⟩:=dec_Proof h
 obtain ⟨a,rfl,_⟩:=dec_int h1
 obtain ⟨b,rfl,_⟩:=dec_int h2
 obtain ⟨c,rfl⟩:=dec_B h3
 obtain ⟨d,rfl⟩:=dec_B h4
 obtain ⟨q,rfl⟩:=dec_BB h5
 obtain ⟨u,rfl⟩:=dec_bool k1
 obtain ⟨v,rfl⟩:=dec_bool k2
 exact ⟨⟨u,v,⟨a,b,c,d,q⟩,p⟩,rfl⟩
end Go.Proofs.YtmclpbcipkdmcaaGreatDoor
set_option linter.all false
namespace Go.Proofs.YtmclpbcipkdmcaaGreatDoor
open Go Go.Abs Go.RowKit Go.Proofs.YtmclpbcipkdmcaaGreatDoor.Ty
theorem dec_Kn {e:List I} (h:HasCs [.int .i64,.int .i64,.sl [.int .u8],.sl [.int .u8]] e):∃ k:KnownD,e=encK k∧True:=by
 obtain ⟨x1,_,rfl,h1,h⟩:=hasCs_cons h
 obtain ⟨x2,_,rfl,h2,h⟩:=hasCs_cons h
 obtain ⟨x3,_,rfl,h3,h⟩:=hasCs_cons h
 obtain ⟨x4,_,rfl,h4,h⟩:=hasCs_cons h
 obtain rfl:=hasCs_nil h
 obtain ⟨a,rfl,_⟩:=dec_int h1
 obtain ⟨b,rfl,_⟩:=dec_int h2
 obtain ⟨u,rfl⟩:=dec_B h3
 obtain ⟨v,rfl⟩:=dec_B h4
 exact ⟨⟨a,b,u,v⟩,rfl,trivial⟩
theorem dec_Client {e:List I} (h:HasCs [.str,.int .i64,.bool,.sl [.int .i64,.int .i64,.sl [.int .u8],.sl [.int .u8]]] e):∃ c:ClientD,e=encC c:=by
 obtain ⟨x1,_,rfl,h1,h⟩:=hasCs_cons h
 obtain ⟨x2,_,rfl,h2,h⟩:=hasCs_cons h
 obtain ⟨x3,_,rfl,h3,h⟩:=hasCs_cons h
 obtain ⟨x4,_,rfl,h4,h⟩:=hasCs_cons h
 obtain rfl:=hasCs_nil h
 obtain ⟨a,rfl,_⟩:=dec_str h1
 obtain ⟨b,rfl,_⟩:=dec_int h2
 obtain ⟨f,rfl⟩:=dec_bool h3
 obtain ⟨l,rfl,_⟩:=dec_list (fun _ he=>dec_Kn he) h4
 exact ⟨⟨a,b,f,l⟩,rfl⟩
theorem kn_bk (k:KnownD):bkL (encK k)=k.root.length+k.next.length:=by
 have h1:=bk_B k.root
 have h2:=bk_B k.next
 simp only [bkL,encK,bkI,h1,h2]; omega
theorem cl_sm {c:ClientD} {n:Nat} (hb:bkL (encC c)≤n) (hn:n≤1048576):ClSm c∧c.c.size≤1048576:=by
 have h1:=bk_len encK c.known
 have h2:=fun k (hk:k∈c.known)=>bk_mem encK hk
 simp only [bkL,encC,bkI,knownI] at hb h1 h2
 refine ⟨⟨by omega,fun k hk=>?_⟩,by omega⟩
 have h3:=h2 k hk
 rw [kn_bk] at h3
 exact ⟨by omega,by omega⟩
end Go.Proofs.YtmclpbcipkdmcaaGreatDoor
/- What the rows hand in: states, what is shown, packets. -/
set_option linter.all false
namespace Go.Proofs.YtmclpbcipkdmcaaGreatDoor
open Go Go.Abs Go.RowKit Go.Proofs.YtmclpbcipkdmcaaGreatDoor.Ty
theorem dec_Cl' {e:List I} (h:HasCs [.str,.int .i64,.bool,.sl [.int .i64,.int .i64,.sl [.int .u8],.sl [.int .u8]]] e):∃ c:ClientD,e=encC c∧True:=by
 obtain ⟨c,h⟩:=dec_Client h
 exact ⟨c,h,trivial⟩
theorem dec_Cn {e:List I} (h:HasCs [.int .i64,.int .i64,.int .i64,.int .i64] e):∃ c:ConnD,e=encCn c∧True:=by
 obtain ⟨x1,_,rfl,h1,h⟩:=hasCs_cons h
 obtain ⟨x2,_,rfl,h2,h⟩:=hasCs_cons h
 obtain ⟨x3,_,rfl,h3,h⟩:=hasCs_cons h
 obtain ⟨x4,_,rfl,h4,h⟩:=hasCs_cons h
 obtain rfl:=hasCs_nil h
 obtain ⟨a,rfl,_⟩:=dec_int h1
 obtain ⟨b,rfl,_⟩:=dec_int h2
 obtain ⟨c,rfl,_⟩:=dec_int h3
 obtain ⟨d,rfl,_⟩:=dec_int h4
 exact ⟨⟨a,b,c,d⟩,rfl,trivial⟩
theorem dec_Ch {e:List I} (h:HasCs [.int .i64,.bool,.int .i64,.int .i64,.int .i64,.int .i64,.int .i64] e):∃ c:ChanD,e=encCh c∧True:=by
 obtain ⟨x1,_,rfl,h1,h⟩:=hasCs_cons h
 obtain ⟨x2,_,rfl,h2,h⟩:=hasCs_cons h
 obtain ⟨x3,_,rfl,h3,h⟩:=hasCs_cons h
 obtain ⟨x4,_,rfl,h4,h⟩:=hasCs_cons h
 obtain ⟨x5,_,rfl,h5,h⟩:=hasCs_cons h
 obtain ⟨x6,_,rfl,h6,h⟩:=hasCs_cons h
 obtain ⟨x7,_,rfl,h7,h⟩:=hasCs_cons h
 obtain rfl:=hasCs_nil h
 obtain ⟨a,rfl,_⟩:=dec_int h1
 obtain ⟨b,rfl⟩:=dec_bool h2
 obtain ⟨c,rfl,_⟩:=dec_int h3
 obtain ⟨d,rfl,_⟩:=dec_int h4
 obtain ⟨f,rfl,_⟩:=dec_int h5
 obtain ⟨g,rfl,_⟩:=dec_int h6
 obtain ⟨k,rfl,_⟩:=dec_int h7
 exact ⟨⟨a,b,c,d,f,g,k⟩,rfl,trivial⟩
theorem dec_Mk {e:List I} (h:HasCs [.int .i64,.int .i64,.sl [.int .u8]] e):∃ c:MarkD,e=encM c∧True:=by
 obtain ⟨x1,_,rfl,h1,h⟩:=hasCs_cons h
 obtain ⟨x2,_,rfl,h2,h⟩:=hasCs_cons h
 obtain ⟨x3,_,rfl,h3,h⟩:=hasCs_cons h
 obtain rfl:=hasCs_nil h
 obtain ⟨a,rfl,_⟩:=dec_int h1
 obtain ⟨b,rfl,_⟩:=dec_int h2
 obtain ⟨c,rfl⟩:=dec_B h3
 exact ⟨⟨a,b,c⟩,rfl,trivial⟩
theorem dec_Pu' {e:List I} (h:HasCs [.str,.str,.int .u64] e):∃ p:PurseD,e=encPu p∧p.n < 18446744073709551616:=by
 obtain ⟨x,_,rfl,hx,h⟩:=hasCs_cons h
 obtain ⟨y,_,rfl,hy,h⟩:=hasCs_cons h
 obtain ⟨z,_,rfl,hz,h⟩:=hasCs_cons h
 obtain rfl:=hasCs_nil h
 obtain ⟨a,rfl,_⟩:=dec_str hx
 obtain ⟨b,rfl,_⟩:=dec_str hy
 obtain ⟨c,rfl,hc⟩:=dec_u64 hz
 exact ⟨⟨a,b,c⟩,rfl,hc⟩
theorem dec_State {e:List I} (h:HasCs [.str,.int .i64,.int .i64,.sl [.str,.int .i64,.bool,.sl [.int .i64,.int .i64,.sl [.int .u8],.sl [.int .u8]]],.sl [.int .i64,.int .i64,.int .i64,.int .i64],.sl [.int .i64,.bool,.int .i64,.int .i64,.int .i64,.int .i64,.int .i64],
  .sl [.int .i64,.int .i64,.sl [.int .u8]],.sl [.int .i64,.int .i64,.sl [.int .u8]],.sl [.int .i64,.int .i64,.sl [.int .u8]],.sl [.str,.str,.int .u64]] e):∃ s:StateD,e=encSt s∧∀ p∈s.pus,p.n < 18446744073709551616:=by
 obtain ⟨x0,_,rfl,h0,h⟩:=hasCs_cons h
 obtain ⟨x1,_,rfl,h1,h⟩:=hasCs_cons h
 obtain ⟨x2,_,rfl,h2,h⟩:=hasCs_cons h
 obtain ⟨x3,_,rfl,h3,h⟩:=hasCs_cons h
 obtain ⟨x4,_,rfl,h4,h⟩:=hasCs_cons h
 obtain ⟨x5,_,rfl,h5,h⟩:=hasCs_cons h
 obtain ⟨x6,_,rfl,h6,h⟩:=hasCs_cons h
 obtain ⟨x7,_,rfl,h7,h⟩:=hasCs_cons h
 obtain ⟨x8,_,rfl,h8,h⟩:=hasCs_cons h
 obtain ⟨x9,_,rfl,h9,h⟩:=hasCs_cons h
 obtain rfl:=hasCs_nil h
 obtain ⟨a,rfl,_⟩:=dec_str h0
 obtain ⟨b,rfl,_⟩:=dec_int h1
 obtain ⟨c,rfl,_⟩:=dec_int h2
 obtain ⟨l3,rfl,_⟩:=dec_list (fun _ he=>dec_Cl' he) h3
 obtain ⟨l4,rfl,_⟩:=dec_list (fun _ he=>dec_Cn he) h4
 obtain ⟨l5,rfl,_⟩:=dec_list (fun _ he=>dec_Ch he) h5
 obtain ⟨l6,rfl,_⟩:=dec_list (fun _ he=>dec_Mk he) h6
 obtain ⟨l7,rfl,_⟩:=dec_list (fun _ he=>dec_Mk he) h7
 obtain ⟨l8,rfl,_⟩:=dec_list (fun _ he=>dec_Mk he) h8
 obtain ⟨l9,rfl,hn⟩:=dec_list (fun _ he=>dec_Pu' he) h9
 exact ⟨⟨a,b,c,l3,l4,l5,l6,l7,l8,l9⟩,rfl,hn⟩
def encShI (w:ShownD):List I:=.s (.int .i64 w.h) :: (formI w.p++gapI w.g)
theorem dec_Shown {e:List I} (h:HasCs [.int .i64,.int .i64,.int .i64,.sl [.int .u8],.sl [.int .u8],.sl [.sl [.int .u8]],.bool,.bool,.int .i64,.int .i64,.sl [.int .u8],.sl [.int .u8],.sl [.sl [.int .u8]],.int .i64,.int .i64,.sl [.int .u8],.sl [.int .u8],.sl [.sl [.int .u8]]] e) :
  ∃ w:ShownD,e=encShI w:=by
 obtain ⟨y1,_,rfl,k1,h⟩:=hasCs_cons h
 obtain ⟨x1,_,rfl,h1,h⟩:=hasCs_cons h
 obtain ⟨x2,_,rfl,h2,h⟩:=hasCs_cons h
 obtain ⟨x3,_,rfl,h3,h⟩:=hasCs_cons h
 obtain ⟨x4,_,rfl,h4,h⟩:=hasCs_cons h
 obtain ⟨x5,_,rfl,h5,h⟩:=hasCs_cons h
 obtain ⟨g,rfl⟩:=dec_Gap h
 obtain ⟨a,rfl,_⟩:=dec_int h1
 obtain ⟨b,rfl,_⟩:=dec_int h2
 obtain ⟨c,rfl⟩:=dec_B h3
 obtain ⟨d,rfl⟩:=dec_B h4
 obtain ⟨q,rfl⟩:=dec_BB h5
 obtain ⟨u,rfl,_⟩:=dec_int k1
 exact ⟨⟨u,⟨a,b,c,d,q⟩,g⟩,rfl⟩
theorem dec_Packet {e:List I} (h:HasCs [.int .i64,.int .i64,.int .i64,.sl [.int .u8],.int .i64] e):∃ p:PackD,e=encPk p:=by
 obtain ⟨x1,_,rfl,h1,h⟩:=hasCs_cons h
 obtain ⟨x2,_,rfl,h2,h⟩:=hasCs_cons h
 obtain ⟨x3,_,rfl,h3,h⟩:=hasCs_cons h
 obtain ⟨x4,_,rfl,h4,h⟩:=hasCs_cons h
 obtain ⟨x5,_,rfl,h5,h⟩:=hasCs_cons h
 obtain rfl:=hasCs_nil h
 obtain ⟨a,rfl,_⟩:=dec_int h1
 obtain ⟨b,rfl,_⟩:=dec_int h2
 obtain ⟨c,rfl,_⟩:=dec_int h3
 obtain ⟨d,rfl⟩:=dec_B h4
 obtain ⟨f,rfl,_⟩:=dec_int h5
 exact ⟨⟨a,b,c,d,f⟩,rfl⟩
theorem st_agg (s:StateD):D.agg ((encSt s).map .i)=stateD s:=rfl
theorem sh_agg (w:ShownD):D.agg ((encShI w).map .i)=shD w:=rfl
theorem pk_agg (p:PackD):D.agg ((encPk p).map .i)=packD p:=rfl
theorem st_sm {s:StateD} {n:Nat} (hb:bkL (encSt s)≤n) (hn:n≤1048576):StSm s:=by
 have h1:=bk_len encC s.cls
 have h2:=fun c (hc:c∈s.cls)=>bk_mem encC hc
 have h3:=bk_len encCn s.cns
 have h4:=bk_len encCh s.chs
 have h5:=bk_len encM s.sent
 have h6:=bk_len encM s.got
 have h7:=bk_len encM s.acks
 have h8:=fun m (hm:m∈s.sent)=>bk_mem encM hm
 have h9:=fun m (hm:m∈s.got)=>bk_mem encM hm
 have h10:=fun m (hm:m∈s.acks)=>bk_mem encM hm
 have h11:=bk_len encPu s.pus
 have e:bkL (encSt s)=s.name.size+(bkI (.sl (s.cls.map encC))+(bkI (.sl (s.cns.map encCn))+(bkI (.sl (s.chs.map encCh))+(bkI (.sl (s.sent.map encM))+(bkI (.sl (s.got.map encM))+(bkI (.sl (s.acks.map encM))+bkI (.sl (s.pus.map encPu)))))))):=by
  simp only [encSt,bkL,bkI]; omega
 rw [e] at hb
 have hm:∀ m:MarkD,m.dg.length≤bkL (encM m):=fun m=>by have:=bk_B m.dg; simp only [encM,bkL]; omega
 refine ⟨by omega,fun c hc=>(cl_sm (c:=c) (n:=n) (by have:=h2 c hc; omega) hn).1,by omega,by omega,by omega,by omega,by omega,fun m hmm=>?_,by omega⟩
 have hk:=hm m
 rcases hmm with hmm | hmm | hmm
 ·have:=h8 m hmm; omega
 ·have:=h9 m hmm; omega
 ·have:=h10 m hmm; omega
end Go.Proofs.YtmclpbcipkdmcaaGreatDoor
/- The law PacketTells: the walk. -/
set_option linter.all false
namespace Go.Proofs.YtmclpbcipkdmcaaGreatDoor
open Go Go.Abs Go.RowKit Go.Proofs.YtmclpbcipkdmcaaGreatDoor.Ty
theorem zero_smP:StSm zeroSt:=⟨by decide,by intro c hc; simp [zeroSt] at hc,by decide,by decide,by decide,by decide,by decide,by intro m hm; simp [zeroSt] at hm,by decide⟩
theorem sendPk_sm (s:StateD) (i:Int) (data:List UInt8) (tout:Int):StSm (sendPk s i data tout).1:=by
 by_cases h:(sendPk s i data tout).2.2=0
 ·have hr:=sendPk_zero.1 h
  rw [sendPk_done hr]; exact (send_step hr).ok.sm
 ·revert h
  unfold sendPk
  repeat' split
  all_goals
   intro h
   first | exact zero_smP | exact absurd rfl h
theorem recvPk_sm (s:StateD) (p:PackD) (ack:List UInt8) (w:ShownD):StSm (recvPk s p ack w).1:=by
 by_cases h:(recvPk s p ack w).2=0
 ·have hr:=recvPk_zero.1 h
  rw [recvPk_done hr]; exact (recv_step hr).ok.sm
 ·revert h
  unfold recvPk
  repeat' split
  all_goals
   intro h
   first | exact zero_smP | exact absurd rfl h
theorem ackPk_sm (s:StateD) (p:PackD) (ack:List UInt8) (w:ShownD):StSm (ackPk s p ack w).1:=by
 by_cases h:(ackPk s p ack w).2=0
 ·obtain ⟨hp,c,hc,h1,h2,h3,e⟩:=ackPk_zero h
  rw [e]; exact (drop_step hp hc).ok.sm
 ·revert h
  unfold ackPk
  repeat' split
  all_goals
   intro h
   first | exact zero_smP | exact absurd rfl h
theorem latePk_sm (s:StateD) (p:PackD) (next:Int) (w:ShownD):StSm (latePk s p next w).1:=by
 by_cases h:(latePk s p next w).2=0
 ·obtain ⟨hp,c,hc,h1,h2,h3,e⟩:=latePk_zero h
  rw [e]; exact (drop_step hp hc).ok.sm
 ·revert h
  unfold latePk
  repeat' split
  all_goals
   intro h
   first | exact zero_smP | exact absurd rfl h
set_option maxHeartbeats 32000000
set_option maxRecDepth 20000
theorem walk_PacketTells (y0:List I) (s:StateD) (e0:y0=encSt s∧∀ p∈s.pus,p.n < 18446744073709551616) (y1:I) (pos:Int) (e1:y1=.s (.int .i64 pos)∧(Lit.int .i64 pos).wf=true) (y2:I) (data:List UInt8) (e2:y2=bI data)
  (y3:I) (tout:Int) (e3:y3=.s (.int .i64 tout)∧(Lit.int .i64 tout).wf=true) (y4:List I) (p:PackD) (e4:y4=encPk p) (y5:I) (ack:List UInt8) (e5:y5=bI ack) (y6:I) (next:Int) (e6:y6=.s (.int .i64 next)∧(Lit.int .i64 next).wf=true) (y7:List I) (w:ShownD) (e7:y7=encShI w)
  (hb:bkL y0+bkI y1+bkI y2+bkI y3+bkL y4+bkI y5+bkI y6+bkL y7≤1048576) :
  ∃ Ds,PureD Tryz.prog 7 Ds (.i (.s (.bool true)))∧Ds=[.agg (y0.map .i),.i y1,.i y2,.i y3,.agg (y4.map .i),.i y5,.i y6,.agg (y7.map .i)]:=by
 obtain ⟨rfl,_⟩:=e0
 obtain ⟨rfl,_⟩:=e1
 subst e2
 obtain ⟨rfl,_⟩:=e3
 subst e4
 subst e5
 obtain ⟨rfl,_⟩:=e6
 subst e7
 refine ⟨_,?_,rfl⟩
 rw [st_agg,pk_agg,sh_agg]
 have hs:=st_sm (s:=s) (n:=1048576) (by omega) (by omega)
 have k1:=bk_B ack
 have k2:=bk_B p.data
 have k3:=bk_B data
 have ha:ack.length≤1048576:=by omega
 have h1:data.length≤1048576:=by omega
 have hd:p.data.length≤1048576:=by
  have:bkL (encPk p)=bkI (bI p.data):=by simp only [encPk,bkL,bkI]; omega
  omega
 have hk:w.p.k.length≤1048576∧w.p.v.length≤1048576:=by
  have k1:=bk_B w.p.k
  have k2:=bk_B w.p.v
  have:bkL (encShI w)≤1048576:=by omega
  simp only [encShI,formI,List.cons_append,List.nil_append,bkL,k1,k2] at this
  omega
 clear hb k1 k2 k3
 refine hide_r fun R hR=>?_
 have c1:=pkwrong_A p
 have c2:=rwrong9_A p
 have c3:=pkdig_A p hd
 have c4:=rdig9_A p hd
 have c5:=sendpk_A s hs pos data h1 tout
 have c6:=rsend9_A s hs pos data h1 tout
 have c7:=rsameS_A _ (sendPk_sm s pos data tout)
 have c8:=recvpk_A s hs p hd ack ha w
 have c9:=rrecv9_A s hs p hd ack ha w hk.1 hk.2
 have c10:=rsameS_A _ (recvPk_sm s p ack w)
 have r1:=ackpk_A s hs p hd ack ha w
 have r2:=rack9_A s hs p hd ack ha next w hk.1 hk.2
 have r3:=rsameS_A _ (ackPk_sm s p ack w)
 have r4:=latepk_A s hs p hd next w
 have r5:=rlate9_A s hs p hd ack ha next w hk.1 hk.2
 have r6:=rsameS_A _ (latePk_sm s p next w)
 generalize sendPk s pos data tout=A at *
 generalize recvPk s p ack w=B at *
 generalize ackPk s p ack w=C at *
 generalize latePk s p next w=E at *
 clear hs ha hd h1 hk
 obtain ⟨A1,A2,A3⟩:=A
 obtain ⟨B1,B2⟩:=B
 obtain ⟨C1,C2⟩:=C
 obtain ⟨E1,E2⟩:=E
 simp only at *
 generalize digPk p=G at *
 by_cases h0:wrongPk p=0
 ·rw [h0] at c1 c2
  clear h0
  refine callD_W 182 Tryz.func7 rfl rfl rfl (fun _ _=>rfl) ?_
  refine wkl ?_
  clear hR c1 c2 c3 c4 c5 c6 c7 c8 c9 c10; intro hR
  repeat' (intro _)
  have c1:=r1
  have c2:=r2
  have c3:=r3
  have c4:=r4
  have c5:=r5
  have c6:=r6
  clear r1 r2 r3 r4 r5 r6
  exact wkl trivial
 ·generalize wrongPk p=W at *
  clear c3 c4
  refine callD_W 182 Tryz.func7 rfl rfl rfl (fun _ _=>rfl) ?_
  refine wkl ?_
  clear hR c1 c2 c5 c6 c7 c8 c9 c10; intro hR
  repeat' (intro _)
  have c1:=r1
  have c2:=r2
  have c3:=r3
  have c4:=r4
  have c5:=r5
  have c6:=r6
  clear r1 r2 r3 r4 r5 r6
  exact wkl trivial
end Go.Proofs.YtmclpbcipkdmcaaGreatDoor
/- A row that lists package variables: what its list gives, and a world for the witness. -/
set_option linter.all false
namespace Go.Proofs.YtmclpbcipkdmcaaGreatDoor.Door
open Go Go.ChangeShapes Go.WideShapes Go.ChangeAt Go.RowKit Go.Abs
theorem gv {W:World} {rest:List (String × DataW Unit)} (h:laidMet Tryz.prog (("internal/strconv.uint64pow10",Rows.laid_internal_strconv_uint64pow10) :: rest) W):∀ q∈gvars,W.var? Tryz.prog q.1=some q.2:=by
 intro q hq
 simp only [gvars,List.mem_singleton] at hq
 subst hq
 exact Lib.tabIs_of_head (rest:=rest) (zs:=Lib.pow10Tab) (k:=.u64) (g:=1) (by kernel_rfl) (by kernel_rfl) Tryz.underlying256 Tryz.underlying92 (by kernel_rfl) (by kernel_rfl) h
def cellsD:DataW Unit→Array Value
 | .agg l=>(l.map fun d=>match d with | .lit (.int k z)=>Value.int k z | _=>undef).toArray
 | _=>#[]
noncomputable def setG (n:String) (d:DataW Unit) (h:Array Obj):Array Obj :=
 match (Tryz.prog).globalNamed n with
 | some g=>h.modify g fun | .cells _ t f=>.cells (cellsD d) t f | o=>o
 | none=>h
noncomputable def world (os:Os) (l:List (String × DataW Unit)):World :=
 { World.holding Tryz.prog os ⟨#[],#[],[]⟩ with heap:=l.foldl (fun h p=>setG p.1 p.2 h) (World.holding Tryz.prog os ⟨#[],#[],[]⟩).heap }
end Go.Proofs.YtmclpbcipkdmcaaGreatDoor.Door
/- The statement on landlaw11.PacketTells: for every input of bounded bulk it answers true and leaves its arguments as they were. -/
set_option linter.all false
namespace Go.Proofs.YtmclpbcipkdmcaaGreatDoor.packetTells
open Go.ChangeShapes Go.WideShapes Go.ChangeAt Go.RowKit Go.Abs
set_option linter.unusedVariables false
set_option maxRecDepth 100000 in
theorem contract (H:Type) (enc:TypeId × Value→H) (W:World) (base:Nat) (args:Array Value) (ds gs:List (DataW H)) (before:List MemPlace)
  (hval:∀ (j:Nat) t v,Tryz.f7.params[j]?=some t→args[j]?=some v→Value.okWide Tryz.prog W .any base t v)
  (hW:DataW.Whole enc Tryz.prog Tryz.f7.params.toList Rows.packetTellsSpec.vars false W args.toList ds gs before) (hk:Rows.uptoSmall H (ds++gs)=true) (hL:laidMetH Tryz.prog Rows.packetTellsUptoRow.laid W) :
  Calls Tryz.prog 7 args W fun e W'=>∃ v,e=.returned v∧Rows.packetTellsSpec.post enc Tryz.prog Tryz.f7 false true false false W args v W':=by
 have hW':=hW
 obtain ⟨p,q,hA0,hV,rfl,hfz,hnd⟩:=hW'
 have hA:DataW.TrodAll enc Tryz.prog W 0 (fun _=>true) true Tryz.f7.params.toList args.toList ds p:=hA0
 have hA1:=hA
 rw [Tryz.params7] at hA hval
 obtain ⟨v0,vs0,d0,ds0,p0,q0,hargs,rfl,rfl,h0,r0⟩:=trodAll_cons hA
 obtain ⟨v1,vs1,d1,ds1,p1,q1,rfl,rfl,rfl,h1,r1⟩:=trodAll_cons r0
 obtain ⟨v2,vs2,d2,ds2,p2,q2,rfl,rfl,rfl,h2,r2⟩:=trodAll_cons r1
 obtain ⟨v3,vs3,d3,ds3,p3,q3,rfl,rfl,rfl,h3,r3⟩:=trodAll_cons r2
 obtain ⟨v4,vs4,d4,ds4,p4,q4,rfl,rfl,rfl,h4,r4⟩:=trodAll_cons r3
 obtain ⟨v5,vs5,d5,ds5,p5,q5,rfl,rfl,rfl,h5,r5⟩:=trodAll_cons r4
 obtain ⟨v6,vs6,d6,ds6,p6,q6,rfl,rfl,rfl,h6,r6⟩:=trodAll_cons r5
 obtain ⟨v7,vs7,d7,ds7,p7,q7,rfl,rfl,rfl,h7,r7⟩:=trodAll_cons r6
 obtain ⟨rfl,rfl,rfl⟩:=trodAll_nil r7
 obtain rfl:args=#[v0,v1,v2,v3,v4,v5,v6,v7]:=by cases args; simp_all
 obtain ⟨rfl,rfl⟩:=trodVars_none hV
 have hb:Rows.uptoBulkAll (H:=H) [d0,d1,d2,d3,d4,d5,d6,d7]≤1048576:=by have:=of_decide_eq_true hk; simpa using this
 simp only [Rows.uptoBulkAll] at hb
 obtain ⟨y0,c0,w0,b0⟩:=open_ag R2.bulk Ty.sh28 Tryz.underlying28 (hval 0 28 v0 rfl rfl) h0
 obtain ⟨x0,e0⟩:=dec_State c0
 obtain ⟨y1,c1,w1,b1⟩:=open_in R2.bulk Ty.sh3 Tryz.underlying3 (hval 1 3 v1 rfl rfl) h1
 obtain ⟨x1,e1⟩:=dec_int c1
 obtain ⟨y2,c2,w2,b2⟩:=open_sl R2.bulk Ty.sh29 Tryz.underlying29 (hval 2 29 v2 rfl rfl) h2
 obtain ⟨x2,e2⟩:=dec_B c2
 obtain ⟨y3,c3,w3,b3⟩:=open_in R2.bulk Ty.sh3 Tryz.underlying3 (hval 3 3 v3 rfl rfl) h3
 obtain ⟨x3,e3⟩:=dec_int c3
 obtain ⟨y4,c4,w4,b4⟩:=open_ag R2.bulk Ty.sh71 Tryz.underlying71 (hval 4 71 v4 rfl rfl) h4
 obtain ⟨x4,e4⟩:=dec_Packet c4
 obtain ⟨y5,c5,w5,b5⟩:=open_sl R2.bulk Ty.sh29 Tryz.underlying29 (hval 5 29 v5 rfl rfl) h5
 obtain ⟨x5,e5⟩:=dec_B c5
 obtain ⟨y6,c6,w6,b6⟩:=open_in R2.bulk Ty.sh3 Tryz.underlying3 (hval 6 3 v6 rfl rfl) h6
 obtain ⟨x6,e6⟩:=dec_int c6
 obtain ⟨y7,c7,w7,b7⟩:=open_ag R2.bulk Ty.sh36 Tryz.underlying36 (hval 7 36 v7 rfl rfl) h7
 obtain ⟨x7,e7⟩:=dec_Shown c7
 have hy0:=e0
 have hy1:=e1
 have hy2:=e2
 have hy3:=e3
 have hy4:=e4
 have hy5:=e5
 have hy6:=e6
 have hy7:=e7
 simp only [List.append_nil] at hW
 obtain ⟨Ds,hp,hs⟩:=walk_PacketTells y0 x0 e0 y1 x1 e1 y2 x2 e2 y3 x3 e3 y4 x4 e4 y5 x5 e5 y6 x6 e6 y7 x7 e7 (by omega)
 subst hs
 refine (pure_calls hp rfl (fun j d hd=>?_) (Door.gv (laidMet.tail (laidMet.tail hL)))).mono fun e W' ⟨he,bel⟩=>?_
 ·rcases j with _ | _ | _ | _ | _ | _ | _ | _ | j <;> simp at hd <;> subst hd <;> assumption
 ·subst he
  exact ⟨_,rfl,_,_,_,[],_,[],hW,trodAll_mk1 (shut_bool Tryz.underlying4 _),R2.trodAll_below hA1 bel (by rw [Tryz.params7]; decide +kernel),rfl,bel.frame _,fun h=>by cases h⟩
theorem reads (os:Os) {H:Type} (enc:TypeId × Value→H):∃ places,DataW.whole enc Tryz.prog ((Door.world os Rows.packetTellsUptoRow.laid).forCall (fun _ _=>0) ⟨#[],#[.agg #[.string ⟨#[]⟩,.int .i64 0,.int .i64 0,.slice none 0 0,.slice none 0 0,.slice none 0 0,.slice none 0 0,.slice none 0 0,.slice none 0 0,.slice none 0 0],.int .i64 0,.slice none 0 0,.int .i64 0,.agg #[.int .i64 0,.int .i64 0,.int .i64 0,.slice none 0 0,.int .i64 0],.slice none 0 0,.int .i64 0,.agg #[.int .i64 0,.int .i64 0,.int .i64 0,.slice none 0 0,.slice none 0 0,.slice none 0 0,.bool false,.bool false,.int .i64 0,.int .i64 0,.slice none 0 0,.slice none 0 0,.slice none 0 0,.int .i64 0,.int .i64 0,.slice none 0 0,.slice none 0 0,.slice none 0 0]],[]⟩).memory Tryz.f7.params.toList Rows.packetTellsSpec.vars false (#[.agg #[.string ⟨#[]⟩,.int .i64 0,.int .i64 0,.slice none 0 0,.slice none 0 0,.slice none 0 0,.slice none 0 0,.slice none 0 0,.slice none 0 0,.slice none 0 0],.int .i64 0,.slice none 0 0,.int .i64 0,.agg #[.int .i64 0,.int .i64 0,.int .i64 0,.slice none 0 0,.int .i64 0],.slice none 0 0,.int .i64 0,.agg #[.int .i64 0,.int .i64 0,.int .i64 0,.slice none 0 0,.slice none 0 0,.slice none 0 0,.bool false,.bool false,.int .i64 0,.int .i64 0,.slice none 0 0,.slice none 0 0,.slice none 0 0,.int .i64 0,.int .i64 0,.slice none 0 0,.slice none 0 0,.slice none 0 0]]:Array Value).toList 20=some ([.agg [.lit (.string []),.lit (.int .i64 0),.lit (.int .i64 0),.nil,.nil,.nil,.nil,.nil,.nil,.nil],.lit (.int .i64 0),.nil,.lit (.int .i64 0),.agg [.lit (.int .i64 0),.lit (.int .i64 0),.lit (.int .i64 0),.nil,.lit (.int .i64 0)],.nil,.lit (.int .i64 0),.agg [.lit (.int .i64 0),.agg [.lit (.int .i64 0),.lit (.int .i64 0),.nil,.nil,.nil],.agg [.lit (.bool false),.lit (.bool false),.agg [.lit (.int .i64 0),.lit (.int .i64 0),.nil,.nil,.nil],.agg [.lit (.int .i64 0),.lit (.int .i64 0),.nil,.nil,.nil]]]],[],places) :=
 ⟨[],by kernel_rfl⟩
theorem laid_met (os:Os):laidMet Tryz.prog Rows.packetTellsUptoRow.laid ((Door.world os Rows.packetTellsUptoRow.laid).forCall (fun _ _=>0) ⟨#[],#[.agg #[.string ⟨#[]⟩,.int .i64 0,.int .i64 0,.slice none 0 0,.slice none 0 0,.slice none 0 0,.slice none 0 0,.slice none 0 0,.slice none 0 0,.slice none 0 0],.int .i64 0,.slice none 0 0,.int .i64 0,.agg #[.int .i64 0,.int .i64 0,.int .i64 0,.slice none 0 0,.int .i64 0],.slice none 0 0,.int .i64 0,.agg #[.int .i64 0,.int .i64 0,.int .i64 0,.slice none 0 0,.slice none 0 0,.slice none 0 0,.bool false,.bool false,.int .i64 0,.int .i64 0,.slice none 0 0,.slice none 0 0,.slice none 0 0,.int .i64 0,.int .i64 0,.slice none 0 0,.slice none 0 0,.slice none 0 0]],[]⟩).memory :=
 laidMet_of_run' 8 (by kernel_rfl) (by kernel_rfl)
set_option maxRecDepth 100000 in
theorem lifted (os:Os) (started:os.Started) (H:Type) (enc:TypeId × Value→H) (F:Stop.Interp) :
  ReturnsInHanded {} Tryz.checked os 7 .any ((Rows.OpenSpec.upto Rows.packetTellsSpec).preRow enc Tryz.prog Tryz.f7 Rows.packetTellsUptoRow.domain false Rows.packetTellsUptoRow.laid) (((Rows.OpenSpec.upto Rows.packetTellsSpec).at F).post enc Tryz.prog Tryz.f7 false true false false):=by
 obtain ⟨places,hx⟩:=reads os enc
 refine returnsInHanded_of_row (C:=Tryz.checked) (s:=Rows.OpenSpec.upto Rows.packetTellsSpec) R2.own started (by kernel_rfl) Tryz.func7
  (witness_row_at (enc:=enc) (C:=Tryz.checked) false (Door.world os Rows.packetTellsUptoRow.laid) #[.agg #[.string ⟨#[]⟩,.int .i64 0,.int .i64 0,.slice none 0 0,.slice none 0 0,.slice none 0 0,.slice none 0 0,.slice none 0 0,.slice none 0 0,.slice none 0 0],.int .i64 0,.slice none 0 0,.int .i64 0,.agg #[.int .i64 0,.int .i64 0,.int .i64 0,.slice none 0 0,.int .i64 0],.slice none 0 0,.int .i64 0,.agg #[.int .i64 0,.int .i64 0,.int .i64 0,.slice none 0 0,.slice none 0 0,.slice none 0 0,.bool false,.bool false,.int .i64 0,.int .i64 0,.slice none 0 0,.slice none 0 0,.slice none 0 0,.int .i64 0,.int .i64 0,.slice none 0 0,.slice none 0 0,.slice none 0 0]] rfl (by kernel_rfl) (by kernel_rfl) (by kernel_rfl)
   (OpenSpec.preRow_of_cond 20 hx (by kernel_rfl) (fun k hk=>by cases hk; kernel_rfl) (by kernel_rfl) (laid_met os))) ?_
 intro W base args ds gs before hval hW _ hcond _ hL _ _
 exact contract H enc W base args ds gs before hval hW (hcond _ rfl) hL
theorem over:Rows.packetTellsUptoRow.holds Tryz.pinned (Rows.OpenSpec.upto Rows.packetTellsSpec) :=
 OpenClaim.holds_of_cond 7 Tryz.f7 rfl rfl rfl rfl rfl rfl rfl ⟨rfl,rfl,rfl,rfl,rfl⟩ rfl rfl rfl rfl rfl (by kernel_rfl) Tryz.func7 (by kernel_rfl)
  (of_decide_eq_true (by kernel_rfl)) (by unfold Func.isWrapper; first | (rw [if_pos (by decide +kernel)]; kernel_rfl) | (rw [if_neg (by decide +kernel)]; exact ⟨rfl,rfl⟩))
  (fun os started H enc _ F=>by rw [OpenClaim.pre_eq_preRow]; exact lifted os started H enc F)
theorem plain (f:FuncId) (fn:Func) (hf:Tryz.pinned.checked.prog.funcNamed "landbridge/landlaw11.PacketTells"=some f) (hfn:Tryz.pinned.checked.prog.funcs[f]?=some fn) :
  false=Tryz.pinned.checked.prog.looks []∧∀ (j:Nat) t,fn.params[j]?=some t→Tryz.pinned.checked.prog.wantsStandIn t=false:=by
 obtain rfl:f=7:=Option.some.inj ((show Tryz.prog.funcNamed "landbridge/landlaw11.PacketTells"=some 7 by kernel_rfl).symm.trans hf) |>.symm
 obtain rfl:fn=Tryz.f7:=(Option.some.inj (Tryz.func7.symm.trans hfn)).symm
 refine ⟨by kernel_rfl,fun j t ht=>?_⟩
 rw [Tryz.params7] at ht
 have h3:t=28∨t=3∨t=29∨t=3∨t=71∨t=29∨t=3∨t=36:=by simpa using Array.mem_of_getElem? ht
 rcases h3 with rfl | rfl | rfl | rfl | rfl | rfl | rfl | rfl
 ·exact (show Tryz.prog.wantsStandIn 28=false by kernel_rfl)
 ·exact (show Tryz.prog.wantsStandIn 3=false by kernel_rfl)
 ·exact (show Tryz.prog.wantsStandIn 29=false by kernel_rfl)
 ·exact (show Tryz.prog.wantsStandIn 3=false by kernel_rfl)
 ·exact (show Tryz.prog.wantsStandIn 71=false by kernel_rfl)
 ·exact (show Tryz.prog.wantsStandIn 29=false by kernel_rfl)
 ·exact (show Tryz.prog.wantsStandIn 3=false by kernel_rfl)
 ·exact (show Tryz.prog.wantsStandIn 36=false by kernel_rfl)
theorem proved:Rows.PacketTellsUptoCardSaid :=
 Claim7.holds_tied_plain_at .later [] _ _ _ _ over (fun _ h=>by cases h) (by kernel_rfl) (fun _ h=>by cases h) packetTellsUpto_row_tie rfl ⟨rfl,rfl⟩ (by kernel_rfl) rfl plain (by kernel_rfl)
end Go.Proofs.YtmclpbcipkdmcaaGreatDoor.packetTells
