/- The statement on ChansTell, with the last texts of its proof: for every input of bounded bulk the law answers true and leaves its arguments as they were. -/
import Derived.Test.YtmclpbcipkdmcaaGreatDoorGR9
import Derived.Test.YtmclpbcipkdmcaaGreatDoorPkP
import Derived.Test.YtmclpbcipkdmcaaGreatDoorR1Sum
import Derived.Test.YtmclpbcipkdmcaaGreatDoorGCl
import Derived.Test.YtmclpbcipkdmcaaGreatDoorGProof
import Derived.Test.YtmclpbcipkdmcaaGreatDoorGSt
import Derived.Test.YtmclpbcipkdmcaaGreatDoorGSha
import Derived.Test.YtmclpbcipkdmcaaGreatDoorAbs4
import Derived.Test.YtmclpbcipkdmcaaGreatDoorChB
import Derived.Test.YtmclpbcipkdmcaaGreatDoorChL
import Derived.Test.YtmclpbcipkdmcaaGreatDoorRow2
import Derived.Test.YtmclpbcipkdmcaaGreatDoorTie
import Derived.WalkKit
import Derived.ProofKit
import Derived.OpenShut
import Derived.Deep.DeepHandedRow
import Derived.Lib.LaidTab
import Derived.Stop.LaidErr
import Derived.Test.YtmclpbcipkdmcaaGreatDoorCards
/- landref9.Over, End, Digest, Wrong: by value. -/
set_option linter.all false
namespace Go.Proofs.YtmclpbcipkdmcaaGreatDoor
open Go Go.Abs Go.RowKit Go.Proofs.YtmclpbcipkdmcaaGreatDoor.Ty
def overR (s:StateD) (i:Int):ConnD × Int :=
 if i < 0∨(s.cns.length:Int)≤i then (zeroCn,6)
 else if (cnAt s i).st=3 then (if (cnAt s i).on < 0 then (cnAt s i,8) else (cnAt s i,overE s (cnAt s i).cl)) else (cnAt s i,12)
theorem overR_e {s:StateD} (ok:StOk s) (i:Int):(overR s i).2=(overCh s i).2:=by
 unfold overR overCh
 by_cases h:i < 0∨(s.cns.length:Int)≤i
 ·rw [if_pos h,if_pos h]
 ·rw [if_neg h,if_neg h]
  have hc:=(ok.cns _ (cnAt_mem (s:=s) (i:=i) (by omega)).2).cl
  unfold N12 at hc
  by_cases h1:(cnAt s i).st=3
  ·rw [if_pos h1,if_pos h1]
   by_cases h2:(cnAt s i).on < 0
   ·rw [if_pos h2,if_pos h2]
   ·rw [if_neg h2,if_neg h2]
    unfold overE
    by_cases h3:(s.cls.length:Int)≤(cnAt s i).cl
    ·rw [if_pos h3,if_pos (.inr h3)]
    ·rw [if_neg h3,if_neg (by omega)]
     split <;> rfl
  ·rw [if_neg h1,if_neg h1]
theorem overR_fst {s:StateD} (ok:StOk s) {i:Int} (h:(overCh s i).2=0):overR s i=(cnAt s i,0):=by
 have he:=overR_e ok i
 rw [h] at he
 obtain ⟨a,b,c,d,e⟩:=overCh_zero.1 h
 unfold overR at he ⊢
 rw [if_neg (by omega),if_pos b,if_neg (by omega)] at he ⊢
 rw [show overE s (cnAt s i).cl=0 from he]
def endR (s:StateD) (i:Int) (cl:Bool):ChanD × ConnD × Int :=
 if wrongS s=0 then (if i < 0∨(s.chs.length:Int)≤i then (zeroCh,zeroCn,6) else if (chAt s i).st=3∨(cl=true∧(chAt s i).st=4) then (chAt s i,(overR s (chAt s i).cn).1,(overR s (chAt s i).cn).2) else (chAt s i,zeroCn,12)) else (zeroCh,zeroCn,wrongS s)
def wsOf (cl:Bool):List Int:=if cl=true then [3,4] else [3]
theorem endR_e (s:StateD) (i:Int) (cl:Bool):(endR s i cl).2.2=(endPk s i (wsOf cl)).2.2:=by
 unfold endR endPk
 by_cases h:wrongS s=0
 ·rw [if_pos h,if_pos h]
  have ok:=wrongS_zero.1 h
  by_cases h1:i < 0∨(s.chs.length:Int)≤i
  ·rw [if_pos h1,if_pos h1]
  ·rw [if_neg h1,if_neg h1]
   have e:(stIn (chAt s i).st (wsOf cl)=true)=((chAt s i).st=3∨(cl=true∧(chAt s i).st=4)):=by
    cases cl <;> simp [stIn,wsOf]
   simp only [e]
   split
   ·exact overR_e ok _
   ·rfl
 ·rw [if_neg h,if_neg h]
theorem endR_fst {s:StateD} {i:Int} {cl:Bool} (h:(endPk s i (wsOf cl)).2.2=0):endR s i cl=(chAt s i,cnAt s (chAt s i).cn,0):=by
 obtain ⟨a,b,c,d⟩:=endPk_zero.1 h
 have e:(chAt s i).st=3∨(cl=true∧(chAt s i).st=4):=by cases cl <;> simpa [stIn,wsOf] using c
 unfold endR
 rw [if_pos (wrongS_zero.2 a),if_neg (by omega),if_pos e,overR_fst a d]
set_option maxHeartbeats 8000000
set_option maxRecDepth 20000
theorem rover9_A (s:StateD) (ok:StOk s) (i:Int):PureD Tryz.prog 67 [stateD s,intD i] (.tup [connD (overR s i).1,intD (overR s i).2]):=by
 refine hide_r fun R hR=>?_
 unfold overR at hR
 have hl:=ok.lcn
 by_cases h:i < 0∨(s.cns.length:Int)≤i
 ·rw [if_pos h] at hR
  clear ok
  refine callD_W 35 Tryz.func67 rfl rfl rfl (fun _ _=>rfl) ?_
  exact wkl trivial
 ·have hi:i.toNat < s.cns.length:=by omega
  have s0:=get_lt (f:=encCn) hi
  have hat:=(cnAt_mem (s:=s) (i:=i) (by omega)).1
  have c1:=rlive_A s ok (cnAt s i).cl
  rw [if_neg h] at hR
  rw [← hat] at s0
  clear ok hat
  generalize cnAt s i=x at *
  generalize overE s x.cl=E at *
  refine callD_W 35 Tryz.func67 rfl rfl rfl (fun _ _=>rfl) ?_
  exact wkl trivial
theorem rdig9_A (p:PackD) (hd:p.data.length≤1048576):PureD Tryz.prog 36 [packD p] (.i (bI (digPk p))):=by
 refine hide_r fun R hR=>?_
 have c1:=rN_A p.fr
 have c2:=rN_A p.de
 have c3:=rN_A p.seq
 have c4:=rN_A p.tout
 have c7:=rB_A p.data
 have c5:=rbytes3_A (pcsPk p) (by simp [pcsPk]) (by intro q hq; simp only [pcsPk,numP,rawB,List.mem_cons,List.not_mem_nil,or_false] at hq; rcases hq with rfl | rfl | rfl | rfl | rfl <;> simp <;> omega)
  (by intro q hq; simp only [pcsPk,numP,rawB,List.mem_cons,List.not_mem_nil,or_false] at hq; rcases hq with rfl | rfl | rfl | rfl | rfl <;> first | exact u64_lt _ | (simp only; omega))
 have c6:=sumref_A (writeF (pcsPk p)).1 (by have:=writeF_len (pcsPk p); omega)
 unfold digPk at hR
 generalize writeF (pcsPk p)=W at *
 simp only [pcsPk,numP,rawB,List.map_cons,List.map_nil,encP,bI] at c5
 generalize u64 p.fr=a1 at *
 generalize u64 p.de=a2 at *
 generalize u64 p.seq=a3 at *
 generalize u64 p.tout=a4 at *
 refine callD_W 21 Tryz.func36 rfl rfl rfl (fun _ _=>rfl) ?_
 exact wkl trivial
theorem wrongPk_eq (p:PackD):wrongPk p=if (nm p.fr 0 && nm p.de 0)=true then (if (nm p.seq 1 && nm p.tout 1)=true then (if (150:Int) < p.data.length then 4 else 0) else 3) else 3:=by
 unfold wrongPk
 by_cases h1:(nm p.fr 0 && nm p.de 0)=true
 ·rw [if_pos h1]
  by_cases h2:(nm p.seq 1 && nm p.tout 1)=true
  ·rw [if_pos h2,if_neg]
   simp only [nm,Bool.and_eq_true,decide_eq_true_eq] at h1 h2
   omega
  ·rw [if_neg h2,if_pos]
   simp only [nm,Bool.and_eq_true,decide_eq_true_eq] at h1 h2
   omega
 ·rw [if_neg h1,if_pos]
  simp only [nm,Bool.and_eq_true,decide_eq_true_eq] at h1
  omega
theorem rwrong9_A (p:PackD):PureD Tryz.prog 34 [packD p] (intD (wrongPk p)):=by
 refine hide_r fun R hR=>?_
 rw [wrongPk_eq] at hR
 have c1:=from2_A 0 p.fr p.de
 have c2:=from2_A 1 p.seq p.tout
 generalize (nm p.fr 0 && nm p.de 0)=B1 at *
 generalize (nm p.seq 1 && nm p.tout 1)=B2 at *
 refine callD_W 23 Tryz.func34 rfl rfl rfl (fun _ _=>rfl) ?_
 exact wkl trivial
theorem rend9_A (s:StateD) (hs:StSm s) (i:Int) (cl:Bool):PureD Tryz.prog 106 [stateD s,intD i,boolD cl] (.tup [chanD (endR s i cl).1,connD (endR s i cl).2.1,intD (endR s i cl).2.2]):=by
 refine hide_r fun R hR=>?_
 have c1:=rwrong8_A s hs
 unfold endR at hR
 by_cases h:wrongS s=0
 ·have ok:=wrongS_zero.1 h
  have hl:=ok.lch
  rw [h] at c1
  rw [if_pos h] at hR
  by_cases h2:i < 0∨(s.chs.length:Int)≤i
  ·rw [if_pos h2] at hR
   clear ok h hs
   refine callD_W 60 Tryz.func106 rfl rfl rfl (fun _ _=>rfl) ?_
   exact wkl trivial
  ·rw [if_neg h2] at hR
   have hi:i.toNat < s.chs.length:=by omega
   have s0:=get_lt (f:=encCh) hi
   have c2:=rover9_A s ok (chAt s i).cn
   rw [(chAt_mem (s:=s) (i:=i) (by omega)).1] at hR c2
   clear ok h hs
   generalize s.chs[i.toNat]=x at *
   generalize overR s x.cn=E at *
   cases cl
   all_goals
    simp only [Bool.false_eq_true,false_and,or_false,true_and] at hR
    refine callD_W 60 Tryz.func106 rfl rfl rfl (fun _ _=>rfl) ?_
    exact wkl trivial
 ·rw [if_neg h] at hR
  generalize wrongS s=W at *
  clear hs
  refine callD_W 60 Tryz.func106 rfl rfl rfl (fun _ _=>rfl) ?_
  exact wkl trivial
end Go.Proofs.YtmclpbcipkdmcaaGreatDoor
/- landref9.Channel, its steps i and t: by value. -/
set_option linter.all false
namespace Go.Abs
open Go Go.RowKit
section
variable {P:Program} {t k e:TypeId} {H:Nat→Ob} {id o:Nat} {kk k1:IntKind} {n:Int} {v:Value} {x:Ob} {z:Option Value}
def mkU (u:Option TypeDesc) (H:Nat→Ob) (id:Nat):Option (D × (Nat→Ob)) :=
 match u with
 | some (.map _ _)=>some (.mp id,upd H id (.mp []))
 | _=>none
@[go_sem] theorem mkX_u:mkX P t (some none) .fresh H id=mkU (undOf P t) H id:=by
 unfold mkX mkU
 cases undOf P t with
 | none=>rfl
 | some u=>cases u <;> rfl
@[go_sem] theorem mkU_map:mkU (some (.map k e)) H id=some (.mp id,upd H id (.mp [])):=rfl
def inV (u:Option TypeDesc) (x:Ob) (o:Nat) (kk:IntKind) (n:Int) (v:Value) (H:Nat→Ob):Option (D × (Nat→Ob)) :=
 match u with
 | some (.int _)=>inO x o kk n v H
 | _=>none
def inU (P:Program) (u:Option TypeDesc) (x:Ob) (o:Nat) (kk:IntKind) (n:Int) (v:Value) (H:Nat→Ob):Option (D × (Nat→Ob)) :=
 match u with
 | some (.map k _)=>inV (undOf P k) x o kk n v H
 | _=>none
@[go_sem] theorem inX_u:inX P t (.mp o) (some (.int kk n)) (some v) H=inU P (undOf P t) (H o) o kk n v H:=by
 unfold inX inU
 cases undOf P t with
 | none=>rfl
 | some u =>
  cases u with
  | map k e =>
   simp only [inV,inO]
   cases undOf P k with
   | none=>rfl
   | some w=>cases w <;> first | rfl | (cases H o <;> rfl)
  | _=>rfl
@[go_sem] theorem inU_map:inU P (some (.map k e)) x o kk n v H=inV (undOf P k) x o kk n v H:=rfl
@[go_sem] theorem inV_int:inV (some (.int k1)) x o kk n v H=inO x o kk n v H:=rfl
def luV (u:Option TypeDesc) (x:Ob) (kk:IntKind) (n:Int) (z:Option Value):Option D :=
 match u with
 | some (.int _)=>luO x kk n z
 | _=>none
def luU (P:Program) (u:Option TypeDesc) (x:Ob) (kk:IntKind) (n:Int):Option D :=
 match u with
 | some (.map k e)=>luV (undOf P k) x kk n (zeroOf P e)
 | _=>none
@[go_sem] theorem luX_u:luX P t (.mp o) (some (.int kk n)) H=luU P (undOf P t) (H o) kk n:=by
 unfold luX luU
 cases undOf P t with
 | none=>rfl
 | some u =>
  cases u with
  | map k e =>
   simp only [luV,luO,luR]
   cases undOf P k with
   | none=>rfl
   | some w =>
    cases w with
    | int q =>
     cases H o with
     | mp es=>simp only; cases luM kk n es with
      | none=>rfl
      | some r=>cases r <;> rfl
     | _=>rfl
    | _=>rfl
  | _=>rfl
@[go_sem] theorem luU_map:luU P (some (.map k e)) x kk n=luV (undOf P k) x kk n (zeroOf P e):=rfl
@[go_sem] theorem luV_int:luV (some (.int k1)) x kk n z=luO x kk n z:=rfl
end
end Go.Abs
namespace Go.Proofs.YtmclpbcipkdmcaaGreatDoor
open Go Go.Abs Go.RowKit Go.Proofs.YtmclpbcipkdmcaaGreatDoor.Ty
set_option maxHeartbeats 16000000
set_option maxRecDepth 20000
@[go_sem] theorem unM:undOf Tryz.prog 115=some (.map 5 3):=by kernel_rfl
theorem rnoC_A (e:Int):PureD Tryz.prog 66 [intD e] (.tup [stateD zeroSt,intD 0,intD e]):=by
 refine hide_r fun R hR=>?_
 refine callD_W 7 Tryz.func66 rfl rfl rfl (fun _ _=>rfl) ?_
 exact wkl trivial
theorem rchI_A (s:StateD) (hs:StSm s) (pos i:Int) (o:Bool) (other:Int) (w:ShownD):PureD Tryz.prog 19 [.i (.s (.int .u8 105)),stateD s,intD pos,intD i,boolD o,intD other,shD w] (.tup [stateD (initCh s i o).1,intD (initCh s i o).2.1,intD (initCh s i o).2.2]):=by
 refine hide_r fun R hR=>?_
 have c1:=rwrong8_A s hs
 unfold initCh at hR
 by_cases h:wrongS s=0
 ·have ok:=wrongS_zero.1 h
  rw [h] at c1
  rw [if_pos h] at hR
  have c2:=rover9_A s ok i
  by_cases h2:(overCh s i).2=0
  ·rw [if_pos h2] at hR
   rw [overR_fst ok h2] at c2
   have e1:=rcopy_D s hs
   have c9:=rnoC_A 5
   have hl:=ok.lch
   unfold addCh at hR
   have m1:s.chs.map encCh++[encCh (⟨1,o,i,-1,1,1,1⟩:ChanD)]=(s.chs++[(⟨1,o,i,-1,1,1,1⟩:ChanD)]).map encCh:=by simp
   have m2:s.chs.length+1=(s.chs++[(⟨1,o,i,-1,1,1,1⟩:ChanD)]).length:=by simp
   simp only [encCh] at m1
   simp only at hR
   generalize s.chs++[(⟨1,o,i,-1,1,1,1⟩:ChanD)]=L at *
   generalize cnAt s i=y at *
   clear ok h hs h2
   by_cases h:(s.chs.length:Int)=8
   ·rw [if_pos h] at hR
    refine callD_W 219 Tryz.func19 rfl rfl rfl (fun _ _=>rfl) ?_
    exact wkl trivial
   ·rw [if_neg h] at hR
    refine callD_W 219 Tryz.func19 rfl rfl rfl (fun _ _=>rfl) ?_
    exact wkl trivial
  ·rw [if_neg h2] at hR
   have he:=overR_e ok i
   rw [← he] at h2 hR
   have c9:=rnoC_A (overR s i).2
   generalize overR s i=E at *
   clear ok h hs he
   refine callD_W 219 Tryz.func19 rfl rfl rfl (fun _ _=>rfl) ?_
   exact wkl trivial
 ·rw [if_neg h] at hR
  have c9:=rnoC_A (wrongS s)
  generalize wrongS s=W at *
  clear hs
  refine callD_W 219 Tryz.func19 rfl rfl rfl (fun _ _=>rfl) ?_
  exact wkl trivial
theorem rchT_A (s:StateD) (hs:StSm s) (pos i:Int) (o:Bool) (other:Int) (w:ShownD) (k1:w.p.k.length≤1048576) (k2:w.p.v.length≤1048576):PureD Tryz.prog 19 [.i (.s (.int .u8 116)),stateD s,intD pos,intD i,boolD o,intD other,shD w] (.tup [stateD (tryCh s i o other w).1,intD (tryCh s i o other w).2.1,intD (tryCh s i o other w).2.2]):=by
 refine hide_r fun R hR=>?_
 have c1:=rwrong8_A s hs
 unfold tryCh at hR
 by_cases h:wrongS s=0
 ·have ok:=wrongS_zero.1 h
  rw [h] at c1
  rw [if_pos h] at hR
  have c2:=rover9_A s ok i
  by_cases h2:(overCh s i).2=0
  ·rw [if_pos h2] at hR
   rw [overR_fst ok h2] at c2
   have c3:=from1_A 0 other
   by_cases h3:other < 0∨1000000000000 < other
   ·rw [if_pos h3] at hR
    rw [nm_no h3] at c3
    have c9:=rnoC_A 3
    generalize cnAt s i=y at *
    clear ok h hs h2
    refine callD_W 219 Tryz.func19 rfl rfl rfl (fun _ _=>rfl) ?_
    exact wkl trivial
   ·rw [if_neg h3] at hR
    rw [nm_yes h3] at c3
    obtain ⟨q1,q2,q3,q4,q5⟩:=overCh_zero.1 h2
    have hcn:=ok.cns _ (cnAt_mem q1).2
    have c4:=rkeyH_A other (by unfold N12; omega)
    have c5:=rchanb_A ⟨1,o,(cnAt s i).on,-1,0,0,0⟩ (by simp only; omega)
    have c6:=rthere_A s ok (cnAt s i).cl ⟨hcn.cl.1,q4⟩ (keyH other) (valCh ⟨1,o,(cnAt s i).on,-1,0,0,0⟩) w k1 k2
    unfold shownHE at hR
    have e1:=rcopy_D s hs
    have hl:=ok.lch
    unfold addCh at hR
    have m1:s.chs.map encCh++[encCh (⟨2,o,i,other,1,1,1⟩:ChanD)]=(s.chs++[(⟨2,o,i,other,1,1,1⟩:ChanD)]).map encCh:=by simp
    have m2:s.chs.length+1=(s.chs++[(⟨2,o,i,other,1,1,1⟩:ChanD)]).length:=by simp
    simp only [encCh] at m1
    simp only at hR
    generalize memberE (clAt s (cnAt s i).cl) s.t w.h (keyH other) (valCh ⟨1,o,(cnAt s i).on,-1,0,0,0⟩) w.p=M at *
    generalize keyH other=K at *
    generalize valCh ⟨1,o,(cnAt s i).on,-1,0,0,0⟩=V at *
    generalize s.chs++[(⟨2,o,i,other,1,1,1⟩:ChanD)]=L at *
    generalize cnAt s i=y at *
    clear ok h hs h2 q1 q2 q3 q4 q5 hcn
    by_cases hM:M=0
    ·rw [if_pos hM] at hR
     rw [hM] at c6
     have c9:=rnoC_A 5
     by_cases h:(s.chs.length:Int)=8
     ·rw [if_pos h] at hR
      refine callD_W 219 Tryz.func19 rfl rfl rfl (fun _ _=>rfl) ?_
      exact wkl trivial
     ·rw [if_neg h] at hR
      refine callD_W 219 Tryz.func19 rfl rfl rfl (fun _ _=>rfl) ?_
      exact wkl trivial
    ·rw [if_neg hM] at hR
     have c9:=rnoC_A M
     clear m1 m2
     refine callD_W 219 Tryz.func19 rfl rfl rfl (fun _ _=>rfl) ?_
     exact wkl trivial
  ·rw [if_neg h2] at hR
   have he:=overR_e ok i
   rw [← he] at h2 hR
   have c9:=rnoC_A (overR s i).2
   generalize overR s i=E at *
   clear ok h hs he
   refine callD_W 219 Tryz.func19 rfl rfl rfl (fun _ _=>rfl) ?_
   exact wkl trivial
 ·rw [if_neg h] at hR
  have c9:=rnoC_A (wrongS s)
  generalize wrongS s=W at *
  clear hs
  refine callD_W 219 Tryz.func19 rfl rfl rfl (fun _ _=>rfl) ?_
  exact wkl trivial
end Go.Proofs.YtmclpbcipkdmcaaGreatDoor
/- landref9.Channel, its steps a, c, x, y: by value. -/
set_option linter.all false
namespace Go.Proofs.YtmclpbcipkdmcaaGreatDoor
open Go Go.Abs Go.RowKit Go.Proofs.YtmclpbcipkdmcaaGreatDoor.Ty
set_option maxHeartbeats 16000000
set_option maxRecDepth 20000
theorem rchE_A (b want:Int) (hb:(b=97∧want=1)∨(b=99∧want=2)∨(b=120∧want=3)∨(b=121∧want=3)) (s:StateD) (hs:StSm s) (pos i:Int) (o:Bool) (other:Int) (w:ShownD) (hE:¬ (endCh s pos want).2.2=0) :
  PureD Tryz.prog 19 [.i (.s (.int .u8 b)),stateD s,intD pos,intD i,boolD o,intD other,shD w] (.tup [stateD zeroSt,intD 0,intD (endCh s pos want).2.2]):=by
 refine hide_r fun R hR=>?_
 have c1:=rwrong8_A s hs
 unfold endCh at hE hR
 by_cases h:wrongS s=0
 ·have ok:=wrongS_zero.1 h
  rw [h] at c1
  rw [if_pos h] at hR hE
  have hl:=ok.lch
  by_cases h1:pos < 0∨(s.chs.length:Int)≤pos
  ·rw [if_pos h1] at hR
   have c9:=rnoC_A 6
   clear ok h hs hE
   rcases hb with ⟨rfl,rfl⟩ | ⟨rfl,rfl⟩ | ⟨rfl,rfl⟩ | ⟨rfl,rfl⟩
   all_goals
    refine callD_W 219 Tryz.func19 rfl rfl rfl (fun _ _=>rfl) ?_
    exact wkl trivial
  ·rw [if_neg h1] at hR hE
   have hi:pos.toNat < s.chs.length:=by omega
   have s0:=get_lt (f:=encCh) hi
   have hat:=(chAt_mem (s:=s) (i:=pos) (by omega)).1
   rw [← hat] at s0
   by_cases h2:(chAt s pos).st=want
   ·rw [if_pos h2] at hR hE
    have c2:=rover9_A s ok (chAt s pos).cn
    have he:=overR_e ok (chAt s pos).cn
    simp only at hE hR
    rw [← he] at hE hR
    have c9:=rnoC_A (overR s (chAt s pos).cn).2
    generalize overR s (chAt s pos).cn=E at *
    generalize chAt s pos=x at *
    clear ok h hs hat he
    rcases hb with ⟨rfl,rfl⟩ | ⟨rfl,rfl⟩ | ⟨rfl,rfl⟩ | ⟨rfl,rfl⟩
    all_goals
     refine callD_W 219 Tryz.func19 rfl rfl rfl (fun _ _=>rfl) ?_
     exact wkl trivial
   ·rw [if_neg h2] at hR
    have c9:=rnoC_A 12
    generalize chAt s pos=x at *
    clear ok h hs hat hE
    rcases hb with ⟨rfl,rfl⟩ | ⟨rfl,rfl⟩ | ⟨rfl,rfl⟩ | ⟨rfl,rfl⟩
    all_goals
     refine callD_W 219 Tryz.func19 rfl rfl rfl (fun _ _=>rfl) ?_
     exact wkl trivial
 ·rw [if_neg h] at hR
  have c9:=rnoC_A (wrongS s)
  generalize wrongS s=W at *
  clear hs hE
  rcases hb with ⟨rfl,rfl⟩ | ⟨rfl,rfl⟩ | ⟨rfl,rfl⟩ | ⟨rfl,rfl⟩
  all_goals
   refine callD_W 219 Tryz.func19 rfl rfl rfl (fun _ _=>rfl) ?_
   exact wkl trivial
theorem rchA_A (s:StateD) (hs:StSm s) (pos i:Int) (o:Bool) (other:Int) (w:ShownD) (k1:w.p.k.length≤1048576) (k2:w.p.v.length≤1048576):PureD Tryz.prog 19 [.i (.s (.int .u8 97)),stateD s,intD pos,intD i,boolD o,intD other,shD w] (.tup [stateD (ackCh s pos other w).1,intD 0,intD (ackCh s pos other w).2]):=by
 unfold ackCh
 by_cases hE:(endCh s pos 1).2.2=0
 rotate_left
 ·rw [if_neg hE]; exact rchE_A 97 1 (.inl ⟨rfl,rfl⟩) s hs pos i o other w hE
 rw [if_pos hE,endCh_fst hE]
 obtain ⟨ok,hp,h2,h3⟩:=endCh_zero.1 hE
 refine hide_r fun R hR=>?_
 have c1:=rwrong8_A s hs
 rw [wrongS_zero.2 ok] at c1
 have hl:=ok.lch
 have hi:pos.toNat < s.chs.length:=by omega
 have s0:=get_lt (f:=encCh) hi
 rw [← (chAt_mem hp).1] at s0
 have c2:=rover9_A s ok (chAt s pos).cn
 rw [overR_fst ok h3] at c2
 obtain ⟨q1,q2,q3,q4,q5⟩:=overCh_zero.1 h3
 have hcn:=ok.cns _ (cnAt_mem q1).2
 have hp12:N12 0 pos:=by unfold N12; omega
 have c3:=from1_A 0 other
 simp only at hR
 by_cases h4:other < 0∨1000000000000 < other
 ·rw [if_pos h4] at hR
  rw [nm_no h4] at c3
  have c9:=rnoC_A 3
  generalize cnAt s (chAt s pos).cn=y at *
  generalize chAt s pos=x at *
  clear ok hs hE h3 q1 q2 q3 q4 q5 hcn
  refine callD_W 219 Tryz.func19 rfl rfl rfl (fun _ _=>rfl) ?_
  exact wkl trivial
 ·rw [if_neg h4] at hR
  rw [nm_yes h4] at c3
  have c4:=rkeyH_A other (by unfold N12; omega)
  have c5:=rchanb_A ⟨2,(chAt s pos).ord,(cnAt s (chAt s pos).cn).on,pos,0,0,0⟩ (by unfold N12 at hp12; simp only; omega)
  have c6:=rthere_A s ok (cnAt s (chAt s pos).cn).cl ⟨hcn.cl.1,q4⟩ (keyH other) (valCh ⟨2,(chAt s pos).ord,(cnAt s (chAt s pos).cn).on,pos,0,0,0⟩) w k1 k2
  unfold shownHE at hR
  have e1:=rcopy_D s hs
  unfold nowCh at hR
  have s3:(s.chs.map encCh).set pos.toNat (encCh { chAt s pos with st:=3,oc:=other })=(s.chs.set pos.toNat { chAt s pos with st:=3,oc:=other }).map encCh:=List.map_set.symm
  have g1:∀ r:List I,((s.chs.map encCh).set pos.toNat r)[pos.toNat]?=some r:=fun r=>List.getElem?_set_self (by simpa using hi)
  have g2:∀ r r':List I,((s.chs.map encCh).set pos.toNat r).set pos.toNat r'=(s.chs.map encCh).set pos.toNat r':=fun r r'=>List.set_set ..
  have s4:s.chs.length=(s.chs.set pos.toNat { chAt s pos with st:=3,oc:=other }).length:=by simp
  generalize s.chs.set pos.toNat { chAt s pos with st:=3,oc:=other }=L at *
  generalize memberE (clAt s (cnAt s (chAt s pos).cn).cl) s.t w.h (keyH other) (valCh ⟨2,(chAt s pos).ord,(cnAt s (chAt s pos).cn).on,pos,0,0,0⟩) w.p=M at *
  generalize valCh ⟨2,(chAt s pos).ord,(cnAt s (chAt s pos).cn).on,pos,0,0,0⟩=V at *
  generalize keyH other=K at *
  generalize cnAt s (chAt s pos).cn=y at *
  generalize chAt s pos=x at *
  simp only [encCh] at s3
  clear ok hs hE h3 q1 q2 q3 q4 q5 hcn hp12
  by_cases hM:M=0
  ·rw [if_pos hM] at hR
   rw [hM] at c6
   refine callD_W 219 Tryz.func19 rfl rfl rfl (fun _ _=>rfl) ?_
   exact wkl trivial
  ·rw [if_neg hM] at hR
   have c9:=rnoC_A M
   clear s3 s4
   refine callD_W 219 Tryz.func19 rfl rfl rfl (fun _ _=>rfl) ?_
   exact wkl trivial
theorem rchC_A (b want say:Int) (hb:(b=99∧want=2∧say=3)∨(b=121∧want=3∧say=4)) (s:StateD) (hs:StSm s) (pos i:Int) (o:Bool) (other:Int) (w:ShownD) (k1:w.p.k.length≤1048576) (k2:w.p.v.length≤1048576) :
  PureD Tryz.prog 19 [.i (.s (.int .u8 b)),stateD s,intD pos,intD i,boolD o,intD other,shD w] (.tup [stateD (confCh want say s pos w).1,intD 0,intD (confCh want say s pos w).2]):=by
 unfold confCh
 by_cases hE:(endCh s pos want).2.2=0
 rotate_left
 ·rw [if_neg hE]; exact rchE_A b want (by rcases hb with ⟨rfl,rfl,_⟩ | ⟨rfl,rfl,_⟩ <;> simp) s hs pos i o other w hE
 rw [if_pos hE,endCh_fst hE]
 obtain ⟨ok,hp,h2,h3⟩:=endCh_zero.1 hE
 refine hide_r fun R hR=>?_
 have c1:=rwrong8_A s hs
 rw [wrongS_zero.2 ok] at c1
 have hl:=ok.lch
 have hi:pos.toNat < s.chs.length:=by omega
 have s0:=get_lt (f:=encCh) hi
 rw [← (chAt_mem hp).1] at s0
 have c2:=rover9_A s ok (chAt s pos).cn
 rw [overR_fst ok h3] at c2
 obtain ⟨q1,q2,q3,q4,q5⟩:=overCh_zero.1 h3
 have hcn:=ok.cns _ (cnAt_mem q1).2
 have hch:=(ok.chs _ (chAt_mem hp).2).oc
 have hp12:N12 0 pos:=by unfold N12; omega
 simp only at hR
 by_cases h4:(chAt s pos).oc < 0
 ·rw [if_pos h4] at hR
  have c9:=rnoC_A 8
  generalize cnAt s (chAt s pos).cn=y at *
  generalize chAt s pos=x at *
  clear ok hs hE h3 q1 q2 q3 q4 q5 hcn
  rcases hb with ⟨rfl,rfl,rfl⟩ | ⟨rfl,rfl,rfl⟩
  all_goals
   refine callD_W 219 Tryz.func19 rfl rfl rfl (fun _ _=>rfl) ?_
   exact wkl trivial
 ·rw [if_neg h4] at hR
  have c4:=rkeyH_A (chAt s pos).oc (by unfold N12 at *; omega)
  have c5:=rchanb_A ⟨say,(chAt s pos).ord,(cnAt s (chAt s pos).cn).on,pos,0,0,0⟩ (by unfold N12 at hp12; simp only; omega)
  have c6:=rthere_A s ok (cnAt s (chAt s pos).cn).cl ⟨hcn.cl.1,q4⟩ (keyH (chAt s pos).oc) (valCh ⟨say,(chAt s pos).ord,(cnAt s (chAt s pos).cn).on,pos,0,0,0⟩) w k1 k2
  unfold shownHE at hR
  have e1:=rcopy_D s hs
  unfold nowCh at hR
  have s3:(s.chs.map encCh).set pos.toNat (encCh { chAt s pos with st:=say,oc:=(chAt s pos).oc })=(s.chs.set pos.toNat { chAt s pos with st:=say,oc:=(chAt s pos).oc }).map encCh:=List.map_set.symm
  have g1:∀ r:List I,((s.chs.map encCh).set pos.toNat r)[pos.toNat]?=some r:=fun r=>List.getElem?_set_self (by simpa using hi)
  have g2:∀ r r':List I,((s.chs.map encCh).set pos.toNat r).set pos.toNat r'=(s.chs.map encCh).set pos.toNat r':=fun r r'=>List.set_set ..
  have s4:s.chs.length=(s.chs.set pos.toNat { chAt s pos with st:=say,oc:=(chAt s pos).oc }).length:=by simp
  have s5:((s.chs.set pos.toNat { chAt s pos with st:=say,oc:=(chAt s pos).oc }).map encCh)[pos.toNat]?=some (encCh { chAt s pos with st:=say,oc:=(chAt s pos).oc }):=by rw [← s3]; exact g1 _
  have s6:((s.chs.set pos.toNat { chAt s pos with st:=say,oc:=(chAt s pos).oc }).map encCh).set pos.toNat (encCh { chAt s pos with st:=say,oc:=(chAt s pos).oc })=(s.chs.set pos.toNat { chAt s pos with st:=say,oc:=(chAt s pos).oc }).map encCh:=by rw [← s3]; exact g2 _ _
  generalize s.chs.set pos.toNat { chAt s pos with st:=say,oc:=(chAt s pos).oc }=L at *
  generalize memberE (clAt s (cnAt s (chAt s pos).cn).cl) s.t w.h (keyH (chAt s pos).oc) (valCh ⟨say,(chAt s pos).ord,(cnAt s (chAt s pos).cn).on,pos,0,0,0⟩) w.p=M at *
  generalize valCh ⟨say,(chAt s pos).ord,(cnAt s (chAt s pos).cn).on,pos,0,0,0⟩=V at *
  generalize keyH (chAt s pos).oc=K at *
  generalize cnAt s (chAt s pos).cn=y at *
  generalize chAt s pos=x at *
  simp only [encCh] at s3 s5 s6
  clear ok hs hE h3 q1 q2 q3 q4 q5 hcn hp12 hch
  by_cases hM:M=0
  ·rw [if_pos hM] at hR
   rw [hM] at c6
   rcases hb with ⟨rfl,rfl,rfl⟩ | ⟨rfl,rfl,rfl⟩
   all_goals
    refine callD_W 219 Tryz.func19 rfl rfl rfl (fun _ _=>rfl) ?_
    exact wkl trivial
  ·rw [if_neg hM] at hR
   have c9:=rnoC_A M
   clear s3 s4 s5 s6
   rcases hb with ⟨rfl,rfl,rfl⟩ | ⟨rfl,rfl,rfl⟩
   all_goals
    refine callD_W 219 Tryz.func19 rfl rfl rfl (fun _ _=>rfl) ?_
    exact wkl trivial
theorem rchX_A (s:StateD) (hs:StSm s) (pos i:Int) (o:Bool) (other:Int) (w:ShownD):PureD Tryz.prog 19 [.i (.s (.int .u8 120)),stateD s,intD pos,intD i,boolD o,intD other,shD w] (.tup [stateD (closeCh s pos).1,intD 0,intD (closeCh s pos).2]):=by
 unfold closeCh
 by_cases hE:(endCh s pos 3).2.2=0
 rotate_left
 ·rw [if_neg hE]; exact rchE_A 120 3 (by simp) s hs pos i o other w hE
 rw [if_pos hE]
 obtain ⟨ok,hp,h2,h3⟩:=endCh_zero.1 hE
 refine hide_r fun R hR=>?_
 have c1:=rwrong8_A s hs
 rw [wrongS_zero.2 ok] at c1
 have hl:=ok.lch
 have hi:pos.toNat < s.chs.length:=by omega
 have s0:=get_lt (f:=encCh) hi
 rw [← (chAt_mem hp).1] at s0
 have c2:=rover9_A s ok (chAt s pos).cn
 rw [overR_fst ok h3] at c2
 have e1:=rcopy_D s hs
 unfold nowCh at hR
 have s3:(s.chs.map encCh).set pos.toNat (encCh { chAt s pos with st:=4,oc:=(chAt s pos).oc })=(s.chs.set pos.toNat { chAt s pos with st:=4,oc:=(chAt s pos).oc }).map encCh:=List.map_set.symm
 have g1:∀ r:List I,((s.chs.map encCh).set pos.toNat r)[pos.toNat]?=some r:=fun r=>List.getElem?_set_self (by simpa using hi)
 have g2:∀ r r':List I,((s.chs.map encCh).set pos.toNat r).set pos.toNat r'=(s.chs.map encCh).set pos.toNat r':=fun r r'=>List.set_set ..
 have s4:s.chs.length=(s.chs.set pos.toNat { chAt s pos with st:=4,oc:=(chAt s pos).oc }).length:=by simp
 generalize s.chs.set pos.toNat { chAt s pos with st:=4,oc:=(chAt s pos).oc }=L at *
 generalize cnAt s (chAt s pos).cn=y at *
 generalize chAt s pos=x at *
 simp only [encCh] at s3
 clear ok hs hE h3
 refine callD_W 219 Tryz.func19 rfl rfl rfl (fun _ _=>rfl) ?_
 exact wkl trivial
end Go.Proofs.YtmclpbcipkdmcaaGreatDoor
/- landref7.Same: a client is the same as itself. -/
set_option linter.all false
namespace Go.Proofs.YtmclpbcipkdmcaaGreatDoor
open Go Go.Abs Go.RowKit Go.Proofs.YtmclpbcipkdmcaaGreatDoor.Ty
set_option maxHeartbeats 4000000
set_option maxRecDepth 20000
theorem rsameC_A (a:ClientD) (ha:ClSm a):PureD Tryz.prog 52 [clientD a,clientD a] (boolD true):=by
 refine hide_r fun R hR=>?_
 obtain ⟨c,tr,fr,l⟩:=a
 have hl:=ha.l
 have hk:=ha.k
 simp only at hl hk
 clear ha
 have q1:(fr != fr)=false:=by cases fr <;> rfl
 have q2:(!decide (fr=fr))=false:=by simp
 have q3:(!(fr == fr))=false:=by cases fr <;> rfl
 refine callD_W 81 Tryz.func52 rfl rfl rfl (fun _ _=>rfl) ?_
 refine wkl ?_
 clear hR; intro hR
 refine W_loopR (ι:=Nat) (fun i=>i≤l.length)
  (fun i=>stOf [(2,.pt 100 0 0 0),(3,.pt 101 0 0 0),(38,intD l.length),(39,intD i)] [(100,.box [.i (.s (.string c)),.i (.s (.int .i64 tr)),.i (.s (.bool fr)),.i (knownI l)]),(101,.box [.i (.s (.string c)),.i (.s (.int .i64 tr)),.i (.s (.bool fr)),.i (knownI l)])])
  (fun i=>l.length - i) 0 (Nat.zero_le _) ?_ ?_
 ·exact le_ok [] [(100,1000),(101,1001)]
 ·rintro i hi RL hL
  rw [stOf_eq]
  by_cases h:i < l.length
  ·have e1:=get_lt (f:=encK) h
   have hs:=hk _ (List.getElem_mem h)
   have a1:=hs.r
   have a2:=hs.n
   have b1:=fun σ'=>bk [] [(100,100),(101,101)] (hL (i+1) σ' h)
   clear hL hs hk
   generalize l[i]=k at *
   have c1:=same_A k.root k.root (by omega)
   have c2:=same_A k.next k.next (by omega)
   rw [decide_eq_true rfl] at c1 c2
   exact wkl trivial
  ·exact wkl trivial
end Go.Proofs.YtmclpbcipkdmcaaGreatDoor
/- landref8.Same: a state beside itself. -/
set_option linter.all false
namespace Go.Proofs.YtmclpbcipkdmcaaGreatDoor
open Go Go.Abs Go.RowKit Go.Proofs.YtmclpbcipkdmcaaGreatDoor.Ty
set_option maxHeartbeats 16000000
set_option maxRecDepth 20000
theorem rsameMk_A (l:List MarkD) (hl:l.length≤1048576) (hd:∀ m∈l,m.dg.length≤1048576):PureD Tryz.prog 51 [.i (.sl (l.map encM)),.i (.sl (l.map encM))] (boolD true):=by
 refine hide_r fun R hR=>?_
 refine callD_W 55 Tryz.func51 rfl rfl rfl (fun _ _=>rfl) ?_
 refine wkl ?_
 clear hR; intro hR
 refine W_loopR (ι:=Nat) (fun i=>i≤l.length) (fun i=>stOf [(0,.i (.sl (l.map encM))),(1,.i (.sl (l.map encM))),(12,intD l.length),(13,intD i)] []) (fun i=>l.length - i) 0 (Nat.zero_le _) ?_ ?_
 ·exact le_ok [] []
 ·rintro i hi RL hL
  rw [stOf_eq]
  by_cases h:i < l.length
  ·have s0:=get_lt (f:=encM) h
   have c1:=same_A l[i].dg l[i].dg (by have:=hd _ (List.getElem_mem h); omega)
   rw [decide_eq_true rfl] at c1
   have b1:=fun σ'=>bk [] [] (hL (i+1) σ' h)
   clear hL hd
   generalize l[i]=v at *
   exact wkl trivial
  ·clear hL
   exact wkl trivial
theorem rsameS_A (s:StateD) (hs:StSm s):PureD Tryz.prog 10 [stateD s,stateD s] (boolD true):=by
 refine hide_r fun R hR=>?_
 have l1:=hs.cls
 have l2:=hs.cns
 have l3:=hs.chs
 have l4:=hs.pus
 have c1:=rsameMk_A s.sent hs.sent (fun m hm=>hs.dg m (.inl hm))
 have c2:=rsameMk_A s.got hs.got (fun m hm=>hs.dg m (.inr (.inl hm)))
 have c3:=rsameMk_A s.acks hs.acks (fun m hm=>hs.dg m (.inr (.inr hm)))
 have la1:∀ (a:Oper) (l m:List Oper),List.append (a :: l) m=a :: List.append l m:=fun _ _ _=>rfl
 have la2:∀ m:List Oper,List.append [] m=m:=fun _=>rfl
 refine callD_W 161 Tryz.func10 rfl rfl rfl (fun _ _=>rfl) ?_
 refine wkl ?_
 clear hR c1 c2 c3 la1 la2; intro hR
 refine W_loopR (ι:=Nat) (fun i=>i≤s.cls.length) (fun i=>stOf [(2,.pt 100 0 0 0),(3,.pt 101 0 0 0),(90,intD s.cls.length),(91,intD i)] [(100,.box ((encSt s).map .i)),(101,.box ((encSt s).map .i))]) (fun i=>s.cls.length - i) 0 (Nat.zero_le _) ?_ ?_
 ·exact le_ok [] [(100,1000),(101,1001)]
 ·rintro i hi RL hL
  rw [stOf_eq]
  by_cases h:i < s.cls.length
  ·have s0:=get_lt (f:=encC) h
   have c1:=rsameC_A s.cls[i] (hs.cl _ (List.getElem_mem h))
   have b1:=fun σ'=>bk [] [(100,100),(101,101)] (hL (i+1) σ' h)
   clear hL hs
   generalize s.cls[i]=v at *
   exact wkl trivial
  ·clear hL
   refine wkl ?_
   clear hR; intro hR
   refine W_loopR (ι:=Nat) (fun i=>i≤s.cns.length) (fun i=>stOf [(2,.pt 100 0 0 0),(3,.pt 101 0 0 0),(109,intD s.cns.length),(110,intD i)] [(100,.box ((encSt s).map .i)),(101,.box ((encSt s).map .i))]) (fun i=>s.cns.length - i) 0 (Nat.zero_le _) ?_ ?_
   ·exact le_ok [] [(100,100),(101,101)]
   ·rintro i hi RL hL
    rw [stOf_eq]
    by_cases h:i < s.cns.length
    ·have s0:=get_lt (f:=encCn) h
     have b1:=fun σ'=>bk [] [(100,100),(101,101)] (hL (i+1) σ' h)
     clear hL hs
     generalize s.cns[i]=v at *
     exact wkl trivial
    ·clear hL
     refine wkl ?_
     clear hR; intro hR
     refine W_loopR (ι:=Nat) (fun i=>i≤s.chs.length) (fun i=>stOf [(2,.pt 100 0 0 0),(3,.pt 101 0 0 0),(127,intD s.chs.length),(128,intD i)] [(100,.box ((encSt s).map .i)),(101,.box ((encSt s).map .i))]) (fun i=>s.chs.length - i) 0 (Nat.zero_le _) ?_ ?_
     ·exact le_ok [] [(100,100),(101,101)]
     ·rintro i hi RL hL
      rw [stOf_eq]
      by_cases h:i < s.chs.length
      ·have s0:=get_lt (f:=encCh) h
       have b1:=fun σ'=>bk [] [(100,100),(101,101)] (hL (i+1) σ' h)
       clear hL hs
       generalize s.chs[i]=v at *
       have q1:(v.ord == v.ord)=true:=by cases v.ord <;> rfl
       exact wkl trivial
      ·clear hL
       refine wkl ?_
       clear hR; intro hR
       refine W_loopR (ι:=Nat) (fun i=>i≤s.pus.length) (fun i=>stOf [(2,.pt 100 0 0 0),(3,.pt 101 0 0 0),(145,intD s.pus.length),(146,intD i)] [(100,.box ((encSt s).map .i)),(101,.box ((encSt s).map .i))]) (fun i=>s.pus.length - i) 0 (Nat.zero_le _) ?_ ?_
       ·exact le_ok [] [(100,100),(101,101)]
       ·rintro i hi RL hL
        rw [stOf_eq]
        by_cases h:i < s.pus.length
        ·have s0:=get_lt (f:=encPu) h
         have b1:=fun σ'=>bk [] [(100,100),(101,101)] (hL (i+1) σ' h)
         clear hL hs
         generalize s.pus[i]=v at *
         exact wkl trivial
        ·clear hL
         exact wkl trivial
end Go.Proofs.YtmclpbcipkdmcaaGreatDoor
/- Merged texts: DecB, Dec5, DecC0. -/
set_option linter.all false
namespace Go.Proofs.YtmclpbcipkdmcaaGreatDoor
open Go Go.Abs Go.RowKit
theorem dec_bb {e:List I} (h:HasCs [.sl [.int .u8]] e):∃ b:List UInt8,e=[bI b]∧True:=by
 obtain ⟨x,_,rfl,hx,h⟩:=hasCs_cons h
 obtain rfl:=hasCs_nil h
 obtain ⟨a,rfl⟩:=dec_B hx
 exact ⟨a,rfl,trivial⟩
theorem dec_BB {x:I} (h:HasC (.sl [.sl [.int .u8]]) x):∃ l:List (List UInt8),x=bbI l:=by
 obtain ⟨l,h1,_⟩:=dec_list (fun _ he=>dec_bb he) h
 exact ⟨l,h1⟩
end Go.Proofs.YtmclpbcipkdmcaaGreatDoor
set_option linter.all false
namespace Go.Proofs.YtmclpbcipkdmcaaGreatDoor
open Go Go.Abs Go.RowKit Go.Proofs.YtmclpbcipkdmcaaGreatDoor.Ty
theorem dec_Proof {e:List I} (h:HasCs [.int .i64,.int .i64,.sl [.int .u8],.sl [.int .u8],.sl [.sl [.int .u8]]] e):∃ p:ProofD,e=formI p:=by
 obtain ⟨x1,_,rfl,h1,h⟩:=hasCs_cons h
 obtain ⟨x2,_,rfl,h2,h⟩:=hasCs_cons h
 obtain ⟨x3,_,rfl,h3,h⟩:=hasCs_cons h
 obtain ⟨x4,_,rfl,h4,h⟩:=hasCs_cons h
 obtain ⟨x5,_,rfl,h5,h⟩:=hasCs_cons h
 obtain rfl:=hasCs_nil h
 obtain ⟨a,rfl,_⟩:=dec_int h1
 obtain ⟨b,rfl,_⟩:=dec_int h2
 obtain ⟨c,rfl⟩:=dec_B h3
 obtain ⟨d,rfl⟩:=dec_B h4
 obtain ⟨q,rfl⟩:=dec_BB h5
 exact ⟨⟨a,b,c,d,q⟩,rfl⟩
def gapI (g:GapD):List I:=.s (.bool g.hl) :: .s (.bool g.hr) :: (formI g.left++formI g.right)
theorem dec_Gap {e:List I} (h:HasCs [.bool,.bool,.int .i64,.int .i64,.sl [.int .u8],.sl [.int .u8],.sl [.sl [.int .u8]],.int .i64,.int .i64,.sl [.int .u8],.sl [.int .u8],.sl [.sl [.int .u8]]] e):∃ g:GapD,e=gapI g:=by
 obtain ⟨y1,_,rfl,k1,h⟩:=hasCs_cons h
 obtain ⟨y2,_,rfl,k2,h⟩:=hasCs_cons h
 obtain ⟨x1,_,rfl,h1,h⟩:=hasCs_cons h
 obtain ⟨x2,_,rfl,h2,h⟩:=hasCs_cons h
 obtain ⟨x3,_,rfl,h3,h⟩:=hasCs_cons h
 obtain ⟨x4,_,rfl,h4,h⟩:=hasCs_cons h
 obtain ⟨x5,_,rfl,h5,h⟩:=hasCs_cons h
 obtain ⟨p,rfl⟩:=dec_Proof h
 obtain ⟨a,rfl,_⟩:=dec_int h1
 obtain ⟨b,rfl,_⟩:=dec_int h2
 obtain ⟨c,rfl⟩:=dec_B h3
 obtain ⟨d,rfl⟩:=dec_B h4
 obtain ⟨q,rfl⟩:=dec_BB h5
 obtain ⟨u,rfl⟩:=dec_bool k1
 obtain ⟨v,rfl⟩:=dec_bool k2
 exact ⟨⟨u,v,⟨a,b,c,d,q⟩,p⟩,rfl⟩
end Go.Proofs.YtmclpbcipkdmcaaGreatDoor
set_option linter.all false
namespace Go.Proofs.YtmclpbcipkdmcaaGreatDoor
open Go Go.Abs Go.RowKit Go.Proofs.YtmclpbcipkdmcaaGreatDoor.Ty
theorem dec_Kn {e:List I} (h:HasCs [.int .i64,.int .i64,.sl [.int .u8],.sl [.int .u8]] e):∃ k:KnownD,e=encK k∧True:=by
 obtain ⟨x1,_,rfl,h1,h⟩:=hasCs_cons h
 obtain ⟨x2,_,rfl,h2,h⟩:=hasCs_cons h
 obtain ⟨x3,_,rfl,h3,h⟩:=hasCs_cons h
 obtain ⟨x4,_,rfl,h4,h⟩:=hasCs_cons h
 obtain rfl:=hasCs_nil h
 obtain ⟨a,rfl,_⟩:=dec_int h1
 obtain ⟨b,rfl,_⟩:=dec_int h2
 obtain ⟨u,rfl⟩:=dec_B h3
 obtain ⟨v,rfl⟩:=dec_B h4
 exact ⟨⟨a,b,u,v⟩,rfl,trivial⟩
theorem dec_Client {e:List I} (h:HasCs [.str,.int .i64,.bool,.sl [.int .i64,.int .i64,.sl [.int .u8],.sl [.int .u8]]] e):∃ c:ClientD,e=encC c:=by
 obtain ⟨x1,_,rfl,h1,h⟩:=hasCs_cons h
 obtain ⟨x2,_,rfl,h2,h⟩:=hasCs_cons h
 obtain ⟨x3,_,rfl,h3,h⟩:=hasCs_cons h
 obtain ⟨x4,_,rfl,h4,h⟩:=hasCs_cons h
 obtain rfl:=hasCs_nil h
 obtain ⟨a,rfl,_⟩:=dec_str h1
 obtain ⟨b,rfl,_⟩:=dec_int h2
 obtain ⟨f,rfl⟩:=dec_bool h3
 obtain ⟨l,rfl,_⟩:=dec_list (fun _ he=>dec_Kn he) h4
 exact ⟨⟨a,b,f,l⟩,rfl⟩
theorem kn_bk (k:KnownD):bkL (encK k)=k.root.length+k.next.length:=by
 have h1:=bk_B k.root
 have h2:=bk_B k.next
 simp only [bkL,encK,bkI,h1,h2]; omega
theorem cl_sm {c:ClientD} {n:Nat} (hb:bkL (encC c)≤n) (hn:n≤1048576):ClSm c∧c.c.size≤1048576:=by
 have h1:=bk_len encK c.known
 have h2:=fun k (hk:k∈c.known)=>bk_mem encK hk
 simp only [bkL,encC,bkI,knownI] at hb h1 h2
 refine ⟨⟨by omega,fun k hk=>?_⟩,by omega⟩
 have h3:=h2 k hk
 rw [kn_bk] at h3
 exact ⟨by omega,by omega⟩
end Go.Proofs.YtmclpbcipkdmcaaGreatDoor
/- What the rows hand in: states, what is shown, packets. -/
set_option linter.all false
namespace Go.Proofs.YtmclpbcipkdmcaaGreatDoor
open Go Go.Abs Go.RowKit Go.Proofs.YtmclpbcipkdmcaaGreatDoor.Ty
theorem dec_Cl' {e:List I} (h:HasCs [.str,.int .i64,.bool,.sl [.int .i64,.int .i64,.sl [.int .u8],.sl [.int .u8]]] e):∃ c:ClientD,e=encC c∧True:=by
 obtain ⟨c,h⟩:=dec_Client h
 exact ⟨c,h,trivial⟩
theorem dec_Cn {e:List I} (h:HasCs [.int .i64,.int .i64,.int .i64,.int .i64] e):∃ c:ConnD,e=encCn c∧True:=by
 obtain ⟨x1,_,rfl,h1,h⟩:=hasCs_cons h
 obtain ⟨x2,_,rfl,h2,h⟩:=hasCs_cons h
 obtain ⟨x3,_,rfl,h3,h⟩:=hasCs_cons h
 obtain ⟨x4,_,rfl,h4,h⟩:=hasCs_cons h
 obtain rfl:=hasCs_nil h
 obtain ⟨a,rfl,_⟩:=dec_int h1
 obtain ⟨b,rfl,_⟩:=dec_int h2
 obtain ⟨c,rfl,_⟩:=dec_int h3
 obtain ⟨d,rfl,_⟩:=dec_int h4
 exact ⟨⟨a,b,c,d⟩,rfl,trivial⟩
theorem dec_Ch {e:List I} (h:HasCs [.int .i64,.bool,.int .i64,.int .i64,.int .i64,.int .i64,.int .i64] e):∃ c:ChanD,e=encCh c∧True:=by
 obtain ⟨x1,_,rfl,h1,h⟩:=hasCs_cons h
 obtain ⟨x2,_,rfl,h2,h⟩:=hasCs_cons h
 obtain ⟨x3,_,rfl,h3,h⟩:=hasCs_cons h
 obtain ⟨x4,_,rfl,h4,h⟩:=hasCs_cons h
 obtain ⟨x5,_,rfl,h5,h⟩:=hasCs_cons h
 obtain ⟨x6,_,rfl,h6,h⟩:=hasCs_cons h
 obtain ⟨x7,_,rfl,h7,h⟩:=hasCs_cons h
 obtain rfl:=hasCs_nil h
 obtain ⟨a,rfl,_⟩:=dec_int h1
 obtain ⟨b,rfl⟩:=dec_bool h2
 obtain ⟨c,rfl,_⟩:=dec_int h3
 obtain ⟨d,rfl,_⟩:=dec_int h4
 obtain ⟨f,rfl,_⟩:=dec_int h5
 obtain ⟨g,rfl,_⟩:=dec_int h6
 obtain ⟨k,rfl,_⟩:=dec_int h7
 exact ⟨⟨a,b,c,d,f,g,k⟩,rfl,trivial⟩
theorem dec_Mk {e:List I} (h:HasCs [.int .i64,.int .i64,.sl [.int .u8]] e):∃ c:MarkD,e=encM c∧True:=by
 obtain ⟨x1,_,rfl,h1,h⟩:=hasCs_cons h
 obtain ⟨x2,_,rfl,h2,h⟩:=hasCs_cons h
 obtain ⟨x3,_,rfl,h3,h⟩:=hasCs_cons h
 obtain rfl:=hasCs_nil h
 obtain ⟨a,rfl,_⟩:=dec_int h1
 obtain ⟨b,rfl,_⟩:=dec_int h2
 obtain ⟨c,rfl⟩:=dec_B h3
 exact ⟨⟨a,b,c⟩,rfl,trivial⟩
theorem dec_Pu' {e:List I} (h:HasCs [.str,.str,.int .u64] e):∃ p:PurseD,e=encPu p∧p.n < 18446744073709551616:=by
 obtain ⟨x,_,rfl,hx,h⟩:=hasCs_cons h
 obtain ⟨y,_,rfl,hy,h⟩:=hasCs_cons h
 obtain ⟨z,_,rfl,hz,h⟩:=hasCs_cons h
 obtain rfl:=hasCs_nil h
 obtain ⟨a,rfl,_⟩:=dec_str hx
 obtain ⟨b,rfl,_⟩:=dec_str hy
 obtain ⟨c,rfl,hc⟩:=dec_u64 hz
 exact ⟨⟨a,b,c⟩,rfl,hc⟩
theorem dec_State {e:List I} (h:HasCs [.str,.int .i64,.int .i64,.sl [.str,.int .i64,.bool,.sl [.int .i64,.int .i64,.sl [.int .u8],.sl [.int .u8]]],.sl [.int .i64,.int .i64,.int .i64,.int .i64],.sl [.int .i64,.bool,.int .i64,.int .i64,.int .i64,.int .i64,.int .i64],
  .sl [.int .i64,.int .i64,.sl [.int .u8]],.sl [.int .i64,.int .i64,.sl [.int .u8]],.sl [.int .i64,.int .i64,.sl [.int .u8]],.sl [.str,.str,.int .u64]] e):∃ s:StateD,e=encSt s∧∀ p∈s.pus,p.n < 18446744073709551616:=by
 obtain ⟨x0,_,rfl,h0,h⟩:=hasCs_cons h
 obtain ⟨x1,_,rfl,h1,h⟩:=hasCs_cons h
 obtain ⟨x2,_,rfl,h2,h⟩:=hasCs_cons h
 obtain ⟨x3,_,rfl,h3,h⟩:=hasCs_cons h
 obtain ⟨x4,_,rfl,h4,h⟩:=hasCs_cons h
 obtain ⟨x5,_,rfl,h5,h⟩:=hasCs_cons h
 obtain ⟨x6,_,rfl,h6,h⟩:=hasCs_cons h
 obtain ⟨x7,_,rfl,h7,h⟩:=hasCs_cons h
 obtain ⟨x8,_,rfl,h8,h⟩:=hasCs_cons h
 obtain ⟨x9,_,rfl,h9,h⟩:=hasCs_cons h
 obtain rfl:=hasCs_nil h
 obtain ⟨a,rfl,_⟩:=dec_str h0
 obtain ⟨b,rfl,_⟩:=dec_int h1
 obtain ⟨c,rfl,_⟩:=dec_int h2
 obtain ⟨l3,rfl,_⟩:=dec_list (fun _ he=>dec_Cl' he) h3
 obtain ⟨l4,rfl,_⟩:=dec_list (fun _ he=>dec_Cn he) h4
 obtain ⟨l5,rfl,_⟩:=dec_list (fun _ he=>dec_Ch he) h5
 obtain ⟨l6,rfl,_⟩:=dec_list (fun _ he=>dec_Mk he) h6
 obtain ⟨l7,rfl,_⟩:=dec_list (fun _ he=>dec_Mk he) h7
 obtain ⟨l8,rfl,_⟩:=dec_list (fun _ he=>dec_Mk he) h8
 obtain ⟨l9,rfl,hn⟩:=dec_list (fun _ he=>dec_Pu' he) h9
 exact ⟨⟨a,b,c,l3,l4,l5,l6,l7,l8,l9⟩,rfl,hn⟩
def encShI (w:ShownD):List I:=.s (.int .i64 w.h) :: (formI w.p++gapI w.g)
theorem dec_Shown {e:List I} (h:HasCs [.int .i64,.int .i64,.int .i64,.sl [.int .u8],.sl [.int .u8],.sl [.sl [.int .u8]],.bool,.bool,.int .i64,.int .i64,.sl [.int .u8],.sl [.int .u8],.sl [.sl [.int .u8]],.int .i64,.int .i64,.sl [.int .u8],.sl [.int .u8],.sl [.sl [.int .u8]]] e) :
  ∃ w:ShownD,e=encShI w:=by
 obtain ⟨y1,_,rfl,k1,h⟩:=hasCs_cons h
 obtain ⟨x1,_,rfl,h1,h⟩:=hasCs_cons h
 obtain ⟨x2,_,rfl,h2,h⟩:=hasCs_cons h
 obtain ⟨x3,_,rfl,h3,h⟩:=hasCs_cons h
 obtain ⟨x4,_,rfl,h4,h⟩:=hasCs_cons h
 obtain ⟨x5,_,rfl,h5,h⟩:=hasCs_cons h
 obtain ⟨g,rfl⟩:=dec_Gap h
 obtain ⟨a,rfl,_⟩:=dec_int h1
 obtain ⟨b,rfl,_⟩:=dec_int h2
 obtain ⟨c,rfl⟩:=dec_B h3
 obtain ⟨d,rfl⟩:=dec_B h4
 obtain ⟨q,rfl⟩:=dec_BB h5
 obtain ⟨u,rfl,_⟩:=dec_int k1
 exact ⟨⟨u,⟨a,b,c,d,q⟩,g⟩,rfl⟩
theorem st_agg (s:StateD):D.agg ((encSt s).map .i)=stateD s:=rfl
theorem sh_agg (w:ShownD):D.agg ((encShI w).map .i)=shD w:=rfl
theorem st_sm {s:StateD} {n:Nat} (hb:bkL (encSt s)≤n) (hn:n≤1048576):StSm s:=by
 have h1:=bk_len encC s.cls
 have h2:=fun c (hc:c∈s.cls)=>bk_mem encC hc
 have h3:=bk_len encCn s.cns
 have h4:=bk_len encCh s.chs
 have h5:=bk_len encM s.sent
 have h6:=bk_len encM s.got
 have h7:=bk_len encM s.acks
 have h8:=fun m (hm:m∈s.sent)=>bk_mem encM hm
 have h9:=fun m (hm:m∈s.got)=>bk_mem encM hm
 have h10:=fun m (hm:m∈s.acks)=>bk_mem encM hm
 have h11:=bk_len encPu s.pus
 have e:bkL (encSt s)=s.name.size+(bkI (.sl (s.cls.map encC))+(bkI (.sl (s.cns.map encCn))+(bkI (.sl (s.chs.map encCh))+(bkI (.sl (s.sent.map encM))+(bkI (.sl (s.got.map encM))+(bkI (.sl (s.acks.map encM))+bkI (.sl (s.pus.map encPu)))))))):=by
  simp only [encSt,bkL,bkI]; omega
 rw [e] at hb
 have hm:∀ m:MarkD,m.dg.length≤bkL (encM m):=fun m=>by have:=bk_B m.dg; simp only [encM,bkL]; omega
 refine ⟨by omega,fun c hc=>(cl_sm (c:=c) (n:=n) (by have:=h2 c hc; omega) hn).1,by omega,by omega,by omega,by omega,by omega,fun m hmm=>?_,by omega⟩
 have hk:=hm m
 rcases hmm with hmm | hmm | hmm
 ·have:=h8 m hmm; omega
 ·have:=h9 m hmm; omega
 ·have:=h10 m hmm; omega
end Go.Proofs.YtmclpbcipkdmcaaGreatDoor
/- The law ChansTell: the walk. -/
set_option linter.all false
namespace Go.Proofs.YtmclpbcipkdmcaaGreatDoor
open Go Go.Abs Go.RowKit Go.Proofs.YtmclpbcipkdmcaaGreatDoor.Ty
set_option maxHeartbeats 32000000
set_option maxRecDepth 20000
theorem zero_smC:StSm zeroSt:=⟨by decide,by intro c hc; simp [zeroSt] at hc,by decide,by decide,by decide,by decide,by decide,by intro m hm; simp [zeroSt] at hm,by decide⟩
theorem initCh_sm (s:StateD) (i:Int) (o:Bool):StSm (initCh s i o).1:=by
 by_cases h:(initCh s i o).2.2=0
 ·exact (initCh_zero h 0).1.ok.sm
 ·revert h
  unfold initCh addCh
  repeat' split
  all_goals
   intro h
   first | exact zero_smC | exact absurd rfl h
theorem tryCh_sm (s:StateD) (i:Int) (o:Bool) (other:Int) (w:ShownD):StSm (tryCh s i o other w).1:=by
 by_cases h:(tryCh s i o other w).2.2=0
 ·exact (tryCh_zero h 0).1.ok.sm
 ·revert h
  unfold tryCh addCh
  repeat' split
  all_goals
   intro h
   first | exact zero_smC | exact absurd rfl h
theorem ackCh_sm (s:StateD) (i other:Int) (w:ShownD):StSm (ackCh s i other w).1:=by
 by_cases h:(ackCh s i other w).2=0
 ·exact (ackCh_zero h).ok.sm
 ·revert h
  unfold ackCh
  repeat' split
  all_goals
   intro h
   first | exact zero_smC | exact absurd rfl h
theorem confCh_sm23 (s:StateD) (i:Int) (w:ShownD):StSm (confCh 2 3 s i w).1:=by
 by_cases h:(confCh 2 3 s i w).2=0
 ·exact (confCh_zero (by decide) h).ok.sm
 ·revert h
  unfold confCh
  repeat' split
  all_goals
   intro h
   first | exact zero_smC | exact absurd rfl h
theorem confCh_sm34 (s:StateD) (i:Int) (w:ShownD):StSm (confCh 3 4 s i w).1:=by
 by_cases h:(confCh 3 4 s i w).2=0
 ·exact (confCh_zero (by decide) h).ok.sm
 ·revert h
  unfold confCh
  repeat' split
  all_goals
   intro h
   first | exact zero_smC | exact absurd rfl h
theorem closeCh_sm (s:StateD) (i:Int):StSm (closeCh s i).1:=by
 by_cases h:(closeCh s i).2=0
 ·exact (closeCh_zero h).ok.sm
 ·revert h
  unfold closeCh
  repeat' split
  all_goals
   intro h
   first | exact zero_smC | exact absurd rfl h
theorem walk_ChansTell (y0:List I) (s:StateD) (e0:y0=encSt s∧∀ p∈s.pus,p.n < 18446744073709551616) (y1:I) (pos:Int) (e1:y1=.s (.int .i64 pos)∧(Lit.int .i64 pos).wf=true) (y2:I) (o:Bool) (e2:y2=.s (.bool o))
  (y3:I) (other:Int) (e3:y3=.s (.int .i64 other)∧(Lit.int .i64 other).wf=true) (y4:List I) (w:ShownD) (e4:y4=encShI w)
  (hb:bkL y0+bkI y1+bkI y2+bkI y3+bkL y4≤1048576) :
  ∃ Ds,PureD Tryz.prog 5 Ds (.i (.s (.bool true)))∧Ds=[.agg (y0.map .i),.i y1,.i y2,.i y3,.agg (y4.map .i)]:=by
 obtain ⟨rfl,_⟩:=e0
 obtain ⟨rfl,_⟩:=e1
 subst e2
 obtain ⟨rfl,_⟩:=e3
 subst e4
 refine ⟨_,?_,rfl⟩
 rw [st_agg,sh_agg]
 have hs:=st_sm (s:=s) (n:=1048576) (by omega) (by omega)
 have hk:w.p.k.length≤1048576∧w.p.v.length≤1048576:=by
  have k1:=bk_B w.p.k
  have k2:=bk_B w.p.v
  simp only [encShI,formI,List.cons_append,List.nil_append,bkL,k1,k2] at hb
  omega
 clear hb
 refine hide_r fun R hR=>?_
 have c1:=initch_A s hs pos o
 have c2:=rchI_A s hs pos pos o other w
 have c3:=rsameS_A _ (initCh_sm s pos o)
 have c4:=trych_A s hs pos o other w
 have c5:=rchT_A s hs pos pos o other w hk.1 hk.2
 have c6:=rsameS_A _ (tryCh_sm s pos o other w)
 have c7:=ackch_A s hs pos other w
 have c8:=rchA_A s hs pos pos o other w hk.1 hk.2
 have c9:=rsameS_A _ (ackCh_sm s pos other w)
 have r1:=confch_A s hs pos w
 have r2:=rchC_A 99 2 3 (.inl ⟨rfl,rfl,rfl⟩) s hs pos pos o other w hk.1 hk.2
 have r3:=rsameS_A _ (confCh_sm23 s pos w)
 have r4:=closech_A s hs pos
 have r5:=rchX_A s hs pos pos o other w
 have r6:=rsameS_A _ (closeCh_sm s pos)
 have r7:=closedch_A s hs pos w
 have r8:=rchC_A 121 3 4 (.inr ⟨rfl,rfl,rfl⟩) s hs pos pos o other w hk.1 hk.2
 have r9:=rsameS_A _ (confCh_sm34 s pos w)
 generalize initCh s pos o=A at *
 generalize tryCh s pos o other w=B at *
 generalize ackCh s pos other w=C at *
 generalize confCh 2 3 s pos w=E at *
 generalize closeCh s pos=F at *
 generalize confCh 3 4 s pos w=G at *
 clear hs hk
 obtain ⟨A1,A2,A3⟩:=A
 obtain ⟨B1,B2,B3⟩:=B
 obtain ⟨C1,C2⟩:=C
 obtain ⟨E1,E2⟩:=E
 obtain ⟨F1,F2⟩:=F
 obtain ⟨G1,G2⟩:=G
 simp only at *
 refine callD_W 192 Tryz.func5 rfl rfl rfl (fun _ _=>rfl) ?_
 refine wkl ?_
 clear hR c1 c2 c3 c4 c5 c6 c7 c8 c9; intro hR
 repeat' (intro _)
 have c1:=r1
 have c2:=r2
 have c3:=r3
 have c4:=r4
 have c5:=r5
 have c6:=r6
 have c7:=r7
 have c8:=r8
 have c9:=r9
 clear r1 r2 r3 r4 r5 r6 r7 r8 r9
 exact wkl trivial
end Go.Proofs.YtmclpbcipkdmcaaGreatDoor
/- A row that lists package variables: what its list gives, and a world for the witness. -/
set_option linter.all false
namespace Go.Proofs.YtmclpbcipkdmcaaGreatDoor.Door
open Go Go.ChangeShapes Go.WideShapes Go.ChangeAt Go.RowKit Go.Abs
theorem gv {W:World} {rest:List (String × DataW Unit)} (h:laidMet Tryz.prog (("internal/strconv.uint64pow10",Rows.laid_internal_strconv_uint64pow10) :: rest) W):∀ q∈gvars,W.var? Tryz.prog q.1=some q.2:=by
 intro q hq
 simp only [gvars,List.mem_singleton] at hq
 subst hq
 exact Lib.tabIs_of_head (rest:=rest) (zs:=Lib.pow10Tab) (k:=.u64) (g:=1) (by kernel_rfl) (by kernel_rfl) Tryz.underlying256 Tryz.underlying92 (by kernel_rfl) (by kernel_rfl) h
def cellsD:DataW Unit→Array Value
 | .agg l=>(l.map fun d=>match d with | .lit (.int k z)=>Value.int k z | _=>undef).toArray
 | _=>#[]
noncomputable def setG (n:String) (d:DataW Unit) (h:Array Obj):Array Obj :=
 match (Tryz.prog).globalNamed n with
 | some g=>h.modify g fun | .cells _ t f=>.cells (cellsD d) t f | o=>o
 | none=>h
noncomputable def world (os:Os) (l:List (String × DataW Unit)):World :=
 { World.holding Tryz.prog os ⟨#[],#[],[]⟩ with heap:=l.foldl (fun h p=>setG p.1 p.2 h) (World.holding Tryz.prog os ⟨#[],#[],[]⟩).heap }
end Go.Proofs.YtmclpbcipkdmcaaGreatDoor.Door
/- The statement on landlaw10.ChansTell: for every input of bounded bulk it answers true and leaves its arguments as they were. -/
set_option linter.all false
namespace Go.Proofs.YtmclpbcipkdmcaaGreatDoor.chansTell
open Go.ChangeShapes Go.WideShapes Go.ChangeAt Go.RowKit Go.Abs
set_option linter.unusedVariables false
set_option maxRecDepth 100000 in
theorem contract (H:Type) (enc:TypeId × Value→H) (W:World) (base:Nat) (args:Array Value) (ds gs:List (DataW H)) (before:List MemPlace)
  (hval:∀ (j:Nat) t v,Tryz.f5.params[j]?=some t→args[j]?=some v→Value.okWide Tryz.prog W .any base t v)
  (hW:DataW.Whole enc Tryz.prog Tryz.f5.params.toList Rows.chansTellSpec.vars false W args.toList ds gs before) (hk:Rows.uptoSmall H (ds++gs)=true) (hL:laidMetH Tryz.prog Rows.chansTellUptoRow.laid W) :
  Calls Tryz.prog 5 args W fun e W'=>∃ v,e=.returned v∧Rows.chansTellSpec.post enc Tryz.prog Tryz.f5 false true false false W args v W':=by
 have hW':=hW
 obtain ⟨p,q,hA0,hV,rfl,hfz,hnd⟩:=hW'
 have hA:DataW.TrodAll enc Tryz.prog W 0 (fun _=>true) true Tryz.f5.params.toList args.toList ds p:=hA0
 have hA1:=hA
 rw [Tryz.params5] at hA hval
 obtain ⟨v0,vs0,d0,ds0,p0,q0,hargs,rfl,rfl,h0,r0⟩:=trodAll_cons hA
 obtain ⟨v1,vs1,d1,ds1,p1,q1,rfl,rfl,rfl,h1,r1⟩:=trodAll_cons r0
 obtain ⟨v2,vs2,d2,ds2,p2,q2,rfl,rfl,rfl,h2,r2⟩:=trodAll_cons r1
 obtain ⟨v3,vs3,d3,ds3,p3,q3,rfl,rfl,rfl,h3,r3⟩:=trodAll_cons r2
 obtain ⟨v4,vs4,d4,ds4,p4,q4,rfl,rfl,rfl,h4,r4⟩:=trodAll_cons r3
 obtain ⟨rfl,rfl,rfl⟩:=trodAll_nil r4
 obtain rfl:args=#[v0,v1,v2,v3,v4]:=by cases args; simp_all
 obtain ⟨rfl,rfl⟩:=trodVars_none hV
 have hb:Rows.uptoBulkAll (H:=H) [d0,d1,d2,d3,d4]≤1048576:=by have:=of_decide_eq_true hk; simpa using this
 simp only [Rows.uptoBulkAll] at hb
 obtain ⟨y0,c0,w0,b0⟩:=open_ag R2.bulk Ty.sh28 Tryz.underlying28 (hval 0 28 v0 rfl rfl) h0
 obtain ⟨x0,e0⟩:=dec_State c0
 obtain ⟨y1,c1,w1,b1⟩:=open_in R2.bulk Ty.sh3 Tryz.underlying3 (hval 1 3 v1 rfl rfl) h1
 obtain ⟨x1,e1⟩:=dec_int c1
 obtain ⟨y2,c2,w2,b2⟩:=open_bo R2.bulk Ty.sh4 Tryz.underlying4 (hval 2 4 v2 rfl rfl) h2
 obtain ⟨x2,e2⟩:=dec_bool c2
 obtain ⟨y3,c3,w3,b3⟩:=open_in R2.bulk Ty.sh3 Tryz.underlying3 (hval 3 3 v3 rfl rfl) h3
 obtain ⟨x3,e3⟩:=dec_int c3
 obtain ⟨y4,c4,w4,b4⟩:=open_ag R2.bulk Ty.sh36 Tryz.underlying36 (hval 4 36 v4 rfl rfl) h4
 obtain ⟨x4,e4⟩:=dec_Shown c4
 have hy0:=e0
 have hy1:=e1
 have hy2:=e2
 have hy3:=e3
 have hy4:=e4
 simp only [List.append_nil] at hW
 obtain ⟨Ds,hp,hs⟩:=walk_ChansTell y0 x0 e0 y1 x1 e1 y2 x2 e2 y3 x3 e3 y4 x4 e4 (by omega)
 subst hs
 refine (pure_calls hp rfl (fun j d hd=>?_) (Door.gv (laidMet.tail (laidMet.tail hL)))).mono fun e W' ⟨he,bel⟩=>?_
 ·rcases j with _ | _ | _ | _ | _ | j <;> simp at hd <;> subst hd <;> assumption
 ·subst he
  exact ⟨_,rfl,_,_,_,[],_,[],hW,trodAll_mk1 (shut_bool Tryz.underlying4 _),R2.trodAll_below hA1 bel (by rw [Tryz.params5]; decide +kernel),rfl,bel.frame _,fun h=>by cases h⟩
theorem reads (os:Os) {H:Type} (enc:TypeId × Value→H):∃ places,DataW.whole enc Tryz.prog ((Door.world os Rows.chansTellUptoRow.laid).forCall (fun _ _=>0) ⟨#[],#[.agg #[.string ⟨#[]⟩,.int .i64 0,.int .i64 0,.slice none 0 0,.slice none 0 0,.slice none 0 0,.slice none 0 0,.slice none 0 0,.slice none 0 0,.slice none 0 0],.int .i64 0,.bool false,.int .i64 0,.agg #[.int .i64 0,.int .i64 0,.int .i64 0,.slice none 0 0,.slice none 0 0,.slice none 0 0,.bool false,.bool false,.int .i64 0,.int .i64 0,.slice none 0 0,.slice none 0 0,.slice none 0 0,.int .i64 0,.int .i64 0,.slice none 0 0,.slice none 0 0,.slice none 0 0]],[]⟩).memory Tryz.f5.params.toList Rows.chansTellSpec.vars false (#[.agg #[.string ⟨#[]⟩,.int .i64 0,.int .i64 0,.slice none 0 0,.slice none 0 0,.slice none 0 0,.slice none 0 0,.slice none 0 0,.slice none 0 0,.slice none 0 0],.int .i64 0,.bool false,.int .i64 0,.agg #[.int .i64 0,.int .i64 0,.int .i64 0,.slice none 0 0,.slice none 0 0,.slice none 0 0,.bool false,.bool false,.int .i64 0,.int .i64 0,.slice none 0 0,.slice none 0 0,.slice none 0 0,.int .i64 0,.int .i64 0,.slice none 0 0,.slice none 0 0,.slice none 0 0]]:Array Value).toList 20=some ([.agg [.lit (.string []),.lit (.int .i64 0),.lit (.int .i64 0),.nil,.nil,.nil,.nil,.nil,.nil,.nil],.lit (.int .i64 0),.lit (.bool false),.lit (.int .i64 0),.agg [.lit (.int .i64 0),.agg [.lit (.int .i64 0),.lit (.int .i64 0),.nil,.nil,.nil],.agg [.lit (.bool false),.lit (.bool false),.agg [.lit (.int .i64 0),.lit (.int .i64 0),.nil,.nil,.nil],.agg [.lit (.int .i64 0),.lit (.int .i64 0),.nil,.nil,.nil]]]],[],places) :=
 ⟨[],by kernel_rfl⟩
theorem laid_met (os:Os):laidMet Tryz.prog Rows.chansTellUptoRow.laid ((Door.world os Rows.chansTellUptoRow.laid).forCall (fun _ _=>0) ⟨#[],#[.agg #[.string ⟨#[]⟩,.int .i64 0,.int .i64 0,.slice none 0 0,.slice none 0 0,.slice none 0 0,.slice none 0 0,.slice none 0 0,.slice none 0 0,.slice none 0 0],.int .i64 0,.bool false,.int .i64 0,.agg #[.int .i64 0,.int .i64 0,.int .i64 0,.slice none 0 0,.slice none 0 0,.slice none 0 0,.bool false,.bool false,.int .i64 0,.int .i64 0,.slice none 0 0,.slice none 0 0,.slice none 0 0,.int .i64 0,.int .i64 0,.slice none 0 0,.slice none 0 0,.slice none 0 0]],[]⟩).memory :=
 laidMet_of_run' 8 (by kernel_rfl) (by kernel_rfl)
set_option maxRecDepth 100000 in
theorem lifted (os:Os) (started:os.Started) (H:Type) (enc:TypeId × Value→H) (F:Stop.Interp) :
  ReturnsInHanded {} Tryz.checked os 5 .any ((Rows.OpenSpec.upto Rows.chansTellSpec).preRow enc Tryz.prog Tryz.f5 Rows.chansTellUptoRow.domain false Rows.chansTellUptoRow.laid) (((Rows.OpenSpec.upto Rows.chansTellSpec).at F).post enc Tryz.prog Tryz.f5 false true false false):=by
 obtain ⟨places,hx⟩:=reads os enc
 refine returnsInHanded_of_row (C:=Tryz.checked) (s:=Rows.OpenSpec.upto Rows.chansTellSpec) R2.own started (by kernel_rfl) Tryz.func5
  (witness_row_at (enc:=enc) (C:=Tryz.checked) false (Door.world os Rows.chansTellUptoRow.laid) #[.agg #[.string ⟨#[]⟩,.int .i64 0,.int .i64 0,.slice none 0 0,.slice none 0 0,.slice none 0 0,.slice none 0 0,.slice none 0 0,.slice none 0 0,.slice none 0 0],.int .i64 0,.bool false,.int .i64 0,.agg #[.int .i64 0,.int .i64 0,.int .i64 0,.slice none 0 0,.slice none 0 0,.slice none 0 0,.bool false,.bool false,.int .i64 0,.int .i64 0,.slice none 0 0,.slice none 0 0,.slice none 0 0,.int .i64 0,.int .i64 0,.slice none 0 0,.slice none 0 0,.slice none 0 0]] rfl (by kernel_rfl) (by kernel_rfl) (by kernel_rfl)
   (OpenSpec.preRow_of_cond 20 hx (by kernel_rfl) (fun k hk=>by cases hk; kernel_rfl) (by kernel_rfl) (laid_met os))) ?_
 intro W base args ds gs before hval hW _ hcond _ hL _ _
 exact contract H enc W base args ds gs before hval hW (hcond _ rfl) hL
theorem over:Rows.chansTellUptoRow.holds Tryz.pinned (Rows.OpenSpec.upto Rows.chansTellSpec) :=
 OpenClaim.holds_of_cond 5 Tryz.f5 rfl rfl rfl rfl rfl rfl rfl ⟨rfl,rfl,rfl,rfl,rfl⟩ rfl rfl rfl rfl rfl (by kernel_rfl) Tryz.func5 (by kernel_rfl)
  (of_decide_eq_true (by kernel_rfl)) (by unfold Func.isWrapper; first | (rw [if_pos (by decide +kernel)]; kernel_rfl) | (rw [if_neg (by decide +kernel)]; exact ⟨rfl,rfl⟩))
  (fun os started H enc _ F=>by rw [OpenClaim.pre_eq_preRow]; exact lifted os started H enc F)
theorem plain (f:FuncId) (fn:Func) (hf:Tryz.pinned.checked.prog.funcNamed "landbridge/landlaw10.ChansTell"=some f) (hfn:Tryz.pinned.checked.prog.funcs[f]?=some fn) :
  false=Tryz.pinned.checked.prog.looks []∧∀ (j:Nat) t,fn.params[j]?=some t→Tryz.pinned.checked.prog.wantsStandIn t=false:=by
 obtain rfl:f=5:=Option.some.inj ((show Tryz.prog.funcNamed "landbridge/landlaw10.ChansTell"=some 5 by kernel_rfl).symm.trans hf) |>.symm
 obtain rfl:fn=Tryz.f5:=(Option.some.inj (Tryz.func5.symm.trans hfn)).symm
 refine ⟨by kernel_rfl,fun j t ht=>?_⟩
 rw [Tryz.params5] at ht
 have h3:t=28∨t=3∨t=4∨t=3∨t=36:=by simpa using Array.mem_of_getElem? ht
 rcases h3 with rfl | rfl | rfl | rfl | rfl
 ·exact (show Tryz.prog.wantsStandIn 28=false by kernel_rfl)
 ·exact (show Tryz.prog.wantsStandIn 3=false by kernel_rfl)
 ·exact (show Tryz.prog.wantsStandIn 4=false by kernel_rfl)
 ·exact (show Tryz.prog.wantsStandIn 3=false by kernel_rfl)
 ·exact (show Tryz.prog.wantsStandIn 36=false by kernel_rfl)
theorem proved:Rows.ChansTellUptoCardSaid :=
 Claim7.holds_tied_plain_at .later [] _ _ _ _ over (fun _ h=>by cases h) (by kernel_rfl) (fun _ h=>by cases h) chansTellUpto_row_tie rfl ⟨rfl,rfl⟩ (by kernel_rfl) rfl plain (by kernel_rfl)
end Go.Proofs.YtmclpbcipkdmcaaGreatDoor.chansTell
