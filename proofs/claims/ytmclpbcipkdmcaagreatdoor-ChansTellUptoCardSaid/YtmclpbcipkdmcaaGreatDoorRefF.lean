/- landref5.Absent, SameProof, SameGap: by value. -/
import Derived.Test.YtmclpbcipkdmcaaGreatDoorRefE
set_option linter.all false
namespace Go.Proofs.YtmclpbcipkdmcaaGreatDoor
open Go Go.Abs Go.RowKit Go.Proofs.YtmclpbcipkdmcaaGreatDoor.Ty
attribute [local simp,local go_sem] proofD gapD bbI
set_option maxHeartbeats 4000000
set_option maxRecDepth 20000
theorem rabsent_A (root key:List UInt8) (g:GapD) (hroot:root.length≤1048576) (hkey:key.length≤1048576):PureD Tryz.prog 159 [.i (bI root),.i (bI key),gapD g] (boolD (absentF root key g)):=by
 refine hide_r fun R hR=>?_
 obtain ⟨hl,hr,⟨li,ln,lk,lv,lp⟩,⟨ri,rn,rk,rv,rp⟩⟩:=g
 have c1:=rshown_A root ⟨li,ln,lk,lv,lp⟩ hroot
 have c2:=rshown_A root ⟨ri,rn,rk,rv,rp⟩ hroot
 have c4:=less_A key rk (by omega)
 have c5:=rtop_A 0 [] (by simp) (by simp)
 have c6:=same_A root (topF 0 []) (by omega)
 have w0:IntKind.i64.wrap (-1+1)=0:=by decide
 have fL:shownF root ⟨li,ln,lk,lv,lp⟩=true→1≤ln∧ln≤200∧0≤li∧li < ln∧lk.length≤60:=fun h=>by
  obtain ⟨a1,a2,a3,a4,a5,_⟩:=formF_yes (shownF_form h)
  exact ⟨a1,a2,a3,a4,a5⟩
 cases hl <;> cases hr <;> simp only [absentF] at hR
 ·clear c1 c2 fL c4
  rw [show decide (topF 0 []=root)=decide (root=topF 0 []) from decide_eq_decide.2 eq_comm] at hR
  generalize topF 0 []=T at *
  refine callD_W 76 Tryz.func159 rfl rfl rfl (fun _ _=>rfl) ?_
  exact wkl trivial
 ·clear c1 fL
  rw [show decide (ri=0)=decide (0=ri) from decide_eq_decide.2 eq_comm] at hR
  generalize shownF root ⟨ri,rn,rk,rv,rp⟩=S at *
  generalize Lib.compareBytes key rk=C at *
  cases S <;> by_cases q:C < 0 <;> simp only [q,decide_true,decide_false,Bool.true_and,Bool.false_and,Bool.and_false,Bool.and_true] at hR c4
  all_goals
   refine callD_W 76 Tryz.func159 rfl rfl rfl (fun _ _=>rfl) ?_
   exact wkl trivial
 ·clear c2 c4
  rw [show decide (li=ln - 1)=decide (li+1=ln) from decide_eq_decide.2 (by omega)] at hR
  generalize shownF root ⟨li,ln,lk,lv,lp⟩=S at *
  cases S
  ·simp only [Bool.false_and] at hR
   refine callD_W 76 Tryz.func159 rfl rfl rfl (fun _ _=>rfl) ?_
   exact wkl trivial
  ·have fL:=fL rfl
   have c3:=less_A lk key (by omega)
   generalize Lib.compareBytes lk key=C at *
   by_cases q:C < 0 <;> simp only [q,decide_true,decide_false,Bool.true_and,Bool.false_and,Bool.and_false,Bool.and_true] at hR c3
   all_goals
    refine callD_W 76 Tryz.func159 rfl rfl rfl (fun _ _=>rfl) ?_
    exact wkl trivial
 ·rw [show decide (ln=rn)=decide (rn=ln) from decide_eq_decide.2 eq_comm] at hR
  generalize shownF root ⟨li,ln,lk,lv,lp⟩=S at *
  generalize shownF root ⟨ri,rn,rk,rv,rp⟩=S' at *
  generalize Lib.compareBytes key rk=C' at *
  cases S
  ·simp only [Bool.false_and] at hR
   refine callD_W 76 Tryz.func159 rfl rfl rfl (fun _ _=>rfl) ?_
   exact wkl trivial
  ·have fL:=fL rfl
   have c3:=less_A lk key (by omega)
   generalize Lib.compareBytes lk key=C at *
   by_cases q:C < 0
   ·cases S' <;> by_cases q':C' < 0 <;> simp only [q,q',decide_true,decide_false,Bool.true_and,Bool.false_and,Bool.and_false,Bool.and_true] at hR c3 c4
    all_goals
     refine callD_W 76 Tryz.func159 rfl rfl rfl (fun _ _=>rfl) ?_
     exact wkl trivial
   ·simp only [q,decide_false,Bool.and_false,Bool.false_and] at hR c3
    refine callD_W 76 Tryz.func159 rfl rfl rfl (fun _ _=>rfl) ?_
    exact wkl trivial
structure OkP (p:ProofD):Prop where
 k:p.k.length≤1048576
 v:p.v.length≤1048576
 q:p.path.length≤1048576
 d:∀ d∈p.path,d.length≤1048576
theorem OkP.zero:OkP zeroP:=⟨by simp [zeroP],by simp [zeroP],by simp [zeroP],by simp [zeroP]⟩
theorem OkP.at {l:List PairD} (hl:l.length≤1048576) (hb:∀ p∈l,p.k.length≤1048576∧p.v.length≤1048576) (i:Nat) (h:i < l.length):OkP (atF l i h) :=
 ⟨(hb _ (List.getElem_mem h)).1,(hb _ (List.getElem_mem h)).2,Nat.le_trans (pathF_len _ l i rfl) hl,fun d hd=>by have:=path_dig _ l i rfl d hd; omega⟩
end Go.Proofs.YtmclpbcipkdmcaaGreatDoor
