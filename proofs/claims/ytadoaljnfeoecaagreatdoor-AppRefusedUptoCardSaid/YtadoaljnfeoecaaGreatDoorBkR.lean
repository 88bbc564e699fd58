/- bank.Safe, mark, Leave, Back, Come; landref10.Came: by value. -/
import Derived.Test.YtadoaljnfeoecaaGreatDoorGBk
import Derived.Test.YtadoaljnfeoecaaGreatDoorIto
import Derived.Test.YtadoaljnfeoecaaGreatDoorRDig
set_option linter.all false
namespace Go.Proofs.YtadoaljnfeoecaaGreatDoor
open Go Go.Abs Go.RowKit Go.Proofs.YtadoaljnfeoecaaGreatDoor.Ty
attribute [simp,go_sem] sD wD pusI trD
@[go_sem] theorem optV_n {sl:Nat→D}:optV sl none=some none:=rfl
@[go_sem] theorem optV_s {sl:Nat→D} {y:Operand}:optV sl (some y)=(conc (evA sl y)).map some:=rfl
set_option maxHeartbeats 8000000
set_option maxRecDepth 20000
theorem mark_A (ch:Int) (h:Num6 ch):PureD Tryz.prog 96 [intD ch] (.i (.s (.string (mkOf ch)))):=by
 refine hide_r fun R hR=>?_
 have c1:=itoa_A ch h.1 h.2
 have hl:=ito_len h
 unfold mkOf at hR
 have s1:=fun P t x y=>@add_strB P t x y (Lib.itoa ch) [47] (by simp; omega)
 generalize Lib.itoa ch++[47]=M at *
 generalize Lib.itoa ch=L at *
 refine callD_W 6 Tryz.func96 rfl rfl rfl (fun _ _=>rfl) ?_
 exact wkl trivial
theorem safe_A (ch:Int) (h:Num6 ch):PureD Tryz.prog 98 [intD ch] (.i (.s (.string (safeOf ch)))):=by
 refine hide_r fun R hR=>?_
 have c1:=itoa_A ch h.1 h.2
 have hl:=ito_len h
 unfold safeOf at hR
 have s1:=fun P t x y=>@add_strB P t x y [35] (Lib.itoa ch) (by simp; omega)
 generalize [35]++Lib.itoa ch=M at *
 generalize Lib.itoa ch=L at *
 refine callD_W 6 Tryz.func98 rfl rfl rfl (fun _ _=>rfl) ?_
 exact wkl trivial
theorem haspX_A (s p:ByteArray):PureD Tryz.prog 128 [.i (.s (.string s)),.i (.s (.string p))] (boolD (hasP s p)):=by
 refine hide_r fun R hR=>?_
 unfold hasP at hR
 by_cases h:p.size≤s.size
 ·have h1:(p.size:Int)≤s.size:=by omega
  rw [decide_eq_true h,Bool.true_and] at hR
  refine callD_W 18 Tryz.func128 rfl rfl rfl (fun _ _=>rfl) ?_
  exact wkl trivial
 ·rw [decide_eq_false h,Bool.false_and] at hR
  refine callD_W 18 Tryz.func128 rfl rfl rfl (fun _ _=>rfl) ?_
  exact wkl trivial
theorem hasp_A (s p:ByteArray):PureD Tryz.prog 91 [.i (.s (.string s)),.i (.s (.string p))] (boolD (hasP s p)):=by
 refine hide_r fun R hR=>?_
 have c1:=haspX_A s p
 generalize hasP s p=B at *
 refine callD_W 8 Tryz.func91 rfl rfl rfl (fun _ _=>rfl) ?_
 exact wkl trivial
theorem cutpX_A (s p:ByteArray):PureD Tryz.prog 135 [.i (.s (.string s)),.i (.s (.string p))] (.tup [.i (.s (.string (if hasP s p=true then cutP s p else s))),boolD (hasP s p)]):=by
 refine hide_r fun R hR=>?_
 have c1:=haspX_A s p
 cases h:hasP s p
 ·simp only [h,Bool.false_eq_true,if_false] at hR
  rw [h] at c1
  refine callD_W 15 Tryz.func135 rfl rfl rfl (fun _ _=>rfl) ?_
  exact wkl trivial
 ·have h1:(p.size:Int)≤s.size:=by simp [hasP] at h; omega
  simp only [h,if_true] at hR
  rw [h] at c1
  unfold cutP at hR
  refine callD_W 15 Tryz.func135 rfl rfl rfl (fun _ _=>rfl) ?_
  exact wkl trivial
theorem cutp_A (s p:ByteArray):PureD Tryz.prog 99 [.i (.s (.string s)),.i (.s (.string p))] (.tup [.i (.s (.string (if hasP s p=true then cutP s p else s))),boolD (hasP s p)]):=by
 refine hide_r fun R hR=>?_
 have c1:=cutpX_A s p
 generalize (if hasP s p=true then cutP s p else s)=C at *
 generalize hasP s p=B at *
 refine callD_W 11 Tryz.func99 rfl rfl rfl (fun _ _=>rfl) ?_
 exact wkl trivial
theorem leave_A (l:List PurseD) (h:RightP l) (ch:Int) (hc:Num6 ch) (t:TranD) (hn:t.n < 18446744073709551616):PureD Tryz.prog 54 [.i (.sl (l.map encPu)),intD ch,trD t] (.tup [.i (.sl ((leaveP l ch t).1.map encPu)),intD (leaveP l ch t).2]):=by
 refine hide_r fun R hR=>?_
 have c1:=mark_A ch hc
 have c2:=hasp_A t.d (mkOf ch)
 have c3:=burn_A l h t.s t.d t.n hn
 have c4:=safe_A ch hc
 have c5:=move_A l h t.s (safeOf ch) t.d t.n hn
 simp only [sD,wD,pusI] at c3 c5
 unfold leaveP at hR
 generalize burnP l t.s t.d t.n=A at *
 generalize moveP l t.s (safeOf ch) t.d t.n=B at *
 generalize safeOf ch=S at *
 cases hp:hasP t.d (mkOf ch)
 all_goals
  rw [hp] at c2 hR
  clear hp h
  generalize mkOf ch=M at *
  simp only [Bool.false_eq_true,if_false,if_true] at hR
  refine callD_W 35 Tryz.func54 rfl rfl rfl (fun _ _=>rfl) ?_
  exact wkl trivial
theorem back_A (l:List PurseD) (h:RightP l) (ch:Int) (hc:Num6 ch) (t:TranD) (hn:t.n < 18446744073709551616):PureD Tryz.prog 61 [.i (.sl (l.map encPu)),intD ch,trD t] (.tup [.i (.sl ((backP l ch t).1.map encPu)),intD (backP l ch t).2]):=by
 refine hide_r fun R hR=>?_
 have c1:=mark_A ch hc
 have c2:=hasp_A t.d (mkOf ch)
 have c3:=mint_A l h t.s t.d t.n hn
 have c4:=safe_A ch hc
 have c5:=move_A l h (safeOf ch) t.s t.d t.n hn
 simp only [sD,wD,pusI] at c3 c5
 unfold backP at hR
 generalize mintP l t.s t.d t.n=A at *
 generalize moveP l (safeOf ch) t.s t.d t.n=B at *
 generalize safeOf ch=S at *
 cases hp:hasP t.d (mkOf ch)
 all_goals
  rw [hp] at c2 hR
  clear hp h
  generalize mkOf ch=M at *
  simp only [Bool.false_eq_true,if_false,if_true] at hR
  refine callD_W 35 Tryz.func61 rfl rfl rfl (fun _ _=>rfl) ?_
  exact wkl trivial
theorem mk_size {ch:Int} (h:Num6 ch):(mkOf ch).size≤22:=by
 have:=ito_len h
 simp [mkOf,ByteArray.size]; omega
theorem come_A (l:List PurseD) (h:RightP l) (ch other:Int) (hc:Num6 ch) (ho:Num6 other) (t:TranD) (hn:t.n < 18446744073709551616) (ht:t.d.size≤1048576):PureD Tryz.prog 55 [.i (.sl (l.map encPu)),intD ch,intD other,trD t] (.tup [.i (.sl ((comeP l ch other t).1.map encPu)),intD (comeP l ch other t).2]):=by
 refine hide_r fun R hR=>?_
 have c1:=mark_A ch hc
 have c2:=mark_A other ho
 have c3:=cutp_A t.d (mkOf other)
 have c4:=safe_A ch hc
 have c5:=move_A l h (safeOf ch) t.r (cutP t.d (mkOf other)) t.n hn
 have c6:=mint_A l h t.r (mkOf ch++t.d) t.n hn
 have hz:=mk_size hc
 have s1:∀ P t' x y,binQ P .add t' x y (some (.string (mkOf ch))) (some (.string t.d))=some (.i (.s (.string (mkOf ch++t.d)))):=fun P t' x y=>bq_add_str (by omega)
 simp only [sD,wD,pusI] at c5 c6
 unfold comeP at hR
 generalize mintP l t.r (mkOf ch++t.d) t.n=A at *
 generalize moveP l (safeOf ch) t.r (cutP t.d (mkOf other)) t.n=B at *
 generalize safeOf ch=S at *
 cases hp:hasP t.d (mkOf other)
 all_goals
  simp only [hp,Bool.false_eq_true,if_false,if_true] at c3 hR
  clear hp h hz
  generalize cutP t.d (mkOf other)=C at *
  generalize mkOf ch++t.d=X at *
  generalize mkOf ch=M at *
  generalize mkOf other=M2 at *
  refine callD_W 45 Tryz.func55 rfl rfl rfl (fun _ _=>rfl) ?_
  exact wkl trivial
end Go.Proofs.YtadoaljnfeoecaaGreatDoor
