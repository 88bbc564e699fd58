/- bank.Safe, mark, Leave, Back, Come; landref10.Came: by value. -/
import Derived.Test.YtoifllbioldomaaGreatDoorGBk
import Derived.Test.YtoifllbioldomaaGreatDoorRDig
set_option linter.all false
set_option maxHeartbeats 8000000
set_option maxRecDepth 20000
namespace Go.Proofs.YtoifllbioldomaaGreatDoor
open Go Go.Abs Go.RowKit Go.Proofs.YtoifllbioldomaaGreatDoor.Ty
attribute [simp,go_sem] sD wD oF trD
@[go_sem] theorem agt {sl:Nat->D}:rG sl none=some none:=rfl
@[go_sem] theorem agr {sl:Nat->D}{y:Operand}:rG sl (some y)=(di (evA sl y)).map some:=rfl
theorem Hf (ch:Int)(h:fe ch):PureD Tryz.prog 225 [intD ch] (.i (.s (.string (jC ch)))):=by refine af λR hR=>?_;have c1:=t_ ch h.1 h.2;have hl:=jZ h;unfold jC at hR;have s1:=λP t x y=>@jG P t x y (Lib.itoa ch) [47] (by simp;omega);generalize Lib.itoa ch++[47]=M at*;generalize Lib.itoa ch=L at*;refine aa 6 Tryz.func225 ?_;exact wkl trivial
theorem Ml (ch:Int)(h:fe ch):PureD Tryz.prog 227 [intD ch] (.i (.s (.string (jq ch)))):=by refine af λR hR=>?_;have c1:=t_ ch h.1 h.2;have hl:=jZ h;unfold jq at hR;have s1:=λP t x y=>@jG P t x y [35] (Lib.itoa ch) (by simp;omega);generalize[35]++Lib.itoa ch=M at*;generalize Lib.itoa ch=L at*;refine aa 6 Tryz.func227 ?_;exact wkl trivial
theorem OB (s p:ByteArray):PureD Tryz.prog 258 [.i (.s (.string s)),.i (.s (.string p))] (boolD (qj s p)):=by
 refine af λR hR=>?_;unfold qj at hR;by_cases h:p.size<=s.size
 ·have h1:(p.size:Int)<=s.size:=by omega
  rw[decide_eq_true h,Bool.true_and]at hR;refine aa 18 Tryz.func258 ?_;exact wkl trivial
 ·rw[decide_eq_false h,Bool.false_and]at hR;refine aa 18 Tryz.func258 ?_;exact wkl trivial
theorem OA (s p:ByteArray):PureD Tryz.prog 220 [.i (.s (.string s)),.i (.s (.string p))] (boolD (qj s p)):=by refine af λR hR=>?_;have c1:=OB s p;generalize qj s p=B at*;refine aa 8 Tryz.func220 ?_;exact wkl trivial
theorem ZJ (s p:ByteArray):PureD Tryz.prog 262 [.i (.s (.string s)),.i (.s (.string p))] (.tup [.i (.s (.string (if qj s p=true then Rs s p else s))),boolD (qj s p)]):=by
 refine af λR hR=>?_;have c1:=OB s p;cases h:qj s p
 ·simp only[h,Bool.false_eq_true,if_false]at hR;rw[h]at c1;refine aa 15 Tryz.func262 ?_;exact wkl trivial
 ·have h1:(p.size:Int)<=s.size:=by simp[qj]at h;omega
  simp only[h,if_true]at hR;rw[h]at c1;unfold Rs at hR;refine aa 15 Tryz.func262 ?_;exact wkl trivial
theorem adY (s p:ByteArray):PureD Tryz.prog 228 [.i (.s (.string s)),.i (.s (.string p))] (.tup [.i (.s (.string (if qj s p=true then Rs s p else s))),boolD (qj s p)]):=by refine af λR hR=>?_;have c1:=ZJ s p;generalize(if qj s p=true then Rs s p else s)=C at*;generalize qj s p=B at*;refine aa 11 Tryz.func228 ?_;exact wkl trivial
theorem YZ (l:List PurseD)(h:aS l)(ch:Int)(hc:fe ch)(t:dP)(hn:t.n<18446744073709551616):PureD Tryz.prog 165 [.i (.sl (l.map aZ)),intD ch,trD t] (.tup [.i (.sl ((gY l ch t).1.map aZ)),intD (gY l ch t).2]):=by
 refine af λR hR=>?_;have c1:=Hf ch hc;have c2:=OA t.d (jC ch);have c3:=Xf l h t.s t.d t.n hn;have c4:=Ml ch hc;have c5:=Hd l h t.s (jq ch) t.d t.n hn;simp only[sD,wD,oF]at c3 c5;unfold gY at hR;generalize burnP l t.s t.d t.n=A at*;generalize moveP l t.s (jq ch) t.d t.n=B at*;generalize jq ch=S at*;cases hp:qj t.d (jC ch);all_goals
  rw[hp]at c2 hR;clear hp h;generalize jC ch=M at*;simp only[Bool.false_eq_true,if_false,if_true]at hR;refine aa 35 Tryz.func165 ?_;exact wkl trivial
theorem Xy (l:List PurseD)(h:aS l)(ch:Int)(hc:fe ch)(t:dP)(hn:t.n<18446744073709551616):PureD Tryz.prog 171 [.i (.sl (l.map aZ)),intD ch,trD t] (.tup [.i (.sl ((lT l ch t).1.map aZ)),intD (lT l ch t).2]):=by
 refine af λR hR=>?_;have c1:=Hf ch hc;have c2:=OA t.d (jC ch);have c3:=NM l h t.s t.d t.n hn;have c4:=Ml ch hc;have c5:=Hd l h (jq ch) t.s t.d t.n hn;simp only[sD,wD,oF]at c3 c5;unfold lT at hR;generalize mintP l t.s t.d t.n=A at*;generalize moveP l (jq ch) t.s t.d t.n=B at*;generalize jq ch=S at*;cases hp:qj t.d (jC ch);all_goals
  rw[hp]at c2 hR;clear hp h;generalize jC ch=M at*;simp only[Bool.false_eq_true,if_false,if_true]at hR;refine aa 35 Tryz.func171 ?_;exact wkl trivial
theorem YS {ch:Int}(h:fe ch):(jC ch).size<=22:=by have:=jZ h;simp[jC,ByteArray.size];omega
theorem aeb (l:List PurseD)(h:aS l)(ch other:Int)(hc:fe ch)(ho:fe other)(t:dP)(hn:t.n<18446744073709551616)(ht:t.d.size<=1048576):PureD Tryz.prog 166 [.i (.sl (l.map aZ)),intD ch,intD other,trD t] (.tup [.i (.sl ((nT l ch other t).1.map aZ)),intD (nT l ch other t).2]):=by
 refine af λR hR=>?_;have c1:=Hf ch hc;have c2:=Hf other ho;have c3:=adY t.d (jC other);have c4:=Ml ch hc;have c5:=Hd l h (jq ch) t.r (Rs t.d (jC other)) t.n hn;have c6:=NM l h t.r (jC ch++t.d) t.n hn;have hz:=YS hc;have s1:∀P t' x y,fZ P .add t' x y (some (.string (jC ch))) (some (.string t.d))=some (.i (.s (.string (jC ch++t.d)))):=λP t' x y=>lQ (by omega);simp only[sD,wD,oF]at c5 c6;unfold nT at hR;generalize mintP l t.r (jC ch++t.d) t.n=A at*;generalize moveP l (jq ch) t.r (Rs t.d (jC other)) t.n=B at*;generalize jq ch=S at*;cases hp:qj t.d (jC other);all_goals
  simp only[hp,Bool.false_eq_true,if_false,if_true]at c3 hR;clear hp h hz;generalize Rs t.d (jC other)=C at*;generalize jC ch++t.d=X at*;generalize jC ch=M at*;generalize jC other=M2 at*;refine aa 45 Tryz.func166 ?_;exact wkl trivial
end Go.Proofs.YtoifllbioldomaaGreatDoor
