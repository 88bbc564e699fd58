/- bank.Safe, mark, Leave, Back, Come; landref10.Came: by value. -/
import Derived.Test.YtdmeldhlbpdeeaaGreatDoorGBk
import Derived.Test.YtdmeldhlbpdeeaaGreatDoorRDig
set_option linter.all false
set_option maxHeartbeats 8000000
set_option maxRecDepth 20000
namespace Go.Proofs.YtdmeldhlbpdeeaaGreatDoor
open Go Go.Abs Go.RowKit Go.Proofs.YtdmeldhlbpdeeaaGreatDoor.Ty
attribute [simp,go_sem] sD wD oF trD
@[go_sem] theorem ahy {sl:Nat->D}:ru sl none=some none:=rfl
@[go_sem] theorem ahx {sl:Nat->D}{y:Operand}:ru sl (some y)=(dO (evA sl y)).map some:=rfl
theorem Ic (ch:Int)(h:gT ch):PureD Tryz.prog 248 [intD ch] (.i (.s (.string (jR ch)))):=by refine ai λR hR=>?_;have c1:=tJ ch h.1 h.2;have hl:=jU h;unfold jR at hR;have s1:=λP t x y=>@jD P t x y (Lib.itoa ch) [47] (by simp;omega);generalize Lib.itoa ch++[47]=M at*;generalize Lib.itoa ch=L at*;refine aa 6 Tryz.func248 ?_;exact wkl trivial
theorem MW (ch:Int)(h:gT ch):PureD Tryz.prog 250 [intD ch] (.i (.s (.string (jq ch)))):=by refine ai λR hR=>?_;have c1:=tJ ch h.1 h.2;have hl:=jU h;unfold jq at hR;have s1:=λP t x y=>@jD P t x y [35] (Lib.itoa ch) (by simp;omega);generalize[35]++Lib.itoa ch=M at*;generalize Lib.itoa ch=L at*;refine aa 6 Tryz.func250 ?_;exact wkl trivial
theorem Pi (s p:ByteArray):PureD Tryz.prog 264 [.i (.s (.string s)),.i (.s (.string p))] (boolD (qK s p)):=by
 refine ai λR hR=>?_;unfold qK at hR;by_cases h:p.size<=s.size
 ·have h1:(p.size:Int)<=s.size:=by omega
  rw[decide_eq_true h,Bool.true_and]at hR;refine aa 18 Tryz.func264 ?_;exact wkl trivial
 ·rw[decide_eq_false h,Bool.false_and]at hR;refine aa 18 Tryz.func264 ?_;exact wkl trivial
theorem Ph (s p:ByteArray):PureD Tryz.prog 243 [.i (.s (.string s)),.i (.s (.string p))] (boolD (qK s p)):=by refine ai λR hR=>?_;have c1:=Pi s p;generalize qK s p=B at*;refine aa 8 Tryz.func243 ?_;exact wkl trivial
theorem aaB (s p:ByteArray):PureD Tryz.prog 270 [.i (.s (.string s)),.i (.s (.string p))] (.tup [.i (.s (.string (if qK s p=true then XH s p else s))),boolD (qK s p)]):=by
 refine ai λR hR=>?_;have c1:=Pi s p;cases h:qK s p
 ·simp only[h,Bool.false_eq_true,if_false]at hR;rw[h]at c1;refine aa 15 Tryz.func270 ?_;exact wkl trivial
 ·have h1:(p.size:Int)<=s.size:=by simp[qK]at h;omega
  simp only[h,if_true]at hR;rw[h]at c1;unfold XH at hR;refine aa 15 Tryz.func270 ?_;exact wkl trivial
theorem aeR (s p:ByteArray):PureD Tryz.prog 251 [.i (.s (.string s)),.i (.s (.string p))] (.tup [.i (.s (.string (if qK s p=true then XH s p else s))),boolD (qK s p)]):=by refine ai λR hR=>?_;have c1:=aaB s p;generalize(if qK s p=true then XH s p else s)=C at*;generalize qK s p=B at*;refine aa 11 Tryz.func251 ?_;exact wkl trivial
theorem ZT (l:List PurseD)(h:bB l)(ch:Int)(hc:gT ch)(t:eX)(hn:t.n<18446744073709551616):PureD Tryz.prog 209 [.i (.sl (l.map bf)),intD ch,trD t] (.tup [.i (.sl ((kK l ch t).1.map bf)),intD (kK l ch t).2]):=by
 refine ai λR hR=>?_;have c1:=Ic ch hc;have c2:=Ph t.d (jR ch);have c3:=XQ l h t.s t.d t.n hn;have c4:=MW ch hc;have c5:=Ib l h t.s (jq ch) t.d t.n hn;simp only[sD,wD,oF]at c3 c5;unfold kK at hR;generalize burnP l t.s t.d t.n=A at*;generalize jQ l t.s (jq ch) t.d t.n=B at*;generalize jq ch=S at*;cases hp:qK t.d (jR ch);all_goals
  rw[hp]at c2 hR;clear hp h;generalize jR ch=M at*;simp only[Bool.false_eq_true,if_false,if_true]at hR;refine aa 35 Tryz.func209 ?_;exact wkl trivial
theorem Yj (l:List PurseD)(h:bB l)(ch:Int)(hc:gT ch)(t:eX)(hn:t.n<18446744073709551616):PureD Tryz.prog 215 [.i (.sl (l.map bf)),intD ch,trD t] (.tup [.i (.sl ((nL l ch t).1.map bf)),intD (nL l ch t).2]):=by
 refine ai λR hR=>?_;have c1:=Ic ch hc;have c2:=Ph t.d (jR ch);have c3:=Oq l h t.s t.d t.n hn;have c4:=MW ch hc;have c5:=Ib l h (jq ch) t.s t.d t.n hn;simp only[sD,wD,oF]at c3 c5;unfold nL at hR;generalize mintP l t.s t.d t.n=A at*;generalize jQ l (jq ch) t.s t.d t.n=B at*;generalize jq ch=S at*;cases hp:qK t.d (jR ch);all_goals
  rw[hp]at c2 hR;clear hp h;generalize jR ch=M at*;simp only[Bool.false_eq_true,if_false,if_true]at hR;refine aa 35 Tryz.func215 ?_;exact wkl trivial
theorem ZJ {ch:Int}(h:gT ch):(jR ch).size<=22:=by have:=jU h;simp[jR,ByteArray.size];omega
theorem aeU (l:List PurseD)(h:bB l)(ch other:Int)(hc:gT ch)(ho:gT other)(t:eX)(hn:t.n<18446744073709551616)(ht:t.d.size<=1048576):PureD Tryz.prog 210 [.i (.sl (l.map bf)),intD ch,intD other,trD t] (.tup [.i (.sl ((sj l ch other t).1.map bf)),intD (sj l ch other t).2]):=by
 refine ai λR hR=>?_;have c1:=Ic ch hc;have c2:=Ic other ho;have c3:=aeR t.d (jR other);have c4:=MW ch hc;have c5:=Ib l h (jq ch) t.r (XH t.d (jR other)) t.n hn;have c6:=Oq l h t.r (jR ch++t.d) t.n hn;have hz:=ZJ hc;have s1:∀P t' x y,gM P .add t' x y (some (.string (jR ch))) (some (.string t.d))=some (.i (.s (.string (jR ch++t.d)))):=λP t' x y=>lK (by omega);simp only[sD,wD,oF]at c5 c6;unfold sj at hR;generalize mintP l t.r (jR ch++t.d) t.n=A at*;generalize jQ l (jq ch) t.r (XH t.d (jR other)) t.n=B at*;generalize jq ch=S at*;cases hp:qK t.d (jR other);all_goals
  simp only[hp,Bool.false_eq_true,if_false,if_true]at c3 hR;clear hp h hz;generalize XH t.d (jR other)=C at*;generalize jR ch++t.d=X at*;generalize jR ch=M at*;generalize jR other=M2 at*;refine aa 45 Tryz.func210 ?_;exact wkl trivial
end Go.Proofs.YtdmeldhlbpdeeaaGreatDoor
