/- bank.Safe, mark, Leave, Back, Come; landref10.Came: by value. -/
import Derived.Test.YtfenipelcpmkpaaGreatDoorGBk
import Derived.Test.YtfenipelcpmkpaaGreatDoorRDig
set_option linter.all false
set_option maxHeartbeats 8000000
set_option maxRecDepth 20000
namespace Go.Proofs.YtfenipelcpmkpaaGreatDoor
open Go Go.Abs Go.RowKit Go.Proofs.YtfenipelcpmkpaaGreatDoor.Ty
attribute [simp,go_sem] sD wD ek trD
@[go_sem] theorem aaX {sl:Nat->D}:oH sl none=some none:=rfl
@[go_sem] theorem aaW {sl:Nat->D} {y:Operand}:oH sl (some y)=(cO (evA sl y)).map some:=rfl
theorem Fg (ch:Int) (h:gZ ch):PureD Tryz.prog 260 [intD ch] (.i (.s (.string (mX ch)))):=by
 refine au fun R hR=>?_
 have c1:=qJ ch h.1 h.2
 have hl:=ll h
 unfold mX at hR
 have s1:=fun P t x y=>@iO P t x y (Lib.itoa ch) [47] (by simp; omega)
 generalize Lib.itoa ch++[47]=M at *
 generalize Lib.itoa ch=L at *
 refine aa 6 Tryz.func260 rfl rfl rfl (fun _ _=>rfl) ?_
 exact wkl trivial
theorem Jl (ch:Int) (h:gZ ch):PureD Tryz.prog 262 [intD ch] (.i (.s (.string (jq ch)))):=by
 refine au fun R hR=>?_
 have c1:=qJ ch h.1 h.2
 have hl:=ll h
 unfold jq at hR
 have s1:=fun P t x y=>@iO P t x y [35] (Lib.itoa ch) (by simp; omega)
 generalize [35]++Lib.itoa ch=M at *
 generalize Lib.itoa ch=L at *
 refine aa 6 Tryz.func262 rfl rfl rfl (fun _ _=>rfl) ?_
 exact wkl trivial
theorem KY (s p:ByteArray):PureD Tryz.prog 279 [.i (.s (.string s)),.i (.s (.string p))] (boolD (qU s p)):=by
 refine au fun R hR=>?_
 unfold qU at hR
 by_cases h:p.size<=s.size
 ·have h1:(p.size:Int)<=s.size:=by omega
  rw [decide_eq_true h,Bool.true_and] at hR
  refine aa 18 Tryz.func279 rfl rfl rfl (fun _ _=>rfl) ?_
  exact wkl trivial
 ·rw [decide_eq_false h,Bool.false_and] at hR
  refine aa 18 Tryz.func279 rfl rfl rfl (fun _ _=>rfl) ?_
  exact wkl trivial
theorem KX (s p:ByteArray):PureD Tryz.prog 255 [.i (.s (.string s)),.i (.s (.string p))] (boolD (qU s p)):=by
 refine au fun R hR=>?_
 have c1:=KY s p
 generalize qU s p=B at *
 refine aa 8 Tryz.func255 rfl rfl rfl (fun _ _=>rfl) ?_
 exact wkl trivial
theorem Vd (s p:ByteArray):PureD Tryz.prog 283 [.i (.s (.string s)),.i (.s (.string p))] (.tup [.i (.s (.string (if qU s p=true then Sr s p else s))),boolD (qU s p)]):=by
 refine au fun R hR=>?_
 have c1:=KY s p
 cases h:qU s p
 ·simp only [h,Bool.false_eq_true,if_false] at hR
  rw [h] at c1
  refine aa 15 Tryz.func283 rfl rfl rfl (fun _ _=>rfl) ?_
  exact wkl trivial
 ·have h1:(p.size:Int)<=s.size:=by simp [qU] at h; omega
  simp only [h,if_true] at hR
  rw [h] at c1
  unfold Sr at hR
  refine aa 15 Tryz.func283 rfl rfl rfl (fun _ _=>rfl) ?_
  exact wkl trivial
theorem YL (s p:ByteArray):PureD Tryz.prog 263 [.i (.s (.string s)),.i (.s (.string p))] (.tup [.i (.s (.string (if qU s p=true then Sr s p else s))),boolD (qU s p)]):=by
 refine au fun R hR=>?_
 have c1:=Vd s p
 generalize (if qU s p=true then Sr s p else s)=C at *
 generalize qU s p=B at *
 refine aa 11 Tryz.func263 rfl rfl rfl (fun _ _=>rfl) ?_
 exact wkl trivial
theorem Uf (l:List aA) (h:bF l) (ch:Int) (hc:gZ ch) (t:iw) (hn:t.n < 18446744073709551616):PureD Tryz.prog 219 [.i (.sl (l.map aZ)),intD ch,trD t] (.tup [.i (.sl ((lg l ch t).1.map aZ)),intD (lg l ch t).2]):=by
 refine au fun R hR=>?_
 have c1:=Fg ch hc
 have c2:=KX t.d (mX ch)
 have c3:=Su l h t.s t.d t.n hn
 have c4:=Jl ch hc
 have c5:=Ff l h t.s (jq ch) t.d t.n hn
 simp only [sD,wD,ek] at c3 c5
 unfold lg at hR
 generalize mF l t.s t.d t.n=A at *
 generalize kM l t.s (jq ch) t.d t.n=B at *
 generalize jq ch=S at *
 cases hp:qU t.d (mX ch)
 all_goals
  rw [hp] at c2 hR
  clear hp h
  generalize mX ch=M at *
  simp only [Bool.false_eq_true,if_false,if_true] at hR
  refine aa 35 Tryz.func219 rfl rfl rfl (fun _ _=>rfl) ?_
  exact wkl trivial
theorem SA (l:List aA) (h:bF l) (ch:Int) (hc:gZ ch) (t:iw) (hn:t.n < 18446744073709551616):PureD Tryz.prog 225 [.i (.sl (l.map aZ)),intD ch,trD t] (.tup [.i (.sl ((lM l ch t).1.map aZ)),intD (lM l ch t).2]):=by
 refine au fun R hR=>?_
 have c1:=Fg ch hc
 have c2:=KX t.d (mX ch)
 have c3:=Ku l h t.s t.d t.n hn
 have c4:=Jl ch hc
 have c5:=Ff l h (jq ch) t.s t.d t.n hn
 simp only [sD,wD,ek] at c3 c5
 unfold lM at hR
 generalize mZ l t.s t.d t.n=A at *
 generalize kM l (jq ch) t.s t.d t.n=B at *
 generalize jq ch=S at *
 cases hp:qU t.d (mX ch)
 all_goals
  rw [hp] at c2 hR
  clear hp h
  generalize mX ch=M at *
  simp only [Bool.false_eq_true,if_false,if_true] at hR
  refine aa 35 Tryz.func225 rfl rfl rfl (fun _ _=>rfl) ?_
  exact wkl trivial
theorem T_ {ch:Int} (h:gZ ch):(mX ch).size<=22:=by
 have:=ll h
 simp [mX,ByteArray.size]; omega
theorem YO (l:List aA) (h:bF l) (ch other:Int) (hc:gZ ch) (ho:gZ other) (t:iw) (hn:t.n < 18446744073709551616) (ht:t.d.size<=1048576):PureD Tryz.prog 220 [.i (.sl (l.map aZ)),intD ch,intD other,trD t] (.tup [.i (.sl ((vw l ch other t).1.map aZ)),intD (vw l ch other t).2]):=by
 refine au fun R hR=>?_
 have c1:=Fg ch hc
 have c2:=Fg other ho
 have c3:=YL t.d (mX other)
 have c4:=Jl ch hc
 have c5:=Ff l h (jq ch) t.r (Sr t.d (mX other)) t.n hn
 have c6:=Ku l h t.r (mX ch++t.d) t.n hn
 have hz:=T_ hc
 have s1:∀ P t' x y,fV P .add t' x y (some (.string (mX ch))) (some (.string t.d))=some (.i (.s (.string (mX ch++t.d)))):=fun P t' x y=>iQ (by omega)
 simp only [sD,wD,ek] at c5 c6
 unfold vw at hR
 generalize mZ l t.r (mX ch++t.d) t.n=A at *
 generalize kM l (jq ch) t.r (Sr t.d (mX other)) t.n=B at *
 generalize jq ch=S at *
 cases hp:qU t.d (mX other)
 all_goals
  simp only [hp,Bool.false_eq_true,if_false,if_true] at c3 hR
  clear hp h hz
  generalize Sr t.d (mX other)=C at *
  generalize mX ch++t.d=X at *
  generalize mX ch=M at *
  generalize mX other=M2 at *
  refine aa 45 Tryz.func220 rfl rfl rfl (fun _ _=>rfl) ?_
  exact wkl trivial
end Go.Proofs.YtfenipelcpmkpaaGreatDoor
