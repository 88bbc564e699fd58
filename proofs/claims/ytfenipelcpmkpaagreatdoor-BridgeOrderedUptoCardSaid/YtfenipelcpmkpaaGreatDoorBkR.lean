/- bank.Safe, mark, Leave, Back, Come; landref10.Came: by value. -/
import Derived.Test.YtfenipelcpmkpaaGreatDoorGBk
import Derived.Test.YtfenipelcpmkpaaGreatDoorRDig
set_option linter.all false
set_option maxHeartbeats 8000000
set_option maxRecDepth 20000
namespace Go.Proofs.YtfenipelcpmkpaaGreatDoor
open Go Go.Abs Go.RowKit Go.Proofs.YtfenipelcpmkpaaGreatDoor.Ty
attribute [simp,go_sem] sD wD ek trD
@[go_sem] theorem aaY {sl:Nat->D}:oL sl none=some none:=rfl
@[go_sem] theorem aaX {sl:Nat->D} {y:Operand}:oL sl (some y)=(cZ (evA sl y)).map some:=rfl
theorem Fq (ch:Int) (h:gW ch):PureD Tryz.prog 260 [intD ch] (.i (.s (.string (ni ch)))):=by
 refine ak fun R hR=>?_
 have c1:=qL ch h.1 h.2
 have hl:=lh h
 unfold ni at hR
 have s1:=fun P t x y=>@iJ P t x y (Lib.itoa ch) [47] (by simp; omega)
 generalize Lib.itoa ch++[47]=M at *
 generalize Lib.itoa ch=L at *
 refine aa 6 Tryz.func260 rfl rfl rfl (fun _ _=>rfl) ?_
 exact wkl trivial
theorem Jn (ch:Int) (h:gW ch):PureD Tryz.prog 262 [intD ch] (.i (.s (.string (jh ch)))):=by
 refine ak fun R hR=>?_
 have c1:=qL ch h.1 h.2
 have hl:=lh h
 unfold jh at hR
 have s1:=fun P t x y=>@iJ P t x y [35] (Lib.itoa ch) (by simp; omega)
 generalize [35]++Lib.itoa ch=M at *
 generalize Lib.itoa ch=L at *
 refine aa 6 Tryz.func262 rfl rfl rfl (fun _ _=>rfl) ?_
 exact wkl trivial
theorem KY (s p:ByteArray):PureD Tryz.prog 279 [.i (.s (.string s)),.i (.s (.string p))] (boolD (qW s p)):=by
 refine ak fun R hR=>?_
 unfold qW at hR
 by_cases h:p.size<=s.size
 ·have h1:(p.size:Int)<=s.size:=by omega
  rw [decide_eq_true h,Bool.true_and] at hR
  refine aa 18 Tryz.func279 rfl rfl rfl (fun _ _=>rfl) ?_
  exact wkl trivial
 ·rw [decide_eq_false h,Bool.false_and] at hR
  refine aa 18 Tryz.func279 rfl rfl rfl (fun _ _=>rfl) ?_
  exact wkl trivial
theorem KX (s p:ByteArray):PureD Tryz.prog 255 [.i (.s (.string s)),.i (.s (.string p))] (boolD (qW s p)):=by
 refine ak fun R hR=>?_
 have c1:=KY s p
 generalize qW s p=B at *
 refine aa 8 Tryz.func255 rfl rfl rfl (fun _ _=>rfl) ?_
 exact wkl trivial
theorem Vf (s p:ByteArray):PureD Tryz.prog 283 [.i (.s (.string s)),.i (.s (.string p))] (.tup [.i (.s (.string (if qW s p=true then Sm s p else s))),boolD (qW s p)]):=by
 refine ak fun R hR=>?_
 have c1:=KY s p
 cases h:qW s p
 ·simp only [h,Bool.false_eq_true,if_false] at hR
  rw [h] at c1
  refine aa 15 Tryz.func283 rfl rfl rfl (fun _ _=>rfl) ?_
  exact wkl trivial
 ·have h1:(p.size:Int)<=s.size:=by simp [qW] at h; omega
  simp only [h,if_true] at hR
  rw [h] at c1
  unfold Sm at hR
  refine aa 15 Tryz.func283 rfl rfl rfl (fun _ _=>rfl) ?_
  exact wkl trivial
theorem YK (s p:ByteArray):PureD Tryz.prog 263 [.i (.s (.string s)),.i (.s (.string p))] (.tup [.i (.s (.string (if qW s p=true then Sm s p else s))),boolD (qW s p)]):=by
 refine ak fun R hR=>?_
 have c1:=Vf s p
 generalize (if qW s p=true then Sm s p else s)=C at *
 generalize qW s p=B at *
 refine aa 11 Tryz.func263 rfl rfl rfl (fun _ _=>rfl) ?_
 exact wkl trivial
theorem Uf (l:List az) (h:bJ l) (ch:Int) (hc:gW ch) (t:ig) (hn:t.n < 18446744073709551616):PureD Tryz.prog 219 [.i (.sl (l.map aX)),intD ch,trD t] (.tup [.i (.sl ((lc l ch t).1.map aX)),intD (lc l ch t).2]):=by
 refine ak fun R hR=>?_
 have c1:=Fq ch hc
 have c2:=KX t.d (ni ch)
 have c3:=Sn l h t.s t.d t.n hn
 have c4:=Jn ch hc
 have c5:=Fp l h t.s (jh ch) t.d t.n hn
 simp only [sD,wD,ek] at c3 c5
 unfold lc at hR
 generalize mF l t.s t.d t.n=A at *
 generalize kI l t.s (jh ch) t.d t.n=B at *
 generalize jh ch=S at *
 cases hp:qW t.d (ni ch)
 all_goals
  rw [hp] at c2 hR
  clear hp h
  generalize ni ch=M at *
  simp only [Bool.false_eq_true,if_false,if_true] at hR
  refine aa 35 Tryz.func219 rfl rfl rfl (fun _ _=>rfl) ?_
  exact wkl trivial
theorem Sw (l:List az) (h:bJ l) (ch:Int) (hc:gW ch) (t:ig) (hn:t.n < 18446744073709551616):PureD Tryz.prog 225 [.i (.sl (l.map aX)),intD ch,trD t] (.tup [.i (.sl ((kL l ch t).1.map aX)),intD (kL l ch t).2]):=by
 refine ak fun R hR=>?_
 have c1:=Fq ch hc
 have c2:=KX t.d (ni ch)
 have c3:=Kv l h t.s t.d t.n hn
 have c4:=Jn ch hc
 have c5:=Fp l h (jh ch) t.s t.d t.n hn
 simp only [sD,wD,ek] at c3 c5
 unfold kL at hR
 generalize nk l t.s t.d t.n=A at *
 generalize kI l (jh ch) t.s t.d t.n=B at *
 generalize jh ch=S at *
 cases hp:qW t.d (ni ch)
 all_goals
  rw [hp] at c2 hR
  clear hp h
  generalize ni ch=M at *
  simp only [Bool.false_eq_true,if_false,if_true] at hR
  refine aa 35 Tryz.func225 rfl rfl rfl (fun _ _=>rfl) ?_
  exact wkl trivial
theorem T_ {ch:Int} (h:gW ch):(ni ch).size<=22:=by
 have:=lh h
 simp [ni,ByteArray.size]; omega
theorem YN (l:List az) (h:bJ l) (ch other:Int) (hc:gW ch) (ho:gW other) (t:ig) (hn:t.n < 18446744073709551616) (ht:t.d.size<=1048576):PureD Tryz.prog 220 [.i (.sl (l.map aX)),intD ch,intD other,trD t] (.tup [.i (.sl ((vw l ch other t).1.map aX)),intD (vw l ch other t).2]):=by
 refine ak fun R hR=>?_
 have c1:=Fq ch hc
 have c2:=Fq other ho
 have c3:=YK t.d (ni other)
 have c4:=Jn ch hc
 have c5:=Fp l h (jh ch) t.r (Sm t.d (ni other)) t.n hn
 have c6:=Kv l h t.r (ni ch++t.d) t.n hn
 have hz:=T_ hc
 have s1:∀ P t' x y,fV P .add t' x y (some (.string (ni ch))) (some (.string t.d))=some (.i (.s (.string (ni ch++t.d)))):=fun P t' x y=>iK (by omega)
 simp only [sD,wD,ek] at c5 c6
 unfold vw at hR
 generalize nk l t.r (ni ch++t.d) t.n=A at *
 generalize kI l (jh ch) t.r (Sm t.d (ni other)) t.n=B at *
 generalize jh ch=S at *
 cases hp:qW t.d (ni other)
 all_goals
  simp only [hp,Bool.false_eq_true,if_false,if_true] at c3 hR
  clear hp h hz
  generalize Sm t.d (ni other)=C at *
  generalize ni ch++t.d=X at *
  generalize ni ch=M at *
  generalize ni other=M2 at *
  refine aa 45 Tryz.func220 rfl rfl rfl (fun _ _=>rfl) ?_
  exact wkl trivial
end Go.Proofs.YtfenipelcpmkpaaGreatDoor
