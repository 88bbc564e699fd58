/- bank.Safe, mark, Leave, Back, Come; landref10.Came: by value. -/
import Derived.Test.YtfenipelcpmkpaaGreatDoorGBk
import Derived.Test.YtfenipelcpmkpaaGreatDoorRDig
set_option linter.all false
set_option maxHeartbeats 8000000
set_option maxRecDepth 20000
namespace Go.Proofs.YtfenipelcpmkpaaGreatDoor
open Go Go.Abs Go.RowKit Go.Proofs.YtfenipelcpmkpaaGreatDoor.Ty
attribute [simp,go_sem] sD wD eO trD
@[go_sem] theorem acj {sl:Nat->D}:pK sl none=some none:=rfl
@[go_sem] theorem aci {sl:Nat->D} {y:Operand}:pK sl (some y)=(dB (evA sl y)).map some:=rfl
theorem F_ (ch:Int) (h:iG ch):PureD Tryz.prog 260 [intD ch] (.i (.s (.string (nN ch)))):=by
 refine ak fun R hR=>?_
 have c1:=rH ch h.1 h.2
 have hl:=jl h
 unfold nN at hR
 have s1:=fun P t x y=>@iY P t x y (Lib.itoa ch) [47] (by simp; omega)
 generalize Lib.itoa ch++[47]=M at *
 generalize Lib.itoa ch=L at *
 refine aa 6 Tryz.func260 rfl rfl rfl (fun _ _=>rfl) ?_
 exact wkl trivial
theorem Ka (ch:Int) (h:iG ch):PureD Tryz.prog 262 [intD ch] (.i (.s (.string (jF ch)))):=by
 refine ak fun R hR=>?_
 have c1:=rH ch h.1 h.2
 have hl:=jl h
 unfold jF at hR
 have s1:=fun P t x y=>@iY P t x y [35] (Lib.itoa ch) (by simp; omega)
 generalize [35]++Lib.itoa ch=M at *
 generalize Lib.itoa ch=L at *
 refine aa 6 Tryz.func262 rfl rfl rfl (fun _ _=>rfl) ?_
 exact wkl trivial
theorem Mf (s p:ByteArray):PureD Tryz.prog 279 [.i (.s (.string s)),.i (.s (.string p))] (boolD (rY s p)):=by
 refine ak fun R hR=>?_
 unfold rY at hR
 by_cases h:p.size<=s.size
 ·have h1:(p.size:Int)<=s.size:=by omega
  rw [decide_eq_true h,Bool.true_and] at hR
  refine aa 18 Tryz.func279 rfl rfl rfl (fun _ _=>rfl) ?_
  exact wkl trivial
 ·rw [decide_eq_false h,Bool.false_and] at hR
  refine aa 18 Tryz.func279 rfl rfl rfl (fun _ _=>rfl) ?_
  exact wkl trivial
theorem Me (s p:ByteArray):PureD Tryz.prog 255 [.i (.s (.string s)),.i (.s (.string p))] (boolD (rY s p)):=by
 refine ak fun R hR=>?_
 have c1:=Mf s p
 generalize rY s p=B at *
 refine aa 8 Tryz.func255 rfl rfl rfl (fun _ _=>rfl) ?_
 exact wkl trivial
theorem Wm (s p:ByteArray):PureD Tryz.prog 283 [.i (.s (.string s)),.i (.s (.string p))] (.tup [.i (.s (.string (if rY s p=true then TH s p else s))),boolD (rY s p)]):=by
 refine ak fun R hR=>?_
 have c1:=Mf s p
 cases h:rY s p
 ·simp only [h,Bool.false_eq_true,if_false] at hR
  rw [h] at c1
  refine aa 15 Tryz.func283 rfl rfl rfl (fun _ _=>rfl) ?_
  exact wkl trivial
 ·have h1:(p.size:Int)<=s.size:=by simp [rY] at h; omega
  simp only [h,if_true] at hR
  rw [h] at c1
  unfold TH at hR
  refine aa 15 Tryz.func283 rfl rfl rfl (fun _ _=>rfl) ?_
  exact wkl trivial
theorem ZQ (s p:ByteArray):PureD Tryz.prog 263 [.i (.s (.string s)),.i (.s (.string p))] (.tup [.i (.s (.string (if rY s p=true then TH s p else s))),boolD (rY s p)]):=by
 refine ak fun R hR=>?_
 have c1:=Wm s p
 generalize (if rY s p=true then TH s p else s)=C at *
 generalize rY s p=B at *
 refine aa 11 Tryz.func263 rfl rfl rfl (fun _ _=>rfl) ?_
 exact wkl trivial
theorem Vk (l:List PurseD) (h:bH l) (ch:Int) (hc:iG ch) (t:iF) (hn:t.n < 18446744073709551616):PureD Tryz.prog 219 [.i (.sl (l.map a_)),intD ch,trD t] (.tup [.i (.sl ((lN l ch t).1.map a_)),intD (lN l ch t).2]):=by
 refine ak fun R hR=>?_
 have c1:=F_ ch hc
 have c2:=Me t.d (nN ch)
 have c3:=TK l h t.s t.d t.n hn
 have c4:=Ka ch hc
 have c5:=FZ l h t.s (jF ch) t.d t.n hn
 simp only [sD,wD,eO] at c3 c5
 unfold lN at hR
 generalize nu l t.s t.d t.n=A at *
 generalize kZ l t.s (jF ch) t.d t.n=B at *
 generalize jF ch=S at *
 cases hp:rY t.d (nN ch)
 all_goals
  rw [hp] at c2 hR
  clear hp h
  generalize nN ch=M at *
  simp only [Bool.false_eq_true,if_false,if_true] at hR
  refine aa 35 Tryz.func219 rfl rfl rfl (fun _ _=>rfl) ?_
  exact wkl trivial
theorem TN (l:List PurseD) (h:bH l) (ch:Int) (hc:iG ch) (t:iF) (hn:t.n < 18446744073709551616):PureD Tryz.prog 225 [.i (.sl (l.map a_)),intD ch,trD t] (.tup [.i (.sl ((mi l ch t).1.map a_)),intD (mi l ch t).2]):=by
 refine ak fun R hR=>?_
 have c1:=F_ ch hc
 have c2:=Me t.d (nN ch)
 have c3:=Lu l h t.s t.d t.n hn
 have c4:=Ka ch hc
 have c5:=FZ l h (jF ch) t.s t.d t.n hn
 simp only [sD,wD,eO] at c3 c5
 unfold mi at hR
 generalize nO l t.s t.d t.n=A at *
 generalize kZ l (jF ch) t.s t.d t.n=B at *
 generalize jF ch=S at *
 cases hp:rY t.d (nN ch)
 all_goals
  rw [hp] at c2 hR
  clear hp h
  generalize nN ch=M at *
  simp only [Bool.false_eq_true,if_false,if_true] at hR
  refine aa 35 Tryz.func225 rfl rfl rfl (fun _ _=>rfl) ?_
  exact wkl trivial
theorem Ve {ch:Int} (h:iG ch):(nN ch).size<=22:=by
 have:=jl h
 simp [nN,ByteArray.size]; omega
theorem ZU (l:List PurseD) (h:bH l) (ch other:Int) (hc:iG ch) (ho:iG other) (t:iF) (hn:t.n < 18446744073709551616) (ht:t.d.size<=1048576):PureD Tryz.prog 220 [.i (.sl (l.map a_)),intD ch,intD other,trD t] (.tup [.i (.sl ((vZ l ch other t).1.map a_)),intD (vZ l ch other t).2]):=by
 refine ak fun R hR=>?_
 have c1:=F_ ch hc
 have c2:=F_ other ho
 have c3:=ZQ t.d (nN other)
 have c4:=Ka ch hc
 have c5:=FZ l h (jF ch) t.r (TH t.d (nN other)) t.n hn
 have c6:=Lu l h t.r (nN ch++t.d) t.n hn
 have hz:=Ve hc
 have s1:∀ P t' x y,gz P .add t' x y (some (.string (nN ch))) (some (.string t.d))=some (.i (.s (.string (nN ch++t.d)))):=fun P t' x y=>jb (by omega)
 simp only [sD,wD,eO] at c5 c6
 unfold vZ at hR
 generalize nO l t.r (nN ch++t.d) t.n=A at *
 generalize kZ l (jF ch) t.r (TH t.d (nN other)) t.n=B at *
 generalize jF ch=S at *
 cases hp:rY t.d (nN other)
 all_goals
  simp only [hp,Bool.false_eq_true,if_false,if_true] at c3 hR
  clear hp h hz
  generalize TH t.d (nN other)=C at *
  generalize nN ch++t.d=X at *
  generalize nN ch=M at *
  generalize nN other=M2 at *
  refine aa 45 Tryz.func220 rfl rfl rfl (fun _ _=>rfl) ?_
  exact wkl trivial
end Go.Proofs.YtfenipelcpmkpaaGreatDoor
