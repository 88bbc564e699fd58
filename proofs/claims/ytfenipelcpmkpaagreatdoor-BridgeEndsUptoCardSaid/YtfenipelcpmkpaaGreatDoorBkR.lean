/- bank.Safe, mark, Leave, Back, Come; landref10.Came: by value. -/
import Derived.Test.YtfenipelcpmkpaaGreatDoorGBk
import Derived.Test.YtfenipelcpmkpaaGreatDoorRDig
set_option linter.all false
set_option maxHeartbeats 8000000
set_option maxRecDepth 20000
namespace Go.Proofs.YtfenipelcpmkpaaGreatDoor
open Go Go.Abs Go.RowKit Go.Proofs.YtfenipelcpmkpaaGreatDoor.Ty
attribute [simp,go_sem] sD wD eB trD
@[go_sem] theorem abb {sl:Nat->D}:oO sl none=some none:=rfl
@[go_sem] theorem aba {sl:Nat->D} {y:Operand}:oO sl (some y)=(di (evA sl y)).map some:=rfl
theorem Fv (ch:Int) (h:gY ch):PureD Tryz.prog 260 [intD ch] (.i (.s (.string (nk ch)))):=by
 refine au fun R hR=>?_
 have c1:=qO ch h.1 h.2
 have hl:=lq h
 unfold nk at hR
 have s1:=fun P t x y=>@iK P t x y (Lib.itoa ch) [47] (by simp; omega)
 generalize Lib.itoa ch++[47]=M at *
 generalize Lib.itoa ch=L at *
 refine aa 6 Tryz.func260 rfl rfl rfl (fun _ _=>rfl) ?_
 exact wkl trivial
theorem Jy (ch:Int) (h:gY ch):PureD Tryz.prog 262 [intD ch] (.i (.s (.string (jl ch)))):=by
 refine au fun R hR=>?_
 have c1:=qO ch h.1 h.2
 have hl:=lq h
 unfold jl at hR
 have s1:=fun P t x y=>@iK P t x y [35] (Lib.itoa ch) (by simp; omega)
 generalize [35]++Lib.itoa ch=M at *
 generalize Lib.itoa ch=L at *
 refine aa 6 Tryz.func262 rfl rfl rfl (fun _ _=>rfl) ?_
 exact wkl trivial
theorem Ll (s p:ByteArray):PureD Tryz.prog 279 [.i (.s (.string s)),.i (.s (.string p))] (boolD (qY s p)):=by
 refine au fun R hR=>?_
 unfold qY at hR
 by_cases h:p.size<=s.size
 ·have h1:(p.size:Int)<=s.size:=by omega
  rw [decide_eq_true h,Bool.true_and] at hR
  refine aa 18 Tryz.func279 rfl rfl rfl (fun _ _=>rfl) ?_
  exact wkl trivial
 ·rw [decide_eq_false h,Bool.false_and] at hR
  refine aa 18 Tryz.func279 rfl rfl rfl (fun _ _=>rfl) ?_
  exact wkl trivial
theorem Lj (s p:ByteArray):PureD Tryz.prog 255 [.i (.s (.string s)),.i (.s (.string p))] (boolD (qY s p)):=by
 refine au fun R hR=>?_
 have c1:=Ll s p
 generalize qY s p=B at *
 refine aa 8 Tryz.func255 rfl rfl rfl (fun _ _=>rfl) ?_
 exact wkl trivial
theorem Vh (s p:ByteArray):PureD Tryz.prog 283 [.i (.s (.string s)),.i (.s (.string p))] (.tup [.i (.s (.string (if qY s p=true then Sy s p else s))),boolD (qY s p)]):=by
 refine au fun R hR=>?_
 have c1:=Ll s p
 cases h:qY s p
 ·simp only [h,Bool.false_eq_true,if_false] at hR
  rw [h] at c1
  refine aa 15 Tryz.func283 rfl rfl rfl (fun _ _=>rfl) ?_
  exact wkl trivial
 ·have h1:(p.size:Int)<=s.size:=by simp [qY] at h; omega
  simp only [h,if_true] at hR
  rw [h] at c1
  unfold Sy at hR
  refine aa 15 Tryz.func283 rfl rfl rfl (fun _ _=>rfl) ?_
  exact wkl trivial
theorem YN (s p:ByteArray):PureD Tryz.prog 263 [.i (.s (.string s)),.i (.s (.string p))] (.tup [.i (.s (.string (if qY s p=true then Sy s p else s))),boolD (qY s p)]):=by
 refine au fun R hR=>?_
 have c1:=Vh s p
 generalize (if qY s p=true then Sy s p else s)=C at *
 generalize qY s p=B at *
 refine aa 11 Tryz.func263 rfl rfl rfl (fun _ _=>rfl) ?_
 exact wkl trivial
theorem Uj (l:List aA) (h:bK l) (ch:Int) (hc:gY ch) (t:ik) (hn:t.n < 18446744073709551616):PureD Tryz.prog 219 [.i (.sl (l.map aZ)),intD ch,trD t] (.tup [.i (.sl ((ll l ch t).1.map aZ)),intD (ll l ch t).2]):=by
 refine au fun R hR=>?_
 have c1:=Fv ch hc
 have c2:=Lj t.d (nk ch)
 have c3:=Sz l h t.s t.d t.n hn
 have c4:=Jy ch hc
 have c5:=Fu l h t.s (jl ch) t.d t.n hn
 simp only [sD,wD,eB] at c3 c5
 unfold ll at hR
 generalize mK l t.s t.d t.n=A at *
 generalize kJ l t.s (jl ch) t.d t.n=B at *
 generalize jl ch=S at *
 cases hp:qY t.d (nk ch)
 all_goals
  rw [hp] at c2 hR
  clear hp h
  generalize nk ch=M at *
  simp only [Bool.false_eq_true,if_false,if_true] at hR
  refine aa 35 Tryz.func219 rfl rfl rfl (fun _ _=>rfl) ?_
  exact wkl trivial
theorem SF (l:List aA) (h:bK l) (ch:Int) (hc:gY ch) (t:ik) (hn:t.n < 18446744073709551616):PureD Tryz.prog 225 [.i (.sl (l.map aZ)),intD ch,trD t] (.tup [.i (.sl ((kM l ch t).1.map aZ)),intD (kM l ch t).2]):=by
 refine au fun R hR=>?_
 have c1:=Fv ch hc
 have c2:=Lj t.d (nk ch)
 have c3:=KM l h t.s t.d t.n hn
 have c4:=Jy ch hc
 have c5:=Fu l h (jl ch) t.s t.d t.n hn
 simp only [sD,wD,eB] at c3 c5
 unfold kM at hR
 generalize nu l t.s t.d t.n=A at *
 generalize kJ l (jl ch) t.s t.d t.n=B at *
 generalize jl ch=S at *
 cases hp:qY t.d (nk ch)
 all_goals
  rw [hp] at c2 hR
  clear hp h
  generalize nk ch=M at *
  simp only [Bool.false_eq_true,if_false,if_true] at hR
  refine aa 35 Tryz.func225 rfl rfl rfl (fun _ _=>rfl) ?_
  exact wkl trivial
theorem Ud {ch:Int} (h:gY ch):(nk ch).size<=22:=by
 have:=lq h
 simp [nk,ByteArray.size]; omega
theorem YQ (l:List aA) (h:bK l) (ch other:Int) (hc:gY ch) (ho:gY other) (t:ik) (hn:t.n < 18446744073709551616) (ht:t.d.size<=1048576):PureD Tryz.prog 220 [.i (.sl (l.map aZ)),intD ch,intD other,trD t] (.tup [.i (.sl ((vB l ch other t).1.map aZ)),intD (vB l ch other t).2]):=by
 refine au fun R hR=>?_
 have c1:=Fv ch hc
 have c2:=Fv other ho
 have c3:=YN t.d (nk other)
 have c4:=Jy ch hc
 have c5:=Fu l h (jl ch) t.r (Sy t.d (nk other)) t.n hn
 have c6:=KM l h t.r (nk ch++t.d) t.n hn
 have hz:=Ud hc
 have s1:∀ P t' x y,fZ P .add t' x y (some (.string (nk ch))) (some (.string t.d))=some (.i (.s (.string (nk ch++t.d)))):=fun P t' x y=>iL (by omega)
 simp only [sD,wD,eB] at c5 c6
 unfold vB at hR
 generalize nu l t.r (nk ch++t.d) t.n=A at *
 generalize kJ l (jl ch) t.r (Sy t.d (nk other)) t.n=B at *
 generalize jl ch=S at *
 cases hp:qY t.d (nk other)
 all_goals
  simp only [hp,Bool.false_eq_true,if_false,if_true] at c3 hR
  clear hp h hz
  generalize Sy t.d (nk other)=C at *
  generalize nk ch++t.d=X at *
  generalize nk ch=M at *
  generalize nk other=M2 at *
  refine aa 45 Tryz.func220 rfl rfl rfl (fun _ _=>rfl) ?_
  exact wkl trivial
end Go.Proofs.YtfenipelcpmkpaaGreatDoor
