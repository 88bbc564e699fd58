/- bank.Safe, mark, Leave, Back, Come; landref10.Came: by value. -/
import Derived.Test.YtkbbipgjmoanhaaGreatDoorGBk
import Derived.Test.YtkbbipgjmoanhaaGreatDoorRDig
set_option linter.all false
set_option maxHeartbeats 8000000
set_option maxRecDepth 20000
namespace Go.Proofs.YtkbbipgjmoanhaaGreatDoor
open Go Go.Abs Go.RowKit Go.Proofs.YtkbbipgjmoanhaaGreatDoor.Ty
attribute [simp,go_sem] sD wD jB trD
@[go_sem] theorem Zx {sl:Nat->D}:om sl none=some none:=rfl
@[go_sem] theorem Zw {sl:Nat->D} {y:Operand}:om sl (some y)=(bY (evA sl y)).map some:=rfl
theorem ED (ch:Int) (h:gK ch):PureD Tryz.prog 194 [intD ch] (.i (.s (.string (ji ch)))):=by
 refine aj fun R hR=>?_
 have c1:=ql ch h.1 h.2
 have hl:=kS h
 unfold ji at hR
 have s1:=fun P t x y=>@iC P t x y (Lib.itoa ch) [47] (by simp; omega)
 generalize Lib.itoa ch++[47]=M at *
 generalize Lib.itoa ch=L at *
 refine aa 6 Tryz.func194 rfl rfl rfl (fun _ _=>rfl) ?_
 exact wkl trivial
theorem Iu (ch:Int) (h:gK ch):PureD Tryz.prog 196 [intD ch] (.i (.s (.string (ja ch)))):=by
 refine aj fun R hR=>?_
 have c1:=ql ch h.1 h.2
 have hl:=kS h
 unfold ja at hR
 have s1:=fun P t x y=>@iC P t x y [35] (Lib.itoa ch) (by simp; omega)
 generalize [35]++Lib.itoa ch=M at *
 generalize Lib.itoa ch=L at *
 refine aa 6 Tryz.func196 rfl rfl rfl (fun _ _=>rfl) ?_
 exact wkl trivial
theorem Kc (s p:ByteArray):PureD Tryz.prog 227 [.i (.s (.string s)),.i (.s (.string p))] (boolD (oZ s p)):=by
 refine aj fun R hR=>?_
 unfold oZ at hR
 by_cases h:p.size<=s.size
 ·have h1:(p.size:Int)<=s.size:=by omega
  rw [decide_eq_true h,Bool.true_and] at hR
  refine aa 18 Tryz.func227 rfl rfl rfl (fun _ _=>rfl) ?_
  exact wkl trivial
 ·rw [decide_eq_false h,Bool.false_and] at hR
  refine aa 18 Tryz.func227 rfl rfl rfl (fun _ _=>rfl) ?_
  exact wkl trivial
theorem Kb (s p:ByteArray):PureD Tryz.prog 189 [.i (.s (.string s)),.i (.s (.string p))] (boolD (oZ s p)):=by
 refine aj fun R hR=>?_
 have c1:=Kc s p
 generalize oZ s p=B at *
 refine aa 8 Tryz.func189 rfl rfl rfl (fun _ _=>rfl) ?_
 exact wkl trivial
theorem T_ (s p:ByteArray):PureD Tryz.prog 233 [.i (.s (.string s)),.i (.s (.string p))] (.tup [.i (.s (.string (if oZ s p=true then QY s p else s))),boolD (oZ s p)]):=by
 refine aj fun R hR=>?_
 have c1:=Kc s p
 cases h:oZ s p
 ·simp only [h,Bool.false_eq_true,if_false] at hR
  rw [h] at c1
  refine aa 15 Tryz.func233 rfl rfl rfl (fun _ _=>rfl) ?_
  exact wkl trivial
 ·have h1:(p.size:Int)<=s.size:=by simp [oZ] at h; omega
  simp only [h,if_true] at hR
  rw [h] at c1
  unfold QY at hR
  refine aa 15 Tryz.func233 rfl rfl rfl (fun _ _=>rfl) ?_
  exact wkl trivial
theorem Xy (s p:ByteArray):PureD Tryz.prog 197 [.i (.s (.string s)),.i (.s (.string p))] (.tup [.i (.s (.string (if oZ s p=true then QY s p else s))),boolD (oZ s p)]):=by
 refine aj fun R hR=>?_
 have c1:=T_ s p
 generalize (if oZ s p=true then QY s p else s)=C at *
 generalize oZ s p=B at *
 refine aa 11 Tryz.func197 rfl rfl rfl (fun _ _=>rfl) ?_
 exact wkl trivial
theorem SS (l:List az) (h:bB l) (ch:Int) (hc:gK ch) (t:gV) (hn:t.n < 18446744073709551616):PureD Tryz.prog 133 [.i (.sl (l.map aV)),intD ch,trD t] (.tup [.i (.sl ((kR l ch t).1.map aV)),intD (kR l ch t).2]):=by
 refine aj fun R hR=>?_
 have c1:=ED ch hc
 have c2:=Kb t.d (ji ch)
 have c3:=QZ l h t.s t.d t.n hn
 have c4:=Iu ch hc
 have c5:=EC l h t.s (ja ch) t.d t.n hn
 simp only [sD,wD,jB] at c3 c5
 unfold kR at hR
 generalize mf l t.s t.d t.n=A at *
 generalize kv l t.s (ja ch) t.d t.n=B at *
 generalize ja ch=S at *
 cases hp:oZ t.d (ji ch)
 all_goals
  rw [hp] at c2 hR
  clear hp h
  generalize ji ch=M at *
  simp only [Bool.false_eq_true,if_false,if_true] at hR
  refine aa 35 Tryz.func133 rfl rfl rfl (fun _ _=>rfl) ?_
  exact wkl trivial
theorem Re (l:List az) (h:bB l) (ch:Int) (hc:gK ch) (t:gV) (hn:t.n < 18446744073709551616):PureD Tryz.prog 139 [.i (.sl (l.map aV)),intD ch,trD t] (.tup [.i (.sl ((lu l ch t).1.map aV)),intD (lu l ch t).2]):=by
 refine aj fun R hR=>?_
 have c1:=ED ch hc
 have c2:=Kb t.d (ji ch)
 have c3:=JF l h t.s t.d t.n hn
 have c4:=Iu ch hc
 have c5:=EC l h (ja ch) t.s t.d t.n hn
 simp only [sD,wD,jB] at c3 c5
 unfold lu at hR
 generalize mO l t.s t.d t.n=A at *
 generalize kv l (ja ch) t.s t.d t.n=B at *
 generalize ja ch=S at *
 cases hp:oZ t.d (ji ch)
 all_goals
  rw [hp] at c2 hR
  clear hp h
  generalize ji ch=M at *
  simp only [Bool.false_eq_true,if_false,if_true] at hR
  refine aa 35 Tryz.func139 rfl rfl rfl (fun _ _=>rfl) ?_
  exact wkl trivial
theorem SH {ch:Int} (h:gK ch):(ji ch).size<=22:=by
 have:=kS h
 simp [ji,ByteArray.size]; omega
theorem XB (l:List az) (h:bB l) (ch other:Int) (hc:gK ch) (ho:gK other) (t:gV) (hn:t.n < 18446744073709551616) (ht:t.d.size<=1048576):PureD Tryz.prog 134 [.i (.sl (l.map aV)),intD ch,intD other,trD t] (.tup [.i (.sl ((uI l ch other t).1.map aV)),intD (uI l ch other t).2]):=by
 refine aj fun R hR=>?_
 have c1:=ED ch hc
 have c2:=ED other ho
 have c3:=Xy t.d (ji other)
 have c4:=Iu ch hc
 have c5:=EC l h (ja ch) t.r (QY t.d (ji other)) t.n hn
 have c6:=JF l h t.r (ji ch++t.d) t.n hn
 have hz:=SH hc
 have s1:∀ P t' x y,fK P .add t' x y (some (.string (ji ch))) (some (.string t.d))=some (.i (.s (.string (ji ch++t.d)))):=fun P t' x y=>iD (by omega)
 simp only [sD,wD,jB] at c5 c6
 unfold uI at hR
 generalize mO l t.r (ji ch++t.d) t.n=A at *
 generalize kv l (ja ch) t.r (QY t.d (ji other)) t.n=B at *
 generalize ja ch=S at *
 cases hp:oZ t.d (ji other)
 all_goals
  simp only [hp,Bool.false_eq_true,if_false,if_true] at c3 hR
  clear hp h hz
  generalize QY t.d (ji other)=C at *
  generalize ji ch++t.d=X at *
  generalize ji ch=M at *
  generalize ji other=M2 at *
  refine aa 45 Tryz.func134 rfl rfl rfl (fun _ _=>rfl) ?_
  exact wkl trivial
end Go.Proofs.YtkbbipgjmoanhaaGreatDoor
