/- landref10.Mint, Burn, Move, Safe, Leave, Back, Come: by value. -/
import Derived.Test.YtckjpabekmhnhaaDoorRBkB
import Derived.Test.YtckjpabekmhnhaaDoorLaw12B
set_option linter.all false
namespace Go.Proofs.YtckjpabekmhnhaaDoor
open Go Go.Abs Go.RowKit Go.Proofs.YtckjpabekmhnhaaDoor.Ty
set_option maxHeartbeats 16000000
set_option maxRecDepth 20000
theorem rmint_A (l:List PurseD) (h:RightP l) (o d:ByteArray) (n:Nat) (hn:n < 18446744073709551616) :
  PureD Tryd.prog 30 [.i (.sl (l.map encPu)),.i (.s (.string o)),.i (.s (.string d)),.i (.s (.int .u64 (n:Int)))] (.tup [.i (.sl ((mintP l o d n).1.map encPu)),intD (mintP l o d n).2]):=by
 refine hide_r fun R hR=>?_
 have hl:=h.len
 have c1:=rword_A o
 have c2:=rword_A d
 have c3:=rsup_A l d (by omega) (fun p hp=>(h.pos p hp).2)
 have c4:=ramt_A l o d (by omega)
 have c5:=rput_A l ⟨o,d,amtP l o d+n⟩ (by omega) h.srt
 have hle:=amt_le_sup h o d
 simp only [puD] at c5
 unfold mintP at hR
 generalize setP l o d (amtP l o d+n)=S at *
 generalize amtP l o d=a at *
 generalize supP l d=sp at *
 clear h
 cases w1:wordOk o
 ·simp only [w1,Bool.false_and,Bool.not_false,if_true] at hR
  rw [w1] at c1
  clear w1
  refine callD_W 57 Tryd.func30 rfl rfl rfl (fun _ _=>rfl) ?_
  exact wkl trivial
 rw [w1] at c1
 cases w2:wordOk d
 ·simp only [w1,w2,Bool.and_false,Bool.not_false,if_true] at hR
  rw [w2] at c2
  clear w1 w2
  refine callD_W 57 Tryd.func30 rfl rfl rfl (fun _ _=>rfl) ?_
  exact wkl trivial
 rw [w2] at c2
 simp only [w1,w2,Bool.and_self,Bool.not_true,Bool.false_eq_true,if_false] at hR
 clear w1 w2
 by_cases hz:n=0
 ·subst hz
  rw [if_pos rfl] at hR
  clear c3 c4 c5
  refine callD_W 57 Tryd.func30 rfl rfl rfl (fun _ _=>rfl) ?_
  exact wkl trivial
 rw [if_neg hz] at hR
 have hz':¬ (n:Int)=0:=by omega
 by_cases ov:18446744073709551616≤sp
 ·rw [if_pos ov,decide_eq_true ov] at c3
  rw [if_pos (by omega)] at hR
  clear c4 c5
  refine callD_W 57 Tryd.func30 rfl rfl rfl (fun _ _=>rfl) ?_
  exact wkl trivial
 rw [if_neg ov,decide_eq_false ov] at c3
 by_cases ov2:18446744073709551616≤sp+n
 ·rw [if_pos ov2] at hR
  have w1:IntKind.u64.wrap ((sp:Int)+(n:Int))=(sp:Int)+n - 18446744073709551616:=by rw [IntKind.wrap_u64]; omega
  clear c4 c5
  refine callD_W 57 Tryd.func30 rfl rfl rfl (fun _ _=>rfl) ?_
  exact wkl trivial
 rw [if_neg ov2] at hR
 have w1:IntKind.u64.wrap ((sp:Int)+(n:Int))=(sp:Int)+n:=by rw [IntKind.wrap_u64]; omega
 have w2:IntKind.u64.wrap ((a:Int)+(n:Int))=((a+n:Nat):Int):=by rw [IntKind.wrap_u64]; omega
 by_cases hm:a=0∧l.length=60
 ·rw [if_pos hm] at hR
  obtain ⟨m1,m2⟩:=hm
  have m3:(l.length:Int)=60:=by omega
  subst m1
  clear c5 m2
  refine callD_W 57 Tryd.func30 rfl rfl rfl (fun _ _=>rfl) ?_
  exact wkl trivial
 rw [if_neg hm] at hR
 by_cases ha:a=0
 ·have m3:¬ (60:Int)≤(l.length:Int):=by omega
  subst ha
  refine callD_W 57 Tryd.func30 rfl rfl rfl (fun _ _=>rfl) ?_
  exact wkl trivial
 ·have ha':¬ (a:Int)=0:=by omega
  clear hm
  refine callD_W 57 Tryd.func30 rfl rfl rfl (fun _ _=>rfl) ?_
  exact wkl trivial
theorem rburn_A (l:List PurseD) (h:RightP l) (o d:ByteArray) (n:Nat) (hn:n < 18446744073709551616) :
  PureD Tryd.prog 31 [.i (.sl (l.map encPu)),.i (.s (.string o)),.i (.s (.string d)),.i (.s (.int .u64 (n:Int)))] (.tup [.i (.sl ((burnP l o d n).1.map encPu)),intD (burnP l o d n).2]):=by
 refine hide_r fun R hR=>?_
 have hl:=h.len
 have c1:=rword_A o
 have c2:=rword_A d
 have c4:=ramt_A l o d (by omega)
 have c5:=rput_A l ⟨o,d,amtP l o d - n⟩ (by omega) h.srt
 have hal:=amtP_lt h o d
 simp only [puD] at c5
 unfold burnP at hR
 generalize setP l o d (amtP l o d - n)=S at *
 generalize amtP l o d=a at *
 clear h
 cases w1:wordOk o
 ·simp only [w1,Bool.false_and,Bool.not_false,if_true] at hR
  rw [w1] at c1
  clear w1
  refine callD_W 34 Tryd.func31 rfl rfl rfl (fun _ _=>rfl) ?_
  exact wkl trivial
 rw [w1] at c1
 cases w2:wordOk d
 ·simp only [w1,w2,Bool.and_false,Bool.not_false,if_true] at hR
  rw [w2] at c2
  clear w1 w2
  refine callD_W 34 Tryd.func31 rfl rfl rfl (fun _ _=>rfl) ?_
  exact wkl trivial
 rw [w2] at c2
 simp only [w1,w2,Bool.and_self,Bool.not_true,Bool.false_eq_true,if_false] at hR
 clear w1 w2
 by_cases hlt:a < n
 ·rw [if_pos hlt] at hR
  have hlt':(a:Int) < n:=by omega
  clear c5
  refine callD_W 34 Tryd.func31 rfl rfl rfl (fun _ _=>rfl) ?_
  exact wkl trivial
 ·rw [if_neg hlt] at hR
  have w1:IntKind.u64.wrap ((a:Int) - (n:Int))=((a - n:Nat):Int):=by rw [IntKind.wrap_u64]; omega
  have hlt':¬ (a:Int) < n:=by omega
  refine callD_W 34 Tryd.func31 rfl rfl rfl (fun _ _=>rfl) ?_
  exact wkl trivial
theorem rmove_A (l:List PurseD) (h:RightP l) (o t d:ByteArray) (n:Nat) (hn:n < 18446744073709551616) :
  PureD Tryd.prog 32 [.i (.sl (l.map encPu)),.i (.s (.string o)),.i (.s (.string t)),.i (.s (.string d)),.i (.s (.int .u64 (n:Int)))] (.tup [.i (.sl ((moveP l o t d n).1.map encPu)),intD (moveP l o t d n).2]):=by
 refine hide_r fun R hR=>?_
 have c1:=rburn_A l h o d n hn
 have c2:=rmint_A (burnP l o d n).1 (burn_right h o d n) t d n hn
 unfold moveP at hR
 generalize burnP l o d n=B at *
 obtain ⟨B1,B2⟩:=B
 simp only at *
 by_cases hb:B2=0
 ·subst hb
  rw [if_pos rfl] at hR
  simp only [Int.natCast_zero] at c1
  generalize mintP B1 t d n=M at *
  refine callD_W 32 Tryd.func32 rfl rfl rfl (fun _ _=>rfl) ?_
  exact wkl trivial
 ·rw [if_neg hb] at hR
  have hb':¬ (B2:Int)=0:=by omega
  clear c2
  refine callD_W 32 Tryd.func32 rfl rfl rfl (fun _ _=>rfl) ?_
  exact wkl trivial
theorem sf_bytes (ch:Int):(⟨#[35]⟩:ByteArray)++⟨(Lib.itoa ch).toArray⟩=safeOf ch:=by
 apply ByteArray.ext
 simp [safeOf,ByteArray.data_append]
theorem rsafe_A (ch:Int) (h0:0≤ch) (h1:ch≤9223372036854775807):PureD Tryd.prog 55 [intD ch] (.i (.s (.string (safeOf ch)))):=by
 refine hide_r fun R hR=>?_
 have c1:=digs_A ch h0 h1
 have hl:=ito_len (n:=ch) ⟨by omega,h1⟩
 have s1:∀ P t x y,binQ P .add t x y (some (.string ⟨#[35]⟩)) (some (.string ⟨(Lib.itoa ch).toArray⟩))=some (.i (.s (.string (safeOf ch)))):=fun P t x y=>by rw [bq_add_str (by simp [ByteArray.size]; omega),sf_bytes]
 clear hl
 generalize (⟨(Lib.itoa ch).toArray⟩:ByteArray)=X at *
 generalize safeOf ch=m at *
 refine callD_W 12 Tryd.func55 rfl rfl rfl (fun _ _=>rfl) ?_
 exact wkl trivial
theorem rleave_A (l:List PurseD) (h:RightP l) (ch:Int) (h0:0≤ch) (h1:ch≤9223372036854775807) (t:TranD) (hn:t.n < 18446744073709551616):PureD Tryd.prog 33 [.i (.sl (l.map encPu)),intD ch,trD t] (.tup [.i (.sl ((leaveP l ch t).1.map encPu)),intD (leaveP l ch t).2]):=by
 refine hide_r fun R hR=>?_
 have c1:=cameX_A t.d ch h0 h1
 have c3:=rburn_A l h t.s t.d t.n hn
 have c4:=rsafe_A ch h0 h1
 have c5:=rmove_A l h t.s (safeOf ch) t.d t.n hn
 unfold leaveP at hR
 generalize burnP l t.s t.d t.n=A at *
 generalize moveP l t.s (safeOf ch) t.d t.n=B at *
 generalize safeOf ch=S at *
 cases hp:hasP t.d (mkOf ch)
 all_goals
  simp only [hp,Bool.false_eq_true,if_false,if_true] at c1 hR
  clear hp h
  generalize cutP t.d (mkOf ch)=C at *
  refine callD_W 40 Tryd.func33 rfl rfl rfl (fun _ _=>rfl) ?_
  exact wkl trivial
theorem rback_A (l:List PurseD) (h:RightP l) (ch:Int) (h0:0≤ch) (h1:ch≤9223372036854775807) (t:TranD) (hn:t.n < 18446744073709551616):PureD Tryd.prog 34 [.i (.sl (l.map encPu)),intD ch,trD t] (.tup [.i (.sl ((backP l ch t).1.map encPu)),intD (backP l ch t).2]):=by
 refine hide_r fun R hR=>?_
 have c1:=cameX_A t.d ch h0 h1
 have c3:=rmint_A l h t.s t.d t.n hn
 have c4:=rsafe_A ch h0 h1
 have c5:=rmove_A l h (safeOf ch) t.s t.d t.n hn
 unfold backP at hR
 generalize mintP l t.s t.d t.n=A at *
 generalize moveP l (safeOf ch) t.s t.d t.n=B at *
 generalize safeOf ch=S at *
 cases hp:hasP t.d (mkOf ch)
 all_goals
  simp only [hp,Bool.false_eq_true,if_false,if_true] at c1 hR
  clear hp h
  generalize cutP t.d (mkOf ch)=C at *
  refine callD_W 40 Tryd.func34 rfl rfl rfl (fun _ _=>rfl) ?_
  exact wkl trivial
theorem rcome_A (l:List PurseD) (h:RightP l) (ch other:Int) (h0:0≤ch) (h1:ch≤9223372036854775807) (g0:0≤other) (g1:other≤9223372036854775807) (t:TranD) (hn:t.n < 18446744073709551616) (ht:t.d.size≤1048576) :
  PureD Tryd.prog 35 [.i (.sl (l.map encPu)),intD ch,intD other,trD t] (.tup [.i (.sl ((comeP l ch other t).1.map encPu)),intD (comeP l ch other t).2]):=by
 refine hide_r fun R hR=>?_
 have c1:=cameX_A t.d other g0 g1
 have c2:=digs_A ch h0 h1
 have c4:=rsafe_A ch h0 h1
 have c5:=rmove_A l h (safeOf ch) t.r (cutP t.d (mkOf other)) t.n hn
 have c6:=rmint_A l h t.r (mkOf ch++t.d) t.n hn
 have hz:=mk_size (ch:=ch) ⟨by omega,h1⟩
 have hil:=ito_len (n:=ch) ⟨by omega,h1⟩
 have s1:∀ P t' x y,binQ P .add t' x y (some (.string (mkOf ch))) (some (.string t.d))=some (.i (.s (.string (mkOf ch++t.d)))):=fun P t' x y=>bq_add_str (by omega)
 have s2:∀ P t x y,binQ P .add t x y (some (.string ⟨(Lib.itoa ch).toArray⟩)) (some (.string ⟨#[47]⟩))=some (.i (.s (.string (mkOf ch)))):=fun P t x y=>by rw [bq_add_str (by simp [ByteArray.size]; omega),mk_bytes]
 clear hz hil
 unfold comeP at hR
 generalize mintP l t.r (mkOf ch++t.d) t.n=A at *
 generalize moveP l (safeOf ch) t.r (cutP t.d (mkOf other)) t.n=B at *
 generalize safeOf ch=S at *
 generalize (⟨(Lib.itoa ch).toArray⟩:ByteArray)=Y at *
 cases hp:hasP t.d (mkOf other)
 all_goals
  simp only [hp,Bool.false_eq_true,if_false,if_true] at c1 hR
  clear hp h
  generalize cutP t.d (mkOf other)=C at *
  generalize mkOf ch++t.d=X at *
  generalize mkOf ch=M at *
  refine callD_W 45 Tryd.func35 rfl rfl rfl (fun _ _=>rfl) ?_
  exact wkl trivial
end Go.Proofs.YtckjpabekmhnhaaDoor
