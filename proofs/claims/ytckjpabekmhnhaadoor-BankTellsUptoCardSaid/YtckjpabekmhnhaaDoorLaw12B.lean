/- landref10.Came; the law BankBack: the walk. -/
import Derived.Test.YtckjpabekmhnhaaDoorBkR
import Derived.Test.YtckjpabekmhnhaaDoorRight
import Derived.Test.YtckjpabekmhnhaaDoorDecPu
set_option linter.all false
namespace Go.Proofs.YtckjpabekmhnhaaDoor
open Go Go.Abs Go.RowKit Go.Proofs.YtckjpabekmhnhaaDoor.Ty
set_option maxHeartbeats 16000000
set_option maxRecDepth 20000
theorem digs_A (ch:Int) (h0:0≤ch) (h1:ch≤9223372036854775807):PureD Tryd.prog 13 [intD ch] (.i (.s (.string ⟨(Lib.itoa ch).toArray⟩))):=by
 obtain ⟨n,rfl⟩:∃ n:Nat,ch=n:=⟨ch.toNat,by omega⟩
 rw [itoa_dec]
 have h10:(10:Nat) ^ 19=10000000000000000000:=by decide
 exact rdig_A 19 n (by rw [h10]; omega) (by omega)
theorem mk_bytes (ch:Int):(⟨(Lib.itoa ch).toArray⟩:ByteArray)++⟨#[47]⟩=mkOf ch:=by
 apply ByteArray.ext
 simp [mkOf,ByteArray.data_append]
theorem cameX_A (d:ByteArray) (ch:Int) (h0:0≤ch) (h1:ch≤9223372036854775807):PureD Tryd.prog 12 [.i (.s (.string d)),intD ch] (.tup [.i (.s (.string (if hasP d (mkOf ch)=true then cutP d (mkOf ch) else ⟨#[]⟩))),boolD (hasP d (mkOf ch))]):=by
 refine hide_r fun R hR=>?_
 have c1:=digs_A ch h0 h1
 have hl:=ito_len (n:=ch) ⟨by omega,h1⟩
 have s1:∀ P t x y,binQ P .add t x y (some (.string ⟨(Lib.itoa ch).toArray⟩)) (some (.string ⟨#[47]⟩))=some (.i (.s (.string (mkOf ch)))):=fun P t x y=>by rw [bq_add_str (by simp [ByteArray.size]; omega),mk_bytes]
 clear hl
 generalize (⟨(Lib.itoa ch).toArray⟩:ByteArray)=X at *
 generalize mkOf ch=m at *
 by_cases h:m.size≤d.size
 ·have h2:(m.size:Int)≤d.size:=by omega
  have e:hasP d m=(d.extract 0 m.size == m):=by simp [hasP,h]
  cases hx:(d.extract 0 m.size == m)
  ·rw [e,hx] at hR
   simp only [Bool.false_eq_true,if_false] at hR
   clear e
   refine callD_W 27 Tryd.func12 rfl rfl rfl (fun _ _=>rfl) ?_
   exact wkl trivial
  ·rw [e,hx] at hR
   simp only [if_true] at hR
   unfold cutP at hR
   clear e
   refine callD_W 27 Tryd.func12 rfl rfl rfl (fun _ _=>rfl) ?_
   exact wkl trivial
 ·have e:hasP d m=false:=by simp [hasP,h]
  rw [e] at hR
  simp only [Bool.false_eq_true,if_false] at hR
  clear e
  refine callD_W 27 Tryd.func12 rfl rfl rfl (fun _ _=>rfl) ?_
  exact wkl trivial
theorem nil_rightP:RightP []:=⟨by simp,by simp,by simp,by simp,List.Pairwise.nil⟩
theorem leave_right {l:List PurseD} (h:RightP l) (ch:Int) (t:TranD):RightP (leaveP l ch t).1:=by
 unfold leaveP; split
 ·exact burn_right h _ _ _
 ·exact move_right h _ _ _ _
theorem come_right {l:List PurseD} (h:RightP l) (ch other:Int) (t:TranD):RightP (comeP l ch other t).1:=by
 unfold comeP; split
 ·exact move_right h _ _ _ _
 ·exact mint_right h _ _ _
theorem walk_BankBack (y0:I) (l:List PurseD) (e0:y0=pusI l∧∀ p∈l,p.n < 18446744073709551616) (y1:I) (ch:Int) (e1:y1=.s (.int .i64 ch)∧(Lit.int .i64 ch).wf=true) (y2:I) (other:Int) (e2:y2=.s (.int .i64 other)∧(Lit.int .i64 other).wf=true)
  (y3:List I) (t:TranD) (e3:y3=encTr t∧t.n < 18446744073709551616) (hb:bkI y0+bkI y1+bkI y2+bkL y3≤1048576) :
  ∃ Ds,PureD Tryd.prog 3 Ds (.i (.s (.bool true)))∧Ds=[.i y0,.i y1,.i y2,.agg (y3.map .i)]:=by
 obtain ⟨rfl,hn64⟩:=e0
 obtain ⟨rfl,hw1⟩:=e1
 obtain ⟨rfl,hw2⟩:=e2
 obtain ⟨rfl,hn⟩:=e3
 refine ⟨_,?_,rfl⟩
 rw [tr_agg]
 have hll:l.length≤1048576:=by have:=bk_len encPu l; simp only [pusI] at hb; omega
 have htd:t.d.size≤1048576:=by simp only [encTr,bkL,bkI] at hb; omega
 have hmin:IntKind.i64.min=-9223372036854775808:=by decide
 have hmax:IntKind.i64.max=9223372036854775807:=by decide
 have hc:Num6 ch:=by simp [Lit.wf,hmin,hmax] at hw1; unfold Num6; omega
 have ho:Num6 other:=by simp [Lit.wf,hmin,hmax] at hw2; unfold Num6; omega
 clear hb hw1 hw2
 refine hide_r fun R hR=>?_
 have c1:=alive_A
 have c2:=supply_A l t.d hll hn64
 have c3:=right_A l
 simp only [pusI,sD,wD,boolV] at c1 c2 c3
 by_cases hr:rightB l=true
 rotate_left
 ·have hr:rightB l=false:=by simpa using hr
  rw [hr] at c3
  generalize (if 18446744073709551616≤supP l t.d then 0 else supP l t.d)=q1 at *
  generalize decide (18446744073709551616≤supP l t.d)=q2 at *
  clear hr hn64
  refine callD_W 138 Tryd.func3 rfl rfl rfl (fun _ _=>rfl) ?_
  exact wkl trivial
 rw [hr] at c3
 have hrp:=(rightB_iff hn64).1 hr
 clear hr hn64
 by_cases hov:18446744073709551616≤supP l t.d
 ·rw [if_pos hov,decide_eq_true hov] at c2
  clear hrp hov
  by_cases hz:t.n=0
  ·have hz':(t.n:Int)=0:=by omega
   refine callD_W 138 Tryd.func3 rfl rfl rfl (fun _ _=>rfl) ?_
   exact wkl trivial
  ·have hz':¬ (t.n:Int)=0:=by omega
   refine callD_W 138 Tryd.func3 rfl rfl rfl (fun _ _=>rfl) ?_
   exact wkl trivial
 rw [if_neg hov,decide_eq_false hov] at c2
 by_cases hg:ch < 0∨other < 0∨t.n=0
 ·generalize supP l t.d=q1 at *
  clear hrp hov
  refine callD_W 138 Tryd.func3 rfl rfl rfl (fun _ _=>rfl) ?_
  exact wkl trivial
 have hch:0≤ch:=by omega
 have hot:0≤other:=by omega
 have htn:t.n≠0:=by omega
 have htz:¬ (t.n:Int)=0:=by omega
 clear hg
 have hl1:=leave_right hrp ch t
 have hc1:=come_right hrp ch other t
 have hlb:=fun he=>leave_back hrp (ch:=ch) (t:=t) htn (by omega) he
 have hcl:=fun he hno=>come_leave hrp (ch:=ch) (other:=other) (t:=t) htn he hno
 have c4:=leave_A l hrp ch hc t hn
 have c5:=back_A (leaveP l ch t).1 hl1 ch hc t hn
 have c6:=sameP_A l (backP (leaveP l ch t).1 ch t).1 hll
 have c7:=come_A l hrp ch other hc ho t hn htd
 have r8:=cameX_A t.d other hot ho.2
 have r9:=cameX_A (cutP t.d (mkOf other)) ch hch hc.2
 have r1:=digs_A ch hch hc.2
 have hz:=mk_size hc
 have hil:=ito_len hc
 have s1:∀ P t' x y,binQ P .add t' x y (some (.string (mkOf ch))) (some (.string t.d))=some (.i (.s (.string (mkOf ch++t.d)))):=fun P t' x y=>bq_add_str (by omega)
 have s2:∀ P t x y,binQ P .add t x y (some (.string ⟨(Lib.itoa ch).toArray⟩)) (some (.string ⟨#[47]⟩))=some (.i (.s (.string (mkOf ch)))):=fun P t x y=>by rw [bq_add_str (by simp [ByteArray.size]; omega),mk_bytes]
 have r2:=leave_A (comeP l ch other t).1 hc1 ch hc (homeT ch other t) (by unfold homeT; split <;> exact hn)
 have r3:=sameP_A l (leaveP (comeP l ch other t).1 ch (homeT ch other t)).1 hll
 have hself:samePs l l=true:=samePs_iff.2 rfl
 simp only [pusI,sD,wD,boolV] at c6 r3
 have key1:(¬ (leaveP l ch t).2=0)∨((leaveP l ch t).2=0∧backP (leaveP l ch t).1 ch t=(l,0))∨((leaveP l ch t).2=0∧(backP (leaveP l ch t).1 ch t).2=5∧(leaveP l ch t).1.length=60):=by
  by_cases h:(leaveP l ch t).2=0
  ·rcases hlb h with h1 | h1
   ·exact .inr (.inl ⟨h,h1⟩)
   ·exact .inr (.inr ⟨h,h1⟩)
  ·exact .inl h
 clear hlb hl1 hc1 hz hil
 generalize hA:leaveP l ch t=A at *
 generalize hB:backP A.1 ch t=B at *
 generalize hC:comeP l ch other t=C at *
 generalize hE:leaveP C.1 ch (homeT ch other t)=E at *
 clear hA hB hC hE
 unfold homeT at r2
 generalize supP l t.d=q1 at *
 generalize mkOf ch++t.d=X at *
 generalize (⟨(Lib.itoa ch).toArray⟩:ByteArray)=Y at *
 clear hov
 have n5:((5:Nat):Int)=5:=rfl
 rcases key1 with h1 | ⟨h1,h2⟩ | ⟨h1,h2,h3⟩
 ·obtain ⟨A1,A2⟩:=A
  simp only at *
  have h4:¬ (A2:Int)=0:=by omega
  clear h1
  by_cases e2:C.2=0
  rotate_left
  ·obtain ⟨C1,C2⟩:=C
   simp only at *
   have e3:¬ (C2:Int)=0:=by omega
   clear r1 r2 r3 hcl r8 r9 s1 s2 e2
   refine callD_W 138 Tryd.func3 rfl rfl rfl (fun _ _=>rfl) ?_
   exact wkl trivial
  have hcl:=hcl e2
  obtain ⟨C1,C2⟩:=C
  simp only at *
  subst e2
  simp only [Int.natCast_zero] at c7
  refine callD_W 138 Tryd.func3 rfl rfl rfl (fun _ _=>rfl) ?_
  refine wkl ?_
  clear hR c1 c2 c3 c4 c5 c6 c7; intro hR
  intros
  cases hp:hasP t.d (mkOf other)
  ·simp only [hp,Bool.false_eq_true,if_false,false_implies,true_implies] at r8 r2 hcl
   rcases hcl with hE | hE
   ·subst hE
    simp only [hself] at r3
    simp only [Int.natCast_zero] at r2
    have c1:=r8
    have c2:=r1
    have c3:=r2
    have c4:=r3
    clear r8 r9 r1 r2 r3 hp
    generalize mkOf ch=m1 at *
    generalize mkOf other=m2 at *
    exact wkl trivial
   ·obtain ⟨E1,E2⟩:=E
    simp only at hE r2 r3
    subst hE
    simp only [n5] at r2
    have c1:=r8
    have c2:=r1
    have c3:=r2
    clear r8 r9 r1 r2 r3 hp
    generalize mkOf ch=m1 at *
    generalize mkOf other=m2 at *
    exact wkl trivial
  ·simp only [hp,if_true,true_implies] at r8 r2 hcl
   cases hq:hasP (cutP t.d (mkOf other)) (mkOf ch)
   ·simp only [hq,Bool.false_eq_true,if_false,not_false_eq_true,true_implies] at r9 hcl
    rcases hcl with hE | hE
    ·subst hE
     simp only [hself] at r3
     simp only [Int.natCast_zero] at r2
     have c1:=r8
     have c2:=r9
     have c3:=r2
     have c4:=r3
     clear r8 r9 r1 r2 r3 hp hq
     generalize cutP t.d (mkOf other)=cu at *
     generalize mkOf ch=m1 at *
     generalize mkOf other=m2 at *
     exact wkl trivial
    ·obtain ⟨E1,E2⟩:=E
     simp only at hE r2 r3
     subst hE
     simp only [n5] at r2
     have c1:=r8
     have c2:=r9
     have c3:=r2
     clear r8 r9 r1 r2 r3 hp hq
     generalize cutP t.d (mkOf other)=cu at *
     generalize mkOf ch=m1 at *
     generalize mkOf other=m2 at *
     exact wkl trivial
   ·simp only [hq,if_true] at r9
    have c1:=r8
    have c2:=r9
    clear r8 r9 r1 r2 r3 hp hq hcl
    generalize cutP (cutP t.d (mkOf other)) (mkOf ch)=cv' at *
    generalize cutP t.d (mkOf other)=cu at *
    generalize mkOf ch=m1 at *
    generalize mkOf other=m2 at *
    exact wkl trivial
 ·obtain ⟨A1,A2⟩:=A
  subst h2
  simp only at *
  subst h1
  simp only [Int.natCast_zero] at c4 c5
  simp only [hself] at c6
  by_cases e2:C.2=0
  rotate_left
  ·obtain ⟨C1,C2⟩:=C
   simp only at *
   have e3:¬ (C2:Int)=0:=by omega
   clear r1 r2 r3 hcl r8 r9 s1 s2 e2
   refine callD_W 138 Tryd.func3 rfl rfl rfl (fun _ _=>rfl) ?_
   exact wkl trivial
  have hcl:=hcl e2
  obtain ⟨C1,C2⟩:=C
  simp only at *
  subst e2
  simp only [Int.natCast_zero] at c7
  refine callD_W 138 Tryd.func3 rfl rfl rfl (fun _ _=>rfl) ?_
  refine wkl ?_
  clear hR c1 c2 c3 c4 c5 c6 c7; intro hR
  intros
  cases hp:hasP t.d (mkOf other)
  ·simp only [hp,Bool.false_eq_true,if_false,false_implies,true_implies] at r8 r2 hcl
   rcases hcl with hE | hE
   ·subst hE
    simp only [hself] at r3
    simp only [Int.natCast_zero] at r2
    have c1:=r8
    have c2:=r1
    have c3:=r2
    have c4:=r3
    clear r8 r9 r1 r2 r3 hp
    generalize mkOf ch=m1 at *
    generalize mkOf other=m2 at *
    exact wkl trivial
   ·obtain ⟨E1,E2⟩:=E
    simp only at hE r2 r3
    subst hE
    simp only [n5] at r2
    have c1:=r8
    have c2:=r1
    have c3:=r2
    clear r8 r9 r1 r2 r3 hp
    generalize mkOf ch=m1 at *
    generalize mkOf other=m2 at *
    exact wkl trivial
  ·simp only [hp,if_true,true_implies] at r8 r2 hcl
   cases hq:hasP (cutP t.d (mkOf other)) (mkOf ch)
   ·simp only [hq,Bool.false_eq_true,if_false,not_false_eq_true,true_implies] at r9 hcl
    rcases hcl with hE | hE
    ·subst hE
     simp only [hself] at r3
     simp only [Int.natCast_zero] at r2
     have c1:=r8
     have c2:=r9
     have c3:=r2
     have c4:=r3
     clear r8 r9 r1 r2 r3 hp hq
     generalize cutP t.d (mkOf other)=cu at *
     generalize mkOf ch=m1 at *
     generalize mkOf other=m2 at *
     exact wkl trivial
    ·obtain ⟨E1,E2⟩:=E
     simp only at hE r2 r3
     subst hE
     simp only [n5] at r2
     have c1:=r8
     have c2:=r9
     have c3:=r2
     clear r8 r9 r1 r2 r3 hp hq
     generalize cutP t.d (mkOf other)=cu at *
     generalize mkOf ch=m1 at *
     generalize mkOf other=m2 at *
     exact wkl trivial
   ·simp only [hq,if_true] at r9
    have c1:=r8
    have c2:=r9
    clear r8 r9 r1 r2 r3 hp hq hcl
    generalize cutP (cutP t.d (mkOf other)) (mkOf ch)=cv' at *
    generalize cutP t.d (mkOf other)=cu at *
    generalize mkOf ch=m1 at *
    generalize mkOf other=m2 at *
    exact wkl trivial
 ·obtain ⟨A1,A2⟩:=A
  obtain ⟨B1,B2⟩:=B
  simp only at *
  subst h1 h2
  have h4:(A1.length:Int)=60:=by omega
  simp only [Int.natCast_zero] at c4
  simp only [n5] at c5
  clear r1 r2 r3 hcl c7 r8 r9 c6 s1 s2 h3
  refine callD_W 138 Tryd.func3 rfl rfl rfl (fun _ _=>rfl) ?_
  exact wkl trivial
end Go.Proofs.YtckjpabekmhnhaaDoor
