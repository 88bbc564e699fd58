/- The law BankTells: the walk (printed by bin/gen12T.py). -/
import Derived.Test.YtckjpabekmhnhaaDoorRBkD
import Derived.Test.YtckjpabekmhnhaaDoorLaw12B
import Derived.Test.YtckjpabekmhnhaaDoorBoxes
set_option linter.all false
namespace Go.Abs
theorem bs_six {P:Program} {t e:Nat} (h:undOf P t=some (.slice e)) (hs:szOf P e=some 1) (hz:(zeroOf P e).map (·.cells.size)=some 1) (id:Nat) (H:Nat→Ob) (f0 f1 f2 f3 f4 f5:FuncId) (c0 c1 c2 c3 c4 c5:List D) :
  bsX P t 6 (some [(0,[.fn f0 c0]),(1,[.fn f1 c1]),(2,[.fn f2 c2]),(3,[.fn f3 c3]),(4,[.fn f4 c4]),(5,[.fn f5 c5])]) H .fresh id=some (.bs id 0 6,upd H id (.box [.fn f0 c0,.fn f1 c1,.fn f2 c2,.fn f3 c3,.fn f4 c4,.fn f5 c5])):=by
 rw [bs_gen h hs hz (by omega) rfl (by simp [D.one])]; rfl
end Go.Abs
namespace Go.Proofs.YtckjpabekmhnhaaDoor
open Go Go.Abs Go.RowKit Go.Proofs.YtckjpabekmhnhaaDoor.Ty
set_option maxHeartbeats 32000000
set_option maxRecDepth 20000
section
variable (l:List PurseD) (hl:RightP l) (o to d:ByteArray) (n:Nat) (hn:n < 18446744073709551616) (ch other:Int) (hc:Num6 ch) (ho:Num6 other) (t:TranD) (ht:t.n < 18446744073709551616) (htd:t.d.size≤1048576)
def resT:Nat→List PurseD × Nat
 | 0=>mintP l o d n
 | 1=>burnP l o d n
 | 2=>moveP l o to d n
 | 3=>leaveP l ch t
 | 4=>backP l ch t
 | _=>comeP l ch other t
include hl hn hc ho ht htd
theorem bt1_A:CallD Tryd.prog 21 (pts (List.range' 0 4)) (hB [[.i (.sl (l.map encPu))],[.i (.s (.string o))],[.i (.s (.string d))],[.i (.s (.int .u64 (n:Nat)))]]) (.tup [.i (.sl ((resT l o to d n ch other t 0).1.map encPu)),intD (resT l o to d n ch other t 0).2]) (hB [[.i (.sl (l.map encPu))],[.i (.s (.string o))],[.i (.s (.string d))],[.i (.s (.int .u64 (n:Nat)))]]):=by
 rw [show hB [[.i (.sl (l.map encPu))],[.i (.s (.string o))],[.i (.s (.string d))],[.i (.s (.int .u64 (n:Nat)))]]=hF [(0,.box ([.i (.sl (l.map encPu))])),(1,.box ([.i (.s (.string o))])),(2,.box ([.i (.s (.string d))])),(3,.box ([.i (.s (.int .u64 (n:Nat)))]))] from by funext i; match i with | 0=>rfl | 1=>rfl | 2=>rfl | 3=>rfl | _+4=>rfl]
 show CallD _ _ [.pt 0 0 0 0,.pt 1 0 0 0,.pt 2 0 0 0,.pt 3 0 0 0] _ _ _
 refine hide_c fun R R' hR hR'=>?_
 rw [← hOf_hF] at hR'
 have c1:=mint_A l hl o d n hn
 try simp only [pusI,sD,wD] at c1
 try simp only [trD] at c1
 simp only [resT] at hR
 generalize mintP l o d n=A at *
 have d1:SrcIs [] []:=⟨trivial⟩
 obtain ⟨rfl⟩:=hR
 obtain ⟨rfl⟩:=hR'
 clear hl hn hc ho ht htd
 refine callD_W 13 Tryd.func21 rfl rfl rfl (fun o ho=>by simp [hF,lk,show o≠0 by omega,show o≠1 by omega,show o≠2 by omega,show o≠3 by omega,show o≠4 by omega,show o≠5 by omega]) ?_
 exact wkl trivial
theorem bt2_A:CallD Tryd.prog 23 (pts (List.range' 0 4)) (hB [[.i (.sl (l.map encPu))],[.i (.s (.string o))],[.i (.s (.string d))],[.i (.s (.int .u64 (n:Nat)))]]) (.tup [.i (.sl ((resT l o to d n ch other t 1).1.map encPu)),intD (resT l o to d n ch other t 1).2]) (hB [[.i (.sl (l.map encPu))],[.i (.s (.string o))],[.i (.s (.string d))],[.i (.s (.int .u64 (n:Nat)))]]):=by
 rw [show hB [[.i (.sl (l.map encPu))],[.i (.s (.string o))],[.i (.s (.string d))],[.i (.s (.int .u64 (n:Nat)))]]=hF [(0,.box ([.i (.sl (l.map encPu))])),(1,.box ([.i (.s (.string o))])),(2,.box ([.i (.s (.string d))])),(3,.box ([.i (.s (.int .u64 (n:Nat)))]))] from by funext i; match i with | 0=>rfl | 1=>rfl | 2=>rfl | 3=>rfl | _+4=>rfl]
 show CallD _ _ [.pt 0 0 0 0,.pt 1 0 0 0,.pt 2 0 0 0,.pt 3 0 0 0] _ _ _
 refine hide_c fun R R' hR hR'=>?_
 rw [← hOf_hF] at hR'
 have c1:=burn_A l hl o d n hn
 try simp only [pusI,sD,wD] at c1
 try simp only [trD] at c1
 simp only [resT] at hR
 generalize burnP l o d n=A at *
 have d1:SrcIs [] []:=⟨trivial⟩
 obtain ⟨rfl⟩:=hR
 obtain ⟨rfl⟩:=hR'
 clear hl hn hc ho ht htd
 refine callD_W 13 Tryd.func23 rfl rfl rfl (fun o ho=>by simp [hF,lk,show o≠0 by omega,show o≠1 by omega,show o≠2 by omega,show o≠3 by omega,show o≠4 by omega,show o≠5 by omega]) ?_
 exact wkl trivial
theorem bt3_A:CallD Tryd.prog 25 (pts (List.range' 0 5)) (hB [[.i (.sl (l.map encPu))],[.i (.s (.string o))],[.i (.s (.string to))],[.i (.s (.string d))],[.i (.s (.int .u64 (n:Nat)))]]) (.tup [.i (.sl ((resT l o to d n ch other t 2).1.map encPu)),intD (resT l o to d n ch other t 2).2]) (hB [[.i (.sl (l.map encPu))],[.i (.s (.string o))],[.i (.s (.string to))],[.i (.s (.string d))],[.i (.s (.int .u64 (n:Nat)))]]):=by
 rw [show hB [[.i (.sl (l.map encPu))],[.i (.s (.string o))],[.i (.s (.string to))],[.i (.s (.string d))],[.i (.s (.int .u64 (n:Nat)))]]=hF [(0,.box ([.i (.sl (l.map encPu))])),(1,.box ([.i (.s (.string o))])),(2,.box ([.i (.s (.string to))])),(3,.box ([.i (.s (.string d))])),(4,.box ([.i (.s (.int .u64 (n:Nat)))]))] from by funext i; match i with | 0=>rfl | 1=>rfl | 2=>rfl | 3=>rfl | 4=>rfl | _+5=>rfl]
 show CallD _ _ [.pt 0 0 0 0,.pt 1 0 0 0,.pt 2 0 0 0,.pt 3 0 0 0,.pt 4 0 0 0] _ _ _
 refine hide_c fun R R' hR hR'=>?_
 rw [← hOf_hF] at hR'
 have c1:=move_A l hl o to d n hn
 try simp only [pusI,sD,wD] at c1
 try simp only [trD] at c1
 simp only [resT] at hR
 generalize moveP l o to d n=A at *
 have d1:SrcIs [] []:=⟨trivial⟩
 obtain ⟨rfl⟩:=hR
 obtain ⟨rfl⟩:=hR'
 clear hl hn hc ho ht htd
 refine callD_W 15 Tryd.func25 rfl rfl rfl (fun o ho=>by simp [hF,lk,show o≠0 by omega,show o≠1 by omega,show o≠2 by omega,show o≠3 by omega,show o≠4 by omega,show o≠5 by omega]) ?_
 exact wkl trivial
theorem bt4_A:CallD Tryd.prog 27 (pts (List.range' 0 3)) (hB [[.i (.sl (l.map encPu))],[.i (.s (.int .i64 ch))],[.i (.s (.string t.d)),.i (.s (.int .u64 (t.n:Nat))),.i (.s (.string t.s)),.i (.s (.string t.r))]]) (.tup [.i (.sl ((resT l o to d n ch other t 3).1.map encPu)),intD (resT l o to d n ch other t 3).2]) (hB [[.i (.sl (l.map encPu))],[.i (.s (.int .i64 ch))],[.i (.s (.string t.d)),.i (.s (.int .u64 (t.n:Nat))),.i (.s (.string t.s)),.i (.s (.string t.r))]]):=by
 rw [show hB [[.i (.sl (l.map encPu))],[.i (.s (.int .i64 ch))],[.i (.s (.string t.d)),.i (.s (.int .u64 (t.n:Nat))),.i (.s (.string t.s)),.i (.s (.string t.r))]]=hF [(0,.box ([.i (.sl (l.map encPu))])),(1,.box ([.i (.s (.int .i64 ch))])),(2,.box ([.i (.s (.string t.d)),.i (.s (.int .u64 (t.n:Nat))),.i (.s (.string t.s)),.i (.s (.string t.r))]))] from by funext i; match i with | 0=>rfl | 1=>rfl | 2=>rfl | _+3=>rfl]
 show CallD _ _ [.pt 0 0 0 0,.pt 1 0 0 0,.pt 2 0 0 0] _ _ _
 refine hide_c fun R R' hR hR'=>?_
 rw [← hOf_hF] at hR'
 have c1:=leave_A l hl ch hc t ht
 try simp only [pusI,sD,wD] at c1
 try simp only [trD] at c1
 simp only [resT] at hR
 generalize leaveP l ch t=A at *
 have d1:SrcIs [] []:=⟨trivial⟩
 obtain ⟨rfl⟩:=hR
 obtain ⟨rfl⟩:=hR'
 clear hl hn hc ho ht htd
 refine callD_W 11 Tryd.func27 rfl rfl rfl (fun o ho=>by simp [hF,lk,show o≠0 by omega,show o≠1 by omega,show o≠2 by omega,show o≠3 by omega,show o≠4 by omega,show o≠5 by omega]) ?_
 exact wkl trivial
theorem bt5_A:CallD Tryd.prog 28 (pts (List.range' 0 3)) (hB [[.i (.sl (l.map encPu))],[.i (.s (.int .i64 ch))],[.i (.s (.string t.d)),.i (.s (.int .u64 (t.n:Nat))),.i (.s (.string t.s)),.i (.s (.string t.r))]]) (.tup [.i (.sl ((resT l o to d n ch other t 4).1.map encPu)),intD (resT l o to d n ch other t 4).2]) (hB [[.i (.sl (l.map encPu))],[.i (.s (.int .i64 ch))],[.i (.s (.string t.d)),.i (.s (.int .u64 (t.n:Nat))),.i (.s (.string t.s)),.i (.s (.string t.r))]]):=by
 rw [show hB [[.i (.sl (l.map encPu))],[.i (.s (.int .i64 ch))],[.i (.s (.string t.d)),.i (.s (.int .u64 (t.n:Nat))),.i (.s (.string t.s)),.i (.s (.string t.r))]]=hF [(0,.box ([.i (.sl (l.map encPu))])),(1,.box ([.i (.s (.int .i64 ch))])),(2,.box ([.i (.s (.string t.d)),.i (.s (.int .u64 (t.n:Nat))),.i (.s (.string t.s)),.i (.s (.string t.r))]))] from by funext i; match i with | 0=>rfl | 1=>rfl | 2=>rfl | _+3=>rfl]
 show CallD _ _ [.pt 0 0 0 0,.pt 1 0 0 0,.pt 2 0 0 0] _ _ _
 refine hide_c fun R R' hR hR'=>?_
 rw [← hOf_hF] at hR'
 have c1:=back_A l hl ch hc t ht
 try simp only [pusI,sD,wD] at c1
 try simp only [trD] at c1
 simp only [resT] at hR
 generalize backP l ch t=A at *
 have d1:SrcIs [] []:=⟨trivial⟩
 obtain ⟨rfl⟩:=hR
 obtain ⟨rfl⟩:=hR'
 clear hl hn hc ho ht htd
 refine callD_W 11 Tryd.func28 rfl rfl rfl (fun o ho=>by simp [hF,lk,show o≠0 by omega,show o≠1 by omega,show o≠2 by omega,show o≠3 by omega,show o≠4 by omega,show o≠5 by omega]) ?_
 exact wkl trivial
theorem bt6_A:CallD Tryd.prog 29 (pts (List.range' 0 4)) (hB [[.i (.sl (l.map encPu))],[.i (.s (.int .i64 ch))],[.i (.s (.int .i64 other))],[.i (.s (.string t.d)),.i (.s (.int .u64 (t.n:Nat))),.i (.s (.string t.s)),.i (.s (.string t.r))]]) (.tup [.i (.sl ((resT l o to d n ch other t 5).1.map encPu)),intD (resT l o to d n ch other t 5).2]) (hB [[.i (.sl (l.map encPu))],[.i (.s (.int .i64 ch))],[.i (.s (.int .i64 other))],[.i (.s (.string t.d)),.i (.s (.int .u64 (t.n:Nat))),.i (.s (.string t.s)),.i (.s (.string t.r))]]):=by
 rw [show hB [[.i (.sl (l.map encPu))],[.i (.s (.int .i64 ch))],[.i (.s (.int .i64 other))],[.i (.s (.string t.d)),.i (.s (.int .u64 (t.n:Nat))),.i (.s (.string t.s)),.i (.s (.string t.r))]]=hF [(0,.box ([.i (.sl (l.map encPu))])),(1,.box ([.i (.s (.int .i64 ch))])),(2,.box ([.i (.s (.int .i64 other))])),(3,.box ([.i (.s (.string t.d)),.i (.s (.int .u64 (t.n:Nat))),.i (.s (.string t.s)),.i (.s (.string t.r))]))] from by funext i; match i with | 0=>rfl | 1=>rfl | 2=>rfl | 3=>rfl | _+4=>rfl]
 show CallD _ _ [.pt 0 0 0 0,.pt 1 0 0 0,.pt 2 0 0 0,.pt 3 0 0 0] _ _ _
 refine hide_c fun R R' hR hR'=>?_
 rw [← hOf_hF] at hR'
 have c1:=come_A l hl ch other hc ho t ht htd
 try simp only [pusI,sD,wD] at c1
 try simp only [trD] at c1
 simp only [resT] at hR
 generalize comeP l ch other t=A at *
 have d1:SrcIs [] []:=⟨trivial⟩
 obtain ⟨rfl⟩:=hR
 obtain ⟨rfl⟩:=hR'
 clear hl hn hc ho ht htd
 refine callD_W 13 Tryd.func29 rfl rfl rfl (fun o ho=>by simp [hF,lk,show o≠0 by omega,show o≠1 by omega,show o≠2 by omega,show o≠3 by omega,show o≠4 by omega,show o≠5 by omega]) ?_
 exact wkl trivial
end
theorem back_right {l:List PurseD} (h:RightP l) (ch:Int) (t:TranD):RightP (backP l ch t).1:=by
 unfold backP; split
 ·exact mint_right h _ _ _
 ·exact move_right h _ _ _ _
theorem walk_BankTells (y0:I) (l:List PurseD) (e0:y0=pusI l∧∀ p∈l,p.n < 18446744073709551616) (y1:I) (o:ByteArray) (e1:y1=.s (.string o)∧o.size≤maxLen) (y2:I) (to:ByteArray) (e2:y2=.s (.string to)∧to.size≤maxLen) (y3:I) (d:ByteArray) (e3:y3=.s (.string d)∧d.size≤maxLen)
  (y4:I) (n:Nat) (e4:y4=.s (.int .u64 n)∧n < 18446744073709551616) (y5:I) (ch:Int) (e5:y5=.s (.int .i64 ch)∧(Lit.int .i64 ch).wf=true) (y6:I) (other:Int) (e6:y6=.s (.int .i64 other)∧(Lit.int .i64 other).wf=true)
  (y7:List I) (t:TranD) (e7:y7=encTr t∧t.n < 18446744073709551616) (y8:I) (b:List UInt8) (e8:y8=bI b) (hb:bkI y0+bkI y1+bkI y2+bkI y3+bkI y4+bkI y5+bkI y6+bkL y7+bkI y8≤1048576) :
  ∃ Ds,PureD Tryd.prog 4 Ds (.i (.s (.bool true)))∧Ds=[.i y0,.i y1,.i y2,.i y3,.i y4,.i y5,.i y6,.agg (y7.map .i),.i y8]:=by
 obtain ⟨rfl,hn64⟩:=e0
 obtain ⟨rfl,_⟩:=e1
 obtain ⟨rfl,_⟩:=e2
 obtain ⟨rfl,_⟩:=e3
 obtain ⟨rfl,hn⟩:=e4
 obtain ⟨rfl,hw1⟩:=e5
 obtain ⟨rfl,hw2⟩:=e6
 obtain ⟨rfl,ht⟩:=e7
 subst e8
 refine ⟨_,?_,rfl⟩
 rw [tr_agg]
 have hll:l.length≤1048576:=by have:=bk_len encPu l; simp only [pusI] at hb; omega
 have hbl:b.length≤1048576:=by have:=bk_len byteI b; simp only [bI] at hb; omega
 have htd:t.d.size≤1048576∧t.s.size≤1048576∧t.r.size≤1048576:=by simp only [encTr,bkL,bkI] at hb; omega
 have hmin:IntKind.i64.min=-9223372036854775808:=by decide
 have hmax:IntKind.i64.max=9223372036854775807:=by decide
 have hc:Num6 ch:=by simp [Lit.wf,hmin,hmax] at hw1; unfold Num6; omega
 have ho:Num6 other:=by simp [Lit.wf,hmin,hmax] at hw2; unfold Num6; omega
 clear hb hw1 hw2
 refine hide_r fun R hR=>?_
 have c1:=parse_A b hbl
 have c2:=rparse_A b hbl
 have c3:=bytes_A t ht htd.1 htd.2.1 htd.2.2
 have c4:=rbytesT_A t ht htd.1 htd.2.1 htd.2.2
 have c5:=right_A l
 simp only [pusI,sD,wD,boolV] at c5
 generalize parseT b=Z at *
 generalize bytesT t=Y at *
 obtain ⟨⟨zd,zn,zs,zr⟩,ze⟩:=Z
 simp only [trD] at c1 c2
 have z1:=bself zd
 have z2:=bself zs
 have z3:=bself zr
 by_cases hr:rightB l=true
 rotate_left
 ·have hr:rightB l=false:=by simpa using hr
  rw [hr] at c5
  clear hr hn64
  refine callD_W 188 Tryd.func4 rfl rfl rfl (fun _ _=>rfl) ?_
  exact wkl trivial
 rw [hr] at c5
 have hrp:=(rightB_iff hn64).1 hr
 clear hr
 by_cases hg:ch < 0∨other < 0
 ·clear hrp
  refine callD_W 188 Tryd.func4 rfl rfl rfl (fun _ _=>rfl) ?_
  exact wkl trivial
 have h0:0≤ch:=by omega
 have g0:0≤other:=by omega
 clear hg
 have r6:=supply_A l d hll hn64
 have r7:=rsup_A l d hll hn64
 have r8:=amount_A l o d hll hrp.srt
 have r9:=ramt_A l o d hll
 simp only [pusI,sD,wD,boolV] at r6 r7 r8 r9
 generalize (if 18446744073709551616≤supP l d then 0 else supP l d)=q1 at *
 generalize decide (18446744073709551616≤supP l d)=q2 at *
 have q3:(q2 != q2)=false:=by cases q2 <;> rfl
 have q4:(!decide (q2=q2))=false:=by simp
 have q5:(!(q2 == q2))=false:=by cases q2 <;> rfl
 generalize amtP l o d=am at *
 have r1:=bs_six (P:=Tryd.prog) (t:=47) (e:=45) (by kernel_rfl) (by kernel_rfl) (by kernel_rfl)
 simp only [trD] at c3 c4
 refine callD_W 188 Tryd.func4 rfl rfl rfl (fun _ _=>rfl) ?_
 refine wkl ?_
 clear hR c1 c2 c3 c4 c5; intro hR
 intros
 have c1:=r6
 have c2:=r7
 have c3:=r8
 have c4:=r9
 clear r6 r7 r8 r9
 refine wkl ?_
 clear hR c1 c2 c3 c4; intro hR
 intros
 refine W_loopR (ι:=Nat) (fun k=>k≤6) (fun k=>stOf [(9,.pt 100 0 0 0),(10,.pt 101 0 0 0),(11,.pt 102 0 0 0),(12,.pt 103 0 0 0),(13,.pt 104 0 0 0),(14,.pt 105 0 0 0),(15,.pt 106 0 0 0),(16,.pt 107 0 0 0),(108,.bs 108 0 6),(109,intD 6),(110,intD k)]
  [(100,.box ([.i (.sl (l.map encPu))])),(101,.box ([.i (.s (.string o))])),(102,.box ([.i (.s (.string to))])),(103,.box ([.i (.s (.string d))])),(104,.box ([.i (.s (.int .u64 (n:Nat)))])),(105,.box ([.i (.s (.int .i64 ch))])),(106,.box ([.i (.s (.int .i64 other))])),(107,.box ([.i (.s (.string t.d)),.i (.s (.int .u64 (t.n:Nat))),.i (.s (.string t.s)),.i (.s (.string t.r))])),(108,.box [.fn 21 [.pt 100 0 0 0,.pt 101 0 0 0,.pt 103 0 0 0,.pt 104 0 0 0],.fn 23 [.pt 100 0 0 0,.pt 101 0 0 0,.pt 103 0 0 0,.pt 104 0 0 0],.fn 25 [.pt 100 0 0 0,.pt 101 0 0 0,.pt 102 0 0 0,.pt 103 0 0 0,.pt 104 0 0 0],.fn 27 [.pt 100 0 0 0,.pt 105 0 0 0,.pt 107 0 0 0],.fn 28 [.pt 100 0 0 0,.pt 105 0 0 0,.pt 107 0 0 0],.fn 29 [.pt 100 0 0 0,.pt 105 0 0 0,.pt 106 0 0 0,.pt 107 0 0 0]])]) (fun k=>6 - k) 0 (Nat.zero_le _) ?_ ?_
 ·exact le_ok [] [(100,1000),(101,1001),(102,1002),(103,1003),(104,1004),(105,1005),(106,1006),(107,1007),(108,3822)]
 ·rintro k hk RL hL1
  rw [stOf_eq]
  have b1:=fun σ' (h:k+1≤6)=>bk [] [(100,100),(101,101),(102,102),(103,103),(104,104),(105,105),(106,106),(107,107),(108,108)] (hL1 (k+1) σ' h)
  clear hL1 r1
  match k,hk with
  | 0,_ =>
   have g1:=bt1_A l hrp o to d n hn ch other hc ho t ht htd.1
   have c1:=rmint_A l hrp o d n hn
   simp only [resT] at g1
   try simp only [trD] at c1
   have c2:=sameP_A (mintP l o d n).1 (mintP l o d n).1 (by have:=(mint_right hrp o d n).len; omega)
   rw [samePs_iff.2 rfl] at c2
   simp only [pusI,boolV] at c2
   have b1:=fun σ'=>b1 σ' (by omega)
   clear hrp hc ho h0 g0 hn64 htd ht hn hll hbl
   generalize mintP l o d n=A at *
   refine wkl ?_
   clear hR; intro hR
   refine Call_boxes [100,101,103,104] (css:=[[.i (.sl (l.map encPu))],[.i (.s (.string o))],[.i (.s (.string d))],[.i (.s (.int .u64 (n:Nat)))]]) g1 (by decide) (by simp [boxesOk,upd,hO,lk]) rfl (fun H' s'=>by simp [cv,cvT,cv1,cvL,cv0]) rfl ?_
   clear g1
   exact wkl trivial
  | 1,_ =>
   have g1:=bt2_A l hrp o to d n hn ch other hc ho t ht htd.1
   have c1:=rburn_A l hrp o d n hn
   simp only [resT] at g1
   try simp only [trD] at c1
   have c2:=sameP_A (burnP l o d n).1 (burnP l o d n).1 (by have:=(burn_right hrp o d n).len; omega)
   rw [samePs_iff.2 rfl] at c2
   simp only [pusI,boolV] at c2
   have b1:=fun σ'=>b1 σ' (by omega)
   clear hrp hc ho h0 g0 hn64 htd ht hn hll hbl
   generalize burnP l o d n=A at *
   refine wkl ?_
   clear hR; intro hR
   refine Call_boxes [100,101,103,104] (css:=[[.i (.sl (l.map encPu))],[.i (.s (.string o))],[.i (.s (.string d))],[.i (.s (.int .u64 (n:Nat)))]]) g1 (by decide) (by simp [boxesOk,upd,hO,lk]) rfl (fun H' s'=>by simp [cv,cvT,cv1,cvL,cv0]) rfl ?_
   clear g1
   exact wkl trivial
  | 2,_ =>
   have g1:=bt3_A l hrp o to d n hn ch other hc ho t ht htd.1
   have c1:=rmove_A l hrp o to d n hn
   simp only [resT] at g1
   try simp only [trD] at c1
   have c2:=sameP_A (moveP l o to d n).1 (moveP l o to d n).1 (by have:=(move_right hrp o to d n).len; omega)
   rw [samePs_iff.2 rfl] at c2
   simp only [pusI,boolV] at c2
   have b1:=fun σ'=>b1 σ' (by omega)
   clear hrp hc ho h0 g0 hn64 htd ht hn hll hbl
   generalize moveP l o to d n=A at *
   refine wkl ?_
   clear hR; intro hR
   refine Call_boxes [100,101,102,103,104] (css:=[[.i (.sl (l.map encPu))],[.i (.s (.string o))],[.i (.s (.string to))],[.i (.s (.string d))],[.i (.s (.int .u64 (n:Nat)))]]) g1 (by decide) (by simp [boxesOk,upd,hO,lk]) rfl (fun H' s'=>by simp [cv,cvT,cv1,cvL,cv0]) rfl ?_
   clear g1
   exact wkl trivial
  | 3,_ =>
   have g1:=bt4_A l hrp o to d n hn ch other hc ho t ht htd.1
   have c1:=rleave_A l hrp ch h0 hc.2 t ht
   simp only [resT] at g1
   try simp only [trD] at c1
   have c2:=sameP_A (leaveP l ch t).1 (leaveP l ch t).1 (by have:=(leave_right hrp ch t).len; omega)
   rw [samePs_iff.2 rfl] at c2
   simp only [pusI,boolV] at c2
   have b1:=fun σ'=>b1 σ' (by omega)
   clear hrp hc ho h0 g0 hn64 htd ht hn hll hbl
   generalize leaveP l ch t=A at *
   refine wkl ?_
   clear hR; intro hR
   refine Call_boxes [100,105,107] (css:=[[.i (.sl (l.map encPu))],[.i (.s (.int .i64 ch))],[.i (.s (.string t.d)),.i (.s (.int .u64 (t.n:Nat))),.i (.s (.string t.s)),.i (.s (.string t.r))]]) g1 (by decide) (by simp [boxesOk,upd,hO,lk]) rfl (fun H' s'=>by simp [cv,cvT,cv1,cvL,cv0]) rfl ?_
   clear g1
   exact wkl trivial
  | 4,_ =>
   have g1:=bt5_A l hrp o to d n hn ch other hc ho t ht htd.1
   have c1:=rback_A l hrp ch h0 hc.2 t ht
   simp only [resT] at g1
   try simp only [trD] at c1
   have c2:=sameP_A (backP l ch t).1 (backP l ch t).1 (by have:=(back_right hrp ch t).len; omega)
   rw [samePs_iff.2 rfl] at c2
   simp only [pusI,boolV] at c2
   have b1:=fun σ'=>b1 σ' (by omega)
   clear hrp hc ho h0 g0 hn64 htd ht hn hll hbl
   generalize backP l ch t=A at *
   refine wkl ?_
   clear hR; intro hR
   refine Call_boxes [100,105,107] (css:=[[.i (.sl (l.map encPu))],[.i (.s (.int .i64 ch))],[.i (.s (.string t.d)),.i (.s (.int .u64 (t.n:Nat))),.i (.s (.string t.s)),.i (.s (.string t.r))]]) g1 (by decide) (by simp [boxesOk,upd,hO,lk]) rfl (fun H' s'=>by simp [cv,cvT,cv1,cvL,cv0]) rfl ?_
   clear g1
   exact wkl trivial
  | 5,_ =>
   have g1:=bt6_A l hrp o to d n hn ch other hc ho t ht htd.1
   have c1:=rcome_A l hrp ch other h0 hc.2 g0 ho.2 t ht htd.1
   simp only [resT] at g1
   try simp only [trD] at c1
   have c2:=sameP_A (comeP l ch other t).1 (comeP l ch other t).1 (by have:=(come_right hrp ch other t).len; omega)
   rw [samePs_iff.2 rfl] at c2
   simp only [pusI,boolV] at c2
   have b1:=fun σ'=>b1 σ' (by omega)
   clear hrp hc ho h0 g0 hn64 htd ht hn hll hbl
   generalize comeP l ch other t=A at *
   refine wkl ?_
   clear hR; intro hR
   refine Call_boxes [100,105,106,107] (css:=[[.i (.sl (l.map encPu))],[.i (.s (.int .i64 ch))],[.i (.s (.int .i64 other))],[.i (.s (.string t.d)),.i (.s (.int .u64 (t.n:Nat))),.i (.s (.string t.s)),.i (.s (.string t.r))]]) g1 (by decide) (by simp [boxesOk,upd,hO,lk]) rfl (fun H' s'=>by simp [cv,cvT,cv1,cvL,cv0]) rfl ?_
   clear g1
   exact wkl trivial
  | 6,_ =>
   exact wkl trivial
end Go.Proofs.YtckjpabekmhnhaaDoor
