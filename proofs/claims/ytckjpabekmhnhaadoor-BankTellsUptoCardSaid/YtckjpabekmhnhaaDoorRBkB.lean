/- landref10.Supply, Word, Put: by value. -/
import Derived.Test.YtckjpabekmhnhaaDoorRBkA
set_option linter.all false
namespace Go.Abs
open Go Go.RowKit
theorem fin_slB {P:Program} {sl:Nat→D} {H:Nat→Ob} {fn:Func} {i:Tmp} {o sz len:Nat} {es:List (List I)} (h:fn.results=#[.tmp i]) (hv:sl i=.os o sz 0 len) (hl:len=es.length) (ho:H o=.arr sz es) :
  Fin P fn noH (.i (.sl es)) noH .ret ⟨sl,H⟩:=by
 subst hl
 refine ⟨_,resA_tmp h,?_⟩
 show LER noH (sl i) H _ _
 rw [hv]
 exact ler_of [] [o] [] (by simp [cv,cv1,cv0,ho,elemsOf]) (by simp) rfl (by simp) rfl
end Go.Abs
namespace Go.Proofs.YtckjpabekmhnhaaDoor
open Go Go.Abs Go.RowKit Go.Proofs.YtckjpabekmhnhaaDoor.Ty
set_option maxHeartbeats 16000000
set_option maxRecDepth 20000
theorem rword_A (s:ByteArray):PureD Tryd.prog 45 [.i (.s (.string s))] (boolD (wordOk s)):=by
 refine hide_r fun R hR=>?_
 unfold wordOk at hR
 by_cases h1:1≤s.size
 ·rw [decide_eq_true h1,Bool.true_and] at hR
  by_cases h2:s.size≤40
  ·rw [decide_eq_true h2] at hR
   refine callD_W 11 Tryd.func45 rfl rfl rfl (fun _ _=>rfl) ?_
   exact wkl trivial
  ·rw [decide_eq_false h2] at hR
   refine callD_W 11 Tryd.func45 rfl rfl rfl (fun _ _=>rfl) ?_
   exact wkl trivial
 ·rw [decide_eq_false h1,Bool.false_and] at hR
  refine callD_W 11 Tryd.func45 rfl rfl rfl (fun _ _=>rfl) ?_
  exact wkl trivial
theorem rsup_A (l:List PurseD) (d:ByteArray) (hl:l.length≤1048576) (hn:∀ p∈l,p.n < 18446744073709551616) :
  PureD Tryd.prog 18 [.i (.sl (l.map encPu)),.i (.s (.string d))] (.tup [.i (.s (.int .u64 ((if 18446744073709551616≤supP l d then 0 else supP l d:Nat):Int))),boolD (decide (18446744073709551616≤supP l d))]):=by
 refine hide_r fun R hR=>?_
 refine callD_W 31 Tryd.func18 rfl rfl rfl (fun _ _=>rfl) ?_
 refine wkl ?_
 clear hR; intro hR
 intros
 refine W_loopR (ι:=Nat × Nat) (fun q=>q.1≤l.length∧q.2=supP (l.take q.1) d∧q.2 < 18446744073709551616) (fun q=>stOf [(1,.i (.s (.string d))),(6,.i (.s (.int .u64 (q.2:Int)))),(9,.i (.sl (l.map encPu))),(10,intD l.length),(11,intD q.1)] []) (fun q=>l.length - q.1) (0,0) ⟨Nat.zero_le _,rfl,by decide⟩ ?_ ?_
 ·exact le_ok [] []
 ·rintro ⟨i,a⟩ ⟨hi,ha,ha2⟩ RL hL
  simp only at hi ha ha2
  rw [stOf_eq]
  by_cases h:i < l.length
  ·have s0:=get_lt (f:=encPu) h
   have hst:=sup_take (d:=d) h
   have hmn:=sup_more l d (i+1)
   have hx:=hn _ (List.getElem_mem h)
   have b1:=fun a' (e:a'=supP (l.take (i+1)) d) (e2:a' < 18446744073709551616) σ'=>bk [] [] (hL (i+1,a') σ' ⟨h,e,e2⟩)
   clear hL hn
   rw [← ha] at hst
   generalize l[i]=x at *
   by_cases e:x.d=d
   ·rw [if_pos e] at hst
    have q1:(x.d == d)=true:=by rw [beqS]; exact decide_eq_true e
    by_cases ov:18446744073709551616≤a+x.n
    ·have w1:IntKind.u64.wrap ((a:Int)+(x.n:Int))=(a:Int)+x.n - 18446744073709551616:=by rw [IntKind.wrap_u64]; omega
     rw [if_pos (by omega),decide_eq_true (by omega)] at hR
     clear b1 e ha hst hmn
     exact wkl trivial
    ·have w1:IntKind.u64.wrap ((a:Int)+(x.n:Int))=((a+x.n:Nat):Int):=by rw [IntKind.wrap_u64]; omega
     have b1:=b1 (a+x.n) hst.symm (by omega)
     clear e ha hst hmn hR
     exact wkl trivial
   ·rw [if_neg e] at hst
    have q1:=beq_no e
    have b1:=b1 a (by omega) ha2
    clear e ha hst hmn hR
    exact wkl trivial
  ·rw [List.take_of_length_le (by omega)] at ha
   rw [← ha,if_neg (by omega),decide_eq_false (by omega)] at hR
   clear hL hn ha
   exact wkl trivial
theorem eqS_cmp0 (a b:ByteArray):(a == b)=decide (cmpS a b=0):=by
 rw [beqS]
 by_cases e:a=b
 ·rw [decide_eq_true e,decide_eq_true (cmpS_zero.2 e)]
 ·rw [decide_eq_false e,decide_eq_false (fun hc=>e (cmpS_zero.1 hc))]
theorem pu_sz {n:Nat} (h:n≤1048577):(n+1) * 40≤140737488355328∧(n+1+1) * 40≤140737488355328∧n+1≤140737488355328∧n+1+1≤140737488355328:=by omega
theorem rput_A (l:List PurseD) (x:PurseD) (hl:l.length≤1048576) (hs:SrtP l):PureD Tryd.prog 54 [.i (.sl (l.map encPu)),puD x] (.i (.sl ((setP l x.o x.d x.n).map encPu))):=by
 refine hide_r fun R hR=>?_
 rw [← ptR_set hs] at hR
 clear hs
 generalize hT:ptR x (decide (x.n=0)) l=T at *
 have hd0:decide ((x.n:Int)=0)=decide (x.n=0):=by rw [decide_eq_decide]; omega
 generalize hdn:decide (x.n=0)=dn at *
 simp only [puD]
 refine callD_W 69 Tryd.func54 rfl rfl rfl (fun _ _=>rfl) ?_
 refine wkl ?_
 clear hR; intro hR
 intros
 refine W_loopR (ι:=Bool × Nat × List PurseD) (fun q=>q.2.1≤l.length∧q.2.2.length≤q.2.1+(if q.1=true then 1 else 0)∧T=q.2.2++ptR x q.1 (l.drop q.2.1))
  (fun q=>stOf [(3,.pt 101 0 0 0),(5,.os 100 3 0 q.2.2.length),(6,boolD q.1),(12,.i (.sl (l.map encPu))),(13,intD l.length),(14,intD q.2.1)] [(100,.arr 3 (q.2.2.map encPu)),(101,.box ((encPu x).map .i))]) (fun q=>l.length - q.2.1) (dn,0,[]) ⟨Nat.zero_le _,by simp,by simp [hT]⟩ ?_ ?_
 ·exact le_ok [] [(101,1000)]
 ·rintro ⟨b,i,O⟩ ⟨hi,hO,hq⟩ RL hL
  simp only at hi hO hq
  rw [stOf_eq]
  have q0:O.length≤1048577:=by cases b <;> simp at hO <;> omega
  obtain ⟨z1,z2,z3,z4⟩:=pu_sz q0
  by_cases h:i < l.length
  ·have s0:=get_lt (f:=encPu) h
   rw [List.drop_eq_getElem_cons h,ptR] at hq
   have b0:=fun (b':Bool) (O':List PurseD) (e1:O'.length≤i+1+(if b'=true then 1 else 0)) (e2:T=O'++ptR x b' (l.drop (i+1))) (src:List (Nat × Nat)) σ'=>bk [] src (hL (b',i+1,O') σ' ⟨h,e1,e2⟩)
   simp only at b0
   clear hL hR hT hdn hd0
   generalize l[i]=p at *
   have g1:=eqS_cmp0 p.o x.o
   have g2:=eqS_cmp0 p.d x.d
   unfold cmpP pk at hq
   simp only at hq
   generalize hu:cmpS p.o x.o=u at *
   generalize hv:cmpS p.d x.d=v at *
   by_cases k:u=0∧v=0
   ·rw [if_pos (by rw [if_pos k.1]; exact k.2)] at hq
    have b1:=b0 b O (by cases b <;> simp at hO ⊢ <;> omega) hq [(100,100),(101,101)]
    clear b0 hq
    exact wkl trivial
   ·rw [if_neg (by split <;> omega)] at hq
    by_cases g:0 < u∨(u=0∧0 < v)
    ·cases b
     ·rw [if_pos ⟨rfl,by split <;> omega⟩] at hq
      have b1:=b0 true (O++[x]++[p]) (by simp at hO ⊢; omega) (by simpa using hq) [(100,3563),(101,101)]
      clear b0 hq
      exact wkl trivial
     ·rw [if_neg (by simp)] at hq
      have b1:=b0 true (O++[p]) (by simp at hO ⊢; omega) (by simpa using hq) [(100,3563),(101,101)]
      clear b0 hq
      exact wkl trivial
    ·rw [if_neg (by rintro ⟨_,e⟩; split at e <;> omega)] at hq
     have b1:=b0 b (O++[p]) (by cases b <;> simp at hO ⊢ <;> omega) (by simpa using hq) [(100,3563),(101,101)]
     clear b0 hq
     cases b
     all_goals exact wkl trivial
  ·rw [List.drop_eq_nil_of_le (by omega)] at hq
   clear hL hT hdn hd0
   cases b
   ·simp only [ptR,Bool.false_eq_true,if_false] at hq
    obtain ⟨rfl⟩:=hR
    rw [hq,List.map_append,List.map_cons,List.map_nil]
    clear hq
    refine wkl ?_
    repeat' (intro _)
    exact fin_slB (o:=4331) (sz:=3) (len:=O.length+1) rfl (by simp [upd]) (by simp) (by simp [upd,encPu])
   ·simp only [ptR,if_true,List.append_nil] at hq
    subst hq
    exact wkl trivial
end Go.Proofs.YtckjpabekmhnhaaDoor
