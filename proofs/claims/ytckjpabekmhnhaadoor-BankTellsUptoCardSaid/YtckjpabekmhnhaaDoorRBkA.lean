/- landref10.Amount, Supply, Word, Put: by value. -/
import Derived.Test.YtckjpabekmhnhaaDoorBkR
set_option linter.all false
namespace Go.Proofs.YtckjpabekmhnhaaDoor
open Go Go.Abs Go.RowKit Go.Proofs.YtckjpabekmhnhaaDoor.Ty
def ptR (x:PurseD):Bool→List PurseD→List PurseD
 | dn,[]=>if dn=true then [] else [x]
 | dn,p :: t=>if cmpP (pk p) (pk x)=0 then ptR x dn t else if dn=false∧0 < cmpP (pk p) (pk x) then x :: p :: ptR x true t else p :: ptR x dn t
theorem gt_all {x p:PurseD} {t:List PurseD} (h:SrtP (p :: t)) (c:0≤cmpP (pk p) (pk x)):∀ y∈t,0 < cmpP (pk y) (pk x):=fun y hy=>by
 have h1:=(List.pairwise_cons.1 h).1 y hy
 by_cases e:cmpP (pk p) (pk x)=0
 ·rw [(cmpP_ok.zero _ _).1 e] at h1; exact (cmpP_ok.neg _ _).1 h1
 ·have h2:=(cmpP_ok.neg (pk x) (pk p)).2 (by omega)
  exact (cmpP_ok.neg _ _).1 (cmpP_ok.trans _ _ _ h2 h1)
theorem ptR_true {x:PurseD}:∀ {l:List PurseD},SrtP l→ptR x true l=l.filter (fun p=>decide (cmpP (pk p) (pk x) < 0))++l.filter (fun p=>decide (0 < cmpP (pk p) (pk x)))
 | [],_=>rfl
 | p :: t,h=>by
  have ih:=ptR_true (x:=x) (l:=t) (List.pairwise_cons.1 h).2
  rcases Int.lt_trichotomy (cmpP (pk p) (pk x)) 0 with c | c | c
  ·rw [ptR,if_neg (by omega),if_neg (by simp),ih,List.filter_cons_of_pos (by simpa using c),List.filter_cons_of_neg (by simp; omega)]; rfl
  ·rw [ptR,if_pos c,ih,List.filter_cons_of_neg (by simp; omega),List.filter_cons_of_neg (by simp; omega)]
  ·have f:(t.filter fun p=>decide (cmpP (pk p) (pk x) < 0))=[]:=List.filter_eq_nil_iff.2 fun y hy=>by have:=gt_all (x:=x) h (by omega) y hy; simp; omega
   rw [f] at ih
   rw [ptR,if_neg (by omega),if_neg (by simp),ih,List.filter_cons_of_neg (by simp; omega),List.filter_cons_of_pos (by simpa using c),f]; rfl
theorem ptR_false {x:PurseD}:∀ {l:List PurseD},SrtP l→ptR x false l=l.filter (fun p=>decide (cmpP (pk p) (pk x) < 0))++x :: l.filter (fun p=>decide (0 < cmpP (pk p) (pk x)))
 | [],_=>rfl
 | p :: t,h=>by
  have ih:=ptR_false (x:=x) (l:=t) (List.pairwise_cons.1 h).2
  rcases Int.lt_trichotomy (cmpP (pk p) (pk x)) 0 with c | c | c
  ·rw [ptR,if_neg (by omega),if_neg (by simp; omega),ih,List.filter_cons_of_pos (by simpa using c),List.filter_cons_of_neg (by simp; omega)]; rfl
  ·rw [ptR,if_pos c,ih,List.filter_cons_of_neg (by simp; omega),List.filter_cons_of_neg (by simp; omega)]
  ·have f:(t.filter fun p=>decide (cmpP (pk p) (pk x) < 0))=[]:=List.filter_eq_nil_iff.2 fun y hy=>by have:=gt_all (x:=x) h (by omega) y hy; simp; omega
   rw [ptR,if_neg (by omega),if_pos ⟨rfl,c⟩,ptR_true (List.pairwise_cons.1 h).2,f,List.filter_cons_of_neg (by simp; omega),List.filter_cons_of_pos (by simpa using c),f]; rfl
theorem ptR_set {l:List PurseD} (h:SrtP l) (x:PurseD):ptR x (decide (x.n=0)) l=setP l x.o x.d x.n:=by
 unfold setP putPu KL.put
 by_cases hn:x.n=0
 ·rw [decide_eq_true hn,if_pos hn,ptR_true h]; rfl
 ·rw [decide_eq_false hn,if_neg hn,ptR_false h]; rfl
theorem ptR_len {x:PurseD}:∀ {dn:Bool} {l:List PurseD},(ptR x dn l).length≤l.length+1
 | dn,[]=>by unfold ptR; split <;> simp
 | dn,p :: t=>by
  have i1:=ptR_len (x:=x) (dn:=dn) (l:=t)
  have i2:(ptR x true t).length≤t.length:=by
   have:∀ (t:List PurseD),(ptR x true t).length≤t.length:=fun t=>by
    induction t with
    | nil=>simp [ptR]
    | cons a t ih=>rw [ptR]; split; (simp; omega); rw [if_neg (by simp)]; simp; omega
   exact this t
  rw [ptR]
  split
  ·simp; omega
  ·split
   ·simp; omega
   ·simp; omega
theorem key_iff (p:PurseD) (o d:ByteArray):cmpP (pk p) (o,d)=0↔p.o=o∧p.d=d:=by
 rw [cmpP_ok.zero]; simp [pk]
theorem amt_cons {p:PurseD} {t:List PurseD} {o d:ByteArray}:amtP (p :: t) o d=if p.o=o∧p.d=d then p.n else amtP t o d:=by
 unfold amtP getP
 rw [KL.get_cons cmpP_ok]
 by_cases h:p.o=o∧p.d=d
 ·rw [if_pos ((key_iff p o d).2 h),if_pos h]
 ·rw [if_neg (fun e=>h ((key_iff p o d).1 e)),if_neg h]
theorem amt_nil0 {o d:ByteArray}:amtP [] o d=0:=rfl
theorem sup_more (l:List PurseD) (d:ByteArray) (i:Nat):supP (l.take i) d≤supP l d:=by
 conv=>rhs; rw [← List.take_append_drop i l]
 unfold supP; rw [List.map_append,List.sum_append]; omega
theorem beq_no {a b:ByteArray} (h:¬ a=b):(a == b)=false:=by rw [beqS]; exact decide_eq_false h
attribute [simp,go_sem] encPu
set_option maxHeartbeats 16000000
set_option maxRecDepth 20000
theorem ramt_A (l:List PurseD) (o d:ByteArray) (hl:l.length≤1048576):PureD Tryd.prog 20 [.i (.sl (l.map encPu)),.i (.s (.string o)),.i (.s (.string d))] (.i (.s (.int .u64 (amtP l o d:Int)))):=by
 refine hide_r fun R hR=>?_
 refine callD_W 28 Tryd.func20 rfl rfl rfl (fun _ _=>rfl) ?_
 refine wkl ?_
 clear hR; intro hR
 intros
 refine W_loopR (ι:=Nat) (fun i=>i≤l.length∧amtP l o d=amtP (l.drop i) o d) (fun i=>stOf [(0,.i (.sl (l.map encPu))),(1,.i (.s (.string o))),(2,.i (.s (.string d))),(9,.i (.sl (l.map encPu))),(10,intD l.length),(11,intD i)] []) (fun i=>l.length - i) 0 ⟨Nat.zero_le _,rfl⟩ ?_ ?_
 ·exact le_ok [] []
 ·rintro i ⟨hi,ht⟩ RL hL
  rw [stOf_eq]
  by_cases h:i < l.length
  ·have s0:=get_lt (f:=encPu) h
   rw [List.drop_eq_getElem_cons h,amt_cons] at ht
   rw [ht] at hR
   have b1:=fun e σ'=>bk [] [] (hL (i+1) σ' ⟨h,e⟩)
   clear hL
   generalize l[i]=x at *
   by_cases e1:x.o=o
   ·by_cases e2:x.d=d
    ·rw [if_pos ⟨e1,e2⟩] at hR
     have q1:(x.o == o)=true:=by rw [beqS]; exact decide_eq_true e1
     have q2:(x.d == d)=true:=by rw [beqS]; exact decide_eq_true e2
     clear b1 ht e1 e2
     exact wkl trivial
    ·rw [if_neg (fun q=>e2 q.2)] at hR ht
     have b1:=b1 ht
     have q1:(x.o == o)=true:=by rw [beqS]; exact decide_eq_true e1
     have q2:=beq_no e2
     clear ht e1 e2
     exact wkl trivial
   ·rw [if_neg (fun q=>e1 q.1)] at hR ht
    have b1:=b1 ht
    have q1:=beq_no e1
    clear ht e1
    exact wkl trivial
  ·rw [ht,List.drop_eq_nil_of_le (by omega),amt_nil0] at hR
   clear hL ht
   exact wkl trivial
end Go.Proofs.YtckjpabekmhnhaaDoor
