/- A call to which boxes are lent, that reads them and leaves them: its result bears none of them. -/
import Derived.Test.YtckjpabekmhnhaaDoorAbs4
set_option linter.all false
namespace Go.Abs
open Go Go.RowKit
section
variable {P:Program} {n:Nat} {σ:St} {ks:List Fr} {Q:Ex→St→Prop} {rid k:Nat} {ops:Array Oper} {rest:List It} {acc:Acc} {H:Nat→Ob} {g:FuncId}
def pts (l:List Nat):List D:=l.map fun o=>.pt o 0 0 0
def hB (css:List (List D)):Nat→Ob:=fun i=>match css[i]? with | some cs=>.box cs | none=>.fresh
theorem nd_inj:∀ {l:List Nat} {i j:Nat} {o:Nat},l.Nodup→l[i]?=some o→l[j]?=some o→i=j
 | [],i,j,o,_,h,_=>by simp at h
 | a :: t,0,0,o,_,_,_=>rfl
 | a :: t,0,j+1,o,h,h1,h2=>by
  simp at h1 h2; subst h1
  exact absurd (List.mem_of_getElem? h2) (List.nodup_cons.1 h).1
 | a :: t,i+1,0,o,h,h1,h2=>by
  simp at h1 h2; subst h2
  exact absurd (List.mem_of_getElem? h1) (List.nodup_cons.1 h).1
 | a :: t,i+1,j+1,o,h,h1,h2=>by
  simp at h1 h2
  rw [nd_inj (List.nodup_cons.1 h).2 h1 h2]
theorem cvs_pts {F:List Nat} {s:Nat→Option Nat}:∀ (own:List Nat) (k:Nat),(∀ j o,own[j]?=some o→s (k+j)=some o)→cvs H F s (pts own) (pts (List.range' k own.length))
 | [],_,_=>trivial
 | o :: t,k,h=>by
  refine ⟨?_,cvs_pts t (k+1) fun j o' hj=>?_⟩
  ·simp only [cv1,cv0]
   exact ⟨o,by simpa using h 0 o (by simp),rfl⟩
  ·have:=h (j+1) o' (by simpa using hj)
   rwa [show k+1+j=k+(j+1) by omega]
theorem idx_get {l:List Nat} {o:Nat} (h:o∈l):l[l.idxOf o]?=some o:=by
 rw [List.getElem?_eq_getElem (List.idxOf_lt_length_iff.2 h)]; simp
theorem call_boxes {css:List (List D)} {r:D} {own:List Nat} (hL:CallD P g (pts (List.range' 0 own.length)) (hB css) r (hB css)) (hlen:own.length=css.length) (hnd:own.Nodup)
  (hown:∀ (j o:Nat) (cs:List D),own[j]?=some o→css[j]?=some cs→H o=.box cs) (hc:∀ cs∈css,cs.all D.val=true∧cs.all D.one=true) (hr:∀ H' s',cv H' [] s' r r):CallD P g (pts own) H r H:=by
 have hcs:∀ {l o:Nat},own[l]?=some o→∃ cs,css[l]?=some cs∧H o=.box cs∧cs.all D.val=true∧cs.all D.one=true:=by
  intro l o h
  have hl:l < css.length:=by have:=(List.getElem?_eq_some_iff.1 h).1; omega
  refine ⟨css[l],List.getElem?_eq_getElem hl,hown l o _ h (List.getElem?_eq_getElem hl),hc _ (List.getElem_mem hl)⟩
 have h:=call_frame (H:=H) (gs:=pts own) (L2:=fun a=>if a∈own then H a else .dead) (r':=r) [] (fun l=>own[l]?) (fun a=>if a∈own then some (own.idxOf a) else none) hL
  (cvs_pts own 0 fun j o hj=>by rw [Nat.zero_add]; exact hj)
  (fun a=>by
   cases ha:own[a]? with
   | none =>
    left
    refine ⟨?_,rfl⟩
    unfold hB
    rw [List.getElem?_eq_none (by have:=List.getElem?_eq_none_iff.1 ha; omega)]
   | some o =>
    right; right; right
    obtain ⟨cs,h1,h2,h3,h4⟩:=hcs ha
    refine ⟨o,rfl,?_⟩
    unfold hB
    rw [h1]
    exact ⟨cs,by simpa [frz] using h2,.inl (cvL_val h3),h4⟩)
  (fun a b c h1 h2 h3 h4=>nd_inj hnd h3 h4)
  (fun a=>by
   by_cases h1:a∈own
   ·right; right; right
    refine ⟨own.idxOf a,by simp [h1],?_⟩
    obtain ⟨cs,g1,g2,g3,g4⟩:=hcs (idx_get h1)
    simp only [h1,if_true]
    rw [g2]
    refine ⟨cs,?_,.inl (cvL_val g3),g4⟩
    unfold hB
    simp [frz,g1]
   ·right; left; simp [h1])
  (fun a b c h1 h2 h3 h4=>by
   by_cases ha:a∈own
   ·by_cases hb:b∈own
    ·simp only [ha,hb,if_true,Option.some.injEq] at h3 h4
     have e1:=idx_get ha
     have e2:=idx_get hb
     rw [h3] at e1
     rw [h4,e1] at e2
     injection e2
    ·simp [hb] at h4
   ·simp [ha] at h3)
  (hr _ _)
  (fun l a h=>by
   have hm:a∈own:=List.mem_of_getElem? h
   simp only [hm,if_true]
   rw [nd_inj hnd h (idx_get hm)])
  (fun a l h=>by
   by_cases h0:a∈own
   ·simp only [h0,if_true,Option.some.injEq] at h
    subst h
    exact .inl (idx_get h0)
   ·simp [h0] at h)
 have e:(fun a=>if ((if a∈own then some (own.idxOf a) else none:Option Nat)).isSome then (if a∈own then H a else .dead) else frz [] H a)=H:=by
  funext a
  by_cases h1:a∈own
  ·simp [h1]
  ·simp [h1,frz]
 rw [e] at h
 exact h
def boxesOk (H:Nat→Ob):List Nat→List (List D)→Prop
 | [],[]=>True
 | o :: t,cs :: u=>H o=.box cs∧boxesOk H t u
 | _,_=>False
theorem boxes_get {G:Nat→Ob}:∀ {own:List Nat} {css:List (List D)},boxesOk G own css→own.length=css.length∧∀ (j o:Nat) (cs:List D),own[j]?=some o→css[j]?=some cs→G o=.box cs
 | [],[],_=>⟨rfl,fun j o cs h=>by simp at h⟩
 | o :: t,cs :: u,h=>by
  obtain ⟨h1,h2⟩:=boxes_get h.2
  refine ⟨by simp [h1],fun j o' cs' g1 g2=>?_⟩
  cases j with
  | zero=>simp at g1 g2; subst g1 g2; exact h.1
  | succ j=>exact h2 j o' cs' (by simpa using g1) (by simpa using g2)
 | [],_ :: _,h=>h.elim
 | _ :: _,[],h=>h.elim
def cssOk (css:List (List D)):Bool:=css.all fun cs=>cs.all D.val && cs.all D.one
theorem Call_boxes {css:List (List D)} {r:D} {dst:Option Nat} (own:List Nat) {args:List D} (hL:CallD P g (pts (List.range' 0 own.length)) (hB css) r (hB css)) (hnd:own.Nodup) (ho:boxesOk σ.H own css) (hc:cssOk css=true) (hr:∀ H' s',cv H' [] s' r r)
  (ha:args=pts own) (h:Ro P n rid rest (σ.put dst r) ks Q):Call P n rid g args dst rest σ ks Q:=by
 subst ha
 obtain ⟨h1,h2⟩:=boxes_get ho
 have hc':∀ cs∈css,cs.all D.val=true∧cs.all D.one=true:=fun cs hcs=>by
  have:=List.all_eq_true.1 hc cs hcs
  simpa only [Bool.and_eq_true] using this
 exact ⟨r,σ.H,.inl (call_boxes hL h1 hnd h2 hc' hr),h⟩
theorem boxes_agree {G G':Nat→Ob}:∀ {own:List Nat} {css:List (List D)},(∀ o∈own,G o=G' o)→boxesOk G' own css→boxesOk G own css
 | [],[],_,_=>trivial
 | o :: t,cs :: u,h,g=>⟨(h o (by simp)).trans g.1,boxes_agree (fun o ho=>h o (List.mem_cons_of_mem _ ho)) g.2⟩
 | [],_ :: _,_,h=>h.elim
 | _ :: _,[],_,h=>h.elim
theorem CallF_boxes {css:List (List D)} {r:D} {dst:Option Nat} (own:List Nat) {args:List D} (hL:CallD P g (pts (List.range' 0 own.length)) (hB css) r (hB css)) (hnd:own.Nodup) (ho:boxesOk σ.H own css) (hc:cssOk css=true) (hr:∀ H' s',cv H' [] s' r r)
  (ha:args=pts own) (h:Rd P n rid ops rest ((k,own,[]) :: acc) (σ.put dst r) ks Q):CallF P n rid ops g args k dst rest acc σ ks Q:=by
 subst ha
 have hc':∀ cs∈css,cs.all D.val=true∧cs.all D.one=true:=fun cs hcs=>by
  have:=List.all_eq_true.1 hc cs hcs
  simpa only [Bool.and_eq_true] using this
 refine ⟨⟨r,own,[],fun G=>G⟩,⟨⟨by simp,fun _ _ _=>rfl,fun _ _ _ k hk=>by simp at hk⟩,fun G hG=>.inl ?_⟩,h⟩
 obtain ⟨h1,h2⟩:=boxes_get (boxes_agree hG ho)
 exact call_boxes hL h1 hnd h2 hc' hr
theorem lk_or {α:Type} {o:Nat}:∀ (l:List (Nat × α)),(∀ d d',lk l d o=lk l d' o)∨(∀ d,lk l d o=d)
 | []=>.inr fun _=>rfl
 | (i,x) :: t=>by
  by_cases h:o=i
  ·left; intro d d'; simp [lk,h]
  ·rcases lk_or (o:=o) t with h1 | h1
   ·left; intro d d'; simp [lk,h,h1 d d']
   ·right; intro d; simp [lk,h,h1]
theorem hOf_hF (objs:List (Nat × Ob)):hOf (hF objs) objs=hF objs:=by
 funext o
 unfold hOf hF
 rcases lk_or (o:=o) objs with h | h
 ·exact h _ _
 ·rw [h,h]
theorem fin_ttF {fn:Func} {i j:Tmp} {r:D} {sl:Nat→D} (objs:List (Nat × Ob)) (F:List Nat) (h:fn.results=#[.tmp i,.tmp j]) (hv:cv H F (srcR (hF objs) []) (.tup [sl i,sl j]) r) (ho:∀ p∈objs,objOk H F (srcR (hF objs) []) p) :
  Fin P fn (hF objs) r (hF objs) .ret ⟨sl,H⟩:=by
 have:=ler_of (d:=.tup [sl i,sl j]) (r:=r) objs F [] hv ho rfl (fun p hp=>by simp at hp) rfl
 rw [hOf_hF] at this
 exact ⟨_,resA_tt h,this⟩
theorem fin_retF {fn:Func} {i:Tmp} {r:D} {sl:Nat→D} (objs:List (Nat × Ob)) (F:List Nat) (h:fn.results=#[.tmp i]) (hv:cv H F (srcR (hF objs) []) (sl i) r) (ho:∀ p∈objs,objOk H F (srcR (hF objs) []) p) :
  Fin P fn (hF objs) r (hF objs) .ret ⟨sl,H⟩:=by
 have:=ler_of (d:=sl i) (r:=r) objs F [] hv ho rfl (fun p hp=>by simp at hp) rfl
 rw [hOf_hF] at this
 exact ⟨_,resA_tmp h,this⟩
theorem hB4 {a b c d:List D}:hB [a,b,c,d]=hF [(0,.box a),(1,.box b),(2,.box c),(3,.box d)]:=by
 funext i
 match i with
 | 0=>rfl | 1=>rfl | 2=>rfl | 3=>rfl
 | i+4=>simp [hB,hF,lk]
theorem hB5 {a b c d e:List D}:hB [a,b,c,d,e]=hF [(0,.box a),(1,.box b),(2,.box c),(3,.box d),(4,.box e)]:=by
 funext i
 match i with
 | 0=>rfl | 1=>rfl | 2=>rfl | 3=>rfl | 4=>rfl
 | i+5=>simp [hB,hF,lk]
theorem hB3 {a b c:List D}:hB [a,b,c]=hF [(0,.box a),(1,.box b),(2,.box c)]:=by
 funext i
 match i with
 | 0=>rfl | 1=>rfl | 2=>rfl
 | i+3=>simp [hB,hF,lk]
theorem hB2 {a b:List D}:hB [a,b]=hF [(0,.box a),(1,.box b)]:=by
 funext i
 match i with
 | 0=>rfl | 1=>rfl
 | i+2=>simp [hB,hF,lk]
theorem hB1 {a:List D}:hB [a]=hF [(0,.box a)]:=by
 funext i
 match i with
 | 0=>rfl
 | i+1=>simp [hB,hF,lk]
end
end Go.Abs
