/- Lists over lists: plain. -/
import Derived.Test.YtckjpabekmhnhaaDoorAbs4
set_option linter.all false
namespace Go.Proofs.YtckjpabekmhnhaaDoor
open Go Go.Abs Go.RowKit
theorem over_at {a b E:List (List I)} {off:Nat} (h:off=a.length):over (a++b) off E=a++(E++b.drop E.length):=by
 subst h
 unfold over
 have hd:List.drop (a.length+E.length) (a++b)=b.drop E.length:=by
  rw [List.drop_append,List.drop_eq_nil_of_le (Nat.le_add_right _ _),List.nil_append,Nat.add_sub_cancel_left]
 rw [List.take_left,List.append_assoc,hd]
theorem ins_shift {es:List (List I)} {p:List I} {i:Nat} (hlt:i < es.length):over (over es (i+1) (es.drop i)) i [p]=es.take i++p :: es.drop i:=by
 have hd:(es.drop (i+1)).drop (es.drop i).length=[]:=List.drop_eq_nil_of_le (by simp; omega)
 have h1:over es (i+1) (es.drop i)=es.take (i+1)++(es.drop i++[]):=by
  have:=over_at (a:=es.take (i+1)) (b:=es.drop (i+1)) (E:=es.drop i) (off:=i+1) (by simp; omega)
  rw [List.take_append_drop,hd] at this
  exact this
 rw [h1,List.append_nil,List.take_succ_eq_append_getElem hlt,List.append_assoc,over_at (by simp; omega)]
 simp
theorem ins_grow {es R:List (List I)} {p:List I} {i:Nat} (hlt:i < es.length) (hR:R.length=es.length+1 - i):over (over (es.take i++R) i [p]) (i+1) (es.drop i)=es.take i++p :: es.drop i:=by
 rw [over_at (by simp; omega)]
 have h1:es.take i++([p]++R.drop [p].length)=(es.take i++[p])++R.drop 1:=by simp
 have hd:(R.drop 1).drop (es.drop i).length=[]:=List.drop_eq_nil_of_le (by simp only [List.length_drop]; omega)
 rw [h1,over_at (by simp; omega),hd]
 simp
theorem over_len {es E:List (List I)} {off:Nat} (h:off+E.length≤es.length):(over es off E).length=es.length:=by
 simp [over]; omega
theorem uN {n:Nat} {es:List (List I)} (h:∀ e∈es,e.length=n):uni n es=true:=by
 simp only [uni,List.all_eq_true,beq_iff_eq]; exact h
theorem del_over {es R:List (List I)} {i:Nat} (hlt:i < es.length):(over (over es i (es.drop (i+1))) (es.length - 1) R).take (es.length - 1)=es.take i++es.drop (i+1):=by
 have h1:over es i (es.drop (i+1))=(es.take i++es.drop (i+1))++(es.drop i).drop (es.drop (i+1)).length:=by
  have:=over_at (a:=es.take i) (b:=es.drop i) (E:=es.drop (i+1)) (off:=i) (by simp; omega)
  rw [List.take_append_drop] at this
  rw [this,List.append_assoc]
 have hl:(es.take i++es.drop (i+1)).length=es.length - 1:=by simp; omega
 rw [h1,over_at hl.symm,← hl,List.take_left]
end Go.Proofs.YtckjpabekmhnhaaDoor
