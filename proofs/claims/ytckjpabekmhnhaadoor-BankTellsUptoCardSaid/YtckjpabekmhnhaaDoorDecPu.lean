/- What the rows hand in: purses, transfers. -/
import Derived.Test.YtckjpabekmhnhaaDoorRight
import Derived.Test.YtckjpabekmhnhaaDoorAbs4
set_option linter.all false
namespace Go.Proofs.YtckjpabekmhnhaaDoor
open Go Go.Abs Go.RowKit Go.Proofs.YtckjpabekmhnhaaDoor.Ty
structure TranD where
 d:ByteArray
 n:Nat
 s:ByteArray
 r:ByteArray
def encTr (t:TranD):List I:=[.s (.string t.d),.s (.int .u64 t.n),.s (.string t.s),.s (.string t.r)]
def trD (t:TranD):D:=.agg [.i (.s (.string t.d)),.i (.s (.int .u64 t.n)),.i (.s (.string t.s)),.i (.s (.string t.r))]
theorem tr_agg (t:TranD):D.agg ((encTr t).map .i)=trD t:=rfl
theorem dec_Purse {e:List I} (h:HasCs [.str,.str,.int .u64] e):∃ p:PurseD,e=encPu p∧p.n < 18446744073709551616:=by
 obtain ⟨x,_,rfl,hx,h⟩:=hasCs_cons h
 obtain ⟨y,_,rfl,hy,h⟩:=hasCs_cons h
 obtain ⟨z,_,rfl,hz,h⟩:=hasCs_cons h
 obtain rfl:=hasCs_nil h
 obtain ⟨a,rfl,_⟩:=dec_str hx
 obtain ⟨b,rfl,_⟩:=dec_str hy
 obtain ⟨c,rfl,hc⟩:=dec_u64 hz
 exact ⟨⟨a,b,c⟩,rfl,hc⟩
theorem dec_Purses {x:I} (h:HasC (.sl [.str,.str,.int .u64]) x):∃ l:List PurseD,x=pusI l∧∀ p∈l,p.n < 18446744073709551616:=by
 obtain ⟨l,h1,h2⟩:=dec_list (fun _ he=>dec_Purse he) h
 exact ⟨l,h1,h2⟩
theorem dec_Transfer {e:List I} (h:HasCs [.str,.int .u64,.str,.str] e):∃ t:TranD,e=encTr t∧t.n < 18446744073709551616:=by
 obtain ⟨x,_,rfl,hx,h⟩:=hasCs_cons h
 obtain ⟨y,_,rfl,hy,h⟩:=hasCs_cons h
 obtain ⟨z,_,rfl,hz,h⟩:=hasCs_cons h
 obtain ⟨u,_,rfl,hu,h⟩:=hasCs_cons h
 obtain rfl:=hasCs_nil h
 obtain ⟨a,rfl,_⟩:=dec_str hx
 obtain ⟨c,rfl,hc⟩:=dec_u64 hy
 obtain ⟨s,rfl,_⟩:=dec_str hz
 obtain ⟨r,rfl,_⟩:=dec_str hu
 exact ⟨⟨a,c,s,r⟩,rfl,hc⟩
theorem purses_len {l:List PurseD} {n:Nat} (h:bkI (pusI l)≤n):l.length≤n:=Nat.le_trans (bk_len _ _) h
theorem dec_eqN (a b:Nat):decide ((a:Int)=(b:Int))=decide (a=b):=by
 by_cases e:a=b
 ·rw [decide_eq_true e,decide_eq_true (by omega)]
 ·rw [decide_eq_false e,decide_eq_false (by omega)]
end Go.Proofs.YtckjpabekmhnhaaDoor
