/- What the rows hand in: validators, headers, what is signed. -/
import Derived.Test.YtadoaljnfeoecaaGreatDoorGHs
import Derived.Test.YtadoaljnfeoecaaGreatDoorGDec
set_option linter.all false
namespace Go.Proofs.YtadoaljnfeoecaaGreatDoor
open Go Go.Abs Go.RowKit Go.Proofs.YtadoaljnfeoecaaGreatDoor.Ty
def Val64 (v:ValD):Prop:=v.k < 18446744073709551616∧v.p < 18446744073709551616
theorem dec_Val {e:List I} (h:HasCs [.int .u64,.int .u64] e):∃ v:ValD,e=encV v∧Val64 v:=by
 obtain ⟨x,_,rfl,hx,h⟩:=hasCs_cons h
 obtain ⟨y,_,rfl,hy,h⟩:=hasCs_cons h
 obtain rfl:=hasCs_nil h
 obtain ⟨a,rfl,ha⟩:=dec_u64 hx
 obtain ⟨b,rfl,hb⟩:=dec_u64 hy
 exact ⟨⟨a,b⟩,rfl,ha,hb⟩
theorem dec_Vals {x:I} (h:HasC (.sl [.int .u64,.int .u64]) x):∃ l:List ValD,x=valsI l∧∀ v∈l,Val64 v:=dec_list (fun _ he=>dec_Val he) h
def Vote64 (x:VoteD):Prop:=x.r < 18446744073709551616∧x.s < 18446744073709551616
theorem dec_Vote {e:List I} (h:HasCs [.bool,.int .u64,.int .u64] e):∃ v:VoteD,e=encX v∧Vote64 v:=by
 obtain ⟨x,_,rfl,hx,h⟩:=hasCs_cons h
 obtain ⟨y,_,rfl,hy,h⟩:=hasCs_cons h
 obtain ⟨z,_,rfl,hz,h⟩:=hasCs_cons h
 obtain rfl:=hasCs_nil h
 obtain ⟨a,rfl⟩:=dec_bool hx
 obtain ⟨b,rfl,hb⟩:=dec_u64 hy
 obtain ⟨c,rfl,hc⟩:=dec_u64 hz
 exact ⟨⟨a,b,c⟩,rfl,hb,hc⟩
theorem dec_Votes {x:I} (h:HasC (.sl [.bool,.int .u64,.int .u64]) x):∃ l:List VoteD,x=votesI l∧∀ v∈l,Vote64 v:=dec_list (fun _ he=>dec_Vote he) h
end Go.Proofs.YtadoaljnfeoecaaGreatDoor
