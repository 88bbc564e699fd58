/- What the rows hand in: validators, headers, what is signed. -/
import Derived.Test.YtkbbipgjmoanhaaGreatDoorGHs
import Derived.Test.YtkbbipgjmoanhaaGreatDoorGDec
set_option linter.all false
namespace Go.Proofs.YtkbbipgjmoanhaaGreatDoor
open Go Go.Abs Go.RowKit Go.Proofs.YtkbbipgjmoanhaaGreatDoor.Ty
def GJ (v:dI):Prop:=v.k < 18446744073709551616/\v.p < 18446744073709551616
theorem TY {e:List I} (h:HasCs [.int .u64,.int .u64] e):∃ v:dI,e=encV v/\GJ v:=by
 obtain ⟨x,_,rfl,hx,h⟩:=hasCs_cons h
 obtain ⟨y,_,rfl,hy,h⟩:=hasCs_cons h
 obtain rfl:=hasCs_nil h
 obtain ⟨a,rfl,ha⟩:=dec_u64 hx
 obtain ⟨b,rfl,hb⟩:=dec_u64 hy
 exact ⟨⟨a,b⟩,rfl,ha,hb⟩
theorem dec_Vals {x:I} (h:HasC (.sl [.int .u64,.int .u64]) x):∃ l:List dI,x=valsI l/\∀ v∈l,GJ v:=dec_list (fun _ he=>TY he) h
def FJ (x:jk):Prop:=x.r < 18446744073709551616/\x.s < 18446744073709551616
theorem Pm {e:List I} (h:HasCs [.bool,.int .u64,.int .u64] e):∃ v:jk,e=encX v/\FJ v:=by
 obtain ⟨x,_,rfl,hx,h⟩:=hasCs_cons h
 obtain ⟨y,_,rfl,hy,h⟩:=hasCs_cons h
 obtain ⟨z,_,rfl,hz,h⟩:=hasCs_cons h
 obtain rfl:=hasCs_nil h
 obtain ⟨a,rfl⟩:=dec_bool hx
 obtain ⟨b,rfl,hb⟩:=dec_u64 hy
 obtain ⟨c,rfl,hc⟩:=dec_u64 hz
 exact ⟨⟨a,b,c⟩,rfl,hb,hc⟩
theorem dec_Votes {x:I} (h:HasC (.sl [.bool,.int .u64,.int .u64]) x):∃ l:List jk,x=votesI l/\∀ v∈l,FJ v:=dec_list (fun _ he=>Pm he) h
end Go.Proofs.YtkbbipgjmoanhaaGreatDoor
