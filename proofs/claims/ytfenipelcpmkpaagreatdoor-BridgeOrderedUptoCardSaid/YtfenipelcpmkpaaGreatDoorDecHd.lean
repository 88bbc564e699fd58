/- What the rows hand in: validators, headers, what is signed. -/
import Derived.Test.YtfenipelcpmkpaaGreatDoorGHs
import Derived.Test.YtfenipelcpmkpaaGreatDoorGDec
set_option linter.all false
namespace Go.Proofs.YtfenipelcpmkpaaGreatDoor
open Go Go.Abs Go.RowKit Go.Proofs.YtfenipelcpmkpaaGreatDoor.Ty
def Ii (v:dO):Prop:=v.k < 18446744073709551616/\v.p < 18446744073709551616
theorem Vd {e:List I} (h:fO [.int .u64,.int .u64] e):∃ v:dO,e=ja v/\Ii v:=by
 obtain ⟨x,_,rfl,hx,h⟩:=hasCs_cons h
 obtain ⟨y,_,rfl,hy,h⟩:=hasCs_cons h
 obtain rfl:=hasCs_nil h
 obtain ⟨a,rfl,ha⟩:=dec_u64 hx
 obtain ⟨b,rfl,hb⟩:=dec_u64 hy
 exact ⟨⟨a,b⟩,rfl,ha,hb⟩
theorem dec_Vals {x:I} (h:HasC (.sl [.int .u64,.int .u64]) x):∃ l:List dO,x=valsI l/\∀ v∈l,Ii v:=dec_list (fun _ he=>Vd he) h
def Gu (x:jv):Prop:=x.r < 18446744073709551616/\x.s < 18446744073709551616
theorem Qg {e:List I} (h:fO [.bool,.int .u64,.int .u64] e):∃ v:jv,e=FL v/\Gu v:=by
 obtain ⟨x,_,rfl,hx,h⟩:=hasCs_cons h
 obtain ⟨y,_,rfl,hy,h⟩:=hasCs_cons h
 obtain ⟨z,_,rfl,hz,h⟩:=hasCs_cons h
 obtain rfl:=hasCs_nil h
 obtain ⟨a,rfl⟩:=dec_bool hx
 obtain ⟨b,rfl,hb⟩:=dec_u64 hy
 obtain ⟨c,rfl,hc⟩:=dec_u64 hz
 exact ⟨⟨a,b,c⟩,rfl,hb,hc⟩
theorem dec_Votes {x:I} (h:HasC (.sl [.bool,.int .u64,.int .u64]) x):∃ l:List jv,x=votesI l/\∀ v∈l,Gu v:=dec_list (fun _ he=>Qg he) h
end Go.Proofs.YtfenipelcpmkpaaGreatDoor
