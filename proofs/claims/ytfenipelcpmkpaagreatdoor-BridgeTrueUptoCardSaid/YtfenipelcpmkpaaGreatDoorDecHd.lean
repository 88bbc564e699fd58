/- What the rows hand in: validators, headers, what is signed. -/
import Derived.Test.YtfenipelcpmkpaaGreatDoorGHs
import Derived.Test.YtfenipelcpmkpaaGreatDoorGDec
set_option linter.all false
namespace Go.Proofs.YtfenipelcpmkpaaGreatDoor
open Go Go.Abs Go.RowKit Go.Proofs.YtfenipelcpmkpaaGreatDoor.Ty
def Ic (v:dN):Prop:=v.k < 18446744073709551616/\v.p < 18446744073709551616
theorem Va {e:List I} (h:fP [.int .u64,.int .u64] e):∃ v:dN,e=jh v/\Ic v:=by
 obtain ⟨x,_,rfl,hx,h⟩:=hasCs_cons h
 obtain ⟨y,_,rfl,hy,h⟩:=hasCs_cons h
 obtain rfl:=hasCs_nil h
 obtain ⟨a,rfl,ha⟩:=dec_u64 hx
 obtain ⟨b,rfl,hb⟩:=dec_u64 hy
 exact ⟨⟨a,b⟩,rfl,ha,hb⟩
theorem dec_Vals {x:I} (h:HasC (.sl [.int .u64,.int .u64]) x):∃ l:List dN,x=valsI l/\∀ v∈l,Ic v:=dec_list (fun _ he=>Va he) h
def Gn (x:jE):Prop:=x.r < 18446744073709551616/\x.s < 18446744073709551616
theorem Qi {e:List I} (h:fP [.bool,.int .u64,.int .u64] e):∃ v:jE,e=FH v/\Gn v:=by
 obtain ⟨x,_,rfl,hx,h⟩:=hasCs_cons h
 obtain ⟨y,_,rfl,hy,h⟩:=hasCs_cons h
 obtain ⟨z,_,rfl,hz,h⟩:=hasCs_cons h
 obtain rfl:=hasCs_nil h
 obtain ⟨a,rfl⟩:=dec_bool hx
 obtain ⟨b,rfl,hb⟩:=dec_u64 hy
 obtain ⟨c,rfl,hc⟩:=dec_u64 hz
 exact ⟨⟨a,b,c⟩,rfl,hb,hc⟩
theorem dec_Votes {x:I} (h:HasC (.sl [.bool,.int .u64,.int .u64]) x):∃ l:List jE,x=votesI l/\∀ v∈l,Gn v:=dec_list (fun _ he=>Qi he) h
end Go.Proofs.YtfenipelcpmkpaaGreatDoor
