/- What the rows hand in: validators, headers, what is signed. -/
import Derived.Test.YtfenipelcpmkpaaGreatDoorGHs
import Derived.Test.YtfenipelcpmkpaaGreatDoorGDec
set_option linter.all false
namespace Go.Proofs.YtfenipelcpmkpaaGreatDoor
open Go Go.Abs Go.RowKit Go.Proofs.YtfenipelcpmkpaaGreatDoor.Ty
def Iw (v:dR):Prop:=v.k < 18446744073709551616/\v.p < 18446744073709551616
theorem Vf {e:List I} (h:fQ [.int .u64,.int .u64] e):∃ v:dR,e=jd v/\Iw v:=by
 obtain ⟨x,_,rfl,hx,h⟩:=hasCs_cons h
 obtain ⟨y,_,rfl,hy,h⟩:=hasCs_cons h
 obtain rfl:=hasCs_nil h
 obtain ⟨a,rfl,ha⟩:=dec_u64 hx
 obtain ⟨b,rfl,hb⟩:=dec_u64 hy
 exact ⟨⟨a,b⟩,rfl,ha,hb⟩
theorem dec_Vals {x:I} (h:HasC (.sl [.int .u64,.int .u64]) x):∃ l:List dR,x=valsI l/\∀ v∈l,Iw v:=dec_list (fun _ he=>Vf he) h
def GG (x:jB):Prop:=x.r < 18446744073709551616/\x.s < 18446744073709551616
theorem Qp {e:List I} (h:fQ [.bool,.int .u64,.int .u64] e):∃ v:jB,e=FQ v/\GG v:=by
 obtain ⟨x,_,rfl,hx,h⟩:=hasCs_cons h
 obtain ⟨y,_,rfl,hy,h⟩:=hasCs_cons h
 obtain ⟨z,_,rfl,hz,h⟩:=hasCs_cons h
 obtain rfl:=hasCs_nil h
 obtain ⟨a,rfl⟩:=dec_bool hx
 obtain ⟨b,rfl,hb⟩:=dec_u64 hy
 obtain ⟨c,rfl,hc⟩:=dec_u64 hz
 exact ⟨⟨a,b,c⟩,rfl,hb,hc⟩
theorem dec_Votes {x:I} (h:HasC (.sl [.bool,.int .u64,.int .u64]) x):∃ l:List jB,x=votesI l/\∀ v∈l,GG v:=dec_list (fun _ he=>Qp he) h
end Go.Proofs.YtfenipelcpmkpaaGreatDoor
