/- Merged texts: DecB, Dec5, DecC0. -/
import Derived.Test.YtfenipelcpmkpaaGreatDoorGCl
set_option linter.all false
namespace Go.Proofs.YtfenipelcpmkpaaGreatDoor
open Go Go.Abs Go.RowKit
theorem dec_bb {e:List I} (h:fP [.sl [.int .u8]] e):∃ b:List UInt8,e=[bI b]/\True:=by
 obtain ⟨x,_,rfl,hx,h⟩:=hasCs_cons h
 obtain rfl:=hasCs_nil h
 obtain ⟨a,rfl⟩:=dec_B hx
 exact ⟨a,rfl,trivial⟩
theorem dec_BB {x:I} (h:HasC (.sl [.sl [.int .u8]]) x):∃ l:List (List UInt8),x=bbI l:=by
 obtain ⟨l,h1,_⟩:=dec_list (fun _ he=>dec_bb he) h
 exact ⟨l,h1⟩
open Go.Proofs.YtfenipelcpmkpaaGreatDoor.Ty
end Go.Proofs.YtfenipelcpmkpaaGreatDoor
