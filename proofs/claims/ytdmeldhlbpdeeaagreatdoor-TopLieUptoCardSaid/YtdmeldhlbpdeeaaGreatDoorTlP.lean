/- landtop.TopLie, plain: who is believed says what stands in the book, or two lists of bytes have one digest. -/
import Derived.Test.YtdmeldhlbpdeeaaGreatDoorTsP
import Derived.Test.YtdmeldhlbpdeeaaGreatDoorClashP
set_option linter.all false
namespace Go.Proofs.YtdmeldhlbpdeeaaGreatDoor
open Go Go.Abs
theorem tlie {s:StateD}(ok:StOk s){K v:List UInt8}{p:b_}(hm:bF (cT (dW s).1) 3 2 K v p=0):p.k=K/\p.v=v/\dV (h_ (sortP (rawS s))) p=true:=by
 have hr:=lY ok;unfold bF at hm;rw[if_pos (AO hr.2.2),aaN]at hm;simp only at hm;rw[if_pos (QG _)]at hm;split at hm
 ·rename_i h;exact⟨h.1,h.2.1,by rw[<- hr.2.1];exact h.2.2⟩
 ·cases hm
theorem Mq {s:StateD}(ok:StOk s){K v:List UInt8}{p:b_}(hm:bF (cT (dW s).1) 3 2 K v p=0)(hno:∀q∈sortP (rawS s),¬(q.k=K/\q.v=v)):
  (jr (sortP (rawS s)) p).2.2=true/\(jr (sortP (rawS s)) p).1≠(jr (sortP (rawS s)) p).2.1/\sha (jr (sortP (rawS s)) p).1=sha (jr (sortP (rawS s)) p).2.1:=by
 obtain⟨h1,h2,h3⟩:=tlie ok hm;obtain⟨a,b⟩:=clash_told (book_right ok) h3;cases h:(jr (sortP (rawS s)) p).2.2 with
 |true=>exact⟨rfl,a h⟩
 |false =>obtain⟨_,hi,k,w⟩:=b h;exact absurd ⟨k.trans h1,w.trans h2⟩ (hno _ (List.getElem_mem hi))
end Go.Proofs.YtdmeldhlbpdeeaaGreatDoor
