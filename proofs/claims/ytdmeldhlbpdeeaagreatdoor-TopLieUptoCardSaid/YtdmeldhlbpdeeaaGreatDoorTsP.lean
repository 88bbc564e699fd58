/- landtop.TopShown, plain: what stands in a state's book is shown to who follows its header, and what does not is shown to be missing. -/
import Derived.Test.YtdmeldhlbpdeeaaGreatDoorGTq
set_option linter.all false
namespace Go.Proofs.YtdmeldhlbpdeeaaGreatDoor
open Go Go.Abs
theorem agT {r:List UInt8}(hr:r.length=32):xD (cT r):=by
 refine⟨(show ic nmB=true by decide),(show(1:Int)<=50/\(50:Int)<=1000000000000 by decide),(show 1<=2/\2<=30 by decide),λk hk=>?_,?_⟩
 ·rcases List.mem_cons.1 (show k∈[kT,⟨2,2,r,digestV valT⟩]from hk)with rfl|hk
  ·exact Un
  ·rw[List.mem_singleton.1 hk];exact⟨(show(1:Int)<=2/\(2:Int)<=1000000000000 by decide),(show(0:Int)<=2/\(2:Int)<=1000000000000 by decide),hr,oI _⟩
 ·show List.Pairwise _ [kT,⟨2,2,r,digestV valT⟩];refine List.Pairwise.cons (λk hk=>?_) (List.pairwise_singleton _ _);rw[List.mem_singleton.1 hk];exact(show(1:Int)<2 by decide)
theorem AO {r:List UInt8}(hr:r.length=32):dJ (cT r) 3=0:=by unfold dJ;rw[if_pos (cu.2 (agT hr)),if_pos (show lw 3=true by decide)];rfl
theorem QG (r:List UInt8):gp (cT r) 3=true:=by show(!false&&decide ((3:Int)-2<50))=true;decide
theorem aaN (r:List UInt8):atC (cT r) 2=some ⟨2,2,r,digestV valT⟩:=rfl
theorem YQ {s:StateD}(ok:StOk s){K v:List UInt8}(hm:(⟨K,v⟩:aN)∈sortP (rawS s)):(iQ (sortP (rawS s)) K).2=0/\bF (cT (dW s).1) 3 2 K v (iQ (sortP (rawS s)) K).1=0:=by
 have hr:=lY ok;obtain⟨h1,h2,h3⟩:=show_has (book_right ok) hm;constructor
 ·have hh:dV (h_ (sortP (rawS s))) mJ=false:=by
   cases q:dV (h_ (sortP (rawS s))) mJ with
   |false=>rfl
   |true=>unfold dV at q;rw[show pz mJ=false by decide]at q;cases q
  unfold iQ at h3⊢;rw[gN (book_right ok)]at h3⊢;simp only[if_true]at h3⊢;split at h3
  ·rename_i g;rw[dif_pos g];split at h3
   ·rename_i g2;rw[if_pos g2]
   ·rw[hh]at h3;cases h3
  ·rw[hh]at h3;cases h3
 ·unfold bF;rw[if_pos (AO hr.2.2),aaN];simp only;rw[if_pos (QG _),if_pos ⟨h1,h2,by rw[hr.2.1];exact h3⟩]
theorem YR {s:StateD}(ok:StOk s)(K:List UInt8):¬(LD (sortP (rawS s)) K).2=0\/kI (cT (dW s).1) 3 2 K (LD (sortP (rawS s)) K).1=0:=by
 have hr:=lY ok;cases ht:oL (sortP (rawS s)) K with
 |true =>left;unfold LD;rw[gN (book_right ok)];simp only[if_true,ht];decide
 |false =>right;unfold kI;rw[if_pos (AO hr.2.2),aaN];simp only;rw[if_pos (QG _),if_pos (by rw[hr.2.1];exact Rf (book_right ok) K ht)]
end Go.Proofs.YtdmeldhlbpdeeaaGreatDoor
