/- Chapter 14's laws, plain: clock, supply, what is refused, the past, sides. No program is in sight. -/
import Derived.Test.YtfenipelcpmkpaaGreatDoorGBc
set_option linter.all false
namespace Go.Proofs.YtfenipelcpmkpaaGreatDoor
open Go Go.Abs
theorem one_block {c o:aA} {e:EvD} (k:e.kind=1) (h:(oneB c o e).2.err=0):(oneB c o e).1.s.h=c.s.h+1/\(oneB c o e).1.s.t=c.s.t+e.later/\(oneB c o e).1.past.length=c.past.length+1/\(oneB c o e).2.num=((c.past.length+1:Nat):Int)/\(1<=e.later/\e.later<=1000000000000):=by
 have ee:oneB c o e=aQ c e.later:=by unfold oneB; rw [if_pos k]
 rw [ee] at h ⊢
 obtain ⟨h1,_,_,e2⟩:=block_done h
 obtain ⟨_,hl,e3,_⟩:=nextS_ok h1
 rw [e2,e3]
 exact ⟨rfl,rfl,by simp,rfl,hl⟩
structure adt (w:si):Prop where
 a:w.1.s.h=((w.1.past.length+1:Nat):Int)
 b:w.2.s.h=((w.2.past.length+1:Nat):Int)
end Go.Proofs.YtfenipelcpmkpaaGreatDoor
