/- Chapter 14's laws, plain: clock, supply, what is refused, the past, sides. No program is in sight. -/
import Derived.Test.YtfenipelcpmkpaaGreatDoorGBc
set_option linter.all false
namespace Go.Proofs.YtfenipelcpmkpaaGreatDoor
open Go Go.Abs
theorem one_block {c o:aV} {e:EvD} (k:e.kind=1) (h:(gK c o e).2.err=0):(gK c o e).1.s.h=c.s.h+1/\(gK c o e).1.s.t=c.s.t+e.later/\(gK c o e).1.past.length=c.past.length+1/\(gK c o e).2.num=((c.past.length+1:Nat):Int)/\(1<=e.later/\e.later<=1000000000000):=by
 have ee:gK c o e=dH c e.later:=by unfold gK; rw [if_pos k]
 rw [ee] at h ⊢
 obtain ⟨h1,_,_,e2⟩:=block_done h
 obtain ⟨_,hl,e3,_⟩:=nextS_ok h1
 rw [e2,e3]
 exact ⟨rfl,rfl,by simp,rfl,hl⟩
structure acn (w:qD):Prop where
 a:w.1.s.h=((w.1.past.length+1:Nat):Int)
 b:w.2.s.h=((w.2.past.length+1:Nat):Int)
theorem Rq {l:List EvD} {i:Nat} (hi:i < l.length) (w:qD):(runB w (l.take (i+1))).1=(stepB (runB w (l.take i)).1 l[i]).1/\(runB w l).2[i]?=some (stepB (runB w (l.take i)).1 l[i]).2:=by
 have e:l.take (i+1)=l.take i++[l[i]]:=(List.take_succ_eq_append_getElem hi)
 refine ⟨by rw [e,nY],?_⟩
 have e2:l=l.take (i+1)++l.drop (i+1):=(List.take_append_drop ..).symm
 have h2:runB w l=runB w (l.take i++[l[i]]++l.drop (i+1)):=by rw [<- e,<- e2]
 rw [h2,jS,nY]
 have hl:(runB w (l.take i)).2.length=i:=by rw [rE]; simp; omega
 rw [List.getElem?_append_left (by simp [hl]),List.getElem?_append_right (by omega),hl]
 simp
end Go.Proofs.YtfenipelcpmkpaaGreatDoor
