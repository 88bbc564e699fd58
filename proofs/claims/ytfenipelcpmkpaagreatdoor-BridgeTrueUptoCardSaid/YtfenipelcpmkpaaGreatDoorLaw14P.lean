/- Chapter 14's laws, plain: clock, supply, what is refused, the past, sides. No program is in sight. -/
import Derived.Test.YtfenipelcpmkpaaGreatDoorGBc
set_option linter.all false
namespace Go.Proofs.YtfenipelcpmkpaaGreatDoor
open Go Go.Abs
theorem Zf {c:aJ} (hc:kv c) (m:MsgD):(jy c m).1.s.h=c.s.h/\(jy c m).1.s.t=c.s.t/\(jy c m).1.past=c.past:=by
 unfold jy
 split
 ·rename_i h
  have hs:=yJ hc.p64 h
  exact ⟨hs.hh,hs.tt,rfl⟩
 ·exact ⟨rfl,rfl,rfl⟩
theorem one_block {c o:aJ} {e:EvD} (k:e.kind=1) (h:(fM c o e).2.err=0):(fM c o e).1.s.h=c.s.h+1/\(fM c o e).1.s.t=c.s.t+e.later/\(fM c o e).1.past.length=c.past.length+1/\(fM c o e).2.num=((c.past.length+1:Nat):Int)/\(1<=e.later/\e.later<=1000000000000):=by
 have ee:fM c o e=dn c e.later:=by unfold fM; rw [if_pos k]
 rw [ee] at h ⊢
 obtain ⟨h1,_,_,e2⟩:=block_done h
 obtain ⟨_,hl,e3,_⟩:=nextS_ok h1
 rw [e2,e3]
 exact ⟨rfl,rfl,by simp,rfl,hl⟩
structure acn (w:qA):Prop where
 a:w.1.s.h=((w.1.past.length+1:Nat):Int)
 b:w.2.s.h=((w.2.past.length+1:Nat):Int)
theorem Rw {l:List EvD} {i:Nat} (hi:i < l.length) (w:qA):(gW w (l.take (i+1))).1=(iC (gW w (l.take i)).1 l[i]).1/\(gW w l).2[i]?=some (iC (gW w (l.take i)).1 l[i]).2:=by
 have e:l.take (i+1)=l.take i++[l[i]]:=(List.take_succ_eq_append_getElem hi)
 refine ⟨by rw [e,nS],?_⟩
 have e2:l=l.take (i+1)++l.drop (i+1):=(List.take_append_drop ..).symm
 have h2:gW w l=gW w (l.take i++[l[i]]++l.drop (i+1)):=by rw [<- e,<- e2]
 rw [h2,sQ,nS]
 have hl:(gW w (l.take i)).2.length=i:=by rw [rD]; simp; omega
 rw [List.getElem?_append_left (by simp [hl]),List.getElem?_append_right (by omega),hl]
 simp
end Go.Proofs.YtfenipelcpmkpaaGreatDoor
