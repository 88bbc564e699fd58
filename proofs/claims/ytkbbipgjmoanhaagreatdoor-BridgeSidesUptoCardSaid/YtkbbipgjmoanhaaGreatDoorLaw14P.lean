/- Chapter 14's laws, plain: clock, supply, what is refused, the past, sides. No program is in sight. -/
import Derived.Test.YtkbbipgjmoanhaaGreatDoorGBc
set_option linter.all false
namespace Go.Proofs.YtkbbipgjmoanhaaGreatDoor
open Go Go.Abs
theorem one_block {c o:aQ} {e:EvD} (k:e.kind=1) (h:(fB c o e).2.err=0):(fB c o e).1.s.h=c.s.h+1/\(fB c o e).1.s.t=c.s.t+e.later/\(fB c o e).1.past.length=c.past.length+1/\(fB c o e).2.num=((c.past.length+1:Nat):Int)/\(1<=e.later/\e.later<=1000000000000):=by
 have ee:fB c o e=dh c e.later:=by unfold fB; rw [if_pos k]
 rw [ee] at h ⊢
 obtain ⟨h1,_,_,e2⟩:=block_done h
 obtain ⟨_,hl,e3,_⟩:=nextS_ok h1
 rw [e2,e3]
 exact ⟨rfl,rfl,by simp,rfl,hl⟩
structure Vj (w:mG):Prop where
 a:w.1.s.h=((w.1.past.length+1:Nat):Int)
 b:w.2.s.h=((w.2.past.length+1:Nat):Int)
theorem Iy {l:List EvD} {i:Nat} (hi:i < l.length) (w:mG):(eG w (l.take (i+1))).1=(stepB (eG w (l.take i)).1 l[i]).1/\(eG w l).2[i]?=some (stepB (eG w (l.take i)).1 l[i]).2:=by
 have e:l.take (i+1)=l.take i++[l[i]]:=(List.take_succ_eq_append_getElem hi)
 refine ⟨by rw [e,kJ],?_⟩
 have e2:l=l.take (i+1)++l.drop (i+1):=(List.take_append_drop ..).symm
 have h2:eG w l=eG w (l.take i++[l[i]]++l.drop (i+1)):=by rw [<- e,<- e2]
 rw [h2,mJ,kJ]
 have hl:(eG w (l.take i)).2.length=i:=by rw [jb]; simp; omega
 rw [List.getElem?_append_left (by simp [hl]),List.getElem?_append_right (by omega),hl]
 simp
def cZ (w:mG):List EvD->List EvD
 | []=>[]
 | e :: t=>if (stepB w e).2.err=0 then e :: cZ (stepB w e).1 t else cZ (stepB w e).1 t
theorem good_run:∀ (l:List EvD) (w:mG),(eG w (cZ w l)).1=(eG w l).1/\∀ d∈(eG w (cZ w l)).2,d.err=0
 | [],w=>⟨rfl,by simp [cZ,eG]⟩
 | e :: t,w=>by
  simp only [cZ]
  by_cases h:(stepB w e).2.err=0
  ·rw [if_pos h]
   obtain ⟨a,b⟩:=good_run t (stepB w e).1
   simp only [eG]
   refine ⟨a,fun d hd=>?_⟩
   rcases List.mem_cons.1 hd with rfl | hd
   ·exact h
   ·exact b d hd
  ·rw [if_neg h]
   have hs:=NI h
   rw [hs]
   obtain ⟨a,b⟩:=good_run t w
   exact ⟨by rw [a]; simp only [eG]; rw [hs],b⟩
theorem xO (w:mG):∀ l:List EvD,(cZ w l).length<=l.length
 | []=>Nat.le_refl _
 | e :: t=>by
  simp only [cZ]
  have:=xO (stepB w e).1 t
  split
  ·simp only [List.length_cons]; omega
  ·simp only [List.length_cons]; omega
theorem Kh {w:mG} {l:List EvD} {i:Nat} (hi:i < l.length):cZ w (l.take (i+1))=cZ w (l.take i)++(if (stepB (eG w (l.take i)).1 l[i]).2.err=0 then [l[i]] else []):=by
 have key:∀ (l:List EvD) (w:mG) (e:EvD),cZ w (l++[e])=cZ w l++(if (stepB (eG w l).1 e).2.err=0 then [e] else []):=by
  intro l
  induction l with
  | nil=>intro w e; simp only [List.nil_append,cZ,eG]; rfl
  | cons a t ih =>
   intro w e
   simp only [List.cons_append,cZ,eG]
   split
   ·rw [ih]; rfl
   ·rw [ih]; rfl
 rw [List.take_succ_eq_append_getElem hi,key]
end Go.Proofs.YtkbbipgjmoanhaaGreatDoor
