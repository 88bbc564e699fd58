/- Chapter 14's laws, plain: clock, supply, what is refused, the past, sides. No program is in sight. -/
import Derived.Test.YtkbbipgjmoanhaaGreatDoorGBc
set_option linter.all false
namespace Go.Proofs.YtkbbipgjmoanhaaGreatDoor
open Go Go.Abs
theorem FI {c:aQ} (hc:jl c) (m:MsgD):(lC c m).1.s.h=c.s.h/\(lC c m).1.s.t=c.s.t/\(lC c m).1.past=c.past:=by
 unfold lC
 split
 ·rename_i h
  have hs:=doS_step hc.p64 h
  exact ⟨hs.hh,hs.tt,rfl⟩
 ·exact ⟨rfl,rfl,rfl⟩
theorem one_ht {c o:aQ} (hc:jl c) (e:EvD) (h:¬ (e.kind=1/\(fB c o e).2.err=0)):(fB c o e).1.s.h=c.s.h/\(fB c o e).1.s.t=c.s.t/\(fB c o e).1.past=c.past:=by
 by_cases k:e.kind=1
 ·have hn:¬ (fB c o e).2.err=0:=fun q=>h ⟨k,q⟩
  rw [BA hn]; exact ⟨rfl,rfl,rfl⟩
 ·have hn:c.s.h=c.s.h/\c.s.t=c.s.t/\c.past=c.past:=⟨rfl,rfl,rfl⟩
  unfold fB gD gB
  rw [if_neg k]
  split
  ·split
   ·exact hn
   ·exact FI hc _
  ·split
   ·split
    ·exact hn
    ·exact FI hc _
   ·split
    ·exact FI hc _
    ·split
     ·exact FI hc _
     ·exact hn
theorem one_block {c o:aQ} {e:EvD} (k:e.kind=1) (h:(fB c o e).2.err=0):(fB c o e).1.s.h=c.s.h+1/\(fB c o e).1.s.t=c.s.t+e.later/\(fB c o e).1.past.length=c.past.length+1/\(fB c o e).2.num=((c.past.length+1:Nat):Int)/\(1<=e.later/\e.later<=1000000000000):=by
 have ee:fB c o e=dh c e.later:=by unfold fB; rw [if_pos k]
 rw [ee] at h ⊢
 obtain ⟨h1,_,_,e2⟩:=block_done h
 obtain ⟨_,hl,e3,_⟩:=nextS_ok h1
 rw [e2,e3]
 exact ⟨rfl,rfl,by simp,rfl,hl⟩
structure Vj (w:mG):Prop where
 a:w.1.s.h=((w.1.past.length+1:Nat):Int)
 b:w.2.s.h=((w.2.past.length+1:Nat):Int)
theorem RA {w:mG} {n:Nat} (h:Vj w) (hw:uz w n) (e:EvD):Vj (stepB w e).1:=by
 have key:∀ {c o:aQ},jl c->c.s.h=((c.past.length+1:Nat):Int)->(fB c o e).1.s.h=(((fB c o e).1.past.length+1:Nat):Int):=fun {c o} hc hh=>by
  by_cases k:e.kind=1/\(fB c o e).2.err=0
  ·obtain ⟨a,_,b,_⟩:=one_block k.1 k.2
   rw [a,b,hh]; omega
  ·obtain ⟨a,_,b⟩:=one_ht hc e k
   rw [a,b,hh]
 unfold stepB
 split
 ·exact ⟨key hw.a h.a,h.b⟩
 ·split
  ·exact ⟨h.a,key hw.b h.b⟩
  ·exact h
theorem Qx:∀ (l:List EvD) {w:mG} {n:Nat},Vj w->uz w n->n+l.length<=1000->Vj (eG w l).1
 | [],_,_,h,_,_=>h
 | e :: t,w,n,h,hw,hn=>by
  simp only [List.length_cons] at hn
  exact Qx t (RA h hw e) (step_ok hw (by omega) e) (by omega)
theorem Me:Vj begin2:=⟨rfl,rfl⟩
theorem Iy {l:List EvD} {i:Nat} (hi:i < l.length) (w:mG):(eG w (l.take (i+1))).1=(stepB (eG w (l.take i)).1 l[i]).1/\(eG w l).2[i]?=some (stepB (eG w (l.take i)).1 l[i]).2:=by
 have e:l.take (i+1)=l.take i++[l[i]]:=(List.take_succ_eq_append_getElem hi)
 refine ⟨by rw [e,kJ],?_⟩
 have e2:l=l.take (i+1)++l.drop (i+1):=(List.take_append_drop ..).symm
 have h2:eG w l=eG w (l.take i++[l[i]]++l.drop (i+1)):=by rw [<- e,<- e2]
 rw [h2,mJ,kJ]
 have hl:(eG w (l.take i)).2.length=i:=by rw [jb]; simp; omega
 rw [List.getElem?_append_left (by simp [hl]),List.getElem?_append_right (by omega),hl]
 simp
def cZ (w:mG):List EvD->List EvD
 | []=>[]
 | e :: t=>if (stepB w e).2.err=0 then e :: cZ (stepB w e).1 t else cZ (stepB w e).1 t
theorem good_run:∀ (l:List EvD) (w:mG),(eG w (cZ w l)).1=(eG w l).1/\∀ d∈(eG w (cZ w l)).2,d.err=0
 | [],w=>⟨rfl,by simp [cZ,eG]⟩
 | e :: t,w=>by
  simp only [cZ]
  by_cases h:(stepB w e).2.err=0
  ·rw [if_pos h]
   obtain ⟨a,b⟩:=good_run t (stepB w e).1
   simp only [eG]
   refine ⟨a,fun d hd=>?_⟩
   rcases List.mem_cons.1 hd with rfl | hd
   ·exact h
   ·exact b d hd
  ·rw [if_neg h]
   have hs:=NI h
   rw [hs]
   obtain ⟨a,b⟩:=good_run t w
   exact ⟨by rw [a]; simp only [eG]; rw [hs],b⟩
theorem xO (w:mG):∀ l:List EvD,(cZ w l).length<=l.length
 | []=>Nat.le_refl _
 | e :: t=>by
  simp only [cZ]
  have:=xO (stepB w e).1 t
  split
  ·simp only [List.length_cons]; omega
  ·simp only [List.length_cons]; omega
theorem Kh {w:mG} {l:List EvD} {i:Nat} (hi:i < l.length):cZ w (l.take (i+1))=cZ w (l.take i)++(if (stepB (eG w (l.take i)).1 l[i]).2.err=0 then [l[i]] else []):=by
 have key:∀ (l:List EvD) (w:mG) (e:EvD),cZ w (l++[e])=cZ w l++(if (stepB (eG w l).1 e).2.err=0 then [e] else []):=by
  intro l
  induction l with
  | nil=>intro w e; simp only [List.nil_append,cZ,eG]; rfl
  | cons a t ih =>
   intro w e
   simp only [List.cons_append,cZ,eG]
   split
   ·rw [ih]; rfl
   ·rw [ih]; rfl
 rw [List.take_succ_eq_append_getElem hi,key]
theorem Pk (n:Nat):∃ b t,Lib.decDigits n=b :: t/\b.toNat < 58:=by
 cases e:Lib.decDigits n with
 | nil =>
  have h:=TW n
  rw [e] at h
  have h0:n=0:=h.symm
  subst h0
  rw [Lib.decDigits_one (by decide)] at e
  cases e
 | cons b t=>exact ⟨b,t,rfl,by have:=(QX n b (by rw [e]; simp)).2; omega⟩
theorem TL (d:ByteArray) (hd:d=goldA\/d=kG) (i:Nat):oZ d (ji (i:Nat))=false:=by
 have h1:∃ b t,Lib.itoa ((i:Nat):Int)=b :: t/\b.toNat < 58:=by
  rw [Lib.itoa_nonneg]
  exact Pk i
 obtain ⟨b,t,e,hb⟩:=h1
 have h2:(ji (i:Nat)).size=t.length+2:=by simp [ji,ByteArray.size,e]
 unfold oZ
 by_cases hs:(ji (i:Nat)).size<=d.size
 ·have h3:¬ d.extract 0 (ji (i:Nat)).size=ji (i:Nat):=fun h=>by
   have h4:(d.extract 0 (ji (i:Nat)).size).data[0]?=(ji (i:Nat)).data[0]?:=by rw [h]
   rw [ByteArray.data_extract] at h4
   have h5:(ji (i:Nat)).data[0]?=some b:=by simp [ji,e]
   rw [h5,Array.getElem?_extract] at h4
   rcases hd with rfl | rfl
   ·simp [goldA,h2] at h4
    obtain ⟨_,rfl⟩:=h4; revert hb; decide
   ·simp [kG,h2] at h4
    obtain ⟨_,rfl⟩:=h4; revert hb; decide
  have:(d.extract 0 (ji (i:Nat)).size == ji (i:Nat))=false:=by rw [Yd]; exact decide_eq_false h3
  rw [this,Bool.and_false]
 ·rw [decide_eq_false hs,Bool.false_and]
theorem yR {c:aQ} (hc:jl c) (m:MsgD) {d:ByteArray} (hd:d=goldA\/d=kG):jv (lC c m).1.s.pus d=jv c.s.pus d:=by
 unfold lC
 split
 ·rename_i h
  rcases (doS_step hc.p64 h).sup d with h1 | ⟨_,i,_,h2⟩
  ·exact h1
  ·rw [TL d hd i] at h2; cases h2
 ·rfl
theorem IY {c o:aQ} (hc:jl c) (e:EvD) {d:ByteArray} (hd:d=goldA\/d=kG):jv (fB c o e).1.s.pus d=jv c.s.pus d:=by
 unfold fB gD gB
 split
 ·by_cases h:(dh c e.later).2.err=0
  ·obtain ⟨h1,_,_,e2⟩:=block_done h
   rw [e2,(nextS_ok h1).2.2.1]
  ·rw [jH h]
 ·split
  ·split
   ·rfl
   ·exact yR hc _ hd
  ·split
   ·split
    ·rfl
    ·exact yR hc _ hd
   ·split
    ·exact yR hc _ hd
    ·split
     ·exact yR hc _ hd
     ·rfl
theorem run_sup:∀ (l:List EvD) {w:mG} {n:Nat},uz w n->n+l.length<=1000->jv (eG w l).1.1.s.pus goldA=jv w.1.s.pus goldA/\jv (eG w l).1.2.s.pus kG=jv w.2.s.pus kG
 | [],_,_,_,_=>⟨rfl,rfl⟩
 | e :: t,w,n,hw,hn=>by
  simp only [List.length_cons] at hn
  obtain ⟨a,b⟩:=run_sup t (step_ok hw (by omega) e) (by omega)
  simp only [eG]
  rw [a,b]
  unfold stepB
  split
  ·exact ⟨IY hw.a e (.inl rfl),rfl⟩
  ·split
   ·exact ⟨rfl,IY hw.b e (.inr rfl)⟩
   ·exact ⟨rfl,rfl⟩
end Go.Proofs.YtkbbipgjmoanhaaGreatDoor
