/- What a client knows behind a header that it is shown. No program is in sight. -/
import Derived.Test.YtfenipelcpmkpaaGreatDoorGCl
set_option linter.all false
namespace Go.Proofs.YtfenipelcpmkpaaGreatDoor
open Go Go.Abs
theorem WJ {c:aG} {h:Int}:atC c h=none↔∀ k∈c.known,¬ k.h=h:=by
 unfold atC
 rw [List.find?_eq_none]
 simp
theorem put_cases {c:aG} (hs:c.known.Pairwise fun a b=>a.h < b.h) (k:aU) :
  (Ag c k=c/\k∈c.known)\/Ag c k={ c with frozen:=true } \/
  (∃ l1 l2,c.known=l1++l2/\(∀ x∈l1,x.h < k.h)/\(∀ x∈l2,k.h < x.h)/\Ag c k={ c with known:=IK (l1++k :: l2) }):=by
 unfold Ag
 rcases low_case k.h hs with ⟨hp,hk,hat⟩ | ⟨hno,hat⟩
 ·rw [hat]
  simp only
  by_cases hsm:aar c.known[ja c.known k.h] k=true
  ·rw [if_pos hsm]
   left
   refine ⟨rfl,?_⟩
   have hm:=List.getElem_mem hp
   have:c.known[ja c.known k.h]=k:=by
    revert hsm hk
    generalize c.known[ja c.known k.h]=o
    obtain ⟨a,b,d,e⟩:=o
    obtain ⟨a',b',d',e'⟩:=k
    simp only [aar,Bool.and_eq_true,decide_eq_true_eq]
    rintro h4 ⟨h1,h2,h3⟩
    simp [h1,h2,h3,h4]
   rw [this] at hm; exact hm
  ·rw [if_neg hsm]; right; left; rfl
 ·rw [hat]
  simp only
  by_cases hb:WI c.known (ja c.known k.h) k=true
  ·rw [if_pos hb]; right; left; rfl
  ·rw [if_neg hb]
   right; right
   refine ⟨_,_,(List.take_append_drop (ja c.known k.h) c.known).symm,fun x hx=>?_,fun x hx=>?_,rfl⟩
   ·obtain ⟨i,hi,rfl⟩:=List.getElem_of_mem hx
    simp only [List.length_take] at hi
    rw [List.getElem_take]
    exact (qx hs i (by omega)).2 (by omega)
   ·obtain ⟨i,hi,rfl⟩:=List.getElem_of_mem hx
    simp only [List.length_drop] at hi
    rw [List.getElem_drop]
    have h1:=qx (h:=k.h) hs (ja c.known k.h+i) (by omega)
    have h2:¬ c.known[ja c.known k.h+i].h=k.h:=by
     cases i with
     | zero=>exact hno (by omega)
     | succ i =>
      intro h3
      have:=WJ.1 hat _ (List.getElem_mem (show ja c.known k.h+(i+1) < c.known.length by omega))
      exact this h3
    omega
theorem putK_same (c:aG) (k:aU):(Ag c k).c=c.c/\(Ag c k).trust=c.trust:=by
 unfold Ag
 split
 ·split <;> exact ⟨rfl,rfl⟩
 ·split <;> exact ⟨rfl,rfl⟩
theorem LV {l1 l2:List aU} {k:aU} (hs:(l1++l2).Pairwise fun a b=>a.h < b.h) (h1:∀ x∈l1,x.h < k.h) (h2:∀ x∈l2,k.h < x.h):(l1++k :: l2).Pairwise fun a b=>a.h < b.h:=by
 obtain ⟨a,b,d⟩:=List.pairwise_append.1 hs
 refine List.pairwise_append.2 ⟨a,List.pairwise_cons.2 ⟨h2,b⟩,fun x hx y hy=>?_⟩
 rcases List.mem_cons.1 hy with rfl | hy
 ·exact h1 x hx
 ·exact d x hx y hy
theorem Wn {l:List aU} {x:aU} (h:x∈IK l):x∈l:=by
 unfold IK at h
 split at h
 ·exact List.mem_of_mem_drop h
 ·exact h
theorem put_mem {c:aG} (hs:c.known.Pairwise fun a b=>a.h < b.h) {k x:aU} (h:x∈(Ag c k).known):x∈c.known\/x=k:=by
 rcases put_cases hs k with ⟨e,_⟩ | e | ⟨l1,l2,e0,_,_,e⟩
 ·rw [e] at h; exact .inl h
 ·rw [e] at h; exact .inl h
 ·rw [e] at h
  have:=Wn h
  simp only [List.mem_append,List.mem_cons] at this
  rw [e0]
  rcases this with h | h | h
  ·exact .inl (List.mem_append_left _ h)
  ·exact .inr h
  ·exact .inl (List.mem_append_right _ h)
theorem Yv {c:aG} (hc:BN c) {k:aU} (hk:TQ k):BN (Ag c k):=by
 obtain ⟨e1,e2⟩:=putK_same c k
 have hks:∀ x∈(Ag c k).known,TQ x:=fun x hx=>by
  rcases put_mem hc.rise hx with h | rfl
  ·exact hc.k x h
  ·exact hk
 have hlr:(1<=(Ag c k).known.length/\(Ag c k).known.length<=30)/\(Ag c k).known.Pairwise fun a b=>a.h < b.h:=by
  rcases put_cases hc.rise k with ⟨e,_⟩ | e | ⟨l1,l2,e0,h1,h2,e⟩
  ·rw [e]; exact ⟨hc.len,hc.rise⟩
  ·rw [e]; exact ⟨hc.len,hc.rise⟩
  ·rw [e]
   have hr:=hc.rise
   rw [e0] at hr
   have hl:=hc.len
   rw [e0,List.length_append] at hl
   have hi:=LV hr h1 h2
   have hlen:(l1++k :: l2).length=l1.length+l2.length+1:=by simp; omega
   show (1<=(IK (l1++k :: l2)).length/\(IK (l1++k :: l2)).length<=30)/\(IK (l1++k :: l2)).Pairwise _
   unfold IK
   split
   ·exact ⟨by rw [List.length_drop]; omega,hi.sublist (List.drop_sublist _ _)⟩
   ·exact ⟨by omega,hi⟩
 exact ⟨by rw [e1]; exact hc.name,by rw [e2]; exact hc.trust,hlr.1,hks,hlr.2⟩
theorem follow_zero {c:aG} {u:Ab} {now:Int} (h:(gM c u now).2=0):eU c now=0/\beE c u now=0/\gM c u now=(Ag c (ofH u.sg.hdr),0):=by
 unfold gM at h ⊢
 split at h
 ·rename_i h1
  split at h
  ·rename_i h2; exact ⟨h1,h2,by rw [if_pos h1,if_pos h2]⟩
  ·rename_i h2; exact absurd h h2
 ·rename_i h1; exact absurd h h1
end Go.Proofs.YtfenipelcpmkpaaGreatDoor
