/- What a client knows behind a header that it is shown. No program is in sight. -/
import Derived.Test.YtkbbipgjmoanhaaGreatDoorGCl
set_option linter.all false
namespace Go.Proofs.YtkbbipgjmoanhaaGreatDoor
open Go Go.Abs
theorem Uu {c:aD} {h:Int}:atC c h=none↔∀ k∈c.known,¬ k.h=h:=by
 unfold atC
 rw [List.find?_eq_none]
 simp
theorem put_cases {c:aD} (hs:c.known.Pairwise fun a b=>a.h < b.h) (k:aP) :
  (AJ c k=c/\k∈c.known)\/AJ c k={ c with frozen:=true } \/
  (∃ l1 l2,c.known=l1++l2/\(∀ x∈l1,x.h < k.h)/\(∀ x∈l2,k.h < x.h)/\AJ c k={ c with known:=Nj (l1++k :: l2) }):=by
 unfold AJ
 rcases low_case k.h hs with ⟨hp,hk,hat⟩ | ⟨hno,hat⟩
 ·rw [hat]
  simp only
  by_cases hsm:XZ c.known[jm c.known k.h] k=true
  ·rw [if_pos hsm]
   left
   refine ⟨rfl,?_⟩
   have hm:=List.getElem_mem hp
   have:c.known[jm c.known k.h]=k:=by
    revert hsm hk
    generalize c.known[jm c.known k.h]=o
    obtain ⟨a,b,d,e⟩:=o
    obtain ⟨a',b',d',e'⟩:=k
    simp only [XZ,Bool.and_eq_true,decide_eq_true_eq]
    rintro h4 ⟨h1,h2,h3⟩
    simp [h1,h2,h3,h4]
   rw [this] at hm; exact hm
  ·rw [if_neg hsm]; right; left; rfl
 ·rw [hat]
  simp only
  by_cases hb:Ye c.known (jm c.known k.h) k=true
  ·rw [if_pos hb]; right; left; rfl
  ·rw [if_neg hb]
   right; right
   refine ⟨_,_,(List.take_append_drop (jm c.known k.h) c.known).symm,fun x hx=>?_,fun x hx=>?_,rfl⟩
   ·obtain ⟨i,hi,rfl⟩:=List.getElem_of_mem hx
    simp only [List.length_take] at hi
    rw [List.getElem_take]
    exact (oV hs i (by omega)).2 (by omega)
   ·obtain ⟨i,hi,rfl⟩:=List.getElem_of_mem hx
    simp only [List.length_drop] at hi
    rw [List.getElem_drop]
    have h1:=oV (h:=k.h) hs (jm c.known k.h+i) (by omega)
    have h2:¬ c.known[jm c.known k.h+i].h=k.h:=by
     cases i with
     | zero=>exact hno (by omega)
     | succ i =>
      intro h3
      have:=Uu.1 hat _ (List.getElem_mem (show jm c.known k.h+(i+1) < c.known.length by omega))
      exact this h3
    omega
theorem putK_same (c:aD) (k:aP):(AJ c k).c=c.c/\(AJ c k).trust=c.trust:=by
 unfold AJ
 split
 ·split <;> exact ⟨rfl,rfl⟩
 ·split <;> exact ⟨rfl,rfl⟩
theorem JU {l1 l2:List aP} {k:aP} (hs:(l1++l2).Pairwise fun a b=>a.h < b.h) (h1:∀ x∈l1,x.h < k.h) (h2:∀ x∈l2,k.h < x.h):(l1++k :: l2).Pairwise fun a b=>a.h < b.h:=by
 obtain ⟨a,b,d⟩:=List.pairwise_append.1 hs
 refine List.pairwise_append.2 ⟨a,List.pairwise_cons.2 ⟨h2,b⟩,fun x hx y hy=>?_⟩
 rcases List.mem_cons.1 hy with rfl | hy
 ·exact h1 x hx
 ·exact d x hx y hy
theorem Ua {l:List aP} {x:aP} (h:x∈Nj l):x∈l:=by
 unfold Nj at h
 split at h
 ·exact List.mem_of_mem_drop h
 ·exact h
theorem put_mem {c:aD} (hs:c.known.Pairwise fun a b=>a.h < b.h) {k x:aP} (h:x∈(AJ c k).known):x∈c.known\/x=k:=by
 rcases put_cases hs k with ⟨e,_⟩ | e | ⟨l1,l2,e0,_,_,e⟩
 ·rw [e] at h; exact .inl h
 ·rw [e] at h; exact .inl h
 ·rw [e] at h
  have:=Ua h
  simp only [List.mem_append,List.mem_cons] at this
  rw [e0]
  rcases this with h | h | h
  ·exact .inl (List.mem_append_left _ h)
  ·exact .inr h
  ·exact .inl (List.mem_append_right _ h)
theorem We {c:aD} (hc:AP c) {k:aP} (hk:Rh k):AP (AJ c k):=by
 obtain ⟨e1,e2⟩:=putK_same c k
 have hks:∀ x∈(AJ c k).known,Rh x:=fun x hx=>by
  rcases put_mem hc.rise hx with h | rfl
  ·exact hc.k x h
  ·exact hk
 have hlr:(1<=(AJ c k).known.length/\(AJ c k).known.length<=30)/\(AJ c k).known.Pairwise fun a b=>a.h < b.h:=by
  rcases put_cases hc.rise k with ⟨e,_⟩ | e | ⟨l1,l2,e0,h1,h2,e⟩
  ·rw [e]; exact ⟨hc.len,hc.rise⟩
  ·rw [e]; exact ⟨hc.len,hc.rise⟩
  ·rw [e]
   have hr:=hc.rise
   rw [e0] at hr
   have hl:=hc.len
   rw [e0,List.length_append] at hl
   have hi:=JU hr h1 h2
   have hlen:(l1++k :: l2).length=l1.length+l2.length+1:=by simp; omega
   show (1<=(Nj (l1++k :: l2)).length/\(Nj (l1++k :: l2)).length<=30)/\(Nj (l1++k :: l2)).Pairwise _
   unfold Nj
   split
   ·exact ⟨by rw [List.length_drop]; omega,hi.sublist (List.drop_sublist _ _)⟩
   ·exact ⟨by omega,hi⟩
 exact ⟨by rw [e1]; exact hc.name,by rw [e2]; exact hc.trust,hlr.1,hks,hlr.2⟩
theorem follow_zero {c:aD} {u:yV} {now:Int} (h:(g_ c u now).2=0):fD c now=0/\beE c u now=0/\g_ c u now=(AJ c (ofH u.sg.hdr),0):=by
 unfold g_ at h ⊢
 split at h
 ·rename_i h1
  split at h
  ·rename_i h2; exact ⟨h1,h2,by rw [if_pos h1,if_pos h2]⟩
  ·rename_i h2; exact absurd h h2
 ·rename_i h1; exact absurd h h1
end Go.Proofs.YtkbbipgjmoanhaaGreatDoor
