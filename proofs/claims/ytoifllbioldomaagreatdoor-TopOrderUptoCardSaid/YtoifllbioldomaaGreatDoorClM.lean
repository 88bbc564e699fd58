/- What a client knows behind a header that it is shown. No program is in sight. -/
import Derived.Test.YtoifllbioldomaaGreatDoorGCl
set_option linter.all false
namespace Go.Proofs.YtoifllbioldomaaGreatDoor
open Go Go.Abs
theorem aac {c:ax}{h:Int}:atC c h=none↔∀k∈c.known,¬k.h=h:=by unfold atC;rw[List.find?_eq_none];simp
theorem put_cases {c:ax}(hs:c.known.Pairwise λa b=>a.h<b.h)(k:aH):
  (Ba c k=c/\k∈c.known)\/Ba c k={c with frozen:=true} \/
  (∃l1 l2,c.known=l1++l2/\(∀x∈l1,x.h<k.h)/\(∀x∈l2,k.h<x.h)/\Ba c k={c with known:=Kq (l1++k::l2)}):=by
 unfold Ba;rcases low_case k.h hs with⟨hp,hk,hat⟩|⟨hno,hat⟩
 ·rw[hat];simp only;by_cases hsm:aeN c.known[jK c.known k.h] k=true
  ·rw[if_pos hsm];left;refine⟨rfl,?_⟩;have hm:=List.getElem_mem hp;have:c.known[jK c.known k.h]=k:=by
    revert hsm hk;generalize c.known[jK c.known k.h]=o;obtain⟨a,b,d,e⟩:=o;obtain⟨a',b',d',e'⟩:=k;simp only[aeN,Bool.and_eq_true,decide_eq_true_eq];rintro h4 ⟨h1,h2,h3⟩;simp[h1,h2,h3,h4]
   rw[this]at hm;exact hm
  ·rw[if_neg hsm];right;left;rfl
 ·rw[hat];simp only;by_cases hb:aab c.known (jK c.known k.h) k=true
  ·rw[if_pos hb];right;left;rfl
  ·rw[if_neg hb];right;right;refine⟨_,_,(List.take_append_drop (jK c.known k.h) c.known).symm,λx hx=>?_,λx hx=>?_,rfl⟩
   ·obtain⟨i,hi,rfl⟩:=List.getElem_of_mem hx;simp only[List.length_take]at hi;rw[List.getElem_take];exact(sG hs i (by omega)).2 (by omega)
   ·obtain⟨i,hi,rfl⟩:=List.getElem_of_mem hx;simp only[List.length_drop]at hi;rw[List.getElem_drop];have h1:=sG (h:=k.h) hs (jK c.known k.h+i) (by omega);have h2:¬c.known[jK c.known k.h+i].h=k.h:=by
     cases i with
     |zero=>exact hno (by omega)
     |succ i =>intro h3;have:=aac.1 hat _ (List.getElem_mem (show jK c.known k.h+(i+1)<c.known.length by omega));exact this h3
    omega
theorem putK_same (c:ax)(k:aH):(Ba c k).c=c.c/\(Ba c k).trust=c.trust:=by
 unfold Ba;split
 ·split<;>exact⟨rfl,rfl⟩
 ·split<;>exact⟨rfl,rfl⟩
theorem Om {l1 l2:List aH}{k:aH}(hs:(l1++l2).Pairwise λa b=>a.h<b.h)(h1:∀x∈l1,x.h<k.h)(h2:∀x∈l2,k.h<x.h):(l1++k::l2).Pairwise λa b=>a.h<b.h:=by
 obtain⟨a,b,d⟩:=List.pairwise_append.1 hs;refine List.pairwise_append.2 ⟨a,List.pairwise_cons.2 ⟨h2,b⟩,λx hx y hy=>?_⟩;rcases List.mem_cons.1 hy with rfl|hy
 ·exact h1 x hx
 ·exact d x hx y hy
theorem ZK {l:List aH}{x:aH}(h:x∈Kq l):x∈l:=by
 unfold Kq at h;split at h
 ·exact List.mem_of_mem_drop h
 ·exact h
theorem put_mem {c:ax}(hs:c.known.Pairwise λa b=>a.h<b.h){k x:aH}(h:x∈(Ba c k).known):x∈c.known\/x=k:=by
 rcases put_cases hs k with⟨e,_⟩|e|⟨l1,l2,e0,_,_,e⟩
 ·rw[e]at h;exact .inl h
 ·rw[e]at h;exact .inl h
 ·rw[e]at h;have:=ZK h;simp only[List.mem_append,List.mem_cons]at this;rw[e0];rcases this with h|h|h
  ·exact .inl (List.mem_append_left _ h)
  ·exact .inr h
  ·exact .inl (List.mem_append_right _ h)
theorem abJ {c:ax}(hc:AZ c){k:aH}(hk:Vb k):AZ (Ba c k):=by
 obtain⟨e1,e2⟩:=putK_same c k;have hks:∀x∈(Ba c k).known,Vb x:=λx hx=>by
  rcases put_mem hc.rise hx with h|rfl
  ·exact hc.k x h
  ·exact hk
 have hlr:(1<=(Ba c k).known.length/\(Ba c k).known.length<=30)/\(Ba c k).known.Pairwise λa b=>a.h<b.h:=by
  rcases put_cases hc.rise k with⟨e,_⟩|e|⟨l1,l2,e0,h1,h2,e⟩
  ·rw[e];exact⟨hc.len,hc.rise⟩
  ·rw[e];exact⟨hc.len,hc.rise⟩
  ·rw[e];have hr:=hc.rise;rw[e0]at hr;have hl:=hc.len;rw[e0,List.length_append]at hl;have hi:=Om hr h1 h2;have hlen:(l1++k::l2).length=l1.length+l2.length+1:=by simp;omega
   show(1<=(Kq (l1++k::l2)).length/\(Kq (l1++k::l2)).length<=30)/\(Kq (l1++k::l2)).Pairwise _;unfold Kq;split
   ·exact⟨by rw[List.length_drop];omega,hi.sublist (List.drop_sublist _ _)⟩
   ·exact⟨by omega,hi⟩
 exact⟨by rw[e1];exact hc.name,by rw[e2];exact hc.trust,hlr.1,hks,hlr.2⟩
theorem follow_zero {c:ax}{u:AX}{now:Int}(h:(fM c u now).2=0):dK c now=0/\beE c u now=0/\fM c u now=(Ba c (ofH u.sg.hdr),0):=by
 unfold fM at h⊢;split at h
 ·rename_i h1;split at h
  ·rename_i h2;exact⟨h1,h2,by rw[if_pos h1,if_pos h2]⟩
  ·rename_i h2;exact absurd h h2
 ·rename_i h1;exact absurd h h1
end Go.Proofs.YtoifllbioldomaaGreatDoor
