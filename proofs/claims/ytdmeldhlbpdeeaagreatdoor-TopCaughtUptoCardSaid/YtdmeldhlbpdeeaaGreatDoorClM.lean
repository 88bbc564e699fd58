/- What a client knows behind a header that it is shown. No program is in sight. -/
import Derived.Test.YtdmeldhlbpdeeaaGreatDoorGCl
set_option linter.all false
namespace Go.Proofs.YtdmeldhlbpdeeaaGreatDoor
open Go Go.Abs
theorem aaY {c:aD}{h:Int}:atC c h=none↔∀k∈c.known,¬k.h=h:=by unfold atC;rw[List.find?_eq_none];simp
theorem put_cases {c:aD}(hs:c.known.Pairwise λa b=>a.h<b.h)(k:aT):
  (Bc c k=c/\k∈c.known)\/Bc c k={c with frozen:=true} \/
  (∃l1 l2,c.known=l1++l2/\(∀x∈l1,x.h<k.h)/\(∀x∈l2,k.h<x.h)/\Bc c k={c with known:=KV (l1++k::l2)}):=by
 unfold Bc;rcases low_case k.h hs with⟨hp,hk,hat⟩|⟨hno,hat⟩
 ·rw[hat];simp only;by_cases hsm:afF c.known[jI c.known k.h] k=true
  ·rw[if_pos hsm];left;refine⟨rfl,?_⟩;have hm:=List.getElem_mem hp;have:c.known[jI c.known k.h]=k:=by
    revert hsm hk;generalize c.known[jI c.known k.h]=o;obtain⟨a,b,d,e⟩:=o;obtain⟨a',b',d',e'⟩:=k;simp only[afF,Bool.and_eq_true,decide_eq_true_eq];rintro h4 ⟨h1,h2,h3⟩;simp[h1,h2,h3,h4]
   rw[this]at hm;exact hm
  ·rw[if_neg hsm];right;left;rfl
 ·rw[hat];simp only;by_cases hb:aaX c.known (jI c.known k.h) k=true
  ·rw[if_pos hb];right;left;rfl
  ·rw[if_neg hb];right;right;refine⟨_,_,(List.take_append_drop (jI c.known k.h) c.known).symm,λx hx=>?_,λx hx=>?_,rfl⟩
   ·obtain⟨i,hi,rfl⟩:=List.getElem_of_mem hx;simp only[List.length_take]at hi;rw[List.getElem_take];exact(rX hs i (by omega)).2 (by omega)
   ·obtain⟨i,hi,rfl⟩:=List.getElem_of_mem hx;simp only[List.length_drop]at hi;rw[List.getElem_drop];have h1:=rX (h:=k.h) hs (jI c.known k.h+i) (by omega);have h2:¬c.known[jI c.known k.h+i].h=k.h:=by
     cases i with
     |zero=>exact hno (by omega)
     |succ i =>intro h3;have:=aaY.1 hat _ (List.getElem_mem (show jI c.known k.h+(i+1)<c.known.length by omega));exact this h3
    omega
theorem putK_same (c:aD)(k:aT):(Bc c k).c=c.c/\(Bc c k).trust=c.trust:=by
 unfold Bc;split
 ·split<;>exact⟨rfl,rfl⟩
 ·split<;>exact⟨rfl,rfl⟩
theorem OX {l1 l2:List aT}{k:aT}(hs:(l1++l2).Pairwise λa b=>a.h<b.h)(h1:∀x∈l1,x.h<k.h)(h2:∀x∈l2,k.h<x.h):(l1++k::l2).Pairwise λa b=>a.h<b.h:=by
 obtain⟨a,b,d⟩:=List.pairwise_append.1 hs;refine List.pairwise_append.2 ⟨a,List.pairwise_cons.2 ⟨h2,b⟩,λx hx y hy=>?_⟩;rcases List.mem_cons.1 hy with rfl|hy
 ·exact h1 x hx
 ·exact d x hx y hy
theorem aaC {l:List aT}{x:aT}(h:x∈KV l):x∈l:=by
 unfold KV at h;split at h
 ·exact List.mem_of_mem_drop h
 ·exact h
theorem put_mem {c:aD}(hs:c.known.Pairwise λa b=>a.h<b.h){k x:aT}(h:x∈(Bc c k).known):x∈c.known\/x=k:=by
 rcases put_cases hs k with⟨e,_⟩|e|⟨l1,l2,e0,_,_,e⟩
 ·rw[e]at h;exact .inl h
 ·rw[e]at h;exact .inl h
 ·rw[e]at h;have:=aaC h;simp only[List.mem_append,List.mem_cons]at this;rw[e0];rcases this with h|h|h
  ·exact .inl (List.mem_append_left _ h)
  ·exact .inr h
  ·exact .inl (List.mem_append_right _ h)
theorem acK {c:aD}(hc:xD c){k:aT}(hk:VM k):xD (Bc c k):=by
 obtain⟨e1,e2⟩:=putK_same c k;have hks:∀x∈(Bc c k).known,VM x:=λx hx=>by
  rcases put_mem hc.rise hx with h|rfl
  ·exact hc.k x h
  ·exact hk
 have hlr:(1<=(Bc c k).known.length/\(Bc c k).known.length<=30)/\(Bc c k).known.Pairwise λa b=>a.h<b.h:=by
  rcases put_cases hc.rise k with⟨e,_⟩|e|⟨l1,l2,e0,h1,h2,e⟩
  ·rw[e];exact⟨hc.len,hc.rise⟩
  ·rw[e];exact⟨hc.len,hc.rise⟩
  ·rw[e];have hr:=hc.rise;rw[e0]at hr;have hl:=hc.len;rw[e0,List.length_append]at hl;have hi:=OX hr h1 h2;have hlen:(l1++k::l2).length=l1.length+l2.length+1:=by simp;omega
   show(1<=(KV (l1++k::l2)).length/\(KV (l1++k::l2)).length<=30)/\(KV (l1++k::l2)).Pairwise _;unfold KV;split
   ·exact⟨by rw[List.length_drop];omega,hi.sublist (List.drop_sublist _ _)⟩
   ·exact⟨by omega,hi⟩
 exact⟨by rw[e1];exact hc.name,by rw[e2];exact hc.trust,hlr.1,hks,hlr.2⟩
theorem follow_zero {c:aD}{u:yI}{now:Int}(h:(fw c u now).2=0):dJ c now=0/\beE c u now=0/\fw c u now=(Bc c (ofH u.sg.hdr),0):=by
 unfold fw at h⊢;split at h
 ·rename_i h1;split at h
  ·rename_i h2;exact⟨h1,h2,by rw[if_pos h1,if_pos h2]⟩
  ·rename_i h2;exact absurd h h2
 ·rename_i h1;exact absurd h h1
end Go.Proofs.YtdmeldhlbpdeeaaGreatDoor
