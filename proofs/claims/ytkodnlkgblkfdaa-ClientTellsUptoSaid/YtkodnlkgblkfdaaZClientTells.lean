/- The statement on ClientTells, with the last texts of its proof: for every input of bounded bulk the law answers true and leaves its arguments as they were. -/
import Derived.Test.YtkodnlkgblkfdaaGCl
import Derived.Test.YtkodnlkgblkfdaaClC
import Derived.Test.YtkodnlkgblkfdaaDecHd
import Derived.Test.YtkodnlkgblkfdaaGDec
import Derived.Test.YtkodnlkgblkfdaaRClF
import Derived.Test.YtkodnlkgblkfdaaRClC
import Derived.Test.YtkodnlkgblkfdaaRClS
import Derived.Test.YtkodnlkgblkfdaaClD
import Derived.Test.YtkodnlkgblkfdaaRow2
/- client.Catch: by value. -/
set_option linter.all false
namespace Go.Proofs.Ytkodnlkgblkfdaa
open Go Go.Abs Go.RowKit Go.Proofs.Ytkodnlkgblkfdaa.Ty
set_option maxHeartbeats 4000000
set_option maxRecDepth 20000
def catS (V W:Int) (E:ClientD × Int):Nat→ClientD × Int
 | 0=>if V=0 then (if W=0 then E else (zeroC,W)) else (zeroC,V)
 | 1=>if W=0 then E else (zeroC,W)
 | _=>E
theorem ccatch_A (c:ClientD) (a b:UpdD) (now:Int) (hl:c.known.length≤1048576) (ha:UpSm a) (hb:UpSm b) :
  PureD Try.prog 14 [clientD c,updD a,updD b,intD now] (.tup [clientD (catchC c a b now).1,intD (catchC c a b now).2]):=by
 refine hide_r fun R hR=>?_
 have c1:=casked_A c now hl
 have r1:=bs_pt2 (P:=Try.prog) (t:=65) (e:=55) (by kernel_rfl) (by kernel_rfl) (by kernel_rfl)
 unfold catchC at hR
 by_cases h1:askedE c now=0
 ·obtain ⟨ok,hn,hfz⟩:=asked_zero.1 h1
  have c2:=cbelieve_A c a now ok ha hn
  have c3:=cbelieve_A c b now ok hb hn
  rw [if_pos h1] at hR
  rw [h1] at c1
  have c4:=hbytes_A a.sg.hdr ha.s.h.c ha.s.h.root ha.s.h.vals ha.s.h.next
  have c5:=hbytes_A b.sg.hdr hb.s.h.c hb.s.h.root hb.s.h.vals hb.s.h.next
  have c6:=equal_A (bytesH a.sg.hdr) (bytesH b.sg.hdr)
  have c7:=cown_A c ok.sm
  clear ha hb ok hfz h1 hl
  generalize bytesH a.sg.hdr=X at *
  generalize bytesH b.sg.hdr=Y at *
  generalize beE c a now=V at *
  generalize beE c b now=W at *
  refine callD_W 60 Try.func14 rfl rfl rfl (fun _ _=>rfl) ?_
  refine wkl ?_
  clear hR; intro hR
  have hR':Hr (.tup [clientD (catS V W (if a.sg.hdr.h=b.sg.hdr.h∧¬ X=Y then ({ c with frozen:=true },0) else (zeroC,8)) 0).1,intD (catS V W (if a.sg.hdr.h=b.sg.hdr.h∧¬ X=Y then ({ c with frozen:=true },0) else (zeroC,8)) 0).2]) R:=hR
  clear hR
  refine W_loopR (ι:=Nat) (fun i=>i≤2∧Hr (.tup [clientD (catS V W (if a.sg.hdr.h=b.sg.hdr.h∧¬ X=Y then ({ c with frozen:=true },0) else (zeroC,8)) i).1,intD (catS V W (if a.sg.hdr.h=b.sg.hdr.h∧¬ X=Y then ({ c with frozen:=true },0) else (zeroC,8)) i).2]) R)
   (fun i=>stOf [(3,intD now),(4,.pt 100 0 0 0),(5,.pt 101 0 0 0),(6,.pt 102 0 0 0),(8,.pt 103 0 0 0),(23,.bs 104 0 2),(24,intD 2),(25,intD i)]
    [(100,.box ((encC c).map .i)),(101,.box ((encU a).map .i)),(102,.box ((encU b).map .i)),(103,.box ((encC zeroC).map .i)),(104,.box [.pt 101 0 0 0,.pt 102 0 0 0])]) (fun i=>2 - i) 0 ⟨Nat.zero_le _,hR'⟩ ?_ ?_
  ·exact le_ok [] [(100,1000),(101,1001),(102,1002),(103,1003),(104,2024)]
  ·rintro i ⟨hi,hR⟩ RL hL
   clear hR'
   rw [stOf_eq]
   have b1:=fun σ' (h:i+1≤2) hq=>bk [] [(100,100),(101,101),(102,102),(103,103),(104,104)] (hL (i+1) σ' ⟨h,hq⟩)
   clear hL
   match i,hi with
   | 0,_ =>
    have b1:=fun σ' (hq:Hr _ R)=>b1 σ' (by omega) hq
    simp only [catS] at hR b1
    exact wkl trivial
   | 1,_ =>
    have b1:=fun σ' (hq:Hr _ R)=>b1 σ' (by omega) hq
    simp only [catS] at hR b1
    exact wkl trivial
   | 2,_ =>
    clear b1
    simp only [catS] at hR
    by_cases hx:X=Y
    ·rw [decide_eq_true hx] at c6
     simp only [hx,not_true,and_false,if_false] at hR
     exact wkl trivial
    ·rw [decide_eq_false hx] at c6
     simp only [hx,not_false_eq_true,and_true] at hR
     exact wkl trivial
 ·rw [if_neg h1] at hR
  generalize askedE c now=W at *
  clear ha hb
  refine callD_W 60 Try.func14 rfl rfl rfl (fun _ _=>rfl) ?_
  exact wkl trivial
end Go.Proofs.Ytkodnlkgblkfdaa
/- What a client knows behind a header that it is shown. No program is in sight. -/
set_option linter.all false
namespace Go.Proofs.Ytkodnlkgblkfdaa
open Go Go.Abs
theorem at_iff {c:ClientD} {h:Int} {k:KnownD} (hs:c.known.Pairwise fun a b=>a.h < b.h):atC c h=some k↔k∈c.known∧k.h=h:=by
 refine ⟨at_mem,fun ⟨hm,hk⟩=>?_⟩
 cases e:atC c h with
 | none =>
  have:=List.find?_eq_none.1 e _ hm
  simp [hk] at this
 | some o =>
  obtain ⟨h1,h2⟩:=at_mem e
  obtain ⟨i,hi,rfl⟩:=List.getElem_of_mem hm
  obtain ⟨j,hj,rfl⟩:=List.getElem_of_mem h1
  have hp:=List.pairwise_iff_getElem.1 hs
  by_cases hij:i < j
  ·have:=hp _ _ hi hj hij; omega
  ·by_cases hji:j < i
   ·have:=hp _ _ hj hi hji; omega
   ·have:i=j:=by omega
    subst this; rfl
theorem at_none {c:ClientD} {h:Int}:atC c h=none↔∀ k∈c.known,¬ k.h=h:=by
 unfold atC
 rw [List.find?_eq_none]
 simp
theorem put_cases {c:ClientD} (hs:c.known.Pairwise fun a b=>a.h < b.h) (k:KnownD) :
  (putK c k=c∧k∈c.known)∨putK c k={ c with frozen:=true } ∨
  (∃ l1 l2,c.known=l1++l2∧(∀ x∈l1,x.h < k.h)∧(∀ x∈l2,k.h < x.h)∧putK c k={ c with known:=cutK (l1++k :: l2) }):=by
 unfold putK
 rcases low_case k.h hs with ⟨hp,hk,hat⟩ | ⟨hno,hat⟩
 ·rw [hat]
  simp only
  by_cases hsm:samK c.known[lowK c.known k.h] k=true
  ·rw [if_pos hsm]
   left
   refine ⟨rfl,?_⟩
   have hm:=List.getElem_mem hp
   have:c.known[lowK c.known k.h]=k:=by
    revert hsm hk
    generalize c.known[lowK c.known k.h]=o
    obtain ⟨a,b,d,e⟩:=o
    obtain ⟨a',b',d',e'⟩:=k
    simp only [samK,Bool.and_eq_true,decide_eq_true_eq]
    rintro h4 ⟨h1,h2,h3⟩
    simp [h1,h2,h3,h4]
   rw [this] at hm; exact hm
  ·rw [if_neg hsm]; right; left; rfl
 ·rw [hat]
  simp only
  by_cases hb:badK c.known (lowK c.known k.h) k=true
  ·rw [if_pos hb]; right; left; rfl
  ·rw [if_neg hb]
   right; right
   refine ⟨_,_,(List.take_append_drop (lowK c.known k.h) c.known).symm,fun x hx=>?_,fun x hx=>?_,rfl⟩
   ·obtain ⟨i,hi,rfl⟩:=List.getElem_of_mem hx
    simp only [List.length_take] at hi
    rw [List.getElem_take]
    exact (low_iff hs i (by omega)).2 (by omega)
   ·obtain ⟨i,hi,rfl⟩:=List.getElem_of_mem hx
    simp only [List.length_drop] at hi
    rw [List.getElem_drop]
    have h1:=low_iff (h:=k.h) hs (lowK c.known k.h+i) (by omega)
    have h2:¬ c.known[lowK c.known k.h+i].h=k.h:=by
     cases i with
     | zero=>exact hno (by omega)
     | succ i =>
      intro h3
      have:=at_none.1 hat _ (List.getElem_mem (show lowK c.known k.h+(i+1) < c.known.length by omega))
      exact this h3
    omega
theorem putK_same (c:ClientD) (k:KnownD):(putK c k).c=c.c∧(putK c k).trust=c.trust:=by
 unfold putK
 split
 ·split <;> exact ⟨rfl,rfl⟩
 ·split <;> exact ⟨rfl,rfl⟩
theorem ins_riseK {l1 l2:List KnownD} {k:KnownD} (hs:(l1++l2).Pairwise fun a b=>a.h < b.h) (h1:∀ x∈l1,x.h < k.h) (h2:∀ x∈l2,k.h < x.h):(l1++k :: l2).Pairwise fun a b=>a.h < b.h:=by
 obtain ⟨a,b,d⟩:=List.pairwise_append.1 hs
 refine List.pairwise_append.2 ⟨a,List.pairwise_cons.2 ⟨h2,b⟩,fun x hx y hy=>?_⟩
 rcases List.mem_cons.1 hy with rfl | hy
 ·exact h1 x hx
 ·exact d x hx y hy
theorem cut_mem {l:List KnownD} {x:KnownD} (h:x∈cutK l):x∈l:=by
 unfold cutK at h
 split at h
 ·exact List.mem_of_mem_drop h
 ·exact h
theorem put_mem {c:ClientD} (hs:c.known.Pairwise fun a b=>a.h < b.h) {k x:KnownD} (h:x∈(putK c k).known):x∈c.known∨x=k:=by
 rcases put_cases hs k with ⟨e,_⟩ | e | ⟨l1,l2,e0,_,_,e⟩
 ·rw [e] at h; exact .inl h
 ·rw [e] at h; exact .inl h
 ·rw [e] at h
  have:=cut_mem h
  simp only [List.mem_append,List.mem_cons] at this
  rw [e0]
  rcases this with h | h | h
  ·exact .inl (List.mem_append_left _ h)
  ·exact .inr h
  ·exact .inl (List.mem_append_right _ h)
theorem put_ok {c:ClientD} (hc:ClOk c) {k:KnownD} (hk:KnOk k):ClOk (putK c k):=by
 obtain ⟨e1,e2⟩:=putK_same c k
 have hks:∀ x∈(putK c k).known,KnOk x:=fun x hx=>by
  rcases put_mem hc.rise hx with h | rfl
  ·exact hc.k x h
  ·exact hk
 have hlr:(1≤(putK c k).known.length∧(putK c k).known.length≤30)∧(putK c k).known.Pairwise fun a b=>a.h < b.h:=by
  rcases put_cases hc.rise k with ⟨e,_⟩ | e | ⟨l1,l2,e0,h1,h2,e⟩
  ·rw [e]; exact ⟨hc.len,hc.rise⟩
  ·rw [e]; exact ⟨hc.len,hc.rise⟩
  ·rw [e]
   have hr:=hc.rise
   rw [e0] at hr
   have hl:=hc.len
   rw [e0,List.length_append] at hl
   have hi:=ins_riseK hr h1 h2
   have hlen:(l1++k :: l2).length=l1.length+l2.length+1:=by simp; omega
   show (1≤(cutK (l1++k :: l2)).length∧(cutK (l1++k :: l2)).length≤30)∧(cutK (l1++k :: l2)).Pairwise _
   unfold cutK
   split
   ·exact ⟨by rw [List.length_drop]; omega,hi.sublist (List.drop_sublist _ _)⟩
   ·exact ⟨by omega,hi⟩
 exact ⟨by rw [e1]; exact hc.name,by rw [e2]; exact hc.trust,hlr.1,hks,hlr.2⟩
theorem cut_get {l:List KnownD} (hs:l.Pairwise fun a b=>a.h < b.h) (hl:l.length≤31) (x:KnownD) (hx:x∈l):x∈cutK l∨(l.length=31∧l.head?=some x∧∀ y∈cutK l,¬ y.h=x.h):=by
 unfold cutK
 split
 ·cases l with
  | nil=>simp at hx
  | cons a t =>
   rcases List.mem_cons.1 hx with rfl | hx
   ·refine .inr ⟨?_,rfl,fun y hy=>?_⟩
    ·simp only [List.length_cons] at *; omega
    ·have:=(List.pairwise_cons.1 hs).1 y (by simpa using hy)
     omega
   ·exact .inl (by simpa using hx)
 ·exact .inl hx
theorem put_keeps {c:ClientD} (hc:ClOk c) {k:KnownD} (hk:KnOk k) (i:Nat) (hi:i < c.known.length):atC (putK c k) c.known[i].h=some c.known[i]∨(i=0∧c.known.length=30∧atC (putK c k) c.known[i].h=none):=by
 have ho:=put_ok hc hk
 rw [at_iff ho.rise]
 rcases put_cases hc.rise k with ⟨e,_⟩ | e | ⟨l1,l2,e0,h1,h2,e⟩
 ·rw [e]; exact .inl ⟨List.getElem_mem hi,rfl⟩
 ·rw [e]; exact .inl ⟨List.getElem_mem hi,rfl⟩
 ·rw [e] at ho ⊢
  have hr:=hc.rise
  rw [e0] at hr
  have hl:=hc.len
  have hmem:∀ x∈c.known,x∈l1∨x∈l2:=fun x hx=>by rw [e0] at hx; simpa using hx
  have hm:c.known[i]∈l1++k :: l2:=by
   simp only [List.mem_append,List.mem_cons]
   rcases hmem _ (List.getElem_mem hi) with h | h
   ·exact .inl h
   ·exact .inr (.inr h)
  have hlen:(l1++k :: l2).length=c.known.length+1:=by rw [e0]; simp; omega
  rcases cut_get (ins_riseK hr h1 h2) (by omega) _ hm with h | ⟨h3,h4,h5⟩
  ·exact .inl ⟨h,rfl⟩
  ·refine .inr ⟨?_,by omega,at_none.2 h5⟩
   cases l1 with
   | nil =>
    simp only [List.nil_append,List.head?_cons,Option.some.injEq] at h4
    have:=h2 c.known[i] (by have:=hmem _ (List.getElem_mem hi); simpa using this)
    rw [← h4] at this; omega
   | cons a t =>
    simp only [List.cons_append,List.head?_cons,Option.some.injEq] at h4
    have h0:c.known[0]'(by omega)=a:=by simp [e0]
    have hp:=List.pairwise_iff_getElem.1 hc.rise
    by_cases hz:i=0
    ·exact hz
    ·have:=hp 0 i (by omega) hi (by omega)
     rw [h0,h4] at this; omega
theorem put_has {c:ClientD} (hc:ClOk c) {k:KnownD} (hk:KnOk k):(putK c k).frozen=true∨atC (putK c k) k.h=some k∨(c.known.length=30∧atC (putK c k) k.h=none):=by
 have ho:=put_ok hc hk
 rw [at_iff ho.rise]
 rcases put_cases hc.rise k with ⟨e,h⟩ | e | ⟨l1,l2,e0,h1,h2,e⟩
 ·rw [e]; exact .inr (.inl ⟨h,rfl⟩)
 ·rw [e]; exact .inl rfl
 ·rw [e]
  have hr:=hc.rise
  rw [e0] at hr
  have hl:=hc.len
  have hlen:(l1++k :: l2).length=c.known.length+1:=by rw [e0]; simp; omega
  rcases cut_get (ins_riseK hr h1 h2) (by omega) k (by simp) with h | ⟨h3,h4,h5⟩
  ·exact .inr (.inl ⟨h,rfl⟩)
  ·exact .inr (.inr ⟨by omega,at_none.2 h5⟩)
theorem put_len {c:ClientD} (hs:c.known.Pairwise fun a b=>a.h < b.h) (k:KnownD):(putK c k).known.length≤c.known.length+1:=by
 rcases put_cases hs k with ⟨e,h⟩ | e | ⟨l1,l2,e0,h1,h2,e⟩
 ·rw [e]; omega
 ·rw [e]; exact Nat.le_succ _
 ·rw [e]
  show (cutK (l1++k :: l2)).length≤_
  rw [e0]
  unfold cutK
  split
  ·rw [List.length_drop]; simp
  ·simp; omega
theorem put_twice {c:ClientD} (hc:ClOk c) {k:KnownD} (hf:(putK c k).frozen=false) (h:atC (putK c k) k.h=some k):putK (putK c k) k=putK c k:=by
 generalize hd:putK c k=d at *
 have:putK d k=if samK k k=true then d else { d with frozen:=true }:=by unfold putK; rw [h]
 rw [this,if_pos (by simp [samK])]
theorem follow_zero {c:ClientD} {u:UpdD} {now:Int} (h:(followC c u now).2=0):askedE c now=0∧beE c u now=0∧followC c u now=(putK c (ofH u.sg.hdr),0):=by
 unfold followC at h ⊢
 split at h
 ·rename_i h1
  split at h
  ·rename_i h2; exact ⟨h1,h2,by rw [if_pos h1,if_pos h2]⟩
  ·rename_i h2; exact absurd h h2
 ·rename_i h1; exact absurd h h1
theorem follow_no {c:ClientD} {u:UpdD} {now:Int} (h:¬ (followC c u now).2=0):(followC c u now).1=zeroC:=by
 unfold followC at h ⊢
 split at h
 ·rename_i h1
  split at h
  ·exact absurd rfl h
  ·rename_i h2; rw [if_pos h1,if_neg h2]
 ·rename_i h1; rw [if_neg h1]
end Go.Proofs.Ytkodnlkgblkfdaa
/- What the rows hand in: updates. -/
set_option linter.all false
namespace Go.Proofs.Ytkodnlkgblkfdaa
open Go Go.Abs Go.RowKit Go.Proofs.Ytkodnlkgblkfdaa.Ty
theorem dec_Upd {e:List I} (h:HasCs [.int .i64,.str,.int .i64,.int .i64,.sl [.int .u8],.sl [.int .u8],.sl [.int .u8],.sl [.int .u64,.int .u64],.sl [.bool,.int .u64,.int .u64],.sl [.int .u64,.int .u64]] e) :
  ∃ u:UpdD,e=encU u∧(∀ v∈u.sg.vals,Val64 v)∧(∀ x∈u.sg.votes,Vote64 x)∧(∀ v∈u.tr,Val64 v):=by
 obtain ⟨x0,_,rfl,h0,h⟩:=hasCs_cons h
 obtain ⟨x1,_,rfl,h1,h⟩:=hasCs_cons h
 obtain ⟨x2,_,rfl,h2,h⟩:=hasCs_cons h
 obtain ⟨x3,_,rfl,h3,h⟩:=hasCs_cons h
 obtain ⟨x4,_,rfl,h4,h⟩:=hasCs_cons h
 obtain ⟨x5,_,rfl,h5,h⟩:=hasCs_cons h
 obtain ⟨x6,_,rfl,h6,h⟩:=hasCs_cons h
 obtain ⟨x7,_,rfl,h7,h⟩:=hasCs_cons h
 obtain ⟨x8,_,rfl,h8,h⟩:=hasCs_cons h
 obtain ⟨x9,_,rfl,h9,h⟩:=hasCs_cons h
 obtain rfl:=hasCs_nil h
 obtain ⟨f,rfl,_⟩:=dec_int h0
 obtain ⟨c,rfl,_⟩:=dec_str h1
 obtain ⟨a,rfl,_⟩:=dec_int h2
 obtain ⟨b,rfl,_⟩:=dec_int h3
 obtain ⟨u,rfl⟩:=dec_B h4
 obtain ⟨v,rfl⟩:=dec_B h5
 obtain ⟨w,rfl⟩:=dec_B h6
 obtain ⟨l,rfl,hl⟩:=dec_Vals h7
 obtain ⟨m,rfl,hm⟩:=dec_Votes h8
 obtain ⟨t,rfl,ht⟩:=dec_Vals h9
 exact ⟨⟨f,⟨⟨c,a,b,u,v,w⟩,l,m⟩,t⟩,rfl,hl,hm,ht⟩
theorem up_agg (u:UpdD):D.agg ((encU u).map .i)=updD u:=rfl
theorem up_sm {u:UpdD} {n:Nat} (hb:bkL (encU u)≤n) (hn:n≤1048576) (h1:∀ v∈u.sg.vals,Val64 v) (h2:∀ x∈u.sg.votes,Vote64 x) (h3:∀ v∈u.tr,Val64 v):UpSm u:=by
 have k1:=bk_B u.sg.hdr.root
 have k2:=bk_B u.sg.hdr.vals
 have k3:=bk_B u.sg.hdr.next
 have k4:=bk_len encV u.sg.vals
 have k5:=bk_len encV u.tr
 simp only [encU,encS,valsI,votesI,List.cons_append,List.nil_append,bkL,bkI,k1,k2,k3] at hb k4 k5
 exact ⟨⟨⟨by omega,by omega,by omega,by omega⟩,by omega,h1,h2⟩,by omega,h3,by omega⟩
end Go.Proofs.Ytkodnlkgblkfdaa
/- The law ClientTells: the walk. -/
set_option linter.all false
namespace Go.Proofs.Ytkodnlkgblkfdaa
open Go Go.Abs Go.RowKit Go.Proofs.Ytkodnlkgblkfdaa.Ty
set_option maxHeartbeats 8000000
set_option maxRecDepth 20000
theorem zero_sm:ClSm zeroC:=⟨by simp [zeroC],by simp [zeroC]⟩
theorem follow_sm (c:ClientD) (u:UpdD) (now:Int):ClSm (followC c u now).1:=by
 unfold followC
 split
 ·rename_i h1
  split
  ·rename_i h2
   exact (put_ok (asked_zero.1 h1).1 (be_hdr h2).1).sm
  ·exact zero_sm
 ·exact zero_sm
theorem catch_sm (c:ClientD) (a b:UpdD) (now:Int):ClSm (catchC c a b now).1:=by
 unfold catchC
 split
 ·rename_i h1
  have:=(asked_zero.1 h1).1.sm
  split
  ·split
   ·split
    ·exact ⟨this.l,this.k⟩
    ·exact zero_sm
   ·exact zero_sm
  ·exact zero_sm
 ·exact zero_sm
theorem new_sm (c:ByteArray) (t:Int) (k:KnownD):ClSm (newC c t k).1:=by
 unfold newC
 split
 ·rename_i h; exact (wrongC_zero.1 h).sm
 ·exact zero_sm
theorem walk_ClientTells (y0:List I) (c:ClientD) (e0:y0=encC c) (y1:List I) (k:KnownD) (e1:y1=encK k)
  (y2:List I) (a:UpdD) (e2:y2=encU a∧(∀ v∈a.sg.vals,Val64 v)∧(∀ x∈a.sg.votes,Vote64 x)∧(∀ v∈a.tr,Val64 v))
  (y3:List I) (b:UpdD) (e3:y3=encU b∧(∀ v∈b.sg.vals,Val64 v)∧(∀ x∈b.sg.votes,Vote64 x)∧(∀ v∈b.tr,Val64 v)) (y4:I) (now:Int) (e4:y4=.s (.int .i64 now)∧(Lit.int .i64 now).wf=true)
  (hb:bkL y0+bkL y1+bkL y2+bkL y3+bkI y4≤1048576) :
  ∃ Ds,PureD Try.prog 3 Ds (.i (.s (.bool true)))∧Ds=[.agg (y0.map .i),.agg (y1.map .i),.agg (y2.map .i),.agg (y3.map .i),.i y4]:=by
 subst e0
 subst e1
 obtain ⟨rfl,u1,u2,u3⟩:=e2
 obtain ⟨rfl,v1,v2,v3⟩:=e3
 obtain ⟨rfl,_⟩:=e4
 refine ⟨_,?_,rfl⟩
 rw [cl_agg,kn_agg,up_agg,up_agg]
 have hc:=(cl_sm (c:=c) (n:=1048576) (by omega) (by omega)).1
 have hk:KnSm k:=⟨by simp only [encK,bkL,bkI,bI] at hb; have:=bk_len byteI k.root; simp only [bkI] at this; omega,by simp only [encK,bkL,bkI,bI] at hb; have:=bk_len byteI k.next; simp only [bkI] at this; omega⟩
 have ha:=up_sm (u:=a) (n:=1048576) (by omega) (by omega) u1 u2 u3
 have hbu:=up_sm (u:=b) (n:=1048576) (by omega) (by omega) v1 v2 v3
 clear hb u1 u2 u3 v1 v2 v3
 refine hide_r fun R hR=>?_
 have c1:=cwrong_A c hc.l
 have c2:=rwrongC_A c hc.l
 have c3:=cnew_A c.c c.trust k hk
 have c4:=rnewC_A c.c c.trust k
 have c5:=rsameC_A _ (new_sm c.c c.trust k)
 have c6:=rnum_A now
 have r1:=cfollow_A c a now hc.l ha
 have r2:=rfollow_A c a now hc.l ha
 have r3:=rsameC_A _ (follow_sm c a now)
 have r4:=ccatch_A c a b now hc.l ha hbu
 have r5:=rcatch_A c a b now hc.l ha hbu
 have r6:=rsameC_A _ (catch_sm c a b now)
 have hact:wrongC c=0∧numB now=true→PureD Try.prog 10 [clientD c,intD now] (boolD (activeC c now))∧PureD Try.prog 11 [clientD c,intD now] (boolD (activeC c now)):=by
  rintro ⟨h1,h2⟩
  have ok:=wrongC_zero.1 h1
  have hn:0≤now∧now≤1000000000000:=by simpa [numB] using h2
  exact ⟨act_A ok hn,ractC_A ok hn⟩
 clear ha hbu hc hk
 generalize newC c.c c.trust k=N at *
 generalize followC c a now=F at *
 generalize catchC c a b now=G at *
 obtain ⟨N1,N2⟩:=N
 obtain ⟨F1,F2⟩:=F
 obtain ⟨G1,G2⟩:=G
 simp only [] at c3 c4 c5 r1 r2 r3 r4 r5 r6
 generalize wrongC c=W at *
 generalize numB now=B at *
 by_cases hq:W=0∧B=true
 ·obtain ⟨c7,c8⟩:=hact hq
  obtain ⟨rfl,rfl⟩:=hq
  clear hact
  generalize activeC c now=A at *
  have q1:(A != A)=false:=by cases A <;> rfl
  have q2:(!decide (A=A))=false:=by simp
  have q3:(!(A == A))=false:=by cases A <;> rfl
  refine callD_W 110 Try.func3 rfl rfl rfl (fun _ _=>rfl) ?_
  refine wkl ?_
  clear hR c1 c2 c3 c4 c5 c6 c7 c8; intro hR
  repeat' (intro _)
  have c1:=r1
  have c2:=r2
  have c3:=r3
  have c4:=r4
  have c5:=r5
  have c6:=r6
  clear r1 r2 r3 r4 r5 r6
  exact wkl trivial
 ·clear hact
  by_cases hw:W=0
  ·have hB:B=false:=by cases B <;> simp_all
   subst hw hB
   clear hq
   refine callD_W 110 Try.func3 rfl rfl rfl (fun _ _=>rfl) ?_
   refine wkl ?_
   clear hR c1 c2 c3 c4 c5 c6; intro hR
   repeat' (intro _)
   have c1:=r1
   have c2:=r2
   have c3:=r3
   have c4:=r4
   have c5:=r5
   have c6:=r6
   clear r1 r2 r3 r4 r5 r6
   exact wkl trivial
  ·clear hq
   refine callD_W 110 Try.func3 rfl rfl rfl (fun _ _=>rfl) ?_
   refine wkl ?_
   clear hR c1 c2 c3 c4 c5 c6; intro hR
   repeat' (intro _)
   have c1:=r1
   have c2:=r2
   have c3:=r3
   have c4:=r4
   have c5:=r5
   have c6:=r6
   clear r1 r2 r3 r4 r5 r6
   exact wkl trivial
end Go.Proofs.Ytkodnlkgblkfdaa
/- The statement on landlaw7.ClientTells: for every input of bounded bulk it answers true and leaves its arguments as they were. -/
set_option linter.all false
namespace Go.Proofs.Ytkodnlkgblkfdaa.clientTells
open Go.ChangeShapes Go.WideShapes Go.ChangeAt Go.RowKit Go.Abs
set_option linter.unusedVariables false
set_option maxRecDepth 100000 in
theorem contract (H:Type) (enc:TypeId × Value→H) (W:World) (base:Nat) (args:Array Value) (ds gs:List (DataW H)) (before:List MemPlace)
  (hval:∀ (j:Nat) t v,Try.f3.params[j]?=some t→args[j]?=some v→Value.okWide Try.prog W .any base t v)
  (hW:DataW.Whole enc Try.prog Try.f3.params.toList Rows.clientTellsSpec.vars false W args.toList ds gs before) (hk:Rows.uptoSmall H (ds++gs)=true) :
  Calls Try.prog 3 args W fun e W'=>∃ v,e=.returned v∧Rows.clientTellsSpec.post enc Try.prog Try.f3 false true false false W args v W':=by
 have hW':=hW
 obtain ⟨p,q,hA0,hV,rfl,hfz,hnd⟩:=hW'
 have hA:DataW.TrodAll enc Try.prog W 0 (fun _=>true) true Try.f3.params.toList args.toList ds p:=hA0
 have hA1:=hA
 rw [Try.params3] at hA hval
 obtain ⟨v0,vs0,d0,ds0,p0,q0,hargs,rfl,rfl,h0,r0⟩:=trodAll_cons hA
 obtain ⟨v1,vs1,d1,ds1,p1,q1,rfl,rfl,rfl,h1,r1⟩:=trodAll_cons r0
 obtain ⟨v2,vs2,d2,ds2,p2,q2,rfl,rfl,rfl,h2,r2⟩:=trodAll_cons r1
 obtain ⟨v3,vs3,d3,ds3,p3,q3,rfl,rfl,rfl,h3,r3⟩:=trodAll_cons r2
 obtain ⟨v4,vs4,d4,ds4,p4,q4,rfl,rfl,rfl,h4,r4⟩:=trodAll_cons r3
 obtain ⟨rfl,rfl,rfl⟩:=trodAll_nil r4
 obtain rfl:args=#[v0,v1,v2,v3,v4]:=by cases args; simp_all
 obtain ⟨rfl,rfl⟩:=trodVars_none hV
 have hb:Rows.uptoBulkAll (H:=H) [d0,d1,d2,d3,d4]≤1048576:=by have:=of_decide_eq_true hk; simpa using this
 simp only [Rows.uptoBulkAll] at hb
 obtain ⟨y0,c0,w0,b0⟩:=open_ag R2.bulk Ty.sh24 Try.underlying24 (hval 0 24 v0 rfl rfl) h0
 obtain ⟨x0,e0⟩:=dec_Client c0
 obtain ⟨y1,c1,w1,b1⟩:=open_ag R2.bulk Ty.sh27 Try.underlying27 (hval 1 27 v1 rfl rfl) h1
 obtain ⟨x1,e1⟩:=dec_Known c1
 obtain ⟨y2,c2,w2,b2⟩:=open_ag R2.bulk Ty.sh35 Try.underlying35 (hval 2 35 v2 rfl rfl) h2
 obtain ⟨x2,e2⟩:=dec_Upd c2
 obtain ⟨y3,c3,w3,b3⟩:=open_ag R2.bulk Ty.sh35 Try.underlying35 (hval 3 35 v3 rfl rfl) h3
 obtain ⟨x3,e3⟩:=dec_Upd c3
 obtain ⟨y4,c4,w4,b4⟩:=open_in R2.bulk Ty.sh3 Try.underlying3 (hval 4 3 v4 rfl rfl) h4
 obtain ⟨x4,e4⟩:=dec_int c4
 have hy0:=e0
 have hy1:=e1
 have hy2:=e2
 have hy3:=e3
 have hy4:=e4
 simp only [List.append_nil] at hW
 obtain ⟨Ds,hp,hs⟩:=walk_ClientTells y0 x0 e0 y1 x1 e1 y2 x2 e2 y3 x3 e3 y4 x4 e4 (by omega)
 subst hs
 refine (pure_calls hp rfl (fun j d hd=>?_)).mono fun e W' ⟨he,bel⟩=>?_
 ·rcases j with _ | _ | _ | _ | _ | j <;> simp at hd <;> subst hd <;> assumption
 ·subst he
  exact ⟨_,rfl,_,_,_,[],_,[],hW,trodAll_mk1 (shut_bool Try.underlying4 _),R2.trodAll_below hA1 bel (by rw [Try.params3]; decide +kernel),rfl,bel.frame _,fun h=>by cases h⟩
set_option maxRecDepth 100000 in
theorem lifted (os:Os) (started:os.Started) (H:Type) (enc:TypeId × Value→H) (F:Stop.Interp) :
  ReturnsInHanded {} Try.checked os 3 .any ((Rows.OpenSpec.upto Rows.clientTellsSpec).pre6 enc Try.prog Try.f3 Rows.clientTellsUptoRow.domain false) (((Rows.OpenSpec.upto Rows.clientTellsSpec).at F).post enc Try.prog Try.f3 false true false false):=by
 refine returnsInHanded_of_cond (C:=Try.checked) (s:=Rows.OpenSpec.upto Rows.clientTellsSpec) (k:=Rows.uptoSmall) rfl R2.own started (by kernel_rfl) Try.func3
  (OpenSpec.witness (enc:=enc) (C:=Try.checked) (s:=Rows.OpenSpec.upto Rows.clientTellsSpec) (k:=Rows.uptoSmall) rfl false ⟨#[],#[.agg #[.string ⟨#[]⟩,.int .i64 0,.bool false,.slice none 0 0],.agg #[.int .i64 0,.int .i64 0,.slice none 0 0,.slice none 0 0],.agg #[.int .i64 0,.string ⟨#[]⟩,.int .i64 0,.int .i64 0,.slice none 0 0,.slice none 0 0,.slice none 0 0,.slice none 0 0,.slice none 0 0,.slice none 0 0],.agg #[.int .i64 0,.string ⟨#[]⟩,.int .i64 0,.int .i64 0,.slice none 0 0,.slice none 0 0,.slice none 0 0,.slice none 0 0,.slice none 0 0,.slice none 0 0],.int .i64 0],[]⟩ 20 (by kernel_rfl) (by kernel_rfl) (by kernel_rfl)
   (x:=([.agg [.lit (.string []),.lit (.int .i64 0),.lit (.bool false),.nil],.agg [.lit (.int .i64 0),.lit (.int .i64 0),.nil,.nil],.agg [.lit (.int .i64 0),.agg [.agg [.lit (.string []),.lit (.int .i64 0),.lit (.int .i64 0),.nil,.nil,.nil],.nil,.nil],.nil],.agg [.lit (.int .i64 0),.agg [.agg [.lit (.string []),.lit (.int .i64 0),.lit (.int .i64 0),.nil,.nil,.nil],.nil,.nil],.nil],.lit (.int .i64 0)],[],[])) (by kernel_rfl) rfl (by kernel_rfl)) ?_
 intro W base args ds gs before hval hW _ hk _
 exact contract H enc W base args ds gs before hval hW hk
theorem over:Rows.clientTellsUptoRow.holds Try.pinned (Rows.OpenSpec.upto Rows.clientTellsSpec) :=
 OpenClaim.holds_of_cond 3 Try.f3 rfl rfl rfl rfl rfl rfl rfl ⟨rfl,rfl,rfl,rfl,rfl⟩ rfl rfl rfl rfl rfl (by kernel_rfl) Try.func3 (by kernel_rfl)
  (of_decide_eq_true (by kernel_rfl)) (by unfold Func.isWrapper; first | (rw [if_pos (by decide +kernel)]; kernel_rfl) | (rw [if_neg (by decide +kernel)]; exact ⟨rfl,rfl⟩))
  (fun os started H enc _ F=>lifted os started H enc F)
theorem proved:Rows.ClientTellsUptoSaid:=over
end Go.Proofs.Ytkodnlkgblkfdaa.clientTells
