/- landlaw6.block, alive: by value. (hdrD signedD) -/
import Derived.Test.YtkodnlkgblkfdaaLaw6A
import Derived.Test.YtkodnlkgblkfdaaGHd
set_option linter.all false
namespace Go.Proofs.Ytkodnlkgblkfdaa
open Go Go.Abs Go.RowKit Go.Proofs.Ytkodnlkgblkfdaa.Ty
def blockH (l:List ValD):HdrD:=⟨⟨#[97]⟩,1,5,digestV l,digestV l,digestV l⟩
set_option maxHeartbeats 4000000
theorem ins_rise {l:List ValD} {v:ValD} (h:l.Pairwise fun a b=>a.k < b.k) (hn:∀ x∈l,x.k≠v.k):(insV l v).Pairwise fun a b=>a.k < b.k:=by
 have key:insV l v=l.takeWhile (fun x=>decide (x.k < v.k))++v :: l.dropWhile (fun x=>decide (x.k < v.k)):=by
  unfold insV plV
  have e:l.takeWhile (fun x=>decide (x.k < v.k))++l.dropWhile (fun x=>decide (x.k < v.k))=l:=List.takeWhile_append_dropWhile
  generalize l.takeWhile (fun x=>decide (x.k < v.k))=A at *
  generalize l.dropWhile (fun x=>decide (x.k < v.k))=B at *
  subst e
  rw [List.take_left,List.drop_left]
 rw [key]
 induction l with
 | nil=>simp
 | cons a t ih =>
  have hp:=List.pairwise_cons.1 h
  by_cases ha:a.k < v.k
  ·rw [List.takeWhile_cons,List.dropWhile_cons,decide_eq_true ha,if_pos rfl,if_pos rfl,List.cons_append]
   refine List.pairwise_cons.2 ⟨fun x hx=>?_,ih hp.2 (fun x hx=>hn x (List.mem_cons_of_mem _ hx)) (by
    unfold insV plV
    have e:t.takeWhile (fun x=>decide (x.k < v.k))++t.dropWhile (fun x=>decide (x.k < v.k))=t:=List.takeWhile_append_dropWhile
    generalize t.takeWhile (fun x=>decide (x.k < v.k))=A at *
    generalize t.dropWhile (fun x=>decide (x.k < v.k))=B at *
    subst e
    rw [List.take_left,List.drop_left])⟩
   rcases List.mem_append.1 hx with hx | hx
   ·exact hp.1 x ((List.takeWhile_prefix _).subset hx)
   ·rcases List.mem_cons.1 hx with rfl | hx
    ·exact ha
    ·exact hp.1 x ((List.dropWhile_suffix _).subset hx)
  ·rw [List.takeWhile_cons,List.dropWhile_cons,decide_eq_false ha]
   simp only [Bool.false_eq_true,if_false,List.nil_append]
   have hne:=hn a (List.mem_cons_self ..)
   refine List.pairwise_cons.2 ⟨fun x hx=>?_,h⟩
   rcases List.mem_cons.1 hx with rfl | hx
   ·omega
   ·have:=hp.1 x hx; omega
theorem mem_insV {l:List ValD} {v x:ValD}:x∈insV l v↔x=v∨x∈l:=by
 unfold insV
 rw [List.mem_append,List.mem_cons]
 constructor
 ·rintro (h | h | h)
  ·exact .inr (List.mem_of_mem_take h)
  ·exact .inl h
  ·exact .inr (List.mem_of_mem_drop h)
 ·rintro (h | h)
  ·exact .inr (.inl h)
  ·rw [← List.take_append_drop (plV l v) l] at h
   rcases List.mem_append.1 h with h | h
   ·exact .inl h
   ·exact .inr (.inr h)
theorem fourV_mem {p:Nat} {x:ValD}:∀ {i:Nat},x∈fourV p i→∃ j,j < i∧x=⟨keyF (seedK j),p⟩
 | 0,h=>by cases h
 | i+1,h=>by
  rcases mem_insV.1 h with rfl | h
  ·exact ⟨i,by omega,rfl⟩
  ·obtain ⟨j,hj,rfl⟩:=fourV_mem h; exact ⟨j,by omega,rfl⟩
theorem fpk (i:Nat):keyF (seedK i)=fpow 60 1 4 (secretF (seedK i)) pN:=keyF_eq _
set_option maxRecDepth 100000 in
theorem keys_ne:∀ i,i < 4→∀ j,j < i→¬ fpow 60 1 4 (secretF (seedK i)) pN=fpow 60 1 4 (secretF (seedK j)) pN:=by decide +kernel
theorem key_ne {i j:Nat} (hi:i < 4) (hj:j < i):¬ keyF (seedK i)=keyF (seedK j):=by rw [fpk,fpk]; exact keys_ne i hi j hj
theorem fourV_rise (p:Nat):∀ i,i≤4→(fourV p i).Pairwise fun a b=>a.k < b.k
 | 0,_=>List.Pairwise.nil
 | i+1,h=>ins_rise (fourV_rise p i (by omega)) (fun x hx=>by
  obtain ⟨j,hj,rfl⟩:=fourV_mem hx
  exact fun e=>key_ne (by omega) hj e.symm)
theorem fourV_ok {p:Nat} (h1:1≤p) (h2:p≤1000000):ValsOk (fourV p 4):=by
 refine ⟨by rw [fourV_len]; omega,fun v hv=>?_,fourV_rise p 4 (Nat.le_refl _)⟩
 obtain ⟨j,_,rfl⟩:=fourV_mem hv
 exact ⟨h1,h2⟩
theorem fourV_64 {p:Nat} (h2:p≤1000000):∀ v∈fourV p 4,v.k < 18446744073709551616∧v.p < 18446744073709551616:=fun v hv=>by
 obtain ⟨j,_,rfl⟩:=fourV_mem hv
 exact ⟨key_lt _,by simp only; omega⟩
theorem block_ok {p:Nat} (h1:1≤p) (h2:p≤1000000):SignOk (blockH (fourV p 4)) (fourV p 4):=by
 refine ⟨?_,fourV_ok h1 h2,rfl⟩
 have hl:(digestV (fourV p 4)).length=32:=sha_length _
 unfold wrongH blockH
 simp only [hl]
 rw [if_pos (by decide)]
 decide
theorem sumP_ins (l:List ValD) (v:ValD):sumP (insV l v)=sumP l+v.p:=sum_insP _
theorem voted_ins (s:List (List UInt8)) (l:List ValD) (v:ValD):votedP s (insV l v)=votedP s l+votedOf s v:=sum_insP _
theorem sumP_four (p:Nat):sumP (fourV p 4)=4 * p:=by
 simp only [fourV,sumP_ins,show sumP []=0 from rfl]; omega
theorem hasK_of {i n:Nat} (hi:i < 4) (hn:n≤4):hasK (seedsK n) (keyF (seedK i))=decide (i < n):=by
 unfold hasK seedsK
 rw [Bool.eq_iff_iff]
 simp only [List.any_eq_true,List.mem_map,List.mem_range,decide_eq_true_eq]
 constructor
 ·rintro ⟨s,⟨j,hj,rfl⟩,h⟩
  rcases Nat.lt_trichotomy i j with h1 | h1 | h1
  ·exact absurd h.symm (key_ne (by omega) h1)
  ·omega
  ·exact absurd h (key_ne hi h1)
 ·intro h; exact ⟨seedK i,⟨i,h,rfl⟩,rfl⟩
theorem voted_four (p n:Nat) (hn:n≤4):votedP (seedsK n) (fourV p 4)=n * p:=by
 have v0:votedOf (seedsK n) ⟨keyF (seedK 0),p⟩=if 0 < n then p else 0:=by unfold votedOf; rw [hasK_of (by omega) hn]; simp
 have v1:votedOf (seedsK n) ⟨keyF (seedK 1),p⟩=if 1 < n then p else 0:=by unfold votedOf; rw [hasK_of (by omega) hn]; simp
 have v2:votedOf (seedsK n) ⟨keyF (seedK 2),p⟩=if 2 < n then p else 0:=by unfold votedOf; rw [hasK_of (by omega) hn]; simp
 have v3:votedOf (seedsK n) ⟨keyF (seedK 3),p⟩=if 3 < n then p else 0:=by unfold votedOf; rw [hasK_of (by omega) hn]; simp
 simp only [fourV,voted_ins,show votedP (seedsK n) []=0 from rfl,v0,v1,v2,v3]
 have:n=0∨n=1∨n=2∨n=3∨n=4:=by omega
 rcases this with rfl | rfl | rfl | rfl | rfl <;> simp <;> omega
theorem blk_sm (l:List ValD):HdrSm (blockH l):=by
 have hl:(digestV l).length=32:=sha_length _
 exact ⟨by show ByteArray.size ⟨#[97]⟩≤_; decide,by show (digestV l).length≤_; omega,by show (digestV l).length≤_; omega,by show (digestV l).length≤_; omega⟩
theorem vote_64 (h:HdrD) (seeds:List (List UInt8)) (v:ValD):(voteF h seeds v).r < 18446744073709551616∧(voteF h seeds v).s < 18446744073709551616:=by
 have key:∀ (t:List (List UInt8)),(voteF h t.reverse v).r < 18446744073709551616∧(voteF h t.reverse v).s < 18446744073709551616:=by
  intro t
  induction t with
  | nil=>exact ⟨show 0 < _ by decide,show 0 < _ by decide⟩
  | cons a t ih =>
   rw [List.reverse_cons,voteF_snoc]
   split
   ·exact ⟨sigR_lt _ _,sigS_lt _ _⟩
   ·exact ih
 have:=key seeds.reverse
 rwa [List.reverse_reverse] at this
theorem sgn_sm {h:HdrD} {l:List ValD} (seeds:List (List UInt8)) (hs:HdrSm h) (hl:l.length≤1048576) (hk:∀ v∈l,v.k < 18446744073709551616∧v.p < 18446744073709551616):SgnSm ⟨h,l,l.map (voteF h seeds)⟩ :=
 ⟨hs,hl,hk,fun x hx=>by obtain ⟨v,_,rfl⟩:=List.mem_map.1 hx; exact vote_64 h seeds v⟩
theorem seedsK_sm (n:Nat) (hn:n≤4):SeedsSm (seedsK n):=⟨by simp [seedsK]; omega,fun s hs=>by
 unfold seedsK at hs
 obtain ⟨i,_,rfl⟩:=List.mem_map.1 hs
 simp [seedK]⟩
end Go.Proofs.Ytkodnlkgblkfdaa
