/- Pairs sorted by their keys: plain. -/
import Derived.Test.YtmclpbcipkdmcaaDoorGBook
import Derived.Test.YtmclpbcipkdmcaaDoorG0
set_option linter.all false
namespace Go.Proofs.YtmclpbcipkdmcaaDoor
open Go Go.Abs

def leK (x y : PairD) : Bool := !(decide (Lib.compareBytes y.k x.k < 0))
def sortP (l : List PairD) : List PairD := l.mergeSort leK
theorem sortP_perm (l : List PairD) : (sortP l).Perm l := List.mergeSort_perm l leK
theorem sortP_len (l : List PairD) : (sortP l).length = l.length := (sortP_perm l).length_eq
theorem leK_trans (x y z : PairD) (h1 : leK x y = true) (h2 : leK y z = true) : leK x z = true := by
  simp only [leK, Bool.not_eq_true', decide_eq_false_iff_not] at *
  intro h3
  by_cases h : Lib.compareBytes y.k x.k = 0
  · rw [(cmp_zero _ _).1 h] at h2; exact h2 h3
  · have h4 : Lib.compareBytes x.k y.k < 0 := by rw [cmp_neg]; omega
    exact h2 (cmp_trans _ _ _ h3 h4)
theorem leK_total (x y : PairD) : (leK x y || leK y x) = true := by
  simp only [leK, Bool.or_eq_true, Bool.not_eq_true', decide_eq_false_iff_not]
  rw [cmp_neg x.k y.k]; omega
theorem sortP_srt {l : List PairD} (hn : (l.map (·.k)).Nodup) : (sortP l).Pairwise fun x y => Lib.compareBytes x.k y.k < 0 := by
  have h1 : (sortP l).Pairwise fun x y => leK x y = true := List.pairwise_mergeSort (le := leK) leK_trans leK_total l
  have h2 : ((sortP l).map (·.k)).Nodup := (((sortP_perm l).map _).nodup_iff).2 hn
  rw [List.Nodup, List.pairwise_map] at h2
  refine (h1.and h2).imp fun {a b} h => ?_
  obtain ⟨h, hne⟩ := h
  simp only [leK, Bool.not_eq_true', decide_eq_false_iff_not] at h
  rw [cmp_neg] at h
  have : ¬ Lib.compareBytes a.k b.k = 0 := fun e => hne ((cmp_zero _ _).1 e)
  omega
/-- Two that rise, with the same members, are one. -/
theorem srt_ext : ∀ {l m : List PairD}, (l.Pairwise fun x y => Lib.compareBytes x.k y.k < 0) → (m.Pairwise fun x y => Lib.compareBytes x.k y.k < 0) → l.Perm m → l = m := fun {l m} h1 h2 hp => by
  refine hp.eq_of_pairwise (le := fun x y => Lib.compareBytes x.k y.k < 0) (fun a b _ _ h3 h4 => ?_) h1 h2
  rw [cmp_neg] at h4; omega
end Go.Proofs.YtmclpbcipkdmcaaDoor
