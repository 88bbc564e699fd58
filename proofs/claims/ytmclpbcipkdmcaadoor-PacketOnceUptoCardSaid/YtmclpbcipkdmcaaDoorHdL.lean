/- Headers' votes, plain: who signs is counted. No program is in sight. -/
import Derived.Test.YtmclpbcipkdmcaaDoorHdP
import Derived.Test.YtmclpbcipkdmcaaDoorSealP
import Derived.Test.YtmclpbcipkdmcaaDoorWireL
set_option linter.all false
namespace Go.Proofs.YtmclpbcipkdmcaaDoor
open Go Go.Abs

/-- has one of the seeds a key? -/
def hasK (seeds : List (List UInt8)) (k : Nat) : Bool := seeds.any fun s => decide (k = keyF s)
def votedOf (seeds : List (List UInt8)) (v : ValD) : Nat := if hasK seeds v.k = true then v.p else 0
def votedP (seeds : List (List UInt8)) (l : List ValD) : Nat := (l.map (votedOf seeds)).sum
theorem voteF_snoc (h : HdrD) (seeds : List (List UInt8)) (s : List UInt8) (v : ValD) : voteF h (seeds ++ [s]) v = if v.k = keyF s then ⟨true, sigR s (bytesH h), sigS s (bytesH h)⟩ else voteF h seeds v := by
  unfold voteF; rw [List.foldl_append]; rfl
theorem voteF_is (h : HdrD) (v : ValD) (seeds : List (List UInt8)) : (voteF h seeds v).is = hasK seeds v.k ∧ ((voteF h seeds v).is = true → goodF v.k (bytesH h) (voteF h seeds v).r (voteF h seeds v).s = true) := by
  have key : ∀ (t : List (List UInt8)), (voteF h t.reverse v).is = hasK t.reverse v.k ∧ ((voteF h t.reverse v).is = true → goodF v.k (bytesH h) (voteF h t.reverse v).r (voteF h t.reverse v).s = true) := by
    intro t
    induction t with
    | nil => exact ⟨rfl, fun h => by cases h⟩
    | cons a t ih =>
      rw [List.reverse_cons, voteF_snoc]
      by_cases hk : v.k = keyF a
      · rw [if_pos hk]
        refine ⟨by simp [hasK, hk], fun _ => ?_⟩
        rw [hk]; exact seal_good a (bytesH h)
      · rw [if_neg hk]
        refine ⟨?_, ih.2⟩
        rw [ih.1]; simp [hasK, hk]
  have := key seeds.reverse
  rwa [List.reverse_reverse] at this
theorem zip_map_self {α β : Type} (l : List α) (f : α → β) : l.zip (l.map f) = l.map fun x => (x, f x) := by
  induction l with
  | nil => rfl
  | cons a t ih => rw [List.map_cons, List.zip_cons_cons, ih, List.map_cons]
theorem yes_sign (h : HdrD) (seeds : List (List UInt8)) (l : List ValD) : yesF (l.zip (l.map (voteF h seeds))) = votedP seeds l := by
  rw [zip_map_self]
  unfold yesF votedP
  rw [List.map_map]
  congr 1
  apply List.map_congr_left
  intro v _
  show (if (voteF h seeds v).is = true then v.p else 0) = _
  rw [(voteF_is h v seeds).1]; rfl
theorem bad_sign (h : HdrD) (seeds : List (List UInt8)) (l : List ValD) : badF (bytesH h) (l.zip (l.map (voteF h seeds))) = false := by
  rw [zip_map_self]
  unfold badF
  rw [List.any_eq_false]
  intro q hq
  obtain ⟨v, _, rfl⟩ := List.mem_map.1 hq
  show ¬ ((voteF h seeds v).is && !goodF v.k (bytesH h) (voteF h seeds v).r (voteF h seeds v).s) = true
  cases hi : (voteF h seeds v).is
  · simp
  · rw [(voteF_is h v seeds).2 hi]; simp
structure SignOk (h : HdrD) (l : List ValD) : Prop where
  w : wrongH h = 0
  v : ValsOk l
  d : digestV l = h.vals
theorem sign_ok {h : HdrD} {l : List ValD} (r : SignOk h l) (seeds : List (List UInt8)) : signF h l seeds = (⟨h, l, l.map (voteF h seeds)⟩, 0) := by
  unfold signF
  rw [if_pos r.w, if_pos (valsW_zero.2 r.v), if_pos r.d]
theorem sign_iff {h : HdrD} {l : List ValD} {seeds : List (List UInt8)} : (signF h l seeds).2 = 0 ↔ SignOk h l := by
  constructor
  · intro e
    unfold signF at e
    split at e
    · rename_i h1
      split at e
      · rename_i h2
        split at e
        · rename_i h3; exact ⟨h1, valsW_zero.1 h2, h3⟩
        · cases e
      · rename_i h2; exact absurd e h2
    · rename_i h1; exact absurd e h1
  · intro r; rw [sign_ok r]
theorem sign_no {h : HdrD} {l : List ValD} {seeds : List (List UInt8)} (r : ¬ (signF h l seeds).2 = 0) : (signF h l seeds).1 = zeroS := by
  unfold signF at r ⊢
  split
  · rename_i h1
    rw [if_pos h1] at r
    split
    · rename_i h2
      rw [if_pos h2] at r
      split
      · rename_i h3; rw [if_pos h3] at r; exact absurd rfl r
      · rfl
    · rfl
  · rfl
/-- what is wrong does not hang on who signs -/
theorem sign_err (h : HdrD) (l : List ValD) (s t : List (List UInt8)) : (signF h l s).2 = (signF h l t).2 := by
  unfold signF
  split
  · split
    · split <;> rfl
    · rfl
  · rfl
theorem check_sign {h : HdrD} {l : List ValD} (r : SignOk h l) (seeds : List (List UInt8)) : checkS ⟨h, l, l.map (voteF h seeds)⟩ = if 3 * (votedP seeds l : Int) ≤ 2 * (sumP l : Int) then 10 else 0 := by
  unfold checkS
  simp only
  rw [if_pos r.w, if_pos (valsW_zero.2 r.v), if_pos (by simp), if_pos r.d, bad_sign, yes_sign]
  simp
theorem check_voted {h : HdrD} {l : List ValD} (r : SignOk h l) (seeds : List (List UInt8)) : checkS ⟨h, l, l.map (voteF h seeds)⟩ = 0 ↔ 2 * sumP l < 3 * votedP seeds l := by
  rw [check_sign r]
  split
  · constructor
    · intro h; cases h
    · intro h; omega
  · constructor
    · intro _; omega
    · intro _; rfl
theorem sum_mono {α : Type} {f g : α → Nat} : ∀ {l : List α}, (∀ x ∈ l, f x ≤ g x) → (l.map f).sum ≤ (l.map g).sum
  | [], _ => Nat.le_refl _
  | a :: t, h => by
    have := sum_mono (l := t) (fun x hx => h x (List.mem_cons_of_mem _ hx))
    have := h a (List.mem_cons_self ..)
    simp only [List.map_cons, List.sum_cons]; omega
theorem voted_le (seeds : List (List UInt8)) (l : List ValD) : votedP seeds l ≤ sumP l := sum_mono fun v _ => by unfold votedOf; split <;> omega
theorem voted_more (s t : List (List UInt8)) (l : List ValD) : votedP s l ≤ votedP (s ++ t) l := sum_mono fun v _ => by
  unfold votedOf
  by_cases h : hasK s v.k = true
  · rw [if_pos h, if_pos (by unfold hasK at *; rw [List.any_append, h]; rfl)]; omega
  · rw [if_neg h]; omega
def bothOf (s t : List (List UInt8)) (v : ValD) : Nat := if hasK s v.k = true ∧ hasK t v.k = true then v.p else 0
def bothP (s t : List (List UInt8)) (l : List ValD) : Nat := (l.map (bothOf s t)).sum
theorem both_ge (s t : List (List UInt8)) : ∀ (l : List ValD), votedP s l + votedP t l ≤ bothP s t l + sumP l
  | [] => Nat.le_refl _
  | a :: r => by
    have := both_ge s t r
    unfold votedP bothP sumP at *
    simp only [List.map_cons, List.sum_cons]
    have : votedOf s a + votedOf t a ≤ bothOf s t a + a.p := by
      unfold votedOf bothOf
      by_cases h1 : hasK s a.k = true <;> by_cases h2 : hasK t a.k = true <;> simp [h1, h2]
    omega
/-- of validators whose keys rise each meets itself alone -/
theorem hit_self {f : ValD → VoteD} : ∀ {l : List ValD}, l.Pairwise (fun a b => a.k < b.k) → ∀ t ∈ l, hitF (l.map fun v => (v, f v)) t = if (f t).is = true then t.p else 0
  | [], _, t, h => by cases h
  | a :: r, hp, t, ht => by
    have hp' := List.pairwise_cons.1 hp
    unfold hitF
    rw [List.map_cons, List.map_cons, List.sum_cons]
    have hrest : ∀ (m : List ValD), (∀ v ∈ m, v.k ≠ t.k) → ((m.map fun v => (v, f v)).map (hitOf t)).sum = 0 := by
      intro m hm
      induction m with
      | nil => rfl
      | cons b m ih =>
        rw [List.map_cons, List.map_cons, List.sum_cons, ih (fun v hv => hm v (List.mem_cons_of_mem _ hv))]
        unfold hitOf
        rw [if_neg (fun e => hm b (List.mem_cons_self ..) e.1)]
    rcases List.mem_cons.1 ht with rfl | ht
    · rw [hrest r (fun v hv => by have := hp'.1 v hv; omega)]
      unfold hitOf
      simp
    · have := hit_self (f := f) hp'.2 t ht
      unfold hitF at this
      rw [this]
      have : hitOf t (a, f a) = 0 := by unfold hitOf; rw [if_neg (fun e => by have := hp'.1 t ht; have e1 := e.1; simp only at e1; omega)]
      rw [this, Nat.zero_add]
theorem hits_self {h : HdrD} {l : List ValD} (hv : ValsOk l) (seeds : List (List UInt8)) : hitsF (l.zip (l.map (voteF h seeds))) l = votedP seeds l := by
  rw [zip_map_self]
  unfold hitsF votedP
  congr 1
  apply List.map_congr_left
  intro t ht
  rw [hit_self hv.rise t ht, (voteF_is h t seeds).1]; rfl
theorem over_self {h : HdrD} {l : List ValD} (hv : ValsOk l) {seeds : List (List UInt8)} (hm : 2 * sumP l < 3 * votedP seeds l) : overF l ⟨h, l, l.map (voteF h seeds)⟩ = true := by
  unfold overF
  simp only
  rw [hits_self hv]
  exact decide_eq_true (by omega)
theorem sum_insP {α : Type} {l : List α} {v : α} {f : α → Nat} (k : Nat) : ((l.take k ++ v :: l.drop k).map f).sum = (l.map f).sum + f v := by
  rw [List.map_append, List.sum_append, List.map_cons, List.sum_cons]
  have : (l.map f).sum = ((l.take k).map f).sum + ((l.drop k).map f).sum := by rw [← List.sum_append, ← List.map_append, List.take_append_drop]
  omega
end Go.Proofs.YtmclpbcipkdmcaaDoor
