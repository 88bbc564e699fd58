/- The order of keys, and what a right book is: plain laws. -/
import Derived.Test.YtdpfjmkilbepgaaBookA
import Derived.Test.YtdpfjmkilbepgaaCmpO
set_option linter.all false
namespace Go.Proofs.Ytdpfjmkilbepgaa
open Go Go.Abs

/-- A right book. -/
structure Right (l : List PairD) : Prop where
  len : l.length ≤ 200
  big : ∀ p ∈ l, p.k.length ≤ 60 ∧ p.v.length ≤ 200
  ord : ∀ i j (hi : i < l.length) (hj : j < l.length), i < j → Lib.compareBytes l[i].k l[j].k < 0
theorem bigP_no {p : PairD} (h : bigP p = false) : p.k.length ≤ 60 ∧ p.v.length ≤ 200 := by
  simp [bigP] at h; omega
theorem wrongGo_ok (l : List PairD) : ∀ (d i : Nat), l.length - i = d → (wrongGo l i).1 = 0 → ∀ a (ha : a < l.length), i ≤ a → bigP l[a] = false ∧ (∀ h : 0 < a, Lib.compareBytes (l[a - 1]'(by omega)).k l[a].k < 0) := by
  intro d
  induction d with
  | zero => intro i hd _ a ha hia; omega
  | succ d ih =>
    intro i hd hw a ha hia
    rw [wrongGo, dif_pos (by omega)] at hw
    split at hw
    · cases hw
    · rename_i hb
      split at hw
      · cases hw
      · rename_i hc
        by_cases hai : a = i
        · subst hai
          refine ⟨by simpa using hb, fun h => ?_⟩
          have : ¬ 0 ≤ Lib.compareBytes (l[a - 1]'(by omega)).k l[a].k := fun h' => hc ⟨h, h'⟩
          omega
        · exact ih (i + 1) (by omega) hw a ha (by omega)
theorem right_of {l : List PairD} (h : (wrongF l).1 = 0) : Right l := by
  unfold wrongF at h
  split at h
  · cases h
  · rename_i hl
    have hw := wrongGo_ok l _ 0 rfl h
    refine ⟨by omega, fun p hp => ?_, ?_⟩
    · obtain ⟨a, ha, rfl⟩ := List.getElem_of_mem hp
      exact bigP_no (hw a ha (Nat.zero_le _)).1
    · intro i j
      induction j with
      | zero => intro _ _ h; omega
      | succ j ih =>
        intro hi hj hij
        have h1 := (hw (j + 1) hj (Nat.zero_le _)).2 (by omega)
        simp only [Nat.add_sub_cancel] at h1
        by_cases hc : i = j
        · subst hc; exact h1
        · exact cmp_trans _ _ _ (ih hi (by omega) (by omega)) h1
theorem wrongGo_right {l : List PairD} (h : Right l) : ∀ (d i : Nat), l.length - i = d → wrongGo l i = (0, 0) := by
  intro d
  induction d with
  | zero => intro i hd; rw [wrongGo, dif_neg (by omega)]
  | succ d ih =>
    intro i hd
    have hi : i < l.length := by omega
    rw [wrongGo, dif_pos hi]
    have hb := h.big _ (List.getElem_mem hi)
    rw [if_neg (by simp [bigP]; omega), if_neg, ih (i + 1) (by omega)]
    rintro ⟨h1, h2⟩
    have := h.ord (i - 1) i (by omega) hi (by omega)
    omega
theorem wrong_right {l : List PairD} (h : Right l) : wrongF l = (0, 0) := by
  rw [wrongF, if_neg (by have := h.len; omega)]; exact wrongGo_right h _ 0 rfl
theorem wrong_zero {l : List PairD} (h : (wrongF l).1 = 0) : wrongF l = (0, 0) := wrong_right (right_of h)

/-- Where a key stands, or would. -/
def placeF (l : List PairD) (key : List UInt8) : Nat := (l.takeWhile fun p => decide (Lib.compareBytes p.k key < 0)).length
def thereF (l : List PairD) (key : List UInt8) : Bool := if h : placeF l key < l.length then decide (l[placeF l key].k = key) else false
theorem placeF_le (l : List PairD) (key : List UInt8) : placeF l key ≤ l.length := (List.takeWhile_sublist _).length_le
theorem placeF_lo (key : List UInt8) : ∀ (l : List PairD) (a : Nat) (ha : a < l.length), a < placeF l key → Lib.compareBytes l[a].k key < 0
  | [], a, ha, _ => by simp at ha
  | p :: t, a, ha, h => by
    unfold placeF at h
    rw [List.takeWhile_cons] at h
    split at h
    · rename_i hp
      cases a with
      | zero => simpa using hp
      | succ a => exact placeF_lo key t a (by simpa using ha) (by simpa [placeF] using h)
    · simp at h
theorem placeF_at (key : List UInt8) : ∀ (l : List PairD) (h : placeF l key < l.length), ¬ Lib.compareBytes l[placeF l key].k key < 0
  | [], h => by simp at h
  | p :: t, h => by
    unfold placeF at h
    simp only [placeF]
    by_cases hp : decide (Lib.compareBytes p.k key < 0) = true
    · have e : (List.takeWhile (fun p => decide (Lib.compareBytes p.k key < 0)) (p :: t)).length = placeF t key + 1 := by
        rw [List.takeWhile_cons, if_pos hp]; rfl
      simp only [e] at h ⊢
      have := placeF_at key t (by simpa using h)
      simpa using this
    · have e : (List.takeWhile (fun p => decide (Lib.compareBytes p.k key < 0)) (p :: t)).length = 0 := by
        rw [List.takeWhile_cons, if_neg hp]; rfl
      simp only [e]
      simpa using hp
theorem placeF_iff {l : List PairD} (h : Right l) (key : List UInt8) : ∀ a (ha : a < l.length), Lib.compareBytes l[a].k key < 0 ↔ a < placeF l key := by
  intro a ha
  refine ⟨fun h1 => ?_, placeF_lo key l a ha⟩
  apply Decidable.byContradiction
  intro hc
  have hp : placeF l key < l.length := by omega
  have h2 := placeF_at key l hp
  by_cases he : a = placeF l key
  · subst he; exact h2 h1
  · exact h2 (cmp_trans _ _ _ (h.ord _ a hp ha (by omega)) h1)
end Go.Proofs.Ytdpfjmkilbepgaa
