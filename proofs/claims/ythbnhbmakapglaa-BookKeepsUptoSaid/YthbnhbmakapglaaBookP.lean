/- Books, plain: what comes, what goes. No program here. -/
import Derived.Test.YthbnhbmakapglaaBookO
import Derived.Test.YthbnhbmakapglaaGapA
set_option linter.all false
namespace Go.Proofs.Ythbnhbmakapglaa

def Srt (l : List PairD) : Prop := l.Pairwise fun a b => Lib.compareBytes a.k b.k < 0
theorem srt_of {l : List PairD} (h : Right l) : Srt l := List.pairwise_iff_getElem.2 fun i j hi hj hij => h.ord i j hi hj hij
theorem right_mk {l : List PairD} (h1 : l.length ≤ 200) (h2 : ∀ p ∈ l, p.k.length ≤ 60 ∧ p.v.length ≤ 200) (h3 : Srt l) : Right l := ⟨h1, h2, fun i j hi hj hij => List.pairwise_iff_getElem.1 h3 i j hi hj hij⟩
def ltK (key : List UInt8) (q : PairD) : Bool := decide (Lib.compareBytes q.k key < 0)
def gtK (key : List UInt8) (q : PairD) : Bool := decide (Lib.compareBytes key q.k < 0)
def putP (l : List PairD) (p : PairD) : List PairD := l.filter (ltK p.k) ++ p :: l.filter (gtK p.k)
def rmP (l : List PairD) (key : List UInt8) : List PairD := l.filter fun q => !decide (q.k = key)
theorem cmp_self (a : List UInt8) : ¬ Lib.compareBytes a a < 0 := by have := (cmp_zero a a).2 rfl; omega
theorem lt_ne {a b : List UInt8} (h : Lib.compareBytes a b < 0) : a ≠ b := fun e => by subst e; exact cmp_self a h
theorem lt_asym {a b : List UInt8} (h : Lib.compareBytes a b < 0) : ¬ Lib.compareBytes b a < 0 := by rw [cmp_neg]; omega
theorem tri (a b : List UInt8) : Lib.compareBytes a b < 0 ∨ a = b ∨ Lib.compareBytes b a < 0 := by
  by_cases h : Lib.compareBytes a b < 0
  · exact .inl h
  · by_cases h0 : Lib.compareBytes a b = 0
    · exact .inr (.inl ((cmp_zero _ _).1 h0))
    · refine .inr (.inr ?_); rw [cmp_neg]; omega
theorem place_cons (q : PairD) (t : List PairD) (key : List UInt8) : placeF (q :: t) key = if Lib.compareBytes q.k key < 0 then placeF t key + 1 else 0 := by
  unfold placeF
  rw [List.takeWhile_cons]
  by_cases h : Lib.compareBytes q.k key < 0
  · simp [h]
  · simp [h]
theorem there_cons (q : PairD) (t : List PairD) (key : List UInt8) : thereF (q :: t) key = if Lib.compareBytes q.k key < 0 then thereF t key else decide (q.k = key) := by
  by_cases h : Lib.compareBytes q.k key < 0
  · rw [if_pos h]
    unfold thereF
    have hp : placeF (q :: t) key = placeF t key + 1 := by rw [place_cons, if_pos h]
    by_cases h1 : placeF t key < t.length
    · rw [dif_pos (by rw [hp]; simpa using h1), dif_pos h1]
      simp only [hp, List.getElem_cons_succ]
    · rw [dif_neg (by rw [hp]; simpa using h1), dif_neg h1]
  · rw [if_neg h]
    unfold thereF
    have hp : placeF (q :: t) key = 0 := by rw [place_cons, if_neg h]
    rw [dif_pos (by rw [hp]; simp)]
    simp only [hp, List.getElem_cons_zero]
theorem get_cons (q : PairD) (t : List PairD) (key : List UInt8) : getF (q :: t) key = if Lib.compareBytes q.k key < 0 then getF t key else if q.k = key then (q.v, true) else ([], false) := by
  by_cases h : Lib.compareBytes q.k key < 0
  · rw [if_pos h]
    unfold getF
    have hp : placeF (q :: t) key = placeF t key + 1 := by rw [place_cons, if_pos h]
    by_cases h1 : placeF t key < t.length
    · rw [dif_pos (by rw [hp]; simpa using h1), dif_pos h1]
      simp only [hp, List.getElem_cons_succ]
    · rw [dif_neg (by rw [hp]; simpa using h1), dif_neg h1]
  · rw [if_neg h]
    unfold getF
    have hp : placeF (q :: t) key = 0 := by rw [place_cons, if_neg h]
    rw [dif_pos (by rw [hp]; simp)]
    simp only [hp, List.getElem_cons_zero]
/-- Behind one that isn't below all are above. -/
theorem above {q : PairD} {t : List PairD} {key : List UInt8} (hs : Srt (q :: t)) (h : ¬ Lib.compareBytes q.k key < 0) : ∀ x ∈ t, Lib.compareBytes key x.k < 0 := by
  intro x hx
  have h1 := (List.pairwise_cons.1 hs).1 x hx
  rcases tri q.k key with h2 | h2 | h2
  · exact absurd h2 h
  · rw [← h2]; exact h1
  · exact cmp_trans _ _ _ h2 h1
theorem flt_lt {t : List PairD} {key : List UInt8} (h : ∀ x ∈ t, Lib.compareBytes key x.k < 0) : t.filter (ltK key) = [] := by
  rw [List.filter_eq_nil_iff]
  intro x hx; simp [ltK]; have := lt_asym (h x hx); omega
theorem flt_gt {t : List PairD} {key : List UInt8} (h : ∀ x ∈ t, Lib.compareBytes key x.k < 0) : t.filter (gtK key) = t := by
  rw [List.filter_eq_self]
  intro x hx; simp [gtK, h x hx]
theorem flt_ne {t : List PairD} {key : List UInt8} (h : ∀ x ∈ t, Lib.compareBytes key x.k < 0) : (t.filter fun q => !decide (q.k = key)) = t := by
  rw [List.filter_eq_self]
  intro x hx; simp; exact fun e => lt_ne (h x hx) e.symm
theorem put_there {p : PairD} : ∀ {l : List PairD}, Srt l → thereF l p.k = true → l.set (placeF l p.k) p = putP l p
  | [], _, h => by simp [thereF] at h
  | q :: t, hs, h => by
    rw [there_cons] at h
    rw [place_cons]
    by_cases hq : Lib.compareBytes q.k p.k < 0
    · rw [if_pos hq] at h ⊢
      have ih := put_there (List.pairwise_cons.1 hs).2 h
      have hg : ¬ Lib.compareBytes p.k q.k < 0 := lt_asym hq
      rw [List.set_cons_succ, ih]
      simp [putP, ltK, gtK, hq, hg]
    · rw [if_neg hq] at h ⊢
      have hk : q.k = p.k := by simpa using h
      have ha := above hs hq
      have hg : ¬ Lib.compareBytes p.k q.k < 0 := by rw [hk]; exact cmp_self _
      rw [List.set_cons_zero]
      have h1 := flt_lt ha
      have h2 := flt_gt ha
      simp only [putP, List.filter_cons]
      rw [if_neg (by simp [ltK]; omega), if_neg (by simp [gtK]; omega), h1, h2]; rfl
theorem put_new {p : PairD} : ∀ {l : List PairD}, Srt l → thereF l p.k = false → l.take (placeF l p.k) ++ p :: l.drop (placeF l p.k) = putP l p
  | [], _, _ => by simp [placeF, putP]
  | q :: t, hs, h => by
    rw [there_cons] at h
    rw [place_cons]
    by_cases hq : Lib.compareBytes q.k p.k < 0
    · rw [if_pos hq] at h ⊢
      have ih := put_new (List.pairwise_cons.1 hs).2 h
      have hg : ¬ Lib.compareBytes p.k q.k < 0 := lt_asym hq
      rw [List.take_succ_cons, List.drop_succ_cons, List.cons_append, ih]
      simp [putP, ltK, gtK, hq, hg]
    · rw [if_neg hq] at h ⊢
      have hk : q.k ≠ p.k := by simpa using h
      have ha := above hs hq
      have hg : Lib.compareBytes p.k q.k < 0 := by rcases tri q.k p.k with h2 | h2 | h2; exact absurd h2 hq; exact absurd h2 hk; exact h2
      have h1 := flt_lt ha
      have h2 := flt_gt ha
      simp only [putP, List.filter_cons]
      rw [if_neg (by simp [ltK]; omega), if_pos (by simp [gtK, hg]), h1, h2]; rfl
theorem rm_there {key : List UInt8} : ∀ {l : List PairD}, Srt l → thereF l key = true → l.take (placeF l key) ++ l.drop (placeF l key + 1) = rmP l key
  | [], _, h => by simp [thereF] at h
  | q :: t, hs, h => by
    rw [there_cons] at h
    rw [place_cons]
    by_cases hq : Lib.compareBytes q.k key < 0
    · rw [if_pos hq] at h ⊢
      have ih := rm_there (List.pairwise_cons.1 hs).2 h
      have hk : q.k ≠ key := lt_ne hq
      rw [List.take_succ_cons, List.drop_succ_cons, List.cons_append, ih]
      simp [rmP, hk]
    · rw [if_neg hq] at h ⊢
      have hk : q.k = key := by simpa using h
      have h3 := flt_ne (above hs hq)
      simp only [rmP, List.filter_cons]
      rw [if_neg (by simp [hk]), h3]; rfl
theorem rm_not {key : List UInt8} : ∀ {l : List PairD}, Srt l → thereF l key = false → rmP l key = l
  | [], _, _ => rfl
  | q :: t, hs, h => by
    rw [there_cons] at h
    by_cases hq : Lib.compareBytes q.k key < 0
    · rw [if_pos hq] at h
      have ih := rm_not (List.pairwise_cons.1 hs).2 h
      have hk : q.k ≠ key := lt_ne hq
      simp only [rmP, List.filter_cons] at ih ⊢
      rw [if_pos (by simp [hk]), ih]
    · rw [if_neg hq] at h
      have hk : q.k ≠ key := by simpa using h
      have h3 := flt_ne (above hs hq)
      simp only [rmP, List.filter_cons]
      rw [if_pos (by simp [hk]), h3]
theorem get_find {key : List UInt8} : ∀ {l : List PairD}, Srt l → getF l key = match l.find? (fun q => decide (q.k = key)) with | some q => (q.v, true) | none => ([], false)
  | [], _ => by simp [getF, placeF]
  | q :: t, hs => by
    rw [get_cons, List.find?_cons]
    by_cases hq : Lib.compareBytes q.k key < 0
    · have hk : q.k ≠ key := lt_ne hq
      rw [if_pos hq, get_find (List.pairwise_cons.1 hs).2]
      simp [hk]
    · rw [if_neg hq]
      by_cases hk : q.k = key
      · simp [hk]
      · have ha := above hs hq
        have : t.find? (fun q => decide (q.k = key)) = none := by
          rw [List.find?_eq_none]
          intro x hx; simp; exact fun e => lt_ne (ha x hx) e.symm
        simp [hk, this]
theorem there_find {key : List UInt8} {l : List PairD} (hs : Srt l) : thereF l key = (getF l key).2 := by
  unfold thereF getF
  split
  · split <;> simp_all
  · rfl
theorem find_iff {key : List UInt8} {l : List PairD} (hs : Srt l) {q : PairD} : l.find? (fun q => decide (q.k = key)) = some q ↔ q ∈ l ∧ q.k = key := by
  refine ⟨fun h => ⟨List.mem_of_find?_eq_some h, by simpa using List.find?_some h⟩, ?_⟩
  induction l with
  | nil => simp
  | cons a t ih =>
    rintro ⟨hm, hk⟩
    rw [List.find?_cons]
    by_cases ha : a.k = key
    · rcases List.mem_cons.1 hm with rfl | hm
      · simp [ha]
      · have := (List.pairwise_cons.1 hs).1 q hm
        exact absurd (ha.trans hk.symm) (lt_ne this)
    · rcases List.mem_cons.1 hm with rfl | hm
      · exact absurd hk ha
      · have := ih (List.pairwise_cons.1 hs).2 ⟨hm, hk⟩
        simp [ha, this]
theorem srt_ext : ∀ {l m : List PairD}, Srt l → Srt m → (∀ q, q ∈ l ↔ q ∈ m) → l = m
  | [], [], _, _, _ => rfl
  | [], r :: s, _, _, h => by have := (h r).2 (by simp); simp at this
  | q :: t, [], _, _, h => by have := (h q).1 (by simp); simp at this
  | q :: t, r :: s, hl, hm, h => by
    have l1 := List.pairwise_cons.1 hl
    have m1 := List.pairwise_cons.1 hm
    have hqr : q = r := by
      rcases List.mem_cons.1 ((h q).1 (by simp)) with e | e
      · exact e
      · rcases List.mem_cons.1 ((h r).2 (by simp)) with e2 | e2
        · exact e2.symm
        · exact absurd (l1.1 r e2) (lt_asym (m1.1 q e))
    subst hqr
    congr 1
    refine srt_ext l1.2 m1.2 fun x => ⟨fun hx => ?_, fun hx => ?_⟩
    · rcases List.mem_cons.1 ((h x).1 (by simp [hx])) with rfl | e
      · exact absurd (l1.1 x hx) (cmp_self _)
      · exact e
    · rcases List.mem_cons.1 ((h x).2 (by simp [hx])) with rfl | e
      · exact absurd (m1.1 x hx) (cmp_self _)
      · exact e
theorem mem_put {l : List PairD} {p q : PairD} : q ∈ putP l p ↔ q = p ∨ (q ∈ l ∧ q.k ≠ p.k) := by
  simp only [putP, List.mem_append, List.mem_cons, List.mem_filter, ltK, gtK, decide_eq_true_eq]
  constructor
  · rintro (⟨h1, h2⟩ | rfl | ⟨h1, h2⟩)
    · exact .inr ⟨h1, lt_ne h2⟩
    · exact .inl rfl
    · exact .inr ⟨h1, fun e => lt_ne h2 e.symm⟩
  · rintro (rfl | ⟨h1, h2⟩)
    · exact .inr (.inl rfl)
    · rcases tri q.k p.k with h | h | h
      · exact .inl ⟨h1, h⟩
      · exact absurd h h2
      · exact .inr (.inr ⟨h1, h⟩)
theorem mem_rm {l : List PairD} {key : List UInt8} {q : PairD} : q ∈ rmP l key ↔ q ∈ l ∧ q.k ≠ key := by simp [rmP]
theorem srt_put {l : List PairD} (hs : Srt l) (p : PairD) : Srt (putP l p) := by
  unfold putP Srt
  rw [List.pairwise_append, List.pairwise_cons]
  refine ⟨hs.filter _, ⟨fun x hx => ?_, hs.filter _⟩, fun a ha b hb => ?_⟩
  · simpa [gtK] using (List.mem_filter.1 hx).2
  · have h1 : Lib.compareBytes a.k p.k < 0 := by simpa [ltK] using (List.mem_filter.1 ha).2
    rcases List.mem_cons.1 hb with rfl | hb
    · exact h1
    · exact cmp_trans _ _ _ h1 (by simpa [gtK] using (List.mem_filter.1 hb).2)
theorem srt_rm {l : List PairD} (hs : Srt l) (key : List UInt8) : Srt (rmP l key) := hs.filter _
theorem put_len {l : List PairD} (hs : Srt l) (p : PairD) : (putP l p).length = if thereF l p.k = true then l.length else l.length + 1 := by
  by_cases h : thereF l p.k = true
  · rw [if_pos h, ← put_there hs h, List.length_set]
  · have h' : thereF l p.k = false := by simpa using h
    have hp := placeF_le l p.k
    rw [if_neg h, ← put_new hs h']; simp; omega
theorem rm_len (l : List PairD) (key : List UInt8) : (rmP l key).length ≤ l.length := List.length_filter_le _ _

theorem there_at {l : List PairD} {key : List UInt8} (h : thereF l key = true) : ∃ h : placeF l key < l.length, l[placeF l key].k = key := by
  unfold thereF at h
  split at h
  · rename_i hp; exact ⟨hp, by simpa using h⟩
  · cases h
theorem place_iff_srt {l : List PairD} (h : Srt l) (key : List UInt8) : ∀ a (ha : a < l.length), Lib.compareBytes l[a].k key < 0 ↔ a < placeF l key := by
  intro a ha
  refine ⟨fun h1 => ?_, placeF_lo key l a ha⟩
  apply Decidable.byContradiction
  intro hc
  have hp : placeF l key < l.length := by omega
  have h2 := placeF_at key l hp
  by_cases he : a = placeF l key
  · subst he; exact h2 h1
  · exact h2 (cmp_trans _ _ _ (List.pairwise_iff_getElem.1 h _ _ hp ha (by omega)) h1)
theorem there_rm {l : List PairD} {key : List UInt8} : thereF (rmP l key) key = false := by
  cases h : thereF (rmP l key) key
  · rfl
  · obtain ⟨hp, hk⟩ := there_at h
    exact absurd hk (mem_rm.1 (List.getElem_mem hp)).2
theorem put_rm {l : List PairD} (hs : Srt l) (p : PairD) : putP (rmP l p.k) p = putP l p := by
  refine srt_ext (srt_put (srt_rm hs _) _) (srt_put hs _) fun q => ?_
  simp only [mem_put, mem_rm]
  constructor
  · rintro (h | ⟨⟨h1, h2⟩, h3⟩); exact .inl h; exact .inr ⟨h1, h2⟩
  · rintro (h | ⟨h1, h2⟩); exact .inl h; exact .inr ⟨⟨h1, h2⟩, h2⟩
structure DoD where
  k : List UInt8
  v : List UInt8
  g : Bool
def stepP (l : List PairD) (d : DoD) : List PairD := if d.g then rmP l d.k else putP l ⟨d.k, d.v⟩
def playGo (l : List PairD) (i : Nat) : List DoD → List PairD × Nat × Nat
  | [] => (l, 0, 0)
  | d :: r => if bigP ⟨d.k, d.v⟩ then ([], 4, i) else if 200 < (stepP l d).length then ([], 5, i) else playGo (stepP l d) (i + 1) r
theorem step_right {l : List PairD} {d : DoD} (h : Right l) (h1 : bigP ⟨d.k, d.v⟩ = false) (h2 : ¬ 200 < (stepP l d).length) : Right (stepP l d) := by
  refine right_mk (by omega) (fun p hp => ?_) ?_
  · unfold stepP at hp
    split at hp
    · exact h.big p (mem_rm.1 hp).1
    · rcases mem_put.1 hp with rfl | hp
      · exact bigP_no h1
      · exact h.big p hp.1
  · unfold stepP
    split
    · exact srt_rm (srt_of h) _
    · exact srt_put (srt_of h) _
theorem right_nil : Right [] := right_mk (by simp) (by simp) (by simp [Srt])
theorem play_right : ∀ (ds : List DoD) (l : List PairD) (i : Nat), Right l → Right (playGo l i ds).1
  | [], l, i, h => h
  | d :: r, l, i, h => by
    simp only [playGo]
    split
    · exact right_nil
    · rename_i h1
      split
      · exact right_nil
      · rename_i h2; exact play_right r _ _ (step_right h (by simpa using h1) h2)
theorem play_nil : ∀ (ds : List DoD) (l : List PairD) (i : Nat), (playGo l i ds).2.1 ≠ 0 → (playGo l i ds).1 = []
  | [], l, i, h => absurd rfl h
  | d :: r, l, i, h => by
    simp only [playGo] at h ⊢
    split
    · rfl
    · rename_i h1
      rw [if_neg h1] at h
      split
      · rfl
      · rename_i h2
        rw [if_neg h2] at h
        exact play_nil r _ _ h
theorem play_ok_append : ∀ (a b : List DoD) (l : List PairD) (i : Nat), (playGo l i (a ++ b)).2.1 = 0 → (playGo l i a).2.1 = 0 ∧ playGo l i (a ++ b) = playGo (playGo l i a).1 (i + a.length) b
  | [], b, l, i, h => ⟨rfl, by simp [playGo]⟩
  | d :: r, b, l, i, h => by
    simp only [playGo, List.cons_append] at h ⊢
    split at h
    · cases h
    · rename_i h1
      split at h
      · cases h
      · rename_i h2
        have := play_ok_append r b (stepP l d) (i + 1) h
        rw [if_neg h1, if_neg h2, if_neg h1, if_neg h2]
        refine ⟨this.1, this.2.trans ?_⟩
        rw [List.length_cons, show i + 1 + r.length = i + (r.length + 1) by omega]
theorem play_one {l : List PairD} {i : Nat} {d : DoD} (h : (playGo l i [d]).2.1 = 0) : (playGo l i [d]).1 = stepP l d ∧ bigP ⟨d.k, d.v⟩ = false ∧ (stepP l d).length ≤ 200 := by
  simp only [playGo] at h ⊢
  split at h
  · cases h
  · rename_i h1
    split at h
    · cases h
    · rename_i h2; rw [if_neg h1, if_neg h2]; exact ⟨rfl, by simpa using h1, by omega⟩
theorem play_two {l : List PairD} {i : Nat} {d e : DoD} (h : (playGo l i [d, e]).2.1 = 0) : (playGo l i [d, e]).1 = stepP (stepP l d) e := by
  simp only [playGo] at h ⊢
  split at h
  · cases h
  · rename_i h1
    split at h
    · cases h
    · rename_i h2
      split at h
      · cases h
      · rename_i h3
        split at h
        · cases h
        · rename_i h4; rw [if_neg h1, if_neg h2, if_neg h3, if_neg h4]
theorem mem_step {l : List PairD} {d : DoD} {q : PairD} : q ∈ stepP l d ↔ (d.g = false ∧ q = ⟨d.k, d.v⟩) ∨ (q ∈ l ∧ q.k ≠ d.k) := by
  unfold stepP
  cases d.g
  · simp [mem_put]
  · simp [mem_rm]
theorem srt_step {l : List PairD} (hs : Srt l) (d : DoD) : Srt (stepP l d) := by
  unfold stepP; split
  · exact srt_rm hs _
  · exact srt_put hs _
theorem step_comm {l : List PairD} (hs : Srt l) {a b : DoD} (h : a.k ≠ b.k) : stepP (stepP l a) b = stepP (stepP l b) a := by
  refine srt_ext (srt_step (srt_step hs a) b) (srt_step (srt_step hs b) a) fun q => ?_
  simp only [mem_step]
  constructor
  · rintro (⟨h1, rfl⟩ | ⟨⟨h1, rfl⟩ | ⟨h1, h2⟩, h3⟩)
    · exact .inr ⟨.inl ⟨h1, rfl⟩, fun e => h e.symm⟩
    · exact .inl ⟨h1, rfl⟩
    · exact .inr ⟨.inr ⟨h1, h3⟩, h2⟩
  · rintro (⟨h1, rfl⟩ | ⟨⟨h1, rfl⟩ | ⟨h1, h2⟩, h3⟩)
    · exact .inr ⟨.inl ⟨h1, rfl⟩, h⟩
    · exact .inl ⟨h1, rfl⟩
    · exact .inr ⟨.inr ⟨h1, h3⟩, h2⟩
theorem get_step {l : List PairD} (hs : Srt l) (d : DoD) (key : List UInt8) : getF (stepP l d) key = if key = d.k then (if d.g then ([], false) else (d.v, true)) else getF l key := by
  have hs2 := srt_step hs d
  rw [get_find hs2]
  by_cases hk : key = d.k
  · subst hk
    rw [if_pos rfl]
    cases hg : d.g
    · have : (stepP l d).find? (fun q => decide (q.k = d.k)) = some ⟨d.k, d.v⟩ := (find_iff hs2).2 ⟨mem_step.2 (.inl ⟨hg, rfl⟩), rfl⟩
      rw [this]; simp
    · have : (stepP l d).find? (fun q => decide (q.k = d.k)) = none := by
        rw [List.find?_eq_none]
        intro x hx
        rcases mem_step.1 hx with ⟨h, _⟩ | ⟨_, h⟩
        · rw [hg] at h; cases h
        · simpa using h
      rw [this]; simp
  · rw [if_neg hk, get_find hs]
    have : (stepP l d).find? (fun q => decide (q.k = key)) = l.find? (fun q => decide (q.k = key)) := by
      apply Option.ext
      intro q
      rw [find_iff hs2, find_iff hs, mem_step]
      constructor
      · rintro ⟨⟨_, rfl⟩ | ⟨h1, _⟩, h3⟩
        · exact absurd h3.symm hk
        · exact ⟨h1, h3⟩
      · rintro ⟨h1, h2⟩
        exact ⟨.inr ⟨h1, by rw [h2]; exact hk⟩, h2⟩
    rw [this]
theorem put_low {q : PairD} {y : List PairD} (h : Srt (q :: y)) : putP y q = q :: y := by
  have ha := (List.pairwise_cons.1 h).1
  unfold putP
  rw [flt_lt ha, flt_gt ha]; rfl
theorem play_back : ∀ (n : Nat) (x y : List PairD) (i : Nat), x.length = n → Right (x ++ y) → playGo y i (x.reverse.map fun p => ⟨p.k, p.v, false⟩) = (x ++ y, 0, 0) := by
  intro n
  induction n with
  | zero => intro x y i hx hr; rw [List.length_eq_zero_iff.1 hx]; rfl
  | succ n ih =>
    intro x y i hx hr
    have hne : x ≠ [] := by intro e; rw [e] at hx; cases hx
    have hx2 : x = x.dropLast ++ [x.getLast hne] := (List.dropLast_concat_getLast hne).symm
    generalize x.getLast hne = q at hx2
    generalize x.dropLast = z at hx2
    subst hx2
    have hr2 : Right (z ++ (q :: y)) := by simpa using hr
    have hsy : Srt (q :: y) := (List.pairwise_append.1 (srt_of hr2)).2.1
    have hq : q ∈ z ++ (q :: y) := by simp
    have hb : bigP ⟨q.k, q.v⟩ = false := by have := hr2.big q hq; simp [bigP]; omega
    have hst : stepP y ⟨q.k, q.v, false⟩ = q :: y := by
      show putP y ⟨q.k, q.v⟩ = _
      exact put_low hsy
    have hlen : ¬ 200 < (q :: y).length := by have := hr2.len; simp at this ⊢; omega
    rw [List.reverse_append, List.reverse_cons, List.reverse_nil, List.nil_append, List.singleton_append, List.map_cons, playGo, hb, hst, if_neg (by simp), if_neg hlen, ih z (q :: y) (i + 1) (by simpa using hx) hr2]
    simp
end Go.Proofs.Ythbnhbmakapglaa
