/- Calls of functions that only read what they are given: by-value contracts. -/
import Derived.Test.YtbclmpdgkeoioaaAbsN
set_option linter.all false
namespace Go.Abs
open Go Go.RowKit

/-- A call that only reads, whose arguments are told by value. -/
def PureD (P : Program) (f : FuncId) (ds : List D) (r : D) : Prop := CallD P f ds noH r noH

/-- Bears no memory. -/
def D.flat1 : D → Bool
  | .i (.s _) => true
  | .un => true
  | _ => false
def D.flat2 : D → Bool
  | .agg cs => cs.all D.flat1
  | d => d.flat1
def D.flat : D → Bool
  | .tup ds => ds.all D.flat2
  | d => d.flat2

/-- An argument, by value: F: the slices, B: the boxes that are lent. -/
def cvBox (H : Nat → Ob) (F : List Nat) : List D → List I → Prop
  | [], [] => True
  | d :: t, x :: t' => cv0 H F (fun _ => none) d (.i x) ∧ cvBox H F t t'
  | _, _ => False
def cvA (H : Nat → Ob) (F B : List Nat) (d d' : D) : Prop :=
  match d' with
  | .rp xs c => d = .rp xs c ∨ ∃ o sz i, d = .pt o sz i c ∧ ((o ∈ B ∧ i = 0 ∧ ∃ cs, H o = .box cs ∧ cvBox H F cs xs) ∨ (o ∈ F ∧ ∃ es, (H o = .arr sz es ∨ H o = .fz sz es) ∧ es[i]? = some xs))
  | d' => cv1 H F (fun _ => none) d d'
def cvAs (H : Nat → Ob) (F B : List Nat) : List D → List D → Prop
  | [], [] => True
  | d :: t, d' :: t' => cvA H F B d d' ∧ cvAs H F B t t'
  | _, _ => False

section
variable {P : Program} {K0 : Ctx} {T : Nat → Prop} {K : Ctx} {H : Nat → Ob} {F B : List Nat}

/-- New memory, and no more. -/
theorem HR.grow (hr : HR K0 T K H) {w' : World} {S' : Nat → Prop} (h1 : w'.os = K.w.os) (h2 : w'.tape = K.w.tape) (h3 : w'.output = K.w.output) (h4 : K.w.heap.size ≤ w'.heap.size) (h5 : ∀ k, k < K.w.heap.size → w'.heap[k]? = K.w.heap[k]?)
    (hS : ∀ b, K.S b → S' b) (hN : ∀ b, S' b → K.S b ∨ K.w.heap.size ≤ b) (hB : ∀ b, S' b → b < w'.heap.size) : Ext K ⟨w', S', K.μ⟩ ∧ HR K0 T ⟨w', S', K.μ⟩ H := by
  have he : Ext K ⟨w', S', K.μ⟩ := ⟨hS, fun b hb j => World.cell?_of_block (w := K.w) (h5 b (hr.sB b hb)), fun _ _ h => h, fun o b hb => rowSize_same (h5 b (hr.mB o b hb))⟩
  refine ⟨he, h1.trans hr.os, h2.trans hr.tape, h3.trans hr.output, Nat.le_trans hr.size h4, fun k hk hT => (h5 k (Nat.lt_of_lt_of_le hk hr.size)).trans (hr.block k hk hT), hB, fun b hb => ?_, fun o b hb => Nat.lt_of_lt_of_le (hr.mB o b hb) h4,
    fun o => (hr.ob o).ext he (fun h => h) (fun b hown hb => ⟨h5 b (hr.mB o b hb), ?_⟩), hr.inj⟩
  · rcases hN b hb with h | h
    · exact hr.sN b h
    · exact .inr (.inl (Nat.le_trans hr.size h))
  · intro hS'
    rcases hN b hS' with h | h
    · obtain ⟨_, _, _, q, _⟩ := hr.place hown hb; exact q h
    · have := hr.mB o b hb; omega

theorem flat1_ok {K' : Ctx} {v : Value} {d : D} (hv : VD K v d) (h : d.flat1 = true) : VD K' v d := by
  cases hv with
  | i hx => cases hx with
    | s v h1 => exact .i (.s v h1)
    | _ => simp [D.flat1] at h
  | un => exact .un
  | _ => simp [D.flat1] at h
theorem flat2_ok {K' : Ctx} {v : Value} {d : D} (hv : VD K v d) (h : d.flat2 = true) : VD K' v d := by
  cases hv with
  | agg vs cs hl hc => exact .agg vs cs hl (fun j d hd => flat1_ok (hc j d hd) (List.all_eq_true.1 h d (List.mem_of_getElem? hd)))
  | i hx => exact flat1_ok (.i hx) h
  | un => exact .un
  | _ => simp [D.flat2, D.flat1] at h
theorem flat_ok {K' : Ctx} {v : Value} {d : D} (hv : VD K v d) (h : d.flat = true) : VD K' v d := by
  cases hv with
  | tup vs cs hl hc => exact .tup vs cs hl (fun j d hd => flat2_ok (hc j d hd) (List.all_eq_true.1 h d (List.mem_of_getElem? hd)))
  | agg vs cs hl hc => exact flat2_ok (.agg vs cs hl hc) h
  | i hx => exact flat2_ok (.i hx) h
  | un => exact .un
  | _ => simp [D.flat, D.flat2, D.flat1] at h

/-- The lent blocks. -/
def lentS (K : Ctx) (H : Nat → Ob) (F B : List Nat) (b : Nat) : Prop := frzS K H F b ∨ ∃ o ∈ B, (∃ cs, H o = .box cs) ∧ K.μ o = some b

theorem cv1_val {s : Nat → Option Nat} {K' : Ctx} {v : Value} {d : D} (hw : K'.w = K.w) (hS : ∀ b, (K.ren H F s).S b → K'.S b) (hs : s = fun _ => none) (h : VD (K.ren H F s) v d) (h1 : ∀ o sz i c, d ≠ .pt o sz i c) : VD K' v d := by
  have he : Ext (K.ren H F s) K' := ⟨hS, fun b _ j => by rw [hw]; rfl, fun o b hb => by subst hs; simp [Ctx.ren] at hb, fun o b hb => by rw [hw]; rfl⟩
  exact h.ext he

theorem box_vals (hr : HR K0 T K H) : ∀ {cs : List D} {xs : List I} {f : Nat → Value}, cvBox H F cs xs → (∀ (j : Nat) (d : D), cs[j]? = some d → VD K (f j) d) → ∀ (j : Nat) (x : I), xs[j]? = some x → j < cs.length ∧ VI (K.ren H F (fun _ => none)).w (K.ren H F (fun _ => none)).S (f j) x
  | [], [], _, _, _, j, x, hx => by simp at hx
  | d :: t, y :: t', f, h, hv, j, x, hx => by
    obtain ⟨h1, h2⟩ := h
    cases j with
    | zero => simp at hx; subst hx; exact ⟨by simp, (cv0_ok hr (hv 0 d (by simp)) h1).inv_i⟩
    | succ j =>
      obtain ⟨g1, g2⟩ := box_vals hr (f := fun j => f (j + 1)) h2 (fun j d hd => hv (j + 1) d (by simpa using hd)) j x (by simpa using hx)
      exact ⟨by simpa using g1, g2⟩
  | [], _ :: _, _, h, _, _, _, _ => h.elim
  | _ :: _, [], _, h, _, _, _, _ => h.elim

theorem arg_ok (hr : HR K0 T K H) {v : Value} {d d' : D} (hv : VD K v d) (h : cvA H F B d d') : VD ⟨K.w, fun b => K.S b ∨ lentS K H F B b, fun _ => none⟩ v d' := by
  have he : Ext (K.ren H F (fun _ => none)) ⟨K.w, fun b => K.S b ∨ lentS K H F B b, fun _ => none⟩ :=
    ⟨fun b hb => by rcases hb with hb | hb; exact .inl hb; exact .inr (.inl hb), fun _ _ _ => rfl, fun o b hb => by simp [Ctx.ren] at hb, fun o b hb => rfl⟩
  by_cases hrp : ∃ xs c, d' = .rp xs c
  · obtain ⟨xs, c, rfl⟩ := hrp
    rcases h with rfl | ⟨o, sz, i, rfl, h⟩
    · cases hv with
      | rp b off _ _ f h1 h2 h3 => exact .rp b off c xs f (.inl h1) h2 (fun j x hx => (h3 j x hx).mono (fun _ h => .inl h) (fun _ _ _ => rfl))
    · cases hv with
      | pt _ _ _ _ b hμ =>
        rcases h with ⟨hB, rfl, cs, hx, hc⟩ | ⟨hF, es, hx, hi⟩
        · obtain ⟨b', row, ty, a1, a2, a3, a4, _⟩ := hr.get hx
          rw [hμ] at a1; cases a1
          have hb := box_vals (F := F) hr (f := fun j => row.getD j undef) hc a4
          refine VD.rp b (0 * sz) c xs (fun j => row.getD j undef) (.inr (.inr ⟨o, hB, ⟨cs, hx⟩, hμ⟩)) (fun j x hj => ?_) (fun j x hj => (hb j x hj).2.ext he)
          have hlt : j < row.size := by have := (hb j x hj).1; omega
          show K.w.cell? _ = _
          rw [cell_of_row K.w b _ row ty _ a2, Nat.zero_mul, Nat.zero_add]; simp [Array.getD, hlt]
        · rcases hx with hx | hx
          · obtain ⟨hz, hu, h3⟩ := hr.get hx
            rcases h3 with ⟨h3, _⟩ | ⟨b', row, ty, a1, a2, a3, a4, _⟩
            · rw [h3] at hμ; cases hμ
            · rw [hμ] at a1; cases a1
              refine VD.rp b (i * sz) c xs (fun j => row.getD (i * sz + j) undef) (.inr (.inl ⟨o, hF, ⟨sz, es, hx⟩, hμ⟩)) (fun j x hj => ?_) (fun j x hj => (a4 _ _ (flatten_get hu hi hj)).mono (fun _ h => .inl h) (fun _ _ _ => rfl))
              have hlt : i * sz + j < row.size := by have := (List.getElem?_eq_some_iff.1 (flatten_get hu hi hj)).1; rw [flatten_len hu] at this; omega
              show K.w.cell? _ = _
              rw [cell_of_row K.w b _ row ty _ a2]; simp [Array.getD, hlt]
          · obtain ⟨hz, hu, h3⟩ := hr.get hx
            rcases h3 with ⟨h3, _⟩ | ⟨b', f, a1, a2, a3⟩
            · rw [h3] at hμ; cases hμ
            · rw [hμ] at a1; cases a1
              exact VD.rp b (i * sz) c xs (fun j => f (i * sz + j)) (.inl a2) (fun j x hj => (a3 _ _ (flatten_get hu hi hj)).1) (fun j x hj => ((a3 _ _ (flatten_get hu hi hj)).2).mono (fun _ h => .inl h) (fun _ _ _ => rfl))
  · have h' : cv1 H F (fun _ => none) d d' := by
      cases d' <;> first | exact h | exact absurd ⟨_, _, rfl⟩ hrp
    exact (cv1_ok hr hv h').ext he

theorem args_ok (hr : HR K0 T K H) : ∀ {ds ds' : List D} {f : Nat → Value}, cvAs H F B ds ds' → (∀ (j : Nat) (d : D), ds[j]? = some d → VD K (f j) d) → ds.length = ds'.length ∧ ∀ (j : Nat) (d : D), ds'[j]? = some d → VD ⟨K.w, fun b => K.S b ∨ lentS K H F B b, fun _ => none⟩ (f j) d
  | [], [], f, _, _ => ⟨rfl, fun j d hd => by simp at hd⟩
  | d :: t, d' :: t', f, h, hv => by
    obtain ⟨h1, h2⟩ := h
    obtain ⟨g1, g2⟩ := args_ok hr (f := fun j => f (j + 1)) h2 (fun j d hd => hv (j + 1) d (by simpa using hd))
    refine ⟨by simp [g1], fun j d hd => ?_⟩
    cases j with
    | zero => simp at hd; subst hd; exact arg_ok hr (hv 0 d (by simp)) h1
    | succ j => exact g2 j d (by simpa using hd)
  | [], _ :: _, _, h, _ => h.elim
  | _ :: _, [], _, h, _ => h.elim

/-- What a call of the kind does. -/
theorem pure_run (hr : HR K0 T K H) {f : FuncId} {ds ds' : List D} {r : D} (hp : PureD P f ds' r) {vs : Array Value} (hrd : Reads K vs ds) (hc : cvAs H F B ds ds') :
    Calls P f vs K.w fun e w' => ∃ v S', e = .returned v ∧ w'.os = K.w.os ∧ w'.tape = K.w.tape ∧ w'.output = K.w.output ∧ K.w.heap.size ≤ w'.heap.size ∧ (∀ k, k < K.w.heap.size → w'.heap[k]? = K.w.heap[k]?) ∧
      (∀ b, K.S b ∨ lentS K H F B b → S' b) ∧ (∀ b, S' b → (K.S b ∨ lentS K H F B b) ∨ K.w.heap.size ≤ b) ∧ (∀ b, S' b → b < w'.heap.size) ∧ VD ⟨w', S', fun _ => none⟩ v r := by
  obtain ⟨q1, q2⟩ := args_ok (F := F) (B := B) (f := fun j => vs.getD j undef) hr hc hrd.2
  let K1 : Ctx := ⟨K.w, fun b => K.S b ∨ lentS K H F B b, fun _ => none⟩
  have hr1 : HR K1 (fun _ => False) K1 noH := by
    refine ⟨rfl, rfl, rfl, Nat.le_refl _, fun _ _ _ => rfl, fun b hb => ?_, fun b hb => .inl hb, fun o b hb => by simp [K1] at hb, fun o => rfl, fun o1 o2 b h => by exact h.elim⟩
    rcases hb with hb | ⟨o, _, _, hb⟩ | ⟨o, _, _, hb⟩
    · exact hr.sB b hb
    · exact hr.mB o b hb
    · exact hr.mB o b hb
  refine (hp.2 K1 (fun _ => False) K1 vs hr1 ⟨by rw [hrd.1, q1], q2⟩).mono ?_
  rintro e w' ⟨v, K', rfl, rfl, he, hr', hv⟩
  have hμ : K'.μ = fun _ => none := by funext o; exact hr'.get (o := o) (x := .fresh) rfl
  refine ⟨v, K'.S, rfl, hr'.os, hr'.tape, hr'.output, hr'.size, fun k hk => hr'.block k hk (fun h => h), he.S, fun b hb => ?_, hr'.sB, ?_⟩
  · rcases hr'.sN b hb with h | h | h
    · exact .inl h
    · exact .inr h
    · exact h.elim
  · have : K' = ⟨K'.w, K'.S, fun _ => none⟩ := by rw [← hμ]
    rw [← this]; exact hv

/-- A CALL WHOSE RESULT BEARS NO MEMORY: all stays as it was. -/
theorem pure_flat {f : FuncId} {ds ds' : List D} {r : D} (F B : List Nat) (hp : PureD P f ds' r) (hc : cvAs H F B ds ds') (hflat : r.flat = true) : CallD P f ds H r H := by
  refine ⟨hp.1, fun K0 T K vs hr hrd => ?_⟩
  refine (pure_run hr hp hrd hc).mono ?_
  rintro e w' ⟨v, S', rfl, h1, h2, h3, h4, h5, _, _, _, hv⟩
  obtain ⟨g1, g2⟩ := hr.grow (S' := K.S) h1 h2 h3 h4 h5 (fun _ h => h) (fun _ h => .inl h) (fun b hb => Nat.lt_of_lt_of_le (hr.sB b hb) h4)
  exact ⟨v, _, rfl, rfl, g1, g2, flat_ok hv hflat⟩

/-- A CALL WHOSE RESULT MAY BEAR WHAT WAS LENT: that is frozen. -/
theorem pure_frz {f : FuncId} {ds ds' : List D} {r : D} (F : List Nat) (hp : PureD P f ds' r) (hc : cvAs H F [] ds ds') : CallD P f ds H r (frz F H) := by
  refine ⟨hp.1, fun K0 T K vs hr hrd => ?_⟩
  refine (pure_run hr hp hrd hc).mono ?_
  rintro e w' ⟨v, S', rfl, h1, h2, h3, h4, h5, h6, h7, h8, hv⟩
  have hr1 := hr.frz F
  have hl : ∀ b, lentS K H F [] b → frzS K H F b := fun b hb => by
    rcases hb with hb | ⟨o, ho, _⟩
    · exact hb
    · simp at ho
  obtain ⟨g1, g2⟩ := hr1.grow (w' := w') (S' := S') h1 h2 h3 h4 h5 (fun b hb => h6 b (by rcases hb with hb | hb; exact .inl hb; exact .inr (.inl hb)))
    (fun b hb => by
      rcases h7 b hb with (h | h) | h
      · exact .inl (.inl h)
      · exact .inl (.inr (hl b h))
      · exact .inr h) h8
  refine ⟨v, _, rfl, rfl, (Ext.more (K := K) (frzS K H F)).trans g1, g2, ?_⟩
  have hx : Ext ⟨w', S', fun _ => none⟩ ⟨w', S', (K.more (frzS K H F)).μ⟩ := ⟨fun _ h => h, fun _ _ _ => rfl, fun o b hb => by simp at hb, fun o b hb => rfl⟩
  exact hv.ext hx
end
end Go.Abs
