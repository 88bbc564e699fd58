/- A contract that speaks of a few objects, used where there are more. -/
import Derived.Test.YtbclmpdgkeoioaaAbsU
set_option linter.all false
namespace Go.Abs
open Go Go.RowKit

section
variable {P : Program} {K0 : Ctx} {T : Nat → Prop} {K : Ctx} {H : Nat → Ob}

/-- Anew from here: of what lies there only the objects may be written. -/
def ownB (K : Ctx) (H : Nat → Ob) (b : Nat) : Prop := ∃ o, (H o).own ∧ K.μ o = some b
theorem HR.rebase (hr : HR K0 T K H) : HR K (ownB K H) K H := by
  refine ⟨rfl, rfl, rfl, Nat.le_refl _, fun _ _ _ => rfl, hr.sB, fun b hb => .inl hb, hr.mB, fun o => ?_, hr.inj⟩
  have h := hr.ob o
  cases hx : H o with
  | fresh => rw [hx] at h; exact h
  | dead => trivial
  | box cs =>
    rw [hx] at h
    obtain ⟨b, row, e, h1, h2, h3, h4, h5, h6, h7⟩ := h
    exact ⟨b, row, e, h1, h2, h3, h4, h5, h6, .inr ⟨o, by rw [hx]; trivial, h1⟩⟩
  | arr sz es =>
    rw [hx] at h
    obtain ⟨h1, h2, h3⟩ := h
    refine ⟨h1, h2, ?_⟩
    rcases h3 with h3 | ⟨b, row, e, a1, a2, a3, a4, a5, a6⟩
    · exact .inl h3
    · exact .inr ⟨b, row, e, a1, a2, a3, a4, a5, .inr ⟨o, by rw [hx]; trivial, a1⟩⟩
  | fz sz es => rw [hx] at h; exact h

/-- What a call did to some objects, beside all others. -/
theorem HR.merge {K1 B K2 : Ctx} {H1 L2 : Nat → Ob} {T' : Nat → Prop} {dom : Nat → Bool} (hr : HR K0 T K1 H1) (hc : HR B T' K2 L2) (hw : B.w = K1.w) (hS : B.S = K1.S) (hS2 : ∀ b, K1.S b → K2.S b)
    (hT : ∀ b, T' b → ∃ o, dom o = true ∧ (H1 o).own ∧ K1.μ o = some b) (hμ : ∀ o b, dom o = true → K1.μ o = some b → K2.μ o = some b) (hd : ∀ o b, K2.μ o = some b → dom o = true)
    (hrow : ∀ o b, dom o = true → K1.μ o = some b → rowSize K2.w b = rowSize K1.w b) :
    Ext K1 ⟨K2.w, K2.S, fun o => if dom o then K2.μ o else K1.μ o⟩ ∧ HR K0 T ⟨K2.w, K2.S, fun o => if dom o then K2.μ o else K1.μ o⟩ (fun o => if dom o then L2 o else H1 o) ∧
      Ext K2 ⟨K2.w, K2.S, fun o => if dom o then K2.μ o else K1.μ o⟩ := by
  have hold : ∀ b, b < K1.w.heap.size → ¬ T' b → K2.w.heap[b]? = K1.w.heap[b]? := fun b hb hn => by have := hc.block b (by rw [hw]; exact hb) hn; rw [this, hw]
  have hST : ∀ b, K1.S b → ¬ T' b := by
    intro b hb ht
    obtain ⟨o, _, ho, hm⟩ := hT b ht
    obtain ⟨_, _, _, q, _⟩ := hr.place ho hm
    exact q hb
  have hsz : K1.w.heap.size ≤ K2.w.heap.size := by have := hc.size; rw [hw] at this; exact this
  have hrow' : ∀ o b, K1.μ o = some b → rowSize K2.w b = rowSize K1.w b := by
    intro o b hb
    by_cases ht : T' b
    · obtain ⟨o', hd', _, hm'⟩ := hT b ht
      exact hrow o' b hd' hm'
    · exact rowSize_same (hold b (hr.mB o b hb) ht)
  have he : Ext K1 ⟨K2.w, K2.S, fun o => if dom o then K2.μ o else K1.μ o⟩ := by
    refine ⟨hS2, fun b hb j => World.cell?_of_block (w := K1.w) (hold b (hr.sB b hb) (hST b hb)), fun o b hb => ?_, hrow'⟩
    by_cases h : dom o = true
    · simp only [h, if_true]; exact hμ o b h hb
    · simp only [h]; exact hb
  have he2 : Ext K2 ⟨K2.w, K2.S, fun o => if dom o then K2.μ o else K1.μ o⟩ :=
    ⟨fun _ h => h, fun _ _ _ => rfl, fun o b hb => by simp only [hd o b hb, if_true]; exact hb, fun _ _ _ => rfl⟩
  have hnS : ∀ o b, dom o ≠ true → (H1 o).own → K1.μ o = some b → ¬ T' b ∧ ¬ K2.S b := by
    intro o b hdo hown hb
    have hnT : ¬ T' b := by
      intro ht
      obtain ⟨o', hd', ho', hm'⟩ := hT b ht
      have := hr.inj o o' b hown ho' hb hm'
      subst this; exact hdo hd'
    refine ⟨hnT, fun h2 => ?_⟩
    rcases hc.sN b h2 with h | h | h
    · rw [hS] at h
      obtain ⟨_, _, _, q, _⟩ := hr.place hown hb
      exact q h
    · rw [hw] at h; have := hr.mB o b hb; omega
    · exact hnT h
  have hown2 : ∀ b, (B.w.heap.size ≤ b ∨ T' b) → (K0.w.heap.size ≤ b ∨ T b) := by
    rintro b (h | h)
    · left; rw [hw] at h; exact Nat.le_trans hr.size h
    · obtain ⟨o, _, ho, hm⟩ := hT b h
      obtain ⟨_, _, _, _, q⟩ := hr.place ho hm
      exact q
  refine ⟨he, ?_, he2⟩
  refine ⟨(hc.os.trans (by rw [hw])).trans hr.os, (hc.tape.trans (by rw [hw])).trans hr.tape, (hc.output.trans (by rw [hw])).trans hr.output, Nat.le_trans hr.size hsz, fun k hk hTk => ?_, hc.sB, fun b hb => ?_, fun o b hb => ?_, fun o => ?_, fun o1 o2 b h1 h2 g1 g2 => ?_⟩
  · have hnT : ¬ T' k := by
      intro ht
      rcases hown2 k (.inr ht) with h | h
      · omega
      · exact hTk h
    exact (hold k (Nat.lt_of_lt_of_le hk hr.size) hnT).trans (hr.block k hk hTk)
  · rcases hc.sN b hb with h | h | h
    · rw [hS] at h; exact hr.sN b h
    · exact .inr (hown2 b (.inl h))
    · exact .inr (hown2 b (.inr h))
  · by_cases h : dom o = true
    · simp only [h, if_true] at hb; exact hc.mB o b hb
    · simp only [h] at hb; exact Nat.lt_of_lt_of_le (hr.mB o b hb) hsz
  · by_cases h : dom o = true
    · simp only [h, if_true]
      have h2 := hc.ob o
      cases hx : L2 o with
      | fresh => rw [hx] at h2; simp only [ObR, h, if_true]; exact h2
      | dead => trivial
      | box cs =>
        rw [hx] at h2
        obtain ⟨b, row, e, a1, a2, a3, a4, a5, a6, a7⟩ := h2
        exact ⟨b, row, e, he2.μ o b a1, a2, a3, fun j d hd => (a4 j d hd).ext he2, a5, a6, hown2 b a7⟩
      | arr sz es =>
        rw [hx] at h2
        obtain ⟨a1, a2, a3⟩ := h2
        refine ⟨a1, a2, ?_⟩
        rcases a3 with ⟨a3, a4⟩ | ⟨b, row, e, c1, c2, c3, c4, c5, c6⟩
        · exact .inl ⟨by simp only [h, if_true]; exact a3, a4⟩
        · exact .inr ⟨b, row, e, he2.μ o b c1, c2, c3, c4, c5, hown2 b c6⟩
      | fz sz es =>
        rw [hx] at h2
        obtain ⟨a1, a2, a3⟩ := h2
        refine ⟨a1, a2, ?_⟩
        rcases a3 with ⟨a3, a4⟩ | ⟨b, f, c1, c2, c3⟩
        · exact .inl ⟨by simp only [h, if_true]; exact a3, a4⟩
        · exact .inr ⟨b, f, he2.μ o b c1, c2, c3⟩
    · have hobj : ObR K0 T ⟨K2.w, K2.S, fun o => if dom o then K2.μ o else K1.μ o⟩ o (H1 o) :=
        (hr.ob o).ext he (fun hn => by simp only [h]; exact hn) (fun b hown hb => ⟨hold b (hr.mB o b hb) (hnS o b h hown hb).1, (hnS o b h hown hb).2⟩)
      simp only [h]
      exact hobj
  · by_cases d1 : dom o1 = true <;> by_cases d2 : dom o2 = true
    · simp only [d1, d2, if_true] at h1 h2 g1 g2; exact hc.inj o1 o2 b h1 h2 g1 g2
    · simp only [d1, if_true] at h1 g1
      simp only [d2] at h2 g2
      exfalso
      obtain ⟨_, _, _, _, q⟩ := hc.place h1 g1
      rcases q with q | q
      · rw [hw] at q; have := hr.mB o2 b g2; omega
      · exact (hnS o2 b d2 h2 g2).1 q
    · simp only [d2, if_true] at h2 g2
      simp only [d1] at h1 g1
      exfalso
      obtain ⟨_, _, _, _, q⟩ := hc.place h2 g2
      rcases q with q | q
      · rw [hw] at q; have := hr.mB o1 b g1; omega
      · exact (hnS o1 b d1 h1 g1).1 q
    · simp only [d1] at h1 g1; simp only [d2] at h2 g2
      exact hr.inj o1 o2 b h1 h2 g1 g2

/-- Arguments, renumbered. -/
def cvs (H : Nat → Ob) (F : List Nat) (s : Nat → Option Nat) : List D → List D → Prop
  | [], [] => True
  | d :: t, d' :: t' => cv1 H F s d d' ∧ cvs H F s t t'
  | _, _ => False
theorem cvs_ok {F : List Nat} {s : Nat → Option Nat} (hr : HR K0 T K H) : ∀ {ds ds' : List D} {f : Nat → Value}, cvs H F s ds ds' → (∀ (j : Nat) (d : D), ds[j]? = some d → VD K (f j) d) → ds.length = ds'.length ∧ ∀ (j : Nat) (d : D), ds'[j]? = some d → VD (K.ren H F s) (f j) d
  | [], [], f, _, _ => ⟨rfl, fun j d hd => by simp at hd⟩
  | d :: t, d' :: t', f, h, hv => by
    obtain ⟨h1, h2⟩ := h
    obtain ⟨g1, g2⟩ := cvs_ok hr (f := fun j => f (j + 1)) h2 (fun j d hd => hv (j + 1) d (by simpa using hd))
    refine ⟨by simp [g1], fun j d hd => ?_⟩
    cases j with
    | zero => simp at hd; subst hd; exact cv1_ok hr (hv 0 d (by simp)) h1
    | succ j => exact g2 j d (by simpa using hd)
  | [], _ :: _, _, h, _ => h.elim
  | _ :: _, [], _, h, _ => h.elim

/-- THE FRAME: a contract over L, used over H. s: where the contract's numbers come from; s': where the caller's come from, behind it. -/
theorem call_frame {f : FuncId} {ds gs : List D} {L L' L2 : Nat → Ob} {r r' : D} (F : List Nat) (s s' : Nat → Option Nat) (hL : CallD P f ds L r L') (hgs : cvs H F s gs ds)
    (hob : ∀ o', (L o' = .fresh ∧ s o' = none) ∨ L o' = .dead ∨ (s o' = none ∧ ∃ sz, 0 < sz ∧ L o' = .arr sz []) ∨ ∃ o, s o' = some o ∧ cvO H F s (frz F H o) (L o'))
    (hinj : ∀ o1 o2 o, (L o1).own → (L o2).own → s o1 = some o → s o2 = some o → o1 = o2)
    (hob' : ∀ o', (L2 o' = .fresh ∧ s' o' = none) ∨ L2 o' = .dead ∨ (s' o' = none ∧ ∃ sz, 0 < sz ∧ L2 o' = .arr sz []) ∨ ∃ o, s' o' = some o ∧ cvO L' [] s' (frz [] L' o) (L2 o'))
    (hinj' : ∀ o1 o2 o, (L2 o1).own → (L2 o2).own → s' o1 = some o → s' o2 = some o → o1 = o2)
    (hr' : cv L' [] s' r r') (hback : ∀ l g, s l = some g → s' g = some l) (hnew : ∀ g l, s' g = some l → s l = some g ∨ (H g = .fresh ∧ g ∉ F)) :
    CallD P f gs H r' (fun o => if (s' o).isSome then L2 o else frz F H o) := by
  refine ⟨hL.1, fun K0 T K vs hr hrd => ?_⟩
  obtain ⟨q1, q2⟩ := cvs_ok (f := fun j => vs.getD j undef) hr hgs hrd.2
  have hrl : HR K0 T (K.ren H F s) L := hr.ren hob hinj
  have hrf := hr.frz F
  refine (hL.2 _ _ _ vs hrl.rebase ⟨by rw [hrd.1, q1], q2⟩).mono ?_
  rintro e w' ⟨v, K', rfl, rfl, he, hrc, hv⟩
  have hrb := hrc.ren hob' hinj'
  have hsome : ∀ {o b}, (K'.ren L' [] s').μ o = some b → ∃ l, s' o = some l ∧ K'.μ l = some b := by
    intro o b h; simpa [Ctx.ren, Option.bind_eq_some_iff] using h
  have hfm : ∀ b, ¬ frzS K' L' [] b := by rintro b ⟨o, ho, _⟩; simp at ho
  have hm := hrf.merge (B := K.ren H F s) (K2 := K'.ren L' [] s') (L2 := L2) (T' := ownB (K.ren H F s) L) (dom := fun o => (s' o).isSome) hrb rfl rfl
    (fun b hb => .inl (he.S b hb)) (fun b hb => ?_) (fun o b hdo hb => ?_) (fun o b hb => ?_) (fun o b hdo hb => ?_)
  · obtain ⟨m1, m2, m3⟩ := hm
    refine ⟨v, ⟨(K'.ren L' [] s').w, (K'.ren L' [] s').S, fun o => if (s' o).isSome = true then (K'.ren L' [] s').μ o else (K.more (frzS K H F)).μ o⟩, rfl, rfl, (Ext.more (K := K) (frzS K H F)).trans m1, m2, ?_⟩
    exact (cv_ok hrc hv hr').ext m3
  · -- what the contract may write
    obtain ⟨l, hown, hml⟩ := hb
    have hml : (s l).bind K.μ = some b := hml
    simp only [Option.bind_eq_some_iff] at hml
    obtain ⟨g, hg, hgm⟩ := hml
    refine ⟨g, by simp [hback l g hg], ?_, hgm⟩
    rcases hob l with ⟨e1, _⟩ | e1 | ⟨hn, _⟩ | ⟨o, ho, hc⟩
    · rw [e1] at hown; exact hown.elim
    · rw [e1] at hown; exact hown.elim
    · rw [hn] at hg; cases hg
    · rw [hg] at ho; cases ho
      cases hx : L l with
      | box cs' => rw [hx] at hc; obtain ⟨cs, e, _⟩ := hc; rw [e]; trivial
      | arr sz es => rw [hx] at hc; rw [show frz F H g = .arr sz es from hc]; trivial
      | _ => rw [hx] at hown; exact hown.elim
  · -- what was passed stays where it lies
    have hb : K.μ o = some b := hb
    obtain ⟨l, hl⟩ := Option.isSome_iff_exists.1 hdo
    rcases hnew o l hl with h | ⟨h, _⟩
    · have : (K.ren H F s).μ l = some b := by simp [Ctx.ren, h, hb]
      have := he.μ l b this
      simp [Ctx.ren, hl, this]
    · rw [hr.get h] at hb; cases hb
  · obtain ⟨l, hl, _⟩ := hsome hb
    simp [hl]
  · have hb : K.μ o = some b := hb
    obtain ⟨l, hl⟩ := Option.isSome_iff_exists.1 hdo
    rcases hnew o l hl with h | ⟨h, _⟩
    · have : (K.ren H F s).μ l = some b := by simp [Ctx.ren, h, hb]
      exact he.row l b this
    · rw [hr.get h] at hb; cases hb
end
end Go.Abs
