/- Steps of the machine's memory, as the abstract memory sees them. -/
import Derived.Test.YtbclmpdgkeoioaaAbsB
set_option linter.all false
namespace Go.Abs
open Go Go.RowKit

def Ctx.alloc (K : Ctx) (id : Nat) (o : Obj) : Ctx := ⟨K.w.alloc o, K.S, upd K.μ id (some K.w.heap.size)⟩
def Ctx.row (K : Ctx) (b : Nat) (row : Array Value) : Ctx := ⟨K.w.setRow b row, K.S, K.μ⟩
def Ctx.world (K : Ctx) (w : World) : Ctx := ⟨w, K.S, K.μ⟩
def Ctx.more (K : Ctx) (S : Nat → Prop) : Ctx := ⟨K.w, fun b => K.S b ∨ S b, K.μ⟩

section
variable {P : Program} {w0 : Ctx} {T : Nat → Prop} {K K' : Ctx} {H : Nat → Ob}

theorem rowSize_of {w : World} {b : Nat} {row : Array Value} {e : TypeId} {fr : Nat × Nat} (h : w.heap[b]? = some (.cells row e fr)) : rowSize w b = row.size := by simp [rowSize, h]
theorem rowSize_same {w w' : World} {b : Nat} (h : w'.heap[b]? = w.heap[b]?) : rowSize w' b = rowSize w b := by simp [rowSize, h]

theorem Ext.alloc (hr : HR w0 T K H) {id : Nat} (hf : K.μ id = none) (o : Obj) : Ext K (K.alloc id o) :=
  ⟨fun _ h => h, fun b hb j => World.cell?_of_block (w := K.w) (Below.heap_alloc K.w o b (hr.sB b hb)),
   fun o' b hb => by
    show upd K.μ id _ o' = _
    rw [upd_ne _ _ (fun e => by subst e; rw [hf] at hb; cases hb)]; exact hb,
   fun o' b hb => rowSize_same (Below.heap_alloc K.w o b (hr.mB o' b hb))⟩

/-- Where an object of the call's own lies. -/
theorem HR.place (hr : HR w0 T K H) {o b : Nat} (ho : (H o).own) (hb : K.μ o = some b) : ∃ row e, K.w.heap[b]? = some (.cells row e (0, 0)) ∧ ¬ K.S b ∧ (w0.w.heap.size ≤ b ∨ T b) := by
  cases hx : H o with
  | box cs => obtain ⟨b', row, e, a1, a2, _, _, _, a6, a7⟩ := hr.get hx; rw [hb] at a1; cases a1; exact ⟨row, e, a2, a6, a7⟩
  | arr sz es =>
    obtain ⟨_, _, a3⟩ := hr.get hx
    rcases a3 with ⟨a3, _⟩ | ⟨b', row, e, a1, a2, _, _, a6, a7⟩
    · rw [hb] at a3; cases a3
    · rw [hb] at a1; cases a1; exact ⟨row, e, a2, a6, a7⟩
  | _ => rw [hx] at ho; exact ho.elim

theorem HR.alloc (hr : HR w0 T K H) {id : Nat} (hf : K.μ id = none) (o : Obj) {x : Ob} (hx : ObR w0 T (K.alloc id o) id x) : HR w0 T (K.alloc id o) (upd H id x) := by
  have he := Ext.alloc hr hf o
  refine ⟨hr.os, hr.tape, hr.output, ?_, fun k hk hT => ?_, fun b hb => ?_, hr.sN, fun o' b hb => ?_, fun o' => ?_, fun o1 o2 b h1 h2 g1 g2 => ?_⟩
  · show _ ≤ (K.w.heap.push o).size
    have := hr.size; simp; omega
  · exact (Below.heap_alloc K.w o k (by have := hr.size; omega)).trans (hr.block k hk hT)
  · show b < (K.w.heap.push o).size
    have := hr.sB b hb; simp; omega
  · show b < (K.w.heap.push o).size
    by_cases h : o' = id
    · subst h; simp only [Ctx.alloc, upd_same, Option.some.injEq] at hb; simp; omega
    · simp only [Ctx.alloc] at hb; rw [upd_ne _ _ h] at hb; have := hr.mB o' b hb; simp; omega
  · by_cases h : o' = id
    · subst h; rw [upd_same]; exact hx
    · rw [upd_ne _ _ h]
      refine (hr.ob o').ext he (fun hn => ?_) (fun b hown hb => ⟨Below.heap_alloc K.w o b (hr.mB o' b hb), ?_⟩)
      · simp only [Ctx.alloc]; rw [upd_ne _ _ h]; exact hn
      · obtain ⟨_, _, _, q, _⟩ := hr.place hown hb; exact q
  · simp only [Ctx.alloc] at g1 g2
    by_cases e1 : o1 = id <;> by_cases e2 : o2 = id
    · rw [e1, e2]
    · subst e1; rw [upd_same] at g1; rw [upd_ne _ _ e2] at g2; have := hr.mB o2 b g2; simp at g1; omega
    · subst e2; rw [upd_same] at g2; rw [upd_ne _ _ e1] at g1; have := hr.mB o1 b g1; simp at g2; omega
    · rw [upd_ne _ _ e1] at g1 h1; rw [upd_ne _ _ e2] at g2 h2; exact hr.inj o1 o2 b h1 h2 g1 g2

theorem ext_row {b : Nat} {row row' : Array Value} {e : TypeId} (hg : K.w.heap[b]? = some (.cells row e (0, 0))) (hs : row'.size = row.size) (hS : ¬ K.S b) : Ext K (K.row b row') :=
  ⟨fun _ h => h, fun b' hb' j => cell_setRow_other K.w b row' ⟨b', j, none⟩ (fun h => hS (by simpa [← h] using hb')), fun _ _ h => h, fun o' b' _ => by
    by_cases h : b' = b
    · subst h; exact (rowSize_of (setRow_heap K.w b' row row' e (0, 0) hg)).trans (hs.trans (rowSize_of hg).symm)
    · exact rowSize_same (setRow_other K.w b b' row' h)⟩

theorem HR.row (hr : HR w0 T K H) {o b : Nat} (ho : (H o).own) (hb : K.μ o = some b) {row row' : Array Value} {e : TypeId} (hg : K.w.heap[b]? = some (.cells row e (0, 0))) (hs : row'.size = row.size)
    {x : Ob} (hx : ObR w0 T (K.row b row') o x) : HR w0 T (K.row b row') (upd H o x) := by
  obtain ⟨_, _, _, hS, hT⟩ := hr.place ho hb
  have he : Ext K (K.row b row') := ext_row hg hs hS
  refine ⟨hr.os, hr.tape, hr.output, ?_, fun k hk hT' => ?_, fun b' hb' => ?_, hr.sN, fun o' b' hb' => ?_, fun o' => ?_, fun o1 o2 b' h1 h2 g1 g2 => ?_⟩
  · show _ ≤ (K.w.setRow b row').heap.size
    simp; exact hr.size
  · show (K.w.setRow b row').heap[k]? = _
    rw [setRow_other K.w b k row' (fun h => by subst h; rcases hT with h | h; omega; exact hT' h)]
    exact hr.block k hk hT'
  · show b' < (K.w.setRow b row').heap.size
    simp; exact hr.sB b' hb'
  · show b' < (K.w.setRow b row').heap.size
    simp; exact hr.mB o' b' hb'
  · by_cases h : o' = o
    · subst h; rw [upd_same]; exact hx
    · rw [upd_ne _ _ h]
      refine (hr.ob o').ext he (fun hn => hn) (fun b' hown hb' => ⟨setRow_other K.w b b' row' (fun e => ?_), ?_⟩)
      · subst e; exact h (hr.inj o' o b' hown ho hb' hb)
      · obtain ⟨_, _, _, q, _⟩ := hr.place hown hb'; exact q
  · have k1 : (H o1).own := by
      by_cases h : o1 = o
      · subst h; exact ho
      · rw [upd_ne _ _ h] at h1; exact h1
    have k2 : (H o2).own := by
      by_cases h : o2 = o
      · subst h; exact ho
      · rw [upd_ne _ _ h] at h2; exact h2
    exact hr.inj o1 o2 b' k1 k2 g1 g2

theorem Ext.world {w : World} (hh : w.heap = K.w.heap) : Ext K (K.world w) :=
  ⟨fun _ h => h, fun b _ j => World.cell?_of_block (w := K.w) (by simp [Ctx.world, hh]), fun _ _ h => h, fun _ b _ => rowSize_same (by simp [Ctx.world, hh])⟩

theorem HR.world (hr : HR w0 T K H) {w : World} (hh : w.heap = K.w.heap) (h1 : w.os = K.w.os) (h2 : w.tape = K.w.tape) (h3 : w.output = K.w.output) : HR w0 T (K.world w) H := by
  have he : Ext K (K.world w) := Ext.world hh
  refine ⟨h1.trans hr.os, h2.trans hr.tape, h3.trans hr.output, ?_, fun k hk hT => ?_, fun b hb => ?_, hr.sN, fun o b hb => ?_, fun o => (hr.ob o).ext he (fun h => h) (fun b hown hb => ⟨by simp [Ctx.world, hh], ?_⟩), hr.inj⟩
  · simp [Ctx.world, hh]; exact hr.size
  · simp only [Ctx.world, hh]; exact hr.block k hk hT
  · simp only [Ctx.world, hh]; exact hr.sB b hb
  · simp only [Ctx.world, hh]; exact hr.mB o b hb
  · obtain ⟨_, _, _, q, _⟩ := hr.place hown hb; exact q

theorem HR.kill (hr : HR w0 T K H) (o : Nat) : HR w0 T K (upd H o .dead) := by
  refine ⟨hr.os, hr.tape, hr.output, hr.size, hr.block, hr.sB, hr.sN, hr.mB, fun o' => ?_, fun o1 o2 b h1 h2 g1 g2 => ?_⟩
  · by_cases h : o' = o
    · subst h; rw [upd_same]; trivial
    · rw [upd_ne _ _ h]; exact hr.ob o'
  · have k1 : (H o1).own := by
      by_cases h : o1 = o
      · subst h; rw [upd_same] at h1; exact h1.elim
      · rw [upd_ne _ _ h] at h1; exact h1
    have k2 : (H o2).own := by
      by_cases h : o2 = o
      · subst h; rw [upd_same] at h2; exact h2.elim
      · rw [upd_ne _ _ h] at h2; exact h2
    exact hr.inj o1 o2 b k1 k2 g1 g2

/-- The blocks of what is to be frozen. -/
def frzS (K : Ctx) (H : Nat → Ob) (ids : List Nat) (b : Nat) : Prop := ∃ o ∈ ids, (∃ sz es, H o = .arr sz es) ∧ K.μ o = some b

theorem Ext.more (S : Nat → Prop) : Ext K (K.more S) := ⟨fun _ h => .inl h, fun _ _ _ => rfl, fun _ _ h => h, fun _ _ _ => rfl⟩

theorem HR.frz (hr : HR w0 T K H) (ids : List Nat) : HR w0 T (K.more (frzS K H ids)) (frz ids H) := by
  have he : Ext K (K.more (frzS K H ids)) := Ext.more _
  have hown : ∀ o, (Abs.frz ids H o).own → (H o).own ∧ (o ∈ ids → ∃ cs, H o = .box cs) := by
    intro o h
    simp only [Abs.frz] at h
    split at h
    · cases hx : H o <;> rw [hx] at h <;> first | exact h.elim | exact ⟨trivial, fun _ => ⟨_, rfl⟩⟩
    · rename_i hn; exact ⟨h, fun hm => absurd (by simpa using hm) hn⟩
  refine ⟨hr.os, hr.tape, hr.output, hr.size, hr.block, fun b hb => ?_, fun b hb => ?_, hr.mB, fun o => ?_, fun o1 o2 b h1 h2 g1 g2 => hr.inj o1 o2 b (hown o1 h1).1 (hown o2 h2).1 g1 g2⟩
  · rcases hb with hb | ⟨o, _, _, hb⟩
    · exact hr.sB b hb
    · exact hr.mB o b hb
  · rcases hb with hb | ⟨o, _, ⟨sz, es, hx⟩, hb⟩
    · exact hr.sN b hb
    · obtain ⟨_, _, _, _, q⟩ := hr.place (by rw [hx]; trivial) hb
      exact .inr q
  · by_cases hm : o ∈ ids ∧ ∃ sz es, H o = .arr sz es
    · obtain ⟨hm, sz, es, hx⟩ := hm
      have : Abs.frz ids H o = .fz sz es := by simp [Abs.frz, hm, hx]
      rw [this]
      obtain ⟨h1, h2, h3⟩ := hr.get hx
      refine ⟨h1, h2, ?_⟩
      rcases h3 with h3 | ⟨b, row, e, h3, h4, h5, h6, h7, h8⟩
      · exact .inl h3
      · refine .inr ⟨b, fun j => row.getD j undef, h3, .inr ⟨o, hm, ⟨sz, es, hx⟩, h3⟩, fun j x hj => ⟨?_, (h6 j x hj).ext he⟩⟩
        have hlt : j < row.size := by have := (List.getElem?_eq_some_iff.1 hj).1; rw [flatten_len h2] at this; omega
        show K.w.cell? _ = _
        rw [cell_of_row K.w b j row e _ h4]; simp [Array.getD, hlt]
    · have : Abs.frz ids H o = H o := by
        simp only [Abs.frz]
        split
        · rename_i hc
          split
          · rename_i sz es hx; exact absurd ⟨by simpa using hc, sz, es, hx⟩ hm
          · rfl
        · rfl
      rw [this]
      refine (hr.ob o).ext he (fun h => h) (fun b ho hb => ⟨rfl, ?_⟩)
      rintro (hS | ⟨o', ho', ⟨sz, es, hx⟩, hb'⟩)
      · obtain ⟨_, _, _, q, _⟩ := hr.place ho hb; exact q hS
      · have : o = o' := hr.inj o o' b ho (by rw [hx]; trivial) hb hb'
        subst this; exact hm ⟨ho', sz, es, hx⟩

/-- What a slice's elements are, once it is frozen. -/
theorem elems_frozen (hr : HR w0 T K H) {v : Value} {o sz off len : Nat} {es : List (List I)} (hv : VD K v (.os o sz off len)) (h : elemsOf H (.os o sz off len) = some es) (ids : List Nat) (hm : o ∈ ids) :
    VI K.w (K.more (frzS K H ids)).S v (.sl es) := by
  have he : Ext K (K.more (frzS K H ids)) := Ext.more _
  simp only [elemsOf] at h
  have key : ∀ (es0 : List (List I)) (b : Nat) (f : Nat → Value), (H o = .arr sz es0 ∨ H o = .fz sz es0) → K.μ o = some b → 0 < sz → (∀ e ∈ es0, e.length = sz) → (K.S b ∨ frzS K H ids b) →
      (∀ (j : Nat) (x : I), es0.flatten[j]? = some x → K.w.cell? ⟨b, j, none⟩ = some (f j) ∧ VI K.w K.S (f j) x) → off + len ≤ es0.length → es = (es0.drop off).take len → VI K.w (K.more (frzS K H ids)).S v (.sl es) := by
    intro es0 b f _ hμ hz hu hS hc hle hes
    cases hv with
    | os _ _ _ _ b' off' cap q1 q2 q3 q4 q5 =>
      rw [hμ] at q1; cases q1
      have hlen : es.length = len := by rw [hes]; simp; omega
      rcases q4 with q4 | q4
      · subst q4
        have hflat : ∀ (j : Nat) (x : I), es.flatten[j]? = some x → es0.flatten[off * sz + j]? = some x := by
          intro j x hx
          rw [hes, flatten_take (sz := sz) (fun e he => hu e (List.mem_of_mem_drop he)), flatten_drop hu, List.getElem?_take] at hx
          split at hx
          · rw [List.getElem?_drop] at hx; exact hx
          · cases hx
        rw [← hlen]
        exact .sl b (off * sz) cap sz es (fun j => f (off * sz + j)) hS (by omega) hz (fun e he => hu e (by rw [hes] at he; exact List.mem_of_mem_drop (List.mem_of_mem_take he)))
          (fun j x hx => (hc _ _ (hflat j x hx)).1) (fun j x hx => ((hc _ _ (hflat j x hx)).2).ext he)
      · subst q4
        have : es = [] := List.eq_nil_of_length_eq_zero (by omega)
        have h0 : len = 0 := by omega
        subst this h0
        exact .e _ _
    | os0 =>
      have : es = [] := List.eq_nil_of_length_eq_zero (by rw [hes]; simp)
      subst this
      exact .e _ _
  have none_case : K.μ o = none → len = 0 → es = [] → VI K.w (K.more (frzS K H ids)).S v (.sl es) := by
    intro hn h0 hes
    subst hes
    cases hv with
    | os _ _ _ _ b' off' cap q1 q2 q3 q4 q5 => rw [hn] at q1; cases q1
    | os0 => exact .e _ _
  split at h
  · rename_i sz' es0 ho
    split at h
    · rename_i hc; obtain ⟨rfl, hle⟩ := hc
      simp at h
      obtain ⟨hz, hu, h3⟩ := hr.get ho
      rcases h3 with ⟨h3, h4⟩ | ⟨b, row, e, h3, h4, h5, h6, h7, h8⟩
      · subst h4; simp at hle; exact none_case h3 hle.2 (by rw [← h]; simp)
      · refine key es0 b (fun j => row.getD j undef) (.inl ho) h3 hz hu (.inr ⟨o, hm, ⟨_, _, ho⟩, h3⟩) (fun j x hx => ⟨?_, h6 j x hx⟩) hle h.symm
        have hlt : j < row.size := by have := (List.getElem?_eq_some_iff.1 hx).1; rw [flatten_len hu] at this; omega
        rw [cell_of_row K.w b j row e _ h4]; simp [Array.getD, hlt]
    · cases h
  · rename_i sz' es0 ho
    split at h
    · rename_i hc; obtain ⟨rfl, hle⟩ := hc
      simp at h
      obtain ⟨hz, hu, h3⟩ := hr.get ho
      rcases h3 with ⟨h3, h4⟩ | ⟨b, f, h3, h4, h5⟩
      · subst h4; simp at hle; exact none_case h3 hle.2 (by rw [← h]; simp)
      · exact key es0 b f (.inr ho) h3 hz hu (.inl h4) h5 hle h.symm
    · cases h
  · cases h

theorem nrm_ok {w : World} {S : Nat → Prop} {v : Value} {x : I} (h : VI w S v x) : VI w S v (nrmI x) := by
  unfold nrmI
  split
  · cases h; exact .e _ _
  · exact h
theorem convI_ok (hr : HR w0 T K H) {v : Value} {d : D} {x : I} (hv : VD K v d) (h : convI H d = some x) (ids : List Nat) (hm : ∀ o ∈ d.ids1, o ∈ ids) : VI K.w (K.more (frzS K H ids)).S v x := by
  cases d with
  | i y =>
    simp only [convI, Option.some.injEq] at h; subst h
    cases hv with | i hx => exact (nrm_ok hx).ext (Ext.more (K := K) (frzS K H ids))
  | os o sz off len =>
    simp only [convI, Option.map_eq_some_iff] at h
    obtain ⟨es, h, rfl⟩ := h
    exact elems_frozen hr hv h ids (hm o (by simp [D.ids1]))
  | _ => simp [convI] at h
end
end Go.Abs
