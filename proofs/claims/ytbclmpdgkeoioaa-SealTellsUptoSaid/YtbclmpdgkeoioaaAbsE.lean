/- Operations that make no memory do what the abstract memory says. -/
import Derived.Test.YtbclmpdgkeoioaaAbsD
set_option linter.all false
namespace Go.Abs
open Go Go.RowKit

section
variable {P : Program} {w0 : Ctx} {T : Nat → Prop} {K : Ctx} {H : Nat → Ob} {sl : Nat → D} {ρ : Operand → Value}

/-- The value is there, the world stands. -/
def Qv (P : Program) (K : Ctx) (s : Sem Next) (d : D) : Prop := ∃ v, s.run P K.w = .ok (.value v) K.w ∧ VD K v d

theorem Qv.of {s : Sem Value} {v : Value} {d : D} (h : s.run P K.w = .ok v K.w) (hd : VD K v d) : Qv P K (do pure (.value (← s))) d := ⟨v, by simp [h], hd⟩
theorem Qv.pv {s : Sem Value} {d : D} (h : (Abs.pv P s).map ofV = some d) : Qv P K (do pure (.value (← s))) d := by
  simp only [Option.map_eq_some_iff] at h
  obtain ⟨v, h, rfl⟩ := h
  exact .of (pv_run h K.w) (ofV_ok v)

theorem und_run {t : TypeId} {d : TypeDesc} (h : undOf P t = some d) (w : World) : (underlying t).run P w = .ok d w := pv_run h w
theorem sz_run {t : TypeId} {n : Nat} (h : szOf P t = some n) (w : World) : (sizeOf t).run P w = .ok n w := pv_run h w
theorem agg_run {t : TypeId} {b : Bool} (h : aggOf P t = some b) (w : World) : (isAgg t).run P w = .ok b w := pv_run h w
theorem zero_run {t : TypeId} {v : Value} (h : zeroOf P t = some v) (w : World) : (zeroValue t).run P w = .ok v w := pv_run h w

theorem getD_lt {vs : Array Value} {j : Nat} (h : j < vs.size) : vs.getD j undef = vs[j] := by simp [Array.getD, h]

theorem part_ok {vs : Array Value} {cs : List D} {t off : Nat} {d : D} (hl : vs.size = cs.length) (hv : ∀ (j : Nat) (d : D), cs[j]? = some d → VD K (vs.getD j undef) d) (h : partA P t cs off = some d) (w : World) :
    ∃ v, (part t vs off).run P w = .ok v w ∧ VD K v d := by
  simp only [partA] at h
  split at h
  · rename_i ha
    split at h
    · rename_i n hn
      split at h
      · rename_i hle
        simp at h; subst h
        refine ⟨.agg (vs.extract off (off + n)), by simp [part, agg_run ha, sz_run hn], .agg _ _ (by simp; omega) fun j d hd => ?_⟩
        rw [List.getElem?_take] at hd
        split at hd
        · rw [List.getElem?_drop] at hd
          have := hv _ _ hd
          have h1 : off + j < vs.size := by have := (List.getElem?_eq_some_iff.1 hd).1; omega
          rw [getD_lt h1] at this
          rw [getD_lt (by simp; omega)]
          simpa using this
        · cases hd
      · cases h
    · cases h
  · rename_i ha
    have hlt : off < vs.size := by have := (List.getElem?_eq_some_iff.1 h).1; omega
    have := hv _ _ h
    rw [getD_lt hlt] at this
    exact ⟨vs[off], by simp [part, agg_run ha, hlt], this⟩
  · cases h

theorem dcells_ok {v : Value} {d : D} {cs : List D} (hv : VD K v d) (h : dcells d = some cs) : v.cells.size = cs.length ∧ ∀ (j : Nat) (d : D), cs[j]? = some d → VD K (v.cells.getD j undef) d := by
  have one : ∀ {v : Value} {d : D}, VD K v d → v.oneCell' = true → v.cells.size = [d].length ∧ ∀ (j : Nat) (d' : D), [d][j]? = some d' → VD K (v.cells.getD j undef) d' := by
    intro v d hv h1
    have : v.cells = #[v] := by cases v <;> first | rfl | (simp [Value.oneCell'] at h1)
    rw [this]
    refine ⟨rfl, fun j d' hd => ?_⟩
    cases j with
    | zero => simp at hd; subst hd; exact hv
    | succ j => simp at hd
  cases hv with
  | agg vs cs' hl hv => simp [dcells] at h; subst h; exact ⟨hl, hv⟩
  | i hx => simp [dcells] at h; subst h; exact one (.i hx) hx.one
  | os o sz off len b off' cap h1 h2 h3 h4 h5 => simp [dcells] at h; subst h; exact one (.os o sz off len b off' cap h1 h2 h3 h4 h5) rfl
  | os0 o sz => simp [dcells] at h; subst h; exact one (.os0 o sz) rfl
  | pt o sz i c b h1 => simp [dcells] at h; subst h; exact one (.pt o sz i c b h1) rfl
  | rp b off c cs' f h1 h2 h3 => simp [dcells] at h; subst h; exact one (.rp b off c cs' f h1 h2 h3) rfl
  | fn f vs cs' hl hv => simp [dcells] at h; subst h; exact one (.fn f vs cs' hl hv) rfl
  | _ => simp [dcells] at h

/-- Cells under cells. -/
def RC (K : Ctx) (vs : Array Value) (cs : List D) : Prop := vs.size = cs.length ∧ ∀ (j : Nat) (d : D), cs[j]? = some d → VD K (vs.getD j undef) d

theorem foldl_set (off : Nat) : ∀ (vs : List Value) (k : Nat) (a : Array Value), (∀ m, ((vs.zipIdx k).foldl (fun cs (p : Value × Nat) => cs.setIfInBounds (off + p.2) p.1) a)[m]? = if off + k ≤ m ∧ m < off + k + vs.length ∧ m < a.size then vs[m - (off + k)]? else a[m]?) ∧
    ((vs.zipIdx k).foldl (fun cs (p : Value × Nat) => cs.setIfInBounds (off + p.2) p.1) a).size = a.size
  | [], k, a => by simp; intro m h1 h2; omega
  | v :: vs, k, a => by
    obtain ⟨h1, h2⟩ := foldl_set off vs (k + 1) (a.setIfInBounds (off + k) v)
    simp only [List.zipIdx_cons, List.foldl_cons]
    refine ⟨fun m => ?_, by rw [h2]; simp⟩
    rw [h1 m]
    simp only [Array.size_setIfInBounds, List.length_cons, Array.getElem?_setIfInBounds]
    by_cases hm : off + k = m
    · subst hm
      by_cases hs : off + k < a.size
      · simp [hs]; intro h; omega
      · simp [hs]
    · by_cases hin : off + (k + 1) ≤ m ∧ m < off + (k + 1) + vs.length ∧ m < a.size
      · rw [if_pos hin, if_pos (by omega)]
        rw [show m - (off + k) = (m - (off + (k + 1))) + 1 by omega, List.getElem?_cons_succ]
      · rw [if_neg hin, if_neg hm, if_neg (by omega)]

theorem fill_ok (place : Nat → Option (Nat × Nat)) : ∀ (ps : List (Nat × Value)) (qs : List (Nat × List D)) (vs : Array Value) (cs r : List D), RC K vs cs →
    ps.length = qs.length → (∀ (j : Nat) (p : Nat × Value) (q : Nat × List D), ps[j]? = some p → qs[j]? = some q → p.1 = q.1 ∧ RC K p.2.cells q.2) → fillD place cs qs = some r → ∃ vs', Instr.fill place vs ps = some vs' ∧ RC K vs' r
  | [], qs, vs, cs, r, h0, hl, hp, h => by
    have : qs = [] := List.eq_nil_of_length_eq_zero (by simpa using hl.symm)
    subst this; simp [fillD] at h; subst h
    exact ⟨vs, rfl, h0⟩
  | (i, v) :: ps, [], vs, cs, r, h0, hl, hp, h => by simp at hl
  | (i, v) :: ps, (i', c) :: qs, vs, cs, r, h0, hl, hp, h => by
    obtain ⟨e, hc⟩ := hp 0 (i, v) (i', c) (by simp) (by simp)
    simp only at e hc; subst e
    simp only [fillD] at h
    cases hpl : place i with
    | none => simp [hpl] at h
    | some q =>
      obtain ⟨off, size⟩ := q
      simp only [hpl] at h
      split at h
      · rename_i hcond
        obtain ⟨h1, h2⟩ := hcond
        have hsz : v.cells.size = size := by rw [hc.1, h1]
        have hbound : ¬ (v.cells.size ≠ size ∨ off + v.cells.size > vs.size) := by rw [hc.1, h0.1]; omega
        obtain ⟨g1, g2⟩ := foldl_set off v.cells.toList 0 vs
        have hfold : v.cells.zipIdx.foldl (fun cs (p : Value × Nat) => cs.setIfInBounds (off + p.2) p.1) vs = (v.cells.toList.zipIdx 0).foldl (fun cs (p : Value × Nat) => cs.setIfInBounds (off + p.2) p.1) vs := by
          rw [← Array.foldl_toList]; simp
        have hnew : RC K (v.cells.zipIdx.foldl (fun cs (p : Value × Nat) => cs.setIfInBounds (off + p.2) p.1) vs) (cs.take off ++ c ++ cs.drop (off + c.length)) := by
          rw [hfold]
          refine ⟨by rw [g2, h0.1]; simp; omega, fun j d hd => ?_⟩
          have hget : ∀ m, m < vs.size → ((v.cells.toList.zipIdx 0).foldl (fun cs (p : Value × Nat) => cs.setIfInBounds (off + p.2) p.1) vs).getD m undef = if off ≤ m ∧ m < off + c.length then v.cells.getD (m - off) undef else vs.getD m undef := by
            intro m hm
            have := g1 m
            simp only [Nat.add_zero, Array.length_toList, hc.1, hm, and_true] at this
            rw [Array.getD_eq_getD_getElem?, this]
            by_cases hin : off ≤ m ∧ m < off + c.length
            · rw [if_pos hin, if_pos hin, Array.getD_eq_getD_getElem?]; simp
            · rw [if_neg hin, if_neg hin, Array.getD_eq_getD_getElem?]
          have hjlt : j < vs.size := by
            have := (List.getElem?_eq_some_iff.1 hd).1
            simp at this; have := h0.1; omega
          rw [hget j hjlt]
          by_cases hin : off ≤ j ∧ j < off + c.length
          · rw [if_pos hin]
            rw [List.append_assoc, List.getElem?_append_right (by simp; omega)] at hd
            rw [List.getElem?_append_left (by simp; omega)] at hd
            have : min off cs.length = off := by omega
            simp only [List.length_take, this] at hd
            exact hc.2 _ _ hd
          · rw [if_neg hin]
            refine h0.2 j d ?_
            by_cases hlo : j < off
            · rw [List.append_assoc, List.getElem?_append_left (by simp; omega), List.getElem?_take, if_pos hlo] at hd; exact hd
            · rw [List.getElem?_append_right (by simp; omega), List.getElem?_drop] at hd
              rw [← hd]; congr 1; simp; omega
        obtain ⟨vs', k1, k2⟩ := fill_ok place ps qs _ _ r hnew (by simpa using hl) (fun j p q hp' hq => hp (j + 1) p q (by simpa using hp') (by simpa using hq)) h
        refine ⟨vs', ?_, k2⟩
        simp only [Instr.fill, hpl]
        rw [if_neg (by simpa using hbound)]
        exact k1
      · cases h
end
end Go.Abs
