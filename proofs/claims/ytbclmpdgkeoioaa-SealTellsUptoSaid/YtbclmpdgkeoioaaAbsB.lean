/- Operations on the abstract memory, and what each does in the machine's memory. -/
import Derived.Test.YtbclmpdgkeoioaaAbsA
set_option linter.all false
namespace Go.Abs
open Go Go.RowKit

def upd {α : Type} (H : Nat → α) (k : Nat) (x : α) : Nat → α := fun j => if j = k then x else H j
theorem upd_same {α : Type} (H : Nat → α) (k : Nat) (x : α) : upd H k x k = x := by simp [upd]
theorem upd_ne {α : Type} (H : Nat → α) {k j : Nat} (x : α) (h : j ≠ k) : upd H k x j = H j := by simp [upd, h]

/-- What asks nothing of the world. -/
def pv {α : Type} (P : Program) : Sem α → Option α
  | .pure a => some a
  | .program k => pv P (k P)
  | _ => none
theorem pv_run {α : Type} {P : Program} {s : Sem α} {a : α} (h : pv P s = some a) (w : World) : s.run P w = .ok a w := by
  induction s with
  | pure b => simp [pv] at h; subst h; rfl
  | program k ih => simp only [pv] at h; simp only [Sem.run]; exact ih P h
  | _ => simp [pv] at h

def ofV : Value → D
  | .agg cs => if cs.all (·.oneCell') then .agg (cs.toList.map fun c => .i (.s c)) else .any
  | .tuple vs => if vs.size = 0 then .un else .any
  | v => .i (.s v)

def concI : D → Option Value
  | .i (.s v) => some v
  | _ => none
def conc : D → Option Value
  | .i (.s v) => some v
  | .agg cs => (cs.mapM concI).map fun vs => .agg vs.toArray
  | .un => some undef
  | _ => none

def evA (sl : Nat → D) : Operand → D
  | .tmp t => sl t
  | .const v => ofV v
  | .func f => .fn f []
  | .global _ => .any

def dcells : D → Option (List D)
  | .agg cs => some cs
  | .tup _ | .un | .any => none
  | d => some [d]

def nilS : Value → Bool
  | .slice none 0 0 => true
  | _ => false
theorem nilS_eq {v : Value} (h : nilS v = true) : v = .slice none 0 0 := by
  unfold nilS at h; split at h
  · rfl
  · cases h

/-- The elements of a slice, as they lie. -/
def elemsOf (H : Nat → Ob) : D → Option (List (List I))
  | .i (.sl es) => some es
  | .i (.s v) => if nilS v then some [] else none
  | .os o sz off len => match H o with
    | .arr sz' es | .fz sz' es => if sz = sz' ∧ off + len ≤ es.length then some ((es.drop off).take len) else none
    | _ => none
  | _ => none

/-- a slice that is none reads as one without elements -/
def nrmI : I → I
  | .s (.slice none 0 0) => .sl []
  | x => x
def convI (H : Nat → Ob) : D → Option I
  | .i x => some (nrmI x)
  | .os o sz off len => (elemsOf H (.os o sz off len)).map .sl
  | _ => none

def D.ids1 : D → List Nat
  | .os o _ _ _ => [o]
  | .pt o _ _ _ => [o]
  | _ => []

def frz (ids : List Nat) (H : Nat → Ob) : Nat → Ob := fun k => if ids.contains k then (match H k with | .arr sz es => .fz sz es | x => x) else H k
theorem frz_nil (H : Nat → Ob) : frz [] H = H := by funext k; simp [frz]

def readCells (H : Nat → Ob) (o sz i c n : Nat) : Option (List D) :=
  match H o with
  | .box cs => if i = 0 ∧ c + n ≤ cs.length then some ((cs.drop c).take n) else none
  | .arr sz' es | .fz sz' es => if sz = sz' then match es[i]? with
    | some e => if c + n ≤ e.length then some (((e.drop c).take n).map .i) else none
    | none => none else none
  | _ => none

def readAt (H : Nat → Ob) (p : D) (n : Nat) : Option (List D) :=
  match p with
  | .pt o sz i c => readCells H o sz i c n
  | .rp cs c => if c + n ≤ cs.length then some (((cs.drop c).take n).map .i) else none
  | _ => none

def asCell : List D → Option D
  | [d] => some d
  | _ => none

section
variable {P : Program} {w0 : Ctx} {T : Nat → Prop} {K : Ctx} {H : Nat → Ob}

theorem VI.one {w : World} {S : Nat → Prop} {v : Value} {x : I} (h : VI w S v x) : v.oneCell' = true := by
  cases h <;> first | assumption | rfl
theorem VD.one {v : Value} {d : D} (h : VD K v d) (hd : d.one = true) : v.oneCell' = true := by
  cases h <;> first | (exact VI.one ‹_›) | rfl | (simp [D.one] at hd)

theorem ofV_ok (v : Value) : VD K v (ofV v) := by
  cases v with
  | agg cs =>
    simp only [ofV]
    split
    · rename_i h
      refine .agg cs _ (by simp) fun j d hd => ?_
      simp only [List.getElem?_map, Option.map_eq_some_iff] at hd
      obtain ⟨c, hc, rfl⟩ := hd
      have hj : j < cs.size := by have := (List.getElem?_eq_some_iff.1 hc).1; simpa using this
      have e : cs.getD j undef = c := by simp [Array.getD, hj]; simpa [hj] using hc
      rw [e]
      have := (Array.all_eq_true_iff_forall_mem.1 h) c (by have := List.mem_of_getElem? hc; simpa using this)
      exact .i (.s c this)
    · exact .any _
  | tuple vs =>
    simp only [ofV]
    split
    · rename_i h
      have : vs = #[] := Array.eq_empty_of_size_eq_zero h
      subst this; exact .un
    · exact .any _
  | _ => exact .i (.s _ rfl)

theorem concI_ok {v v' : Value} {d : D} (h : VD K v d) (hc : concI d = some v') : v = v' := by
  cases h with
  | i hx => cases hx <;> simp [concI] at hc; exact hc
  | _ => simp [concI] at hc

theorem mapM_get {α β : Type} {f : α → Option β} : ∀ {l : List α} {r : List β}, l.mapM f = some r → r.length = l.length ∧ ∀ (j : Nat) (a : α), l[j]? = some a → ∃ b, r[j]? = some b ∧ f a = some b
  | [], r, h => by simp at h; subst h; simp
  | x :: l, r, h => by
    rw [List.mapM_cons] at h
    cases hx : f x with
    | none => simp [hx] at h
    | some b =>
      cases hl : l.mapM f with
      | none => simp [hx, hl] at h
      | some r' =>
        simp [hx, hl] at h
        subst h
        obtain ⟨h1, h2⟩ := mapM_get hl
        refine ⟨by simp [h1], fun j a ha => ?_⟩
        cases j with
        | zero => simp at ha; subst ha; exact ⟨b, by simp, hx⟩
        | succ j => simpa using h2 j a (by simpa using ha)

theorem conc_ok {v v' : Value} {d : D} (h : VD K v d) (hc : conc d = some v') : v = v' := by
  cases h with
  | i hx => exact concI_ok (.i hx) (by cases hx <;> simp [conc] at hc; simpa [concI] using hc)
  | agg vs cs hl hv =>
    simp only [conc, Option.map_eq_some_iff] at hc
    obtain ⟨r, hr, rfl⟩ := hc
    obtain ⟨h1, h2⟩ := mapM_get hr
    congr 1
    apply Array.ext
    · simp [h1, hl]
    · intro j hj hj'
      obtain ⟨b, hb, hb'⟩ := h2 j (cs[j]'(by omega)) (by simp [show j < cs.length by omega])
      have := concI_ok (hv j _ (by simp [show j < cs.length by omega])) hb'
      rw [Array.getD, dif_pos hj] at this
      obtain ⟨hb1, hb2⟩ := List.getElem?_eq_some_iff.1 hb
      exact (show vs[j] = b from this).trans (by simp [hb2])
  | un => simp [conc] at hc; exact hc
  | _ => simp [conc] at hc

/-- A range of cells of an object of fixed elements. -/
theorem elems_cells {es : List (List I)} {sz i c n : Nat} {e : List I} (hu : ∀ e ∈ es, e.length = sz) (hi : es[i]? = some e) (hn : c + n ≤ e.length) {j : Nat} {x : I} (hx : ((e.drop c).take n)[j]? = some x) :
    j < n ∧ es.flatten[i * sz + (c + j)]? = some x := by
  rw [List.getElem?_take] at hx
  split at hx
  · rw [List.getElem?_drop] at hx
    exact ⟨‹_›, flatten_get hu hi hx⟩
  · cases hx

/-- READING. -/
theorem readAt_ok (hr : HR w0 T K H) {v : Value} {p : D} {n : Nat} {cs : List D} (hp : VD K v p) (h : readAt H p n = some cs) :
    ∃ (b off : Nat) (vs : List Value), v = .pointer (some ⟨b, off, none⟩) ∧ cs.length = n ∧ vs.length = n ∧ K.w.rangeAt b off vs ∧ (∀ (j : Nat) (d : D), cs[j]? = some d → ∃ u, vs[j]? = some u ∧ VD K u d) := by
  have mk : ∀ (b off : Nat) (cs : List D), (∀ (j : Nat) (d : D), cs[j]? = some d → ∃ u, K.w.cell? ⟨b, off + j, none⟩ = some u ∧ VD K u d) →
      ∃ vs : List Value, vs.length = cs.length ∧ K.w.rangeAt b off vs ∧ (∀ (j : Nat) (d : D), cs[j]? = some d → ∃ u, vs[j]? = some u ∧ VD K u d) := by
    intro b off cs hc
    refine ⟨(List.range cs.length).map fun j => (K.w.cell? ⟨b, off + j, none⟩).getD undef, by simp, fun j v hv => ?_, fun j d hd => ?_⟩
    · simp only [List.getElem?_map, Option.map_eq_some_iff] at hv
      obtain ⟨k, hk, rfl⟩ := hv
      have hk' : k = j := by have := List.getElem?_eq_some_iff.1 hk; obtain ⟨h1, h2⟩ := this; simpa using h2.symm
      subst hk'
      have hlt : k < cs.length := by have := (List.getElem?_eq_some_iff.1 hk).1; simpa using this
      obtain ⟨u, hu, _⟩ := hc k cs[k] (by simp [hlt])
      simp [hu]
    · have hlt : j < cs.length := (List.getElem?_eq_some_iff.1 hd).1
      obtain ⟨u, hu, hd'⟩ := hc j d hd
      exact ⟨u, by simp [hlt, hu], hd'⟩
  cases p with
  | pt o sz i c =>
    cases hp with
    | pt _ _ _ _ b hμ =>
      simp only [readAt, readCells] at h
      split at h
      · rename_i cs0 ho
        split at h
        · rename_i hcond
          simp at h
          obtain ⟨rfl, hle⟩ := hcond
          obtain ⟨b', row, e, h1, h2, h3, h4, _⟩ := hr.get ho
          have : b' = b := by rw [h1] at hμ; simpa using hμ
          subst this
          have hlen : cs.length = n := by rw [← h]; simp; omega
          obtain ⟨vs, a1, a2, a3⟩ := mk b' (0 * sz + c) cs (fun j d hd => by
            subst h
            rw [List.getElem?_take] at hd
            split at hd
            · rw [List.getElem?_drop] at hd
              have hlt : c + j < row.size := by have := (List.getElem?_eq_some_iff.1 hd).1; omega
              refine ⟨row.getD (c + j) undef, ?_, h4 _ _ hd⟩
              rw [cell_of_row K.w b' _ row e _ h2, Nat.zero_mul, Nat.zero_add]
              simp [Array.getD, hlt]
            · cases hd)
          exact ⟨b', _, vs, rfl, hlen, by omega, a2, a3⟩
        · cases h
      · rename_i sz' es ho
        split at h
        · rename_i hsz; subst hsz
          split at h
          · rename_i e he
            split at h
            · rename_i hle
              simp at h
              obtain ⟨hz, hu, h3⟩ := hr.get ho
              rcases h3 with ⟨h3, _⟩ | ⟨b', row, ty, h1, h2, h3, h4, _⟩
              · rw [h3] at hμ; cases hμ
              have : b' = b := by rw [h1] at hμ; simpa using hμ
              subst this
              have hlen : cs.length = n := by rw [← h]; simp; omega
              obtain ⟨vs, a1, a2, a3⟩ := mk b' (i * sz + c) cs (fun j d hd => by
                subst h
                simp only [← List.map_drop, ← List.map_take, List.getElem?_map, Option.map_eq_some_iff] at hd
                obtain ⟨x, hx, rfl⟩ := hd
                obtain ⟨hj, hx'⟩ := elems_cells hu he hle hx
                have hlt : i * sz + (c + j) < row.size := by have := (List.getElem?_eq_some_iff.1 hx').1; rw [flatten_len hu] at this; omega
                refine ⟨row.getD (i * sz + (c + j)) undef, ?_, .i (h4 _ _ hx')⟩
                rw [cell_of_row K.w b' _ row ty _ h2, Nat.add_assoc]
                simp [Array.getD, hlt])
              exact ⟨b', _, vs, rfl, hlen, by omega, a2, a3⟩
            · cases h
          · cases h
        · cases h
      · rename_i sz' es ho
        split at h
        · rename_i hsz; subst hsz
          split at h
          · rename_i e he
            split at h
            · rename_i hle
              simp at h
              obtain ⟨hz, hu, h3⟩ := hr.get ho
              rcases h3 with ⟨h3, _⟩ | ⟨b', f, h1, h2, h4⟩
              · rw [h3] at hμ; cases hμ
              have : b' = b := by rw [h1] at hμ; simpa using hμ
              subst this
              have hlen : cs.length = n := by rw [← h]; simp; omega
              obtain ⟨vs, a1, a2, a3⟩ := mk b' (i * sz + c) cs (fun j d hd => by
                subst h
                simp only [← List.map_drop, ← List.map_take, List.getElem?_map, Option.map_eq_some_iff] at hd
                obtain ⟨x, hx, rfl⟩ := hd
                obtain ⟨hj, hx'⟩ := elems_cells hu he hle hx
                obtain ⟨q1, q2⟩ := h4 _ _ hx'
                exact ⟨f (i * sz + (c + j)), by rw [Nat.add_assoc]; exact q1, .i q2⟩)
              exact ⟨b', _, vs, rfl, hlen, by omega, a2, a3⟩
            · cases h
          · cases h
        · cases h
      · cases h
  | rp cs0 c =>
    cases hp with
    | rp b off _ _ f hS hcell hv =>
      simp only [readAt] at h
      split at h
      · rename_i hle
        simp at h
        have hlen : cs.length = n := by rw [← h]; simp; omega
        obtain ⟨vs, a1, a2, a3⟩ := mk b (off + c) cs (fun j d hd => by
          subst h
          simp only [← List.map_drop, ← List.map_take, List.getElem?_map, Option.map_eq_some_iff] at hd
          obtain ⟨x, hx, rfl⟩ := hd
          rw [List.getElem?_take] at hx
          split at hx
          · rw [List.getElem?_drop] at hx
            exact ⟨f (c + j), by rw [Nat.add_assoc]; exact hcell _ _ hx, .i (hv _ _ hx)⟩
          · cases hx)
        exact ⟨b, _, vs, rfl, hlen, by omega, a2, a3⟩
      · cases h
  | _ => simp [readAt] at h
end
end Go.Abs
