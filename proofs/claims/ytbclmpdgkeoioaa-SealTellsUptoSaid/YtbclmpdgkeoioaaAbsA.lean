/- An abstract memory for walks: values read as trees, the call's own memory as numbered objects; how they lie in the machine's memory. Nothing is said of the program here. -/
import Derived.Test.YtbclmpdgkeoioaaLib
set_option linter.all false
namespace Go.Abs
open Go Go.RowKit

/-- What a cell holds that is never written again: a value without memory, or a slice: its elements' cells. -/
inductive I where
  | s (v : Value)
  | sl (es : List (List I))

/-- What a slot holds. -/
inductive D where
  | i (x : I)
  | agg (cs : List D)
  | tup (vs : List D)
  | os (o sz off len : Nat)
  | pt (o sz i c : Nat)
  | rp (cs : List I) (c : Nat)
  | fn (f : FuncId) (caps : List D)
  | un
  | any

/-- Fits into a cell. -/
def D.one : D → Bool
  | .agg _ | .tup _ | .un | .any => false
  | _ => true

/-- An object of the call's own. -/
inductive Ob where
  | fresh | dead
  | box (cs : List D)
  | arr (sz : Nat) (es : List (List I))
  | fz (sz : Nat) (es : List (List I))

structure Ctx where
  w : World
  S : Nat → Prop
  μ : Nat → Option Nat

def rowSize (w : World) (b : Nat) : Nat := match w.heap[b]? with | some (.cells c _ _) => c.size | _ => 0

inductive VI (w : World) (S : Nat → Prop) : Value → I → Prop
  | s (v : Value) (h : v.oneCell' = true) : VI w S v (.s v)
  | e (a : Option Addr) (cap : Nat) : VI w S (.slice a 0 cap) (.sl [])
  | sl (b off cap sz : Nat) (es : List (List I)) (f : Nat → Value) (hS : S b) (hc : es.length ≤ cap) (hz : 0 < sz) (hsz : ∀ e ∈ es, e.length = sz)
      (hcell : ∀ j x, es.flatten[j]? = some x → w.cell? ⟨b, off + j, none⟩ = some (f j))
      (hv : ∀ j x, es.flatten[j]? = some x → VI w S (f j) x) : VI w S (.slice (some ⟨b, off, none⟩) es.length cap) (.sl es)

inductive VD (K : Ctx) : Value → D → Prop
  | i {v : Value} {x : I} (h : VI K.w K.S v x) : VD K v (.i x)
  | agg (vs : Array Value) (cs : List D) (hl : vs.size = cs.length) (h : ∀ j d, cs[j]? = some d → VD K (vs.getD j undef) d) : VD K (.agg vs) (.agg cs)
  | tup (vs : Array Value) (cs : List D) (hl : vs.size = cs.length) (h : ∀ j d, cs[j]? = some d → VD K (vs.getD j undef) d) : VD K (.tuple vs) (.tup cs)
  | os (o sz off len b off' cap : Nat) (hμ : K.μ o = some b) (hz : 0 < sz) (hc : len ≤ cap) (ho : off' = off * sz ∨ cap = 0) (hr : off' + cap * sz ≤ rowSize K.w b) :
      VD K (.slice (some ⟨b, off', none⟩) len cap) (.os o sz off len)
  | os0 (o sz : Nat) : VD K (.slice none 0 0) (.os o sz 0 0)
  | pt (o sz i c b : Nat) (hμ : K.μ o = some b) : VD K (.pointer (some ⟨b, i * sz + c, none⟩)) (.pt o sz i c)
  | rp (b off c : Nat) (cs : List I) (f : Nat → Value) (hS : K.S b) (hcell : ∀ j x, cs[j]? = some x → K.w.cell? ⟨b, off + j, none⟩ = some (f j))
      (hv : ∀ j x, cs[j]? = some x → VI K.w K.S (f j) x) : VD K (.pointer (some ⟨b, off + c, none⟩)) (.rp cs c)
  | fn (f : FuncId) (vs : Array Value) (cs : List D) (hl : vs.size = cs.length) (h : ∀ j d, cs[j]? = some d → VD K (vs.getD j undef) d) : VD K (.func (.func f) #[] vs) (.fn f cs)
  | un : VD K undef .un
  | any (v : Value) : VD K v .any

/-- What was known stays known. -/
structure Ext (K K' : Ctx) : Prop where
  S : ∀ b, K.S b → K'.S b
  cell : ∀ b, K.S b → ∀ j, K'.w.cell? ⟨b, j, none⟩ = K.w.cell? ⟨b, j, none⟩
  μ : ∀ o b, K.μ o = some b → K'.μ o = some b
  row : ∀ o b, K.μ o = some b → rowSize K'.w b = rowSize K.w b

theorem Ext.refl (K : Ctx) : Ext K K := ⟨fun _ h => h, fun _ _ _ => rfl, fun _ _ h => h, fun _ _ _ => rfl⟩
theorem Ext.trans {K K' K'' : Ctx} (h : Ext K K') (h' : Ext K' K'') : Ext K K'' :=
  ⟨fun b hb => h'.S b (h.S b hb), fun b hb j => (h'.cell b (h.S b hb) j).trans (h.cell b hb j), fun o b hb => h'.μ o b (h.μ o b hb), fun o b hb => (h'.row o b (h.μ o b hb)).trans (h.row o b hb)⟩

theorem VI.mono {w w' : World} {S S' : Nat → Prop} (hS : ∀ b, S b → S' b) (hc : ∀ b, S b → ∀ j, w'.cell? ⟨b, j, none⟩ = w.cell? ⟨b, j, none⟩) {v : Value} {x : I} (h : VI w S v x) : VI w' S' v x := by
  induction h with
  | s v h => exact .s v h
  | e a cap => exact .e a cap
  | sl b off cap sz es f h1 h2 h3 h4 h5 h6 ih => exact .sl b off cap sz es f (hS b h1) h2 h3 h4 (fun j x hx => by rw [hc b h1]; exact h5 j x hx) ih
theorem VI.ext {K K' : Ctx} (h : Ext K K') {v : Value} {x : I} (hv : VI K.w K.S v x) : VI K'.w K'.S v x := hv.mono h.S h.cell

theorem VD.ext {K K' : Ctx} (h : Ext K K') {v : Value} {d : D} (hv : VD K v d) : VD K' v d := by
  induction hv with
  | i hx => exact .i (hx.ext h)
  | agg vs cs hl _ ih => exact .agg vs cs hl ih
  | tup vs cs hl _ ih => exact .tup vs cs hl ih
  | os o sz off len b off' cap h1 h2 h3 h4 h5 => exact .os o sz off len b off' cap (h.μ o b h1) h2 h3 h4 (by rw [h.row o b h1]; exact h5)
  | os0 o sz => exact .os0 o sz
  | pt o sz i c b h1 => exact .pt o sz i c b (h.μ o b h1)
  | rp b off c cs f h1 h2 h3 => exact .rp b off c cs f (h.S b h1) (fun j x hx => by rw [h.cell b h1]; exact h2 j x hx) (fun j x hx => (h3 j x hx).ext h)
  | fn f vs cs hl _ ih => exact .fn f vs cs hl ih
  | un => exact .un
  | any v => exact .any v

def Ob.own : Ob → Prop
  | .box _ | .arr .. => True
  | _ => False

/-- How an object lies in memory. w0: what was known at the call's beginning; T: which of its blocks the call may write. -/
def ObR (w0 : Ctx) (T : Nat → Prop) (K : Ctx) (o : Nat) : Ob → Prop
  | .fresh => K.μ o = none
  | .dead => True
  | .box cs => ∃ (b : Nat) (row : Array Value) (e : TypeId), K.μ o = some b ∧ K.w.heap[b]? = some (.cells row e (0, 0)) ∧ cs.length = row.size ∧ (∀ (j : Nat) (d : D), cs[j]? = some d → VD K (row.getD j undef) d) ∧ (∀ d ∈ cs, d.one = true) ∧ ¬ K.S b ∧ (w0.w.heap.size ≤ b ∨ T b)
  | .arr sz es => 0 < sz ∧ (∀ e ∈ es, e.length = sz) ∧ ((K.μ o = none ∧ es = []) ∨
    ∃ (b : Nat) (row : Array Value) (e : TypeId), K.μ o = some b ∧ K.w.heap[b]? = some (.cells row e (0, 0)) ∧ es.length * sz ≤ row.size ∧ (∀ (j : Nat) (x : I), es.flatten[j]? = some x → VI K.w K.S (row.getD j undef) x) ∧ ¬ K.S b ∧ (w0.w.heap.size ≤ b ∨ T b))
  | .fz sz es => 0 < sz ∧ (∀ e ∈ es, e.length = sz) ∧ ((K.μ o = none ∧ es = []) ∨
    ∃ (b : Nat) (f : Nat → Value), K.μ o = some b ∧ K.S b ∧ (∀ (j : Nat) (x : I), es.flatten[j]? = some x → K.w.cell? ⟨b, j, none⟩ = some (f j) ∧ VI K.w K.S (f j) x))

structure HR (w0 : Ctx) (T : Nat → Prop) (K : Ctx) (H : Nat → Ob) : Prop where
  os : K.w.os = w0.w.os
  tape : K.w.tape = w0.w.tape
  output : K.w.output = w0.w.output
  size : w0.w.heap.size ≤ K.w.heap.size
  block : ∀ k, k < w0.w.heap.size → ¬ T k → K.w.heap[k]? = w0.w.heap[k]?
  sB : ∀ b, K.S b → b < K.w.heap.size
  sN : ∀ b, K.S b → w0.S b ∨ w0.w.heap.size ≤ b ∨ T b
  mB : ∀ o b, K.μ o = some b → b < K.w.heap.size
  ob : ∀ o, ObR w0 T K o (H o)
  inj : ∀ o o' b, (H o).own → (H o').own → K.μ o = some b → K.μ o' = some b → o = o'

section
variable {w0 : Ctx} {T : Nat → Prop} {K K' : Ctx} {H H' : Nat → Ob}
theorem HR.get (h : HR w0 T K H) {o : Nat} {x : Ob} (e : H o = x) : ObR w0 T K o x := e ▸ h.ob o
/-- An object that nothing was done to. -/
theorem ObR.ext (he : Ext K K') {o : Nat} {x : Ob} (h : ObR w0 T K o x) (hn : K.μ o = none → K'.μ o = none)
    (hb : ∀ b, x.own → K.μ o = some b → K'.w.heap[b]? = K.w.heap[b]? ∧ ¬ K'.S b) : ObR w0 T K' o x := by
  cases x with
  | fresh => exact hn h
  | dead => trivial
  | box cs =>
    obtain ⟨b, row, e, h1, h2, h3, h4, h5, h6, h7⟩ := h
    obtain ⟨g1, g2⟩ := hb b trivial h1
    exact ⟨b, row, e, he.μ o b h1, g1.trans h2, h3, fun j d hd => (h4 j d hd).ext he, h5, g2, h7⟩
  | arr sz es =>
    obtain ⟨h1, h2, h3⟩ := h
    refine ⟨h1, h2, ?_⟩
    rcases h3 with ⟨h3, h4⟩ | ⟨b, row, e, h3, h4, h5, h6, h7, h8⟩
    · exact .inl ⟨hn h3, h4⟩
    · obtain ⟨g1, g2⟩ := hb b trivial h3
      exact .inr ⟨b, row, e, he.μ o b h3, g1.trans h4, h5, fun j x hx => (h6 j x hx).ext he, g2, h8⟩
  | fz sz es =>
    obtain ⟨h1, h2, h3⟩ := h
    refine ⟨h1, h2, ?_⟩
    rcases h3 with ⟨h3, h4⟩ | ⟨b, f, h3, h4, h5⟩
    · exact .inl ⟨hn h3, h4⟩
    · exact .inr ⟨b, f, he.μ o b h3, he.S b h4, fun j x hx => ⟨(he.cell b h4 j).trans (h5 j x hx).1, ((h5 j x hx).2).ext he⟩⟩
end

theorem flatten_len {es : List (List I)} {sz : Nat} (h : ∀ e ∈ es, e.length = sz) : es.flatten.length = es.length * sz := by
  induction es with
  | nil => simp
  | cons a t ih =>
    rw [List.flatten_cons, List.length_append, ih (fun e he => h e (by simp [he])), h a (by simp), List.length_cons, Nat.add_mul]; omega

theorem flatten_get {es : List (List I)} {sz : Nat} (h : ∀ e ∈ es, e.length = sz) {i c : Nat} {e : List I} {x : I} (hi : es[i]? = some e) (hx : e[c]? = some x) : es.flatten[i * sz + c]? = some x := by
  induction es generalizing i with
  | nil => simp at hi
  | cons a t ih =>
    have ha : a.length = sz := h a (by simp)
    cases i with
    | zero =>
      simp at hi; subst hi
      have hc : c < a.length := (List.getElem?_eq_some_iff.1 hx).1
      rw [List.flatten_cons, Nat.zero_mul, Nat.zero_add, List.getElem?_append_left hc]; exact hx
    | succ i =>
      simp at hi
      have := ih (fun e he => h e (by simp [he])) hi
      rw [List.flatten_cons, List.getElem?_append_right (by rw [ha, Nat.add_mul]; omega), ha, show (i + 1) * sz + c - sz = i * sz + c by rw [Nat.add_mul]; omega]
      exact this

theorem flatten_get' {es : List (List I)} {sz : Nat} (hz : 0 < sz) (h : ∀ e ∈ es, e.length = sz) {j : Nat} {x : I} (hx : es.flatten[j]? = some x) : ∃ e, es[j / sz]? = some e ∧ e[j % sz]? = some x := by
  have hj : j < es.flatten.length := (List.getElem?_eq_some_iff.1 hx).1
  rw [flatten_len h] at hj
  have hd : j / sz < es.length := (Nat.div_lt_iff_lt_mul hz).2 hj
  refine ⟨es[j / sz], by simp [hd], ?_⟩
  have he : es[j / sz].length = sz := h _ (List.getElem_mem hd)
  have hm : j % sz < es[j / sz].length := by rw [he]; exact Nat.mod_lt _ hz
  have := flatten_get h (i := j / sz) (c := j % sz) (e := es[j / sz]) (x := es[j / sz][j % sz]) (by simp [hd]) (by simp [hm])
  rw [Nat.mul_comm, Nat.div_add_mod] at this
  rw [this] at hx
  simp [hm]; simpa using hx

theorem flatten_drop {es : List (List I)} {sz : Nat} (h : ∀ e ∈ es, e.length = sz) (k : Nat) : (es.drop k).flatten = es.flatten.drop (k * sz) := by
  induction es generalizing k with
  | nil => simp
  | cons a t ih =>
    cases k with
    | zero => simp
    | succ k =>
      have ha : a.length = sz := h a (by simp)
      rw [List.drop_succ_cons, ih (fun e he => h e (by simp [he])), List.flatten_cons, Nat.add_mul, Nat.one_mul, Nat.add_comm, ← List.drop_drop, ← ha, List.drop_left]

theorem flatten_take {es : List (List I)} {sz : Nat} (h : ∀ e ∈ es, e.length = sz) (k : Nat) : (es.take k).flatten = es.flatten.take (k * sz) := by
  induction es generalizing k with
  | nil => simp
  | cons a t ih =>
    cases k with
    | zero => simp
    | succ k =>
      have ha : a.length = sz := h a (by simp)
      rw [List.take_succ_cons, List.flatten_cons, ih (fun e he => h e (by simp [he])), List.flatten_cons, Nat.add_mul, Nat.one_mul, List.take_append, ha]
      rw [show k * sz + sz - sz = k * sz by omega, List.take_of_length_le (l := a) (by rw [ha]; exact Nat.le_add_left _ _)]

/-- A slice of what is never written again. -/
theorem VI.sub {w : World} {S : Nat → Prop} {v : Value} {es : List (List I)} (h : VI w S v (.sl es)) :
    ∃ a cap, v = .slice a es.length cap ∧ es.length ≤ cap ∧ (es = [] ∨ ∃ b off, a = some ⟨b, off, none⟩) := by
  cases h with
  | e a cap => exact ⟨a, cap, rfl, Nat.zero_le _, .inl rfl⟩
  | sl b off cap sz es f h1 h2 h3 h4 h5 h6 => exact ⟨_, cap, rfl, h2, .inr ⟨b, off, rfl⟩⟩

end Go.Abs
