/- Slices that are made, and appended to: each does what the abstract memory says. -/
import Derived.Test.YtbclmpdgkeoioaaAbsG
import Derived.Laws.MakeOwn
import Derived.Laws.BytesArg
import Derived.Great.FillDense
set_option linter.all false
namespace Go.Abs
open Go Go.RowKit

section
variable {P : Program} {w0 : Ctx} {T : Nat → Prop} {K : Ctx} {H : Nat → Ob} {sl : Nat → D} {ρ : Operand → Value}

theorem undOf_eq (P : Program) (t : TypeId) : undOf P t = P.underlying t := by
  show pv P (underlying t) = _
  unfold underlying
  cases h : P.underlying t <;> simp [program, bind, Sem.bind, pv, h, stuck, pure]
theorem szOf_info {t : TypeId} {n : Nat} (h : szOf P t = some n) : ∃ i, P.info? t = some i ∧ i.size = n := by
  cases hi : P.info? t with
  | none => simp [szOf, sizeOf, typeInfo, program, bind, Sem.bind, pv, hi, stuck] at h
  | some i => exact ⟨i, rfl, by simpa [szOf, sizeOf, typeInfo, program, bind, Sem.bind, pv, hi, pure] using h⟩
theorem bytes_info {t : TypeId} {n : Nat} {i : TypeInfo} (hi : P.info? t = some i) (h : bytesOfT P t = some n) : i.bytes = n := by
  simpa [bytesOfT, typeInfo, program, bind, Sem.bind, pv, hi, pure] using h
theorem zero_info {t : TypeId} {z : Value} {i : TypeInfo} (hi : P.info? t = some i) (h : zeroOf P t = some z) : i.zero = some z := by
  cases hz : i.zero with
  | none => simp [zeroOf, zeroValue, typeInfo, program, bind, Sem.bind, pv, hi, hz, pure, unsupported] at h
  | some z' => simpa [zeroOf, zeroValue, typeInfo, program, bind, Sem.bind, pv, hi, hz, pure] using h

/-- A new row of fixed elements. -/
theorem newArr (hr : HR w0 T K H) {id : Nat} (hf : H id = .fresh) (e : TypeId) {row : Array Value} {sz : Nat} {es : List (List I)} (hz : 0 < sz) (hu : ∀ x ∈ es, x.length = sz) (hl : es.length * sz ≤ row.size)
    (hc : ∀ (j : Nat) (x : I), es.flatten[j]? = some x → VI K.w K.S (row.getD j undef) x) (len cap : Nat) (hlen : len ≤ cap) (hcap : cap * sz ≤ row.size) :
    Ext K (K.alloc id (.cells row e)) ∧ HR w0 T (K.alloc id (.cells row e)) (upd H id (.arr sz es)) ∧ VD (K.alloc id (.cells row e)) (.slice (some ⟨K.w.heap.size, 0, none⟩) len cap) (.os id sz 0 len) := by
  have hn : K.μ id = none := hr.get hf
  have he := Ext.alloc hr hn (.cells row e)
  have hb : (K.alloc id (.cells row e)).w.heap[K.w.heap.size]? = some (.cells row e (0, 0)) := heap_alloc_new K.w _
  refine ⟨he, hr.alloc hn _ ⟨hz, hu, .inr ⟨K.w.heap.size, row, e, by simp [Ctx.alloc, upd_same], hb, hl, fun j x hx => (hc j x hx).ext he, fun hS => ?_, .inl hr.size⟩⟩, ?_⟩
  · have := hr.sB _ hS; omega
  · exact .os id sz 0 len K.w.heap.size 0 cap (by simp [Ctx.alloc, upd_same]) hz hlen (.inl (by simp)) (by rw [rowSize_of hb]; omega)

/-- What a slice's elements are, as a source. -/
theorem elems_src (hr : HR w0 T K H) {v : Value} {d : D} {es : List (List I)} (hv : VD K v d) (h : elemsOf H d = some es) {n : Nat} (hu : ∀ x ∈ es, x.length = n + 1) :
    ∃ a cap, v = .slice a es.length cap ∧ ∃ news : List Value, news.length = es.length * (n + 1) ∧ (es = [] ∨ ∃ b off, a = some ⟨b, off, none⟩ ∧ K.w.rangeAt b off news) ∧ (∀ u ∈ news, u.oneCell' = true) ∧
      (∀ (j : Nat) (x : I), es.flatten[j]? = some x → ∃ u, news[j]? = some u ∧ VI K.w K.S u x) := by
  have none_case : ∀ a cap, v = .slice a 0 cap → es = [] → ∃ a cap, v = .slice a es.length cap ∧ ∃ news : List Value, news.length = es.length * (n + 1) ∧ (es = [] ∨ ∃ b off, a = some ⟨b, off, none⟩ ∧ K.w.rangeAt b off news) ∧ (∀ u ∈ news, u.oneCell' = true) ∧
      (∀ (j : Nat) (x : I), es.flatten[j]? = some x → ∃ u, news[j]? = some u ∧ VI K.w K.S u x) := by
    rintro a cap rfl rfl
    exact ⟨a, cap, rfl, [], by simp, .inl rfl, by simp, by simp⟩
  have some_case : ∀ (b off cap : Nat) (g : Nat → Value), v = .slice (some ⟨b, off, none⟩) es.length cap →
      (∀ (j : Nat) (x : I), es.flatten[j]? = some x → K.w.cell? ⟨b, off + j, none⟩ = some (g j) ∧ VI K.w K.S (g j) x) → ∃ a cap, v = .slice a es.length cap ∧ ∃ news : List Value, news.length = es.length * (n + 1) ∧ (es = [] ∨ ∃ b off, a = some ⟨b, off, none⟩ ∧ K.w.rangeAt b off news) ∧ (∀ u ∈ news, u.oneCell' = true) ∧
      (∀ (j : Nat) (x : I), es.flatten[j]? = some x → ∃ u, news[j]? = some u ∧ VI K.w K.S u x) := by
    rintro b off cap g rfl hg
    have hfl := flatten_len hu
    have hsome : ∀ j, j < es.length * (n + 1) → ∃ x, es.flatten[j]? = some x := fun j hj => ⟨es.flatten[j]'(by omega), by simp [show j < es.flatten.length by omega]⟩
    refine ⟨_, cap, rfl, (List.range (es.length * (n + 1))).map g, by simp, .inr ⟨b, off, rfl, fun j u hu' => ?_⟩, fun u hu' => ?_, fun j x hx => ?_⟩
    · simp only [List.getElem?_map, Option.map_eq_some_iff] at hu'
      obtain ⟨k, hk, rfl⟩ := hu'
      obtain ⟨q1, q2⟩ := List.getElem?_eq_some_iff.1 hk
      simp at q1 q2; subst q2
      obtain ⟨x, hx⟩ := hsome j q1
      exact (hg j x hx).1
    · simp only [List.mem_map, List.mem_range] at hu'
      obtain ⟨k, hk, rfl⟩ := hu'
      obtain ⟨x, hx⟩ := hsome k hk
      exact (hg k x hx).2.one
    · have hj : j < es.length * (n + 1) := by have := (List.getElem?_eq_some_iff.1 hx).1; omega
      exact ⟨g j, by simp [hj], (hg j x hx).2⟩
  cases d with
  | i x =>
    cases x with
    | s u =>
      simp only [elemsOf] at h
      split at h
      · rename_i hn
        have e := nilS_eq hn
        subst e
        simp at h
        have := conc_ok hv (v' := .slice none 0 0) rfl
        exact none_case _ _ this h
      · cases h
    | sl es' =>
      simp [elemsOf] at h; subst h
      cases hv.inv_i with
      | e a cap => exact none_case _ _ rfl rfl
      | sl b off cap sz _ f q1 q2 q3 q4 q5 q6 => exact some_case b off cap f rfl (fun j x hx => ⟨q5 j x hx, q6 j x hx⟩)
  | os o sz off len =>
    simp only [elemsOf] at h
    have key : ∀ (es0 : List (List I)) (b : Nat) (f : Nat → Value), K.μ o = some b → (∀ e ∈ es0, e.length = sz) →
      (∀ (j : Nat) (x : I), es0.flatten[j]? = some x → K.w.cell? ⟨b, j, none⟩ = some (f j) ∧ VI K.w K.S (f j) x) → off + len ≤ es0.length → es = (es0.drop off).take len → ∃ a cap, v = .slice a es.length cap ∧ ∃ news : List Value, news.length = es.length * (n + 1) ∧ (es = [] ∨ ∃ b off, a = some ⟨b, off, none⟩ ∧ K.w.rangeAt b off news) ∧ (∀ u ∈ news, u.oneCell' = true) ∧
      (∀ (j : Nat) (x : I), es.flatten[j]? = some x → ∃ u, news[j]? = some u ∧ VI K.w K.S u x) := by
      intro es0 b f hμ hu0 hc hle hes
      have hlen : es.length = len := by rw [hes]; simp; omega
      cases hv with
      | os _ _ _ _ b' off' cap q1 q2 q3 q4 q5 =>
        rw [hμ] at q1; cases q1
        rcases q4 with q4 | q4
        · subst q4
          refine some_case b (off * sz) cap (fun j => f (off * sz + j)) (by rw [hlen]) fun j x hx => ?_
          rw [hes, flatten_take (sz := sz) (fun e he => hu0 e (List.mem_of_mem_drop he)), flatten_drop hu0, List.getElem?_take] at hx
          split at hx
          · rw [List.getElem?_drop] at hx
            exact ⟨(hc _ _ hx).1, (hc _ _ hx).2⟩
          · cases hx
        · have h0 : len = 0 := by omega
          subst h0
          exact none_case _ _ rfl (List.eq_nil_of_length_eq_zero hlen)
      | os0 => exact none_case _ _ rfl (List.eq_nil_of_length_eq_zero hlen)
    have none_os : K.μ o = none → len = 0 → es = [] → ∃ a cap, v = .slice a es.length cap ∧ ∃ news : List Value, news.length = es.length * (n + 1) ∧ (es = [] ∨ ∃ b off, a = some ⟨b, off, none⟩ ∧ K.w.rangeAt b off news) ∧ (∀ u ∈ news, u.oneCell' = true) ∧
      (∀ (j : Nat) (x : I), es.flatten[j]? = some x → ∃ u, news[j]? = some u ∧ VI K.w K.S u x) := by
      intro hn h0 hes
      subst h0
      cases hv with
      | os _ _ _ _ b' off' cap q1 q2 q3 q4 q5 => rw [hn] at q1; cases q1
      | os0 => exact none_case _ _ rfl hes
    split at h
    · rename_i sz' es0 ho
      split at h
      · rename_i hc; obtain ⟨rfl, hle⟩ := hc
        simp at h
        obtain ⟨hz, hu0, h3⟩ := hr.get ho
        rcases h3 with ⟨h3, h4⟩ | ⟨b, row, e, h3, h4, h5, h6, h7, h8⟩
        · subst h4; simp at hle; exact none_os h3 hle.2 (by rw [← h]; simp)
        · refine key es0 b (fun j => row.getD j undef) h3 hu0 (fun j x hx => ⟨?_, h6 j x hx⟩) hle h.symm
          have hlt : j < row.size := by have := (List.getElem?_eq_some_iff.1 hx).1; rw [flatten_len hu0] at this; omega
          rw [cell_of_row K.w b j row e _ h4]; simp [Array.getD, hlt]
      · cases h
    · rename_i sz' es0 ho
      split at h
      · rename_i hc; obtain ⟨rfl, hle⟩ := hc
        simp at h
        obtain ⟨hz, hu0, h3⟩ := hr.get ho
        rcases h3 with ⟨h3, h4⟩ | ⟨b, f, h3, h4, h5⟩
        · subst h4; simp at hle; exact none_os h3 hle.2 (by rw [← h]; simp)
        · exact key es0 b f h3 hu0 h5 hle h.symm
      · cases h
    · cases h
  | _ => simp [elemsOf] at h

/-- .. for append. -/
def SrcOk (P : Program) (K : Ctx) (n : Nat) (tx : TypeId) (v : Value) (es : List (List I)) : Prop :=
  ∃ news : List Value, Src P (n + 1) tx v es.length news K.w ∧ (∀ (j : Nat) (x : I), es.flatten[j]? = some x → ∃ u, news[j]? = some u ∧ VI K.w K.S u x)

theorem src_slice (hr : HR w0 T K H) {v : Value} {d : D} {es : List (List I)} (hv : VD K v d) (h : elemsOf H d = some es) {n : Nat} (hu : ∀ x ∈ es, x.length = n + 1) {tx e : TypeId} (ht : undOf P tx = some (.slice e)) : SrcOk P K n tx v es := by
  rw [undOf_eq] at ht
  obtain ⟨a, cap, rfl, news, h1, h2, h3, h4⟩ := elems_src hr hv h hu
  refine ⟨news, ?_, h4⟩
  rcases h2 with rfl | ⟨b, off, rfl, h2⟩
  · have : news = [] := List.eq_nil_of_length_eq_zero (by simpa using h1)
    subst this
    cases a with
    | none => exact Src.ofNil K.w ht cap
    | some a => exact Src.ofSlice K.w ht a 0 cap [] (by simp) (fun j u hu => by simp at hu) (fun u hu => by simp at hu)
  · exact Src.ofSlice K.w ht ⟨b, off, none⟩ es.length cap news h1 (fun j u hu' => by rw [Addr.add_mid]; exact h2 j u hu') h3

theorem src_string {s : ByteArray} {tx : TypeId} (ht : undOf P tx = some .string) : SrcOk P K 0 tx (.string s) (s.data.toList.map byteI) := by
  rw [undOf_eq] at ht
  refine ⟨byteCells s, ?_, fun j x hx => ?_⟩
  · have := Src.ofString (P := P) K.w ht s
    have e : (s.data.toList.map byteI).length = s.size := by simp
    rw [e]; exact this
  · have hfl : (s.data.toList.map byteI).flatten = s.data.toList.map fun b => I.s (.int .u8 (b.toNat : Int)) := by
      induction s.data.toList with
      | nil => rfl
      | cons a t ih => simp [byteI, ih]
    rw [hfl] at hx
    simp only [List.getElem?_map, Option.map_eq_some_iff] at hx
    obtain ⟨b, hb, rfl⟩ := hx
    exact ⟨_, by simp only [byteCells, List.getElem?_map, hb]; rfl, .s _ rfl⟩
end
end Go.Abs
