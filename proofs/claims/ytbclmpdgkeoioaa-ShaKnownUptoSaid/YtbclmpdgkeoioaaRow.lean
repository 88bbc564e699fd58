/- From a law's walk to its row: how the arguments read, and that they read so behind the call. -/
import Derived.Test.YtbclmpdgkeoioaaShaP
import Derived.Test.YtbclmpdgkeoioaaRows
import Derived.ProofKit
import Derived.OpenShut
import Derived.ShutString
import Derived.ChangeOld
import Derived.Carry
import Derived.Deep.Slices
import Derived.JoinedCond
namespace Go.Proofs.Ytbclmpdgkeoioaa
open Go.ChangeShapes Go.WideShapes Go.ChangeAt Go.RowKit Go.Deep

theorem own : ownKnob Try.prog.godebug = none := by kernel_rfl
theorem laidOut : laidOutB Try.prog = true := by kernel_rfl

section
variable {H : Type} {enc : TypeId × Value → H} {W W' : World}

theorem trodAll_below : ∀ {ts : List TypeId} {vs : List Value} {ds : List (DataW H)} {ps : List MemPlace}, DataW.TrodAll enc Try.prog W 0 (fun _ => true) true ts vs ds ps → Below W.heap.size W W' →
    (∀ t ∈ ts, Try.prog.readableRec t = true ∧ t < Try.prog.types.size) → DataW.TrodAll enc Try.prog W' 0 (fun b => decide (b < W.heap.size)) true ts vs ds ps
  | [], vs, ds, ps, h, _, _ => by
    cases vs <;> cases ds <;> simp [DataW.TrodAll] at h ⊢
    exact h
  | t :: ts, vs, ds, ps, h, hb, hr => by
    obtain ⟨v, vs', d, ds', p, q, rfl, rfl, rfl, h0, h1⟩ := trodAll_cons h
    have lt0 : ∀ x ∈ p, x.block < W.heap.size := by obtain ⟨m, hm⟩ := h0; exact DataW.trod_lt m _ _ _ hm
    exact trodAll_cons_mk (Below.trod laidOut (hr t (by simp)).1 (hr t (by simp)).2 h0 hb lt0) (trodAll_below h1 hb (fun t ht => hr t (by simp [ht])))

theorem bulk_pos (d : DataW H) : 1 ≤ Rows.uptoBulk d := by
  cases d with
  | lit l => cases l <;> simp [Rows.uptoBulk]
  | nil => simp [Rows.uptoBulk]
  | ptr d => simp [Rows.uptoBulk]
  | slice elems spare => simp [Rows.uptoBulk]
  | agg parts => simp [Rows.uptoBulk]
  | iface t d => simp [Rows.uptoBulk]
  | map entries => simp [Rows.uptoBulk]
  | held h => simp [Rows.uptoBulk]
theorem bulk_len (l : List (DataW H)) : l.length ≤ Rows.uptoBulkAll l := by
  induction l with
  | nil => simp [Rows.uptoBulkAll]
  | cons x r ih => have := bulk_pos x; simp only [Rows.uptoBulkAll, List.length_cons]; omega

theorem trod_B {fuel : Nat} {cs : List Value} {x : DataW H × List MemPlace} (h : DataW.trod enc Try.prog W 0 (fun _ => true) true fuel 24 cs = some x) :
    ∃ v l, cs = [v] ∧ IsB W.heap.size W v l ∧ l.length + 1 ≤ Rows.uptoBulk x.1 ∧ ∃ a n c, v = .slice a n c ∧ l.length = n ∧ n ≤ c ∧ c ≤ maxLen := by
  rcases open_ints (k := .u8) (e := 5) rfl rfl (by kernel_rfl) h with ⟨rfl, rfl⟩ | ⟨a, len, cap, zs, rfl, _, hl, hm, hz, rfl, hcell, hwf⟩
  · exact ⟨_, [], rfl, IsB.nil _ _, by simp [Rows.uptoBulk], _, _, _, rfl, rfl, Nat.le_refl _, by simp [maxLen]⟩
  · simp only [if_true] at hz
    have hbulk : len + 1 ≤ Rows.uptoBulk (H := H) (.slice (lits .u8 (zs.take len)) (lits .u8 (zs.drop len))) := by
      have h1 := bulk_len (H := H) (lits .u8 (zs.take len))
      have h2 : (lits (H := H) .u8 (zs.take len)).length = len := by simp [lits]; omega
      simp only [Rows.uptoBulk]; omega
    refine ⟨_, (zs.take len).map (fun z => UInt8.ofNat z.toNat), rfl, ?_, by simpa [List.length_take, Nat.min_eq_left (show len ≤ zs.length by omega)] using hbulk, _, _, _, rfl, by simp; omega, hl, hm⟩
    by_cases h0 : len = 0
    · subst h0
      exact .inl ⟨_, _, rfl, by simp [bcs]⟩
    · obtain ⟨b, off, spot⟩ := a
      have hc := hcell 0 (by omega)
      have hspot : spot = none := by simpa [Addr.add] using World.cell?_spot hc
      subst hspot
      have hlt := World.block_lt_of_cell? _ _ hc
      refine IsB.mk (by simpa [Addr.add] using hlt) (by simp; omega) hl hm (fun j u hu => ?_)
      have hj : j < len := by
        have := (List.getElem?_eq_some_iff.1 hu).1
        simp [bcs] at this; omega
      have := hcell j (by omega)
      rw [Addr.add_mid] at this
      rw [this, ← hu]
      have hjz : j < zs.length := by omega
      have hw := hwf _ (List.getElem_mem hjz)
      simp [Lit.wf, IntKind.min, IntKind.max, IntKind.signed, IntKind.bits] at hw
      simp [bcs, bcell, hj, hjz, List.getElem?_take, List.getD_eq_getElem?_getD]
      omega
theorem open_B {v : Value} {d : DataW H} {p : List MemPlace} (h : DataW.Trod enc Try.prog W 0 (fun _ => true) true 24 v d p) (hv : ∃ a n c, v = .slice a n c) :
    ∃ l, IsB W.heap.size W v l ∧ l.length + 1 ≤ Rows.uptoBulk d := by
  obtain ⟨a, n, c, rfl⟩ := hv
  obtain ⟨fuel, hf⟩ := h
  obtain ⟨v, l, hc, hb, hk, _⟩ := trod_B hf
  simp [Value.cells] at hc
  subst hc
  exact ⟨l, hb, hk⟩
def sumLen (ls : List (List UInt8)) : Nat := ls.flatten.length + ls.length
theorem open_BB {v : Value} {d : DataW H} {p : List MemPlace} (h : DataW.Trod enc Try.prog W 0 (fun _ => true) true 22 v d p) (hv : ∃ a n c, v = .slice a n c) :
    ∃ ls, IsBB W.heap.size W v ls ∧ sumLen ls ≤ Rows.uptoBulk d := by
  obtain ⟨a, n, c, rfl⟩ := hv
  obtain ⟨fuel, hf⟩ := h
  rcases open_slice1 (e := 24) rfl (by kernel_rfl) hf with ⟨hc, hx⟩ | ⟨a', len, cap, m, n', V, D, Pl, hc, _, hl, hm, hmm, hx, hcell⟩
  · simp [Value.cells] at hc
    obtain ⟨rfl, rfl, rfl⟩ := hc
    exact ⟨[], ⟨[], IsS.nil _ _ _, rfl, fun k hk => by simp at hk⟩, by simp [sumLen]⟩
  · simp [Value.cells] at hc
    obtain ⟨rfl, rfl, rfl⟩ := hc
    simp only [if_true] at hmm
    subst hmm
    have hel : ∀ i, i < m → ∃ l, IsB W.heap.size W (V i) l ∧ l.length + 1 ≤ Rows.uptoBulk (D i) := fun i hi => by
      obtain ⟨v, l, hc, hb, hk, _⟩ := trod_B (hcell i hi).2
      simp at hc
      rw [hc]
      exact ⟨l, hb, hk⟩
    obtain ⟨Lf, hL⟩ := choose_lt (α := List UInt8) (p := fun i l => IsB W.heap.size W (V i) l ∧ l.length + 1 ≤ Rows.uptoBulk (D i)) hel
    have hd : d = .slice ((List.range n).map D) ((List.range (m - n)).map fun j => D (n + j)) := by have := congrArg Prod.fst hx; exact this
    refine ⟨(List.range n).map Lf, ⟨(List.range n).map V, ?_, by simp, fun k hk => ?_⟩, ?_⟩
    · by_cases h0 : n = 0
      · subst h0; exact .inl ⟨_, _, rfl, rfl⟩
      · obtain ⟨b, off, spot⟩ := a'
        have hc := (hcell 0 (by omega)).1
        have hspot : spot = none := by simpa [Addr.add] using World.cell?_spot hc
        subst hspot
        have hlt := World.block_lt_of_cell? _ _ hc
        refine .inr ⟨b, off, n, m, rfl, by simpa [Addr.add] using hlt, hl, hm, by simp, fun j u hu => ?_⟩
        have hj : j < n := by have := (List.getElem?_eq_some_iff.1 hu).1; simpa using this
        have := (hcell j (by omega)).1
        rw [Addr.add_mid] at this
        rw [this, ← hu]
        simp [hj]
    · have hk' : k < n := by simpa using hk
      have := (hL k (by omega)).1
      simpa [List.getD_eq_getElem?_getD, hk'] using this
    · rw [hd]
      have key : ∀ j, j ≤ n → sumLen ((List.range j).map Lf) ≤ Rows.uptoBulkAll ((List.range j).map D) := by
        intro j
        induction j with
        | zero => intro _; simp [sumLen, Rows.uptoBulkAll]
        | succ j ih =>
          intro hj
          have h1 := ih (by omega)
          have h2 := (hL j (by omega)).2
          have happ : ∀ (l r : List (DataW H)), Rows.uptoBulkAll (l ++ r) = Rows.uptoBulkAll l + Rows.uptoBulkAll r := by
            intro l r
            induction l with
            | nil => simp [Rows.uptoBulkAll]
            | cons x l ih => simp only [List.cons_append, Rows.uptoBulkAll, ih]; omega
          rw [List.range_succ, List.map_append, List.map_append, happ]
          simp only [sumLen, List.map_cons, List.map_nil, List.flatten_append, List.length_append, List.flatten_cons, List.flatten_nil, List.length_cons, List.length_nil, Rows.uptoBulkAll] at *
          omega
      have := key n (Nat.le_refl _)
      simp only [Rows.uptoBulk]
      omega
end
end Go.Proofs.Ytbclmpdgkeoioaa
