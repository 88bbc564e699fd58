/- The digest's contracts, by value. -/
import Derived.Test.YtmclpbcipkdmcaaDoorShaP
import Derived.Test.YtmclpbcipkdmcaaDoorTy
set_option linter.all false
namespace Go.Proofs.YtmclpbcipkdmcaaDoor
open Go Go.Abs Go.RowKit

theorem flat_byteI (b : List UInt8) : (b.map byteI).flatten = b.map fun c => I.s (.int .u8 (c.toNat : Int)) := by
  induction b with
  | nil => rfl
  | cons a t ih => simp only [List.map_cons, List.flatten_cons, ih, byteI]; rfl
theorem byteI_len : ∀ (b : List UInt8), ∀ e ∈ b.map byteI, e.length = 1 := by
  intro b e he; obtain ⟨c, _, rfl⟩ := List.mem_map.1 he; rfl

theorem vi_s {w : World} {S : Nat → Prop} {v u : Value} (h : VI w S v (.s u)) : v = u := by cases h; rfl
theorem isB_of {w : World} {S : Nat → Prop} (hS : ∀ b, S b → b < w.heap.size) {v : Value} {b : List UInt8} (h : VI w S v (bI b)) (hb : b.length ≤ maxLen) : IsB w.heap.size w v b := by
  unfold bI at h
  generalize he : b.map byteI = es at h
  cases h with
  | e a cap =>
    have : b = [] := List.map_eq_nil_iff.1 he
    subst this
    exact .inl ⟨a, cap, rfl, rfl⟩
  | sl blk off cap sz es f h1 h2 h3 h4 h5 h6 =>
    subst he
    refine .inr ⟨blk, off, _, cap, rfl, hS blk h1, h2, by simpa using hb, by simp [bcs], fun j u hu => ?_⟩
    rw [flat_byteI] at h5 h6
    simp only [bcs, List.getElem?_map, Option.map_eq_some_iff] at hu
    obtain ⟨c, hc, rfl⟩ := hu
    have hx : (b.map fun c => I.s (.int .u8 (c.toNat : Int)))[j]? = some (.s (.int .u8 (c.toNat : Int))) := by simp [hc]
    have hv := vi_s (h6 j _ hx)
    rw [h5 j _ hx, hv]; rfl

def bbI (ls : List (List UInt8)) : I := .sl (ls.map fun b => [bI b])
theorem isBB_of {w : World} {S : Nat → Prop} (hS : ∀ b, S b → b < w.heap.size) {v : Value} {ls : List (List UInt8)} (h : VI w S v (bbI ls)) (hb : ls.length ≤ maxLen) (hb2 : ∀ b ∈ ls, b.length ≤ maxLen) : IsBB w.heap.size w v ls := by
  unfold bbI at h
  generalize he : (ls.map fun b => [bI b]) = es at h
  cases h with
  | e a cap =>
    have : ls = [] := List.map_eq_nil_iff.1 he
    subst this
    exact ⟨[], .inl ⟨a, cap, rfl, rfl⟩, rfl, fun k hk => by simp at hk⟩
  | sl blk off cap sz es f h1 h2 h3 h4 h5 h6 =>
    subst he
    have hfl : ∀ k, k < ls.length → (ls.map fun b => [bI b]).flatten[k]? = some (bI (ls.getD k [])) := by
      intro k hk
      have h0 : ∀ e ∈ ls.map (fun b => [bI b]), e.length = 1 := by
        intro e he; obtain ⟨c, _, rfl⟩ := List.mem_map.1 he; rfl
      have := flatten_get h0 (i := k) (c := 0) (e := [bI (ls.getD k [])]) (x := bI (ls.getD k [])) (by simp [hk, List.getD_eq_getElem?_getD]) (by simp)
      simpa using this
    refine ⟨(List.range ls.length).map f, .inr ⟨blk, off, _, cap, rfl, hS blk h1, h2, by simpa using hb, by simp, fun j u hu => ?_⟩, by simp, fun k hk => ?_⟩
    · have hj : j < ls.length := by have := (List.getElem?_eq_some_iff.1 hu).1; simpa using this
      simp [hj] at hu
      subst hu
      exact h5 j _ (hfl j hj)
    · have hv := h6 k _ (hfl k hk)
      have e : ((List.range ls.length).map f).getD k undef = f k := by simp [List.getD_eq_getElem?_getD, hk]
      rw [e]
      refine isB_of hS hv (hb2 _ ?_)
      simp [List.getD_eq_getElem?_getD, hk]

/-- New bytes come back. -/
theorem retB_D {K0 : Ctx} {T : Nat → Prop} {K : Ctx} (hr : HR K0 T K noH) {f : FuncId} {vs : Array Value} {bs : List UInt8} (h : Calls Tryd.prog f vs K.w (RetB K.w.heap.size bs K.w)) :
    Calls Tryd.prog f vs K.w fun e w' => ∃ v K', e = .returned v ∧ K'.w = w' ∧ Ext K K' ∧ HR K0 T K' noH ∧ VD K' v (.i (bI bs)) := by
  refine h.mono ?_
  rintro e w' ⟨v, rfl, ho, hb⟩
  have hμ : ∀ o, K.μ o = none := fun o => hr.get (o := o) (x := .fresh) rfl
  refine ⟨v, ⟨w', fun b => K.S b ∨ (K.w.heap.size ≤ b ∧ b < w'.heap.size), K.μ⟩, rfl, rfl, ⟨fun b hb => .inl hb, fun b hb' j => World.cell?_of_block (w := K.w) (hb.block b (hr.sB b hb')), fun _ _ h => h, fun o b h => (by rw [hμ] at h; cases h)⟩, ?_, ?_⟩
  · refine ⟨hr.g0, hb.os.trans hr.os, hb.tape.trans hr.tape, hb.output.trans hr.output, Nat.le_trans hr.size hb.size, fun k hk hT => (hb.block k (Nat.lt_of_lt_of_le hk hr.size)).trans (hr.block k hk hT), fun b hb' => ?_, fun b hb' => ?_, fun o b h => (by rw [hμ] at h; cases h), fun o => hμ o, fun o o' b h => (by exact h.elim)⟩
    · rcases hb' with h | h
      · exact Nat.lt_of_lt_of_le (hr.sB b h) hb.size
      · exact h.2
    · rcases hb' with h | h
      · exact hr.sN b h
      · exact .inr (.inl (Nat.le_trans hr.size h.1))
  · refine .i ?_
    unfold bI
    rcases ho with ⟨rfl, h0⟩ | ⟨g, off, n, cap, rfl, h1, h2, h3, h4, h5, h6, h7⟩
    · have : bs = [] := by cases bs <;> simp_all [bcs]
      subst this
      exact .e _ _
    · have hn : n = (bs.map byteI).length := by simp [bcs] at h5; simp; omega
      subst hn
      refine .sl g off cap 1 _ (fun j => bcell (bs.getD j 0)) (.inr ⟨h1, h2⟩) h3 (by decide) (byteI_len bs) (fun j x hx => ?_) (fun j x hx => ?_)
      · rw [flat_byteI] at hx
        simp only [List.getElem?_map, Option.map_eq_some_iff] at hx
        obtain ⟨c, hc, rfl⟩ := hx
        exact h6 j _ (by simp [bcs, hc, List.getD_eq_getElem?_getD])
      · rw [flat_byteI] at hx
        simp only [List.getElem?_map, Option.map_eq_some_iff] at hx
        obtain ⟨c, hc, rfl⟩ := hx
        simp only [List.getD_eq_getElem?_getD, hc, Option.getD_some, bcell]
        exact .s _ rfl

theorem sum_D (b : List UInt8) (hb : b.length ≤ 140737488355264) : PureD Tryd.prog 85 [.i (bI b)] (.i (bI (sha b))) := by
  refine ⟨⟨_, Tryd.func85, rfl, rfl⟩, fun K0 T K vs hr hrd => ?_⟩
  obtain ⟨v, rfl⟩ : ∃ v, vs = #[v] := Array.size_eq_one_iff.1 hrd.1
  have hv : VD K v (.i (bI b)) := hrd.2 0 _ rfl
  exact retB_D hr (sum_any _ v b K.w (isB_of hr.sB hv.inv_i (by simp [maxLen]; omega)) (Nat.le_refl _) hb)

theorem parts_D (ls : List (List UInt8)) (hl : ls.length ≤ 140737488355264) (hb : ∀ b ∈ ls, b.length ≤ 140737488355264) : PureD Tryd.prog 115 [.i (bbI ls)] (.i (bI (sha ls.flatten))) := by
  refine ⟨⟨_, Tryd.func115, rfl, rfl⟩, fun K0 T K vs hr hrd => ?_⟩
  obtain ⟨v, rfl⟩ : ∃ v, vs = #[v] := Array.size_eq_one_iff.1 hrd.1
  have hv : VD K v (.i (bbI ls)) := hrd.2 0 _ rfl
  refine retB_D hr (parts_any _ v ls K.w (isBB_of hr.sB hv.inv_i (by simp [maxLen]; omega) (fun b h => by have := hb b h; simp [maxLen]; omega)) (Nat.le_refl _) (fun k hk => hb _ ?_))
  simp [List.getD_eq_getElem?_getD, hk]
end Go.Proofs.YtmclpbcipkdmcaaDoor
