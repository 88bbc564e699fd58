/- Clash, plain: who shows what is not so has two lists of bytes with one digest. No program here. -/
import Derived.Test.YthbnhbmakapglaaProofT
set_option linter.all false
namespace Go.Proofs.Ythbnhbmakapglaa

theorem ofm' (x : Nat) : (UInt8.ofNat (x % 256)).toNat = x % 256 := by rw [UInt8.toNat_ofNat']; omega
theorem four_inj {a b : Nat} (ha : a < 4294967296) (hb : b < 4294967296) (h : four a = four b) : a = b := by
  simp only [four, byteOf, List.cons.injEq, and_true] at h
  obtain ⟨h1, h2, h3, h4⟩ := h
  have h1 := congrArg UInt8.toNat h1
  have h2 := congrArg UInt8.toNat h2
  have h3 := congrArg UInt8.toNat h3
  have h4 := congrArg UInt8.toNat h4
  simp only [UInt8.toNat_ofNat', Nat.div_one] at h1 h2 h3 h4
  omega
def leafB (k v : List UInt8) : List UInt8 := 0 :: (four k.length ++ (k ++ v))
def nodeB (a b : List UInt8) : List UInt8 := 1 :: (a ++ b)
def topB (n : Nat) (t : List UInt8) : List UInt8 := 2 :: (four n ++ t)
theorem leafB_inj {k v k' v' : List UInt8} (h1 : k.length < 4294967296) (h2 : k'.length < 4294967296) (h : leafB k v = leafB k' v') : k = k' ∧ v = v' := by
  simp only [leafB, List.cons.injEq, true_and] at h
  obtain ⟨a, b⟩ := List.append_inj h rfl
  exact List.append_inj b (four_inj h1 h2 a)
abbrev CR := List UInt8 × List UInt8 × Bool
def lastC (p : ProofD) : List PairD → CR
  | [] => ([], [], false)
  | q :: _ => if leafB q.k q.v = leafB p.k p.v then ([], [], false) else (leafB q.k q.v, leafB p.k p.v, true)
def clashGo (p : ProofD) : List PairD → Nat → List (List UInt8) → CR
  | l, _, [] => lastC p l
  | l, i, d :: r =>
    if 2 ≤ l.length then
      if i < splitF l.length then
        if nodeB (treeF (l.take (splitF l.length))) (treeF (l.drop (splitF l.length))) = nodeB (foldR (leafF p.k p.v) i (splitF l.length) r).1 d then clashGo p (l.take (splitF l.length)) i r
        else (nodeB (treeF (l.take (splitF l.length))) (treeF (l.drop (splitF l.length))), nodeB (foldR (leafF p.k p.v) i (splitF l.length) r).1 d, true)
      else
        if nodeB (treeF (l.take (splitF l.length))) (treeF (l.drop (splitF l.length))) = nodeB d (foldR (leafF p.k p.v) (i - splitF l.length) (l.length - splitF l.length) r).1 then clashGo p (l.drop (splitF l.length)) (i - splitF l.length) r
        else (nodeB (treeF (l.take (splitF l.length))) (treeF (l.drop (splitF l.length))), nodeB d (foldR (leafF p.k p.v) (i - splitF l.length) (l.length - splitF l.length) r).1, true)
    else lastC p l
def clashF (l : List PairD) (p : ProofD) : CR :=
  if (wrongF l).1 = 0 then
    if shownF (rootF l) p then
      if topB l.length (treeF l) = topB p.n.toNat (treeOf p).1 then clashGo p l p.i.toNat p.path.reverse
      else (topB l.length (treeF l), topB p.n.toNat (treeOf p).1, true)
    else ([], [], false)
  else ([], [], false)
/-- What such a result says. -/
def Told (r : CR) (so : Prop) : Prop := (r.2.2 = true → r.1 ≠ r.2.1 ∧ sha r.1 = sha r.2.1) ∧ (r.2.2 = false → so)
theorem foldR_32 {leaf : List UInt8} (hl : leaf.length = 32) : ∀ (r : List (List UInt8)) (i n : Nat), (foldR leaf i n r).2 = true → (foldR leaf i n r).1.length = 32 := by
  intro r
  induction r with
  | nil =>
    intro i n h
    simp only [foldR] at h ⊢
    split
    · exact hl
    · rename_i h1; rw [if_neg h1] at h; cases h
  | cons d r ih =>
    intro i n h
    simp only [foldR] at h ⊢
    split
    · exact hl
    · split <;> exact sha_length _
theorem clashGo_told (p : ProofD) (hpk : p.k.length ≤ 60) : ∀ (rev : List (List UInt8)) (l : List PairD) (i : Nat) (hi : i < l.length), (∀ q ∈ l, q.k.length ≤ 60) → (∀ d ∈ rev, d.length = 32) → l.length < 4294967296 →
    foldR (leafF p.k p.v) i l.length rev = (treeF l, true) → Told (clashGo p l i rev) (l[i].k = p.k ∧ l[i].v = p.v) := by
  have last : ∀ (q : PairD), q.k.length ≤ 60 → leafF p.k p.v = leafF q.k q.v → Told (lastC p [q]) (q.k = p.k ∧ q.v = p.v) := by
    intro q hq h
    simp only [lastC]
    by_cases he : leafB q.k q.v = leafB p.k p.v
    · rw [if_pos he]; exact ⟨fun h => (by cases h), fun _ => leafB_inj (by omega) (by omega) he⟩
    · rw [if_neg he]; exact ⟨fun _ => ⟨he, h.symm⟩, fun h => by cases h⟩
  intro rev
  induction rev with
  | nil =>
    intro l i hi hk _ _ hf
    simp only [foldR] at hf
    by_cases h1 : l.length = 1
    · obtain ⟨q, rfl⟩ := List.length_eq_one_iff.1 h1
      have : i = 0 := by simpa using hi
      subst this
      rw [if_pos h1, treeF_one] at hf
      exact last q (hk q (by simp)) (by simpa using hf)
    · rw [if_neg h1] at hf; simp at hf
  | cons d r ih =>
    intro l i hi hk hd hl hf
    simp only [foldR] at hf
    by_cases h1 : l.length = 1
    · rw [if_pos h1] at hf; simp at hf
    · rw [if_neg h1] at hf
      have h2 : 2 ≤ l.length := by omega
      have hs := splitF_lt h2
      have n1 : l.take (splitF l.length) ≠ [] := by intro hc; have := congrArg List.length hc; simp only [List.length_take, List.length_drop, List.length_nil] at this; omega
      have n2 : l.drop (splitF l.length) ≠ [] := by intro hc; have := congrArg List.length hc; simp only [List.length_take, List.length_drop, List.length_nil] at this; omega
      have l1 := treeF_len _ n1
      have l2 := treeF_len _ n2
      have hd0 := hd d (by simp)
      have hk1 : (l.take (splitF l.length)).length = splitF l.length := by simp; omega
      have hk2 : (l.drop (splitF l.length)).length = l.length - splitF l.length := by simp
      simp only [clashGo, if_pos h2]
      rw [treeF_two h2] at hf
      by_cases hc : i < splitF l.length
      · rw [if_pos hc] at hf ⊢
        simp only [Prod.mk.injEq] at hf
        obtain ⟨f1, f2⟩ := hf
        have ft := foldR_32 (sha_length _) r i (splitF l.length) f2
        split
        · rename_i he
          simp only [nodeB, List.cons.injEq, true_and] at he
          obtain ⟨a, b⟩ := List.append_inj he (l1.trans ft.symm)
          have hih := ih (l.take (splitF l.length)) i (by omega) (fun q hq => hk q (List.mem_of_mem_take hq)) (fun x hx => hd x (by simp [hx])) (by omega) (by rw [hk1]; exact Prod.ext a.symm f2)
          have e : (l.take (splitF l.length))[i]'(by omega) = l[i] := by simp
          rw [e] at hih
          exact hih
        · rename_i he
          exact ⟨fun _ => ⟨he, f1.symm⟩, fun h => by cases h⟩
      · rw [if_neg hc] at hf ⊢
        simp only [Prod.mk.injEq] at hf
        obtain ⟨f1, f2⟩ := hf
        have ft := foldR_32 (sha_length _) r (i - splitF l.length) (l.length - splitF l.length) f2
        split
        · rename_i he
          simp only [nodeB, List.cons.injEq, true_and] at he
          obtain ⟨a, b⟩ := List.append_inj he (l1.trans hd0.symm)
          have hih := ih (l.drop (splitF l.length)) (i - splitF l.length) (by omega) (fun q hq => hk q (List.mem_of_mem_drop hq)) (fun x hx => hd x (by simp [hx])) (by omega) (by rw [hk2]; exact Prod.ext b.symm f2)
          have e : (l.drop (splitF l.length))[i - splitF l.length]'(by omega) = l[i] := by rw [List.getElem_drop]; congr 1; omega
          rw [e] at hih
          exact hih
        · rename_i he
          exact ⟨fun _ => ⟨he, f1.symm⟩, fun h => by cases h⟩
theorem top_same {l : List PairD} {p : ProofD} (hl : l.length < 4294967296) (hp : p.n.toNat < 4294967296) (h : topB l.length (treeF l) = topB p.n.toNat (treeOf p).1) : l.length = p.n.toNat ∧ treeF l = (treeOf p).1 := by
  simp only [topB, List.cons.injEq, true_and] at h
  obtain ⟨a, b⟩ := List.append_inj h rfl
  exact ⟨four_inj hl hp a, b⟩
theorem shownF_all {r : List UInt8} {p : ProofD} (h : shownF r p = true) : formF p = true ∧ (treeOf p).2 = true ∧ topF p.n.toNat (treeOf p).1 = r := by
  unfold shownF at h; simp only [Bool.and_eq_true, decide_eq_true_eq] at h; exact ⟨h.1.1, h.1.2, h.2⟩
/-- WHO SHOWS WHAT IS NOT SO. -/
theorem clash_told {l : List PairD} {p : ProofD} (hr : Right l) (h : shownF (rootF l) p = true) :
    Told (clashF l p) (p.n = l.length ∧ ∃ hi : p.i.toNat < l.length, l[p.i.toNat].k = p.k ∧ l[p.i.toNat].v = p.v) := by
  obtain ⟨hf, ht, htop⟩ := shownF_all h
  obtain ⟨a1, a2, a3, a4, a5, a6, a7, a8⟩ := formF_yes hf
  have hll := hr.len
  unfold clashF
  rw [if_pos (by rw [wrong_right hr]), if_pos h]
  split
  · rename_i he
    obtain ⟨b1, b2⟩ := top_same (by omega) (by omega) he
    have hi : p.i.toNat < l.length := by omega
    have hg := clashGo_told p (by omega) p.path.reverse l p.i.toNat hi (fun q hq => (hr.big q hq).1) (fun d hd => a8 d (by simpa using hd)) (by omega) (by
      rw [b1]; unfold treeOf at b2 ht; exact Prod.ext b2.symm ht)
    exact ⟨hg.1, fun h => ⟨by omega, hi, hg.2 h⟩⟩
  · rename_i he
    exact ⟨fun _ => ⟨he, htop.symm⟩, fun h => by cases h⟩
theorem clash_not {l : List PairD} {p : ProofD} (h : ¬ ((wrongF l).1 = 0 ∧ shownF (rootF l) p = true)) : clashF l p = ([], [], false) := by
  unfold clashF
  split
  · split
    · exact absurd ⟨‹_›, ‹_›⟩ h
    · rfl
  · rfl
end Go.Proofs.Ythbnhbmakapglaa
