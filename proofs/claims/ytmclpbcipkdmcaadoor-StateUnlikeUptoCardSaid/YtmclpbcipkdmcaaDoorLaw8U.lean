/- The law StateUnlike: lists that are told apart. -/
import Derived.Test.YtmclpbcipkdmcaaDoorGWk
import Derived.Test.YtmclpbcipkdmcaaDoorGBook
import Derived.Test.YtmclpbcipkdmcaaDoorGSt
import Derived.Test.YtmclpbcipkdmcaaDoorGProof
set_option linter.all false
namespace Go.Proofs.YtmclpbcipkdmcaaDoor
open Go Go.Abs Go.RowKit Go.Proofs.YtmclpbcipkdmcaaDoor.Ty

instance : DecidableEq PairD := fun a b => decidable_of_iff (a.k = b.k ∧ a.v = b.v) (by cases a; cases b; simp)
instance : DecidableEq MarkD := fun a b => decidable_of_iff (a.ch = b.ch ∧ a.seq = b.seq ∧ a.dg = b.dg) (by cases a; cases b; simp)
instance : DecidableEq ConnD := fun a b => decidable_of_iff (a.st = b.st ∧ a.cl = b.cl ∧ a.oc = b.oc ∧ a.on = b.on) (by cases a; cases b; simp)
instance : DecidableEq ChanD := fun a b => decidable_of_iff (a.st = b.st ∧ a.ord = b.ord ∧ a.cn = b.cn ∧ a.oc = b.oc ∧ a.snd = b.snd ∧ a.rcv = b.rcv ∧ a.ack = b.ack) (by cases a; cases b; simp)
theorem take_more {α : Type} {l m : List α} {i : Nat} (h : i < l.length) (h' : i < m.length) (ht : l.take i = m.take i) (he : l[i] = m[i]) : l.take (i + 1) = m.take (i + 1) := by
  rw [List.take_succ_eq_append_getElem h, List.take_succ_eq_append_getElem h', ht, he]
theorem take_all {α : Type} {l m : List α} {i : Nat} (h : ¬ i < l.length) (hl : l.length = m.length) (ht : l.take i = m.take i) : l = m := by
  rw [List.take_of_length_le (by omega), List.take_of_length_le (by omega)] at ht; exact ht
theorem at_ne {α : Type} {l m : List α} {i : Nat} (h : i < l.length) (h' : i < m.length) (he : ¬ l[i] = m[i]) : ¬ l = m := fun e => he (by subst e; rfl)
attribute [simp, go_sem] encPr
set_option maxHeartbeats 16000000
set_option maxRecDepth 20000
theorem rsamePr_A (l m : List PairD) (hl : l.length ≤ 1048576) (hb : ∀ p ∈ l, p.k.length ≤ 1048576 ∧ p.v.length ≤ 1048576) : PureD Tryd.prog 33 [.i (.sl (l.map encPr)), .i (.sl (m.map encPr))] (boolD (decide (l = m))) := by
  refine hide_r fun R hR => ?_
  by_cases hlen : l.length = m.length
  · refine callD_W 43 Tryd.func33 rfl rfl rfl (fun _ _ => rfl) ?_
    refine wkl ?_
    clear hR; intro hR
    intros
    refine W_loopR (ι := Nat) (fun i => i ≤ l.length ∧ l.take i = m.take i) (fun i => stOf [(0, .i (.sl (l.map encPr))), (1, .i (.sl (m.map encPr))), (12, intD l.length), (13, intD i)] []) (fun i => l.length - i) 0 ⟨Nat.zero_le _, rfl⟩ ?_ ?_
    · exact le_ok [] []
    · rintro i ⟨hi, ht⟩ RL hL
      rw [stOf_eq]
      by_cases h : i < l.length
      · have h' : i < m.length := by omega
        have s0 := get_lt (f := encPr) h
        have s1 := get_lt (f := encPr) h'
        obtain ⟨n1, n2⟩ := hb _ (List.getElem_mem h)
        have c1 := same_A l[i].k m[i].k (by omega)
        have c2 := same_A l[i].v m[i].v (by omega)
        have b1 := fun e σ' => bk [] [] (hL (i + 1) σ' ⟨h, take_more h h' ht e⟩)
        have hne := at_ne h h'
        clear hL hb n1 n2
        generalize l[i] = x at *
        generalize m[i] = y at *
        by_cases e1 : x.k = y.k
        · by_cases e2 : x.v = y.v
          · have e : x = y := by cases x; cases y; simp only [PairD.mk.injEq]; exact ⟨e1, e2⟩
            have b1 := b1 e
            rw [decide_eq_true e1] at c1
            rw [decide_eq_true e2] at c2
            clear e1 e2 e hne
            exact wkl trivial
          · rw [decide_eq_false (hne fun e => e2 (by rw [e]))] at hR
            rw [decide_eq_true e1] at c1
            rw [decide_eq_false e2] at c2
            clear e1 e2 b1 hne
            exact wkl trivial
        · rw [decide_eq_false (hne fun e => e1 (by rw [e]))] at hR
          rw [decide_eq_false e1] at c1
          clear e1 b1 hne c2
          exact wkl trivial
      · rw [decide_eq_true (take_all h hlen ht)] at hR
        clear hL hb ht
        exact wkl trivial
  · rw [decide_eq_false (fun e => hlen (by rw [e]))] at hR
    clear hb
    refine callD_W 43 Tryd.func33 rfl rfl rfl (fun _ _ => rfl) ?_
    exact wkl trivial
theorem rsameMg_A (l m : List MarkD) (hl : l.length ≤ 1048576) (hb : ∀ p ∈ l, p.dg.length ≤ 1048576) : PureD Tryd.prog 55 [.i (.sl (l.map encM)), .i (.sl (m.map encM))] (boolD (decide (l = m))) := by
  refine hide_r fun R hR => ?_
  by_cases hlen : l.length = m.length
  · refine callD_W 55 Tryd.func55 rfl rfl rfl (fun _ _ => rfl) ?_
    refine wkl ?_
    clear hR; intro hR
    intros
    refine W_loopR (ι := Nat) (fun i => i ≤ l.length ∧ l.take i = m.take i) (fun i => stOf [(0, .i (.sl (l.map encM))), (1, .i (.sl (m.map encM))), (12, intD l.length), (13, intD i)] []) (fun i => l.length - i) 0 ⟨Nat.zero_le _, rfl⟩ ?_ ?_
    · exact le_ok [] []
    · rintro i ⟨hi, ht⟩ RL hL
      rw [stOf_eq]
      by_cases h : i < l.length
      · have h' : i < m.length := by omega
        have s0 := get_lt (f := encM) h
        have s1 := get_lt (f := encM) h'
        have n1 := hb _ (List.getElem_mem h)
        have c1 := same_A l[i].dg m[i].dg (by omega)
        have b1 := fun e σ' => bk [] [] (hL (i + 1) σ' ⟨h, take_more h h' ht e⟩)
        have hne := at_ne h h'
        clear hL hb n1
        generalize l[i] = x at *
        generalize m[i] = y at *
        by_cases e0 : x.ch = y.ch ∧ x.seq = y.seq
        · obtain ⟨e3, e4⟩ := e0
          by_cases e1 : x.dg = y.dg
          · have e : x = y := by cases x; cases y; simp only [MarkD.mk.injEq]; exact ⟨e3, e4, e1⟩
            have b1 := b1 e
            rw [decide_eq_true e1] at c1
            clear e1 e hne
            exact wkl trivial
          · rw [decide_eq_false (hne fun e => e1 (by rw [e]))] at hR
            rw [decide_eq_false e1] at c1
            clear e1 b1 hne
            exact wkl trivial
        · rw [decide_eq_false (hne fun e => e0 (by rw [e]; exact ⟨rfl, rfl⟩))] at hR
          generalize decide (x.dg = y.dg) = q at *
          clear b1 hne
          exact wkl trivial
      · rw [decide_eq_true (take_all h hlen ht)] at hR
        clear hL hb ht
        exact wkl trivial
  · rw [decide_eq_false (fun e => hlen (by rw [e]))] at hR
    clear hb
    refine callD_W 55 Tryd.func55 rfl rfl rfl (fun _ _ => rfl) ?_
    exact wkl trivial
end Go.Proofs.YtmclpbcipkdmcaaDoor
