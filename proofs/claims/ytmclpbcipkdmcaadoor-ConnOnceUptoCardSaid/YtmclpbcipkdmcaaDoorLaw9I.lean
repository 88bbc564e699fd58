/- The law ConnOnce: the walk, where conn.Try did not and conn.Init went. -/
import Derived.Test.YtmclpbcipkdmcaaDoorLaw9P
set_option linter.all false
namespace Go.Proofs.YtmclpbcipkdmcaaDoor
open Go Go.Abs Go.RowKit Go.Proofs.YtmclpbcipkdmcaaDoor.Ty

set_option maxHeartbeats 32000000
set_option maxRecDepth 20000
theorem once93_A (s : StateD) (hs : StSm s) (pos cl other oc : Int) (w : ShownD) (a : ¬ (tryCn s cl other oc w).2.2 = 0) (b : (initCn s cl other).2.2 = 0) : PureD Tryd.prog 3 [stateD s, intD pos, intD cl, intD other, intD oc, shD w] (boolD true) := by
  refine hide_r fun R hR => ?_
  have c1 := alive9_A
  have c2 := trycn_A s hs cl other oc w
  have c3 := initcn_A s hs cl other
  have c4 := ackcn_A s hs pos oc w
  have c5 := confcn_A s hs pos w
  have hT : (tryCn s cl other oc w).2.2 = 0 → (tryCn s cl other oc w).2.1 = s.cns.length := fun h => (tryCn_zero h pos).2.1
  have hI : (initCn s cl other).2.2 = 0 → (initCn s cl other).2.1 = s.cns.length := fun h => (initCn_zero h pos).2
  have hL : ∀ t ∈ optL (tryCn s cl other oc w).2.2 (tryCn s cl other oc w).1 ++ (optL (initCn s cl other).2.2 (initCn s cl other).1 ++ (optL (ackCn s pos oc w).2 (ackCn s pos oc w).1 ++ optL (confCn s pos w).2 (confCn s pos w).1)), CnStep s pos t := by
    intro t ht
    simp only [List.mem_append] at ht
    rcases ht with ht | ht | ht | ht
    · obtain ⟨h, rfl⟩ := optL_mem ht; exact (tryCn_zero h pos).1
    · obtain ⟨h, rfl⟩ := optL_mem ht; exact (initCn_zero h pos).1
    · obtain ⟨h, rfl⟩ := optL_mem ht; exact (ackCn_zero h).1
    · obtain ⟨h, rfl⟩ := optL_mem ht; exact (confCn_zero h).1
  generalize tryCn s cl other oc w = A at *
  generalize initCn s cl other = B at *
  generalize ackCn s pos oc w = C at *
  generalize confCn s pos w = E at *
  obtain ⟨A1, A2, A3⟩ := A
  obtain ⟨B1, B2, B3⟩ := B
  obtain ⟨C1, C2⟩ := C
  obtain ⟨E1, E2⟩ := E
  simp only at *
  generalize hLe : optL A3 A1 ++ (optL B3 B1 ++ (optL C2 C1 ++ optL E2 E1)) = L at hL
  have hLm := congrArg (List.map encSt) hLe.symm
  have hLl := congrArg List.length hLe.symm
  clear hLe
  unfold optL at hLm hLl
  have hlen := hs.cns
  by_cases c : C2 = 0 <;> by_cases e : E2 = 0 <;>
    simp only [a, b, c, e, if_true, if_false, List.nil_append, List.append_nil, List.cons_append, List.map_cons, List.map_nil, List.length_cons, List.length_nil, forall_const, false_imp_iff, Nat.zero_add, Nat.reduceAdd] at hT hI hLm hLl c2 c3 c4 c5
  all_goals
    simp only [encSt] at hLm
    refine callD_W 140 Tryd.func3 rfl rfl rfl (fun _ _ => rfl) ?_
    refine wkl ?_
    clear hR c1 c2 c3 c4 c5
    intro hR
    refine W_loopR (ι := Nat) (fun i => i ≤ L.length) (fun i => stOf [(1, intD pos), (6, .pt 100 0 0 0), (97, .i (.sl (L.map encSt))), (98, intD L.length), (99, intD i)] [(100, .box ((encSt s).map .i))]) (fun i => L.length - i) 0 (Nat.zero_le _) ?_ ?_
    · exact le_ok [3051, 4331, 5099, 5867] [(100, 1000)]
    · clear hT hI hLm
      have hLl : L.length ≤ 4 := by omega
      rintro i hi RL hL1
      rw [stOf_eq]
      by_cases h : i < L.length
      · have s0 := get_lt (f := encSt) h
        have ht := hL _ (List.getElem_mem h)
        have b1 := fun σ' => bk [] [(100, 100)] (hL1 (i + 1) σ' h)
        clear hL hL1
        generalize L[i] = t at *
        obtain ⟨X, rfl⟩ : ∃ X, t = { s with cns := X } := ⟨t.cns, by have := ht.same; cases t; cases s; simp only [StateD.mk.injEq] at this ⊢; simp [this]⟩
        have c1 := swrong_A _ ht.ok.sm
        rw [wrongS_zero.2 ht.ok] at c1
        have c2 := rsameS_A s hs
        have hk := ht.keep
        have hxl := ht.len
        have hx8 := ht.ok.lcn
        simp only at hk hxl hx8
        clear ht hs
        refine wkl ?_
        clear hR c1; intro hR
        refine W_loopR (ι := Nat) (fun j => j ≤ s.cns.length) (fun j => stOf [(1, intD pos), (6, .pt 100 0 0 0), (25, .pt 101 0 0 0), (97, .i (.sl (L.map encSt))), (98, intD L.length), (99, intD i), (107, .i (.sl (s.cns.map encCn))), (108, intD s.cns.length), (109, intD j)] [(100, .box ((encSt s).map .i)), (101, .box ((encSt { s with cns := X }).map .i))]) (fun j => s.cns.length - j) 0 (Nat.zero_le _) ?_ ?_
        · exact le_ok [] [(100, 100), (101, 6634)]
        · rintro j hj RL2 hL2
          rw [stOf_eq]
          by_cases h' : j < s.cns.length
          · have s1 := get_lt (f := encCn) h'
            have hX : j < X.length := by omega
            have s2 := get_lt (f := encCn) hX
            have k1 := hk j h' hX
            have b2 := fun σ' => bk [] [(100, 100), (101, 101)] (hL2 (j + 1) σ' h')
            clear hL2 hk b1 c2 s0
            by_cases q : s.cns[j].st = 3 ∨ ¬ (j : Int) = pos
            · rw [k1 q] at s2
              clear k1
              generalize s.cns[j] = x at *
              exact wkl trivial
            · clear k1
              obtain ⟨q1, q2⟩ := not_or.1 q
              have q2 := Classical.not_not.1 q2
              clear q
              subst q2
              generalize s.cns[j] = x at *
              generalize X[j] = y at *
              exact wkl trivial
          · clear hL2 hk s0
            exact wkl trivial
      · clear hL hL1
        exact wkl trivial
end Go.Proofs.YtmclpbcipkdmcaaDoor
