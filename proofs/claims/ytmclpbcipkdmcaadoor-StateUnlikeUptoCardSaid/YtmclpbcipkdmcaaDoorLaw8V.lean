/- The law StateUnlike: the walk. -/
import Derived.Test.YtmclpbcipkdmcaaDoorLaw8A
import Derived.Test.YtmclpbcipkdmcaaDoorLaw8U
import Derived.Test.YtmclpbcipkdmcaaDoorUnP
set_option linter.all false
namespace Go.Proofs.YtmclpbcipkdmcaaDoor
open Go Go.Abs Go.RowKit Go.Proofs.YtmclpbcipkdmcaaDoor.Ty

set_option maxHeartbeats 16000000
set_option maxRecDepth 20000
abbrev stB (N : List ConnD) (H : List ChanD) (A B C : List MarkD) : StateD := ⟨⟨#[]⟩, 0, 0, [], N, H, A, B, C, []⟩
theorem rsameB_A (N N' : List ConnD) (H H' : List ChanD) (A A' B B' C C' : List MarkD) (hN : N.length ≤ 1048576) (hH : H.length ≤ 1048576) (hA : A.length ≤ 1048576) (hB : B.length ≤ 1048576) (hC : C.length ≤ 1048576)
    (dA : ∀ p ∈ A, p.dg.length ≤ 1048576) (dB : ∀ p ∈ B, p.dg.length ≤ 1048576) (dC : ∀ p ∈ C, p.dg.length ≤ 1048576) :
    PureD Tryd.prog 16 [stateD (stB N H A B C), stateD (stB N' H' A' B' C')] (boolD (decide (N = N' ∧ H = H' ∧ A = A' ∧ B = B' ∧ C = C'))) := by
  refine hide_r fun R hR => ?_
  have c1 := rsameMg_A A A' hA dA
  have c2 := rsameMg_A B B' hB dB
  have c3 := rsameMg_A C C' hC dC
  have la1 : ∀ (a : Oper) (l m : List Oper), List.append (a :: l) m = a :: List.append l m := fun _ _ _ => rfl
  have la2 : ∀ m : List Oper, List.append [] m = m := fun _ => rfl
  clear dA dB dC hA hB hC
  by_cases n1 : N.length = N'.length
  rotate_left
  · rw [decide_eq_false (fun e => n1 (by rw [e.1]))] at hR
    have n1' : ((N.length : Int) = (N'.length : Int)) = False := eq_false (by omega)
    clear c1 c2 c3 n1
    refine callD_W 161 Tryd.func16 rfl rfl rfl (fun _ _ => rfl) ?_
    exact wkl trivial
  by_cases n2 : H.length = H'.length
  rotate_left
  · rw [decide_eq_false (fun e => n2 (by rw [e.2.1]))] at hR
    have n2' : ((H.length : Int) = (H'.length : Int)) = False := eq_false (by omega)
    clear c1 c2 c3 n2
    refine callD_W 161 Tryd.func16 rfl rfl rfl (fun _ _ => rfl) ?_
    exact wkl trivial
  by_cases eA : A = A'
  rotate_left
  · rw [decide_eq_false (fun e => eA e.2.2.1)] at hR
    rw [decide_eq_false eA] at c1
    clear c2 c3 eA
    refine callD_W 161 Tryd.func16 rfl rfl rfl (fun _ _ => rfl) ?_
    exact wkl trivial
  subst eA
  rw [decide_eq_true rfl] at c1
  by_cases eB : B = B'
  rotate_left
  · rw [decide_eq_false (fun e => eB e.2.2.2.1)] at hR
    rw [decide_eq_false eB] at c2
    clear c3 eB
    refine callD_W 161 Tryd.func16 rfl rfl rfl (fun _ _ => rfl) ?_
    exact wkl trivial
  subst eB
  rw [decide_eq_true rfl] at c2
  by_cases eC : C = C'
  rotate_left
  · rw [decide_eq_false (fun e => eC e.2.2.2.2)] at hR
    rw [decide_eq_false eC] at c3
    clear eC
    refine callD_W 161 Tryd.func16 rfl rfl rfl (fun _ _ => rfl) ?_
    exact wkl trivial
  subst eC
  rw [decide_eq_true rfl] at c3
  refine callD_W 161 Tryd.func16 rfl rfl rfl (fun _ _ => rfl) ?_
  refine wkl ?_
  clear hR c1 c2 c3 la1 la2; intro hR
  intros
  refine W_loopR (ι := Nat) (fun i => i ≤ 0) (fun i => stOf [(2, .pt 100 0 0 0), (3, .pt 101 0 0 0), (90, intD 0), (91, intD i)] [(100, .box ((encSt (stB N H A B C)).map .i)), (101, .box ((encSt (stB N' H' A B C)).map .i))]) (fun i => 0 - i) 0 (Nat.le_refl _) ?_ ?_
  · exact le_ok [] [(100, 1000), (101, 1001)]
  · rintro i hi RL hL
    obtain rfl : i = 0 := by omega
    rw [stOf_eq]
    clear hL
    refine wkl ?_
    clear hR; intro hR
    intros
    refine W_loopR (ι := Nat) (fun i => i ≤ N.length ∧ N.take i = N'.take i) (fun i => stOf [(2, .pt 100 0 0 0), (3, .pt 101 0 0 0), (109, intD N.length), (110, intD i)] [(100, .box ((encSt (stB N H A B C)).map .i)), (101, .box ((encSt (stB N' H' A B C)).map .i))]) (fun i => N.length - i) 0 ⟨Nat.zero_le _, rfl⟩ ?_ ?_
    · exact le_ok [] [(100, 100), (101, 101)]
    · rintro i ⟨hi, ht⟩ RL hL
      rw [stOf_eq]
      by_cases h : i < N.length
      · have h' : i < N'.length := by omega
        have s0 := get_lt (f := encCn) h
        have s1 := get_lt (f := encCn) h'
        have b1 := fun e σ' => bk [] [(100, 100), (101, 101)] (hL (i + 1) σ' ⟨h, take_more h h' ht e⟩)
        have hne := at_ne h h'
        clear hL ht
        generalize N[i] = x at *
        generalize N'[i] = y at *
        by_cases e : x = y
        · subst e
          have b1 := b1 rfl
          clear hne
          exact wkl trivial
        · rw [decide_eq_false (fun q => hne e q.1)] at hR
          clear hne b1
          obtain ⟨x1, x2, x3, x4⟩ := x
          obtain ⟨y1, y2, y3, y4⟩ := y
          simp only [ConnD.mk.injEq] at e
          exact wkl trivial
      · have eN := take_all h n1 ht
        clear hL ht
        refine wkl ?_
        clear hR; intro hR
        intros
        refine W_loopR (ι := Nat) (fun i => i ≤ H.length ∧ H.take i = H'.take i) (fun i => stOf [(2, .pt 100 0 0 0), (3, .pt 101 0 0 0), (127, intD H.length), (128, intD i)] [(100, .box ((encSt (stB N H A B C)).map .i)), (101, .box ((encSt (stB N' H' A B C)).map .i))]) (fun i => H.length - i) 0 ⟨Nat.zero_le _, rfl⟩ ?_ ?_
        · exact le_ok [] [(100, 100), (101, 101)]
        · rintro i ⟨hi, ht⟩ RL hL
          rw [stOf_eq]
          by_cases h : i < H.length
          · have h' : i < H'.length := by omega
            have s0 := get_lt (f := encCh) h
            have s1 := get_lt (f := encCh) h'
            have b1 := fun e σ' => bk [] [(100, 100), (101, 101)] (hL (i + 1) σ' ⟨h, take_more h h' ht e⟩)
            have hne := at_ne h h'
            clear hL ht
            generalize H[i] = x at *
            generalize H'[i] = y at *
            by_cases e : x = y
            · subst e
              have b1 := b1 rfl
              have q1 : (x.ord == x.ord) = true := by cases x.ord <;> rfl
              clear hne eN
              exact wkl trivial
            · rw [decide_eq_false (fun q => hne e q.2.1)] at hR
              clear hne b1 eN
              obtain ⟨x1, x2, x3, x4, x5, x6, x7⟩ := x
              obtain ⟨y1, y2, y3, y4, y5, y6, y7⟩ := y
              simp only [ChanD.mk.injEq] at e
              cases x2 <;> cases y2
              all_goals
                simp only [Bool.false_eq_true, Bool.true_eq_false, reduceCtorEq, false_and, and_false, not_false_eq_true, true_and] at e
                exact wkl trivial
          · have eH := take_all h n2 ht
            rw [decide_eq_true ⟨eN, eH, rfl, rfl, rfl⟩] at hR
            clear hL ht eN eH
            refine wkl ?_
            clear hR; intro hR
            intros
            refine W_loopR (ι := Nat) (fun i => i ≤ 0) (fun i => stOf [(2, .pt 100 0 0 0), (3, .pt 101 0 0 0), (145, intD 0), (146, intD i)] [(100, .box ((encSt (stB N H A B C)).map .i)), (101, .box ((encSt (stB N' H' A B C)).map .i))]) (fun i => 0 - i) 0 (Nat.le_refl _) ?_ ?_
            · exact le_ok [] [(100, 100), (101, 101)]
            · rintro i hi RL hL
              obtain rfl : i = 0 := by omega
              rw [stOf_eq]
              clear hL
              exact wkl trivial
theorem bare_A (s : StateD) (hl : s.chs.length ≤ 1048576) : PureD Tryd.prog 32 [stateD s] (stateD (bareS s)) := by
  refine hide_r fun R hR => ?_
  unfold bareS at hR
  refine callD_W 32 Tryd.func32 rfl rfl rfl (fun _ _ => rfl) ?_
  refine wkl ?_
  clear hR; intro hR
  intros
  refine W_loopR (ι := Nat × List ChanD) (fun q => q.1 ≤ s.chs.length ∧ q.2 = (s.chs.take q.1).map bareCh) (fun q => stOf [(1, .pt 100 0 0 0), (2, .pt 103 0 0 0), (3, .pt 101 0 0 0), (16, .i (.sl (s.chs.map encCh))), (17, intD s.chs.length), (18, intD q.1)]
    [(100, .box ((encSt s).map .i)), (101, .box [.i (.s (.string ⟨#[]⟩)), .i (.s (.int .i64 0)), .i (.s (.int .i64 0)), .i (.sl []), .i (.sl (s.cns.map encCn)), .os 102 7 0 q.2.length, .i (.sl (s.sent.map encM)), .i (.sl (s.got.map encM)), .i (.sl (s.acks.map encM)), .i (.sl [])]), (102, .arr 7 (q.2.map encCh)), (103, .box ((encSt zeroSt).map .i))])
    (fun q => s.chs.length - q.1) (0, []) ⟨Nat.zero_le _, rfl⟩ ?_ ?_
  · exact le_ok [] [(100, 1000), (101, 1265), (103, 1001)]
  · rintro ⟨i, L⟩ ⟨hi, hL0⟩ RL hL
    simp only at hi hL0
    rw [stOf_eq]
    have hlen : L.length ≤ 1048576 := by rw [hL0]; simp; omega
    by_cases h : i < s.chs.length
    · have s0 := get_lt (f := encCh) h
      have b1 := fun σ' => bk [] [(100, 100), (101, 101), (102, 2540), (103, 103)] (hL (i + 1, L ++ [bareCh s.chs[i]]) σ' ⟨h, by rw [hL0, List.take_succ_eq_append_getElem h, List.map_append]; rfl⟩)
      simp only [bareCh] at b1
      clear hL hL0
      generalize s.chs[i] = x at *
      exact wkl trivial
    · have e : s.chs.map bareCh = L := by rw [hL0, List.take_of_length_le (by omega)]
      rw [e] at hR
      clear hL hL0 e
      exact wkl trivial
theorem walk_StateUnlike (y0 : List I) (s : StateD) (e0 : y0 = encSt s ∧ ∀ p ∈ s.pus, p.n < 18446744073709551616) (y1 : List I) (t : StateD) (e1 : y1 = encSt t ∧ ∀ p ∈ t.pus, p.n < 18446744073709551616) (hb : bkL y0 + bkL y1 ≤ 1048576) :
    ∃ Ds, PureD Tryd.prog 5 Ds (.i (.s (.bool true))) ∧ Ds = [.agg (y0.map .i), .agg (y1.map .i)] := by
  obtain ⟨rfl, _⟩ := e0
  obtain ⟨rfl, _⟩ := e1
  refine ⟨_, ?_, rfl⟩
  rw [st_agg, st_agg]
  have hs := st_sm (s := s) (n := 1048576) (by omega) (by omega)
  have ht := st_sm (s := t) (n := 1048576) (by omega) (by omega)
  clear hb
  refine hide_r fun R hR => ?_
  have c1 := alive8_A
  have c2 := book_A s hs
  have c3 := book_A t ht
  unfold bookS at c2 c3
  by_cases h : wrongS s = 0
  rotate_left
  · rw [if_neg h] at c2
    generalize wrongS s = W at *
    generalize (if wrongS t = 0 then (sortP (rawS t), 0) else ([], wrongS t) : List PairD × Int) = B at *
    clear hs ht
    refine callD_W 39 Tryd.func5 rfl rfl rfl (fun _ _ => rfl) ?_
    exact wkl trivial
  by_cases h' : wrongS t = 0
  rotate_left
  · rw [if_pos h] at c2
    rw [if_neg h'] at c3
    generalize wrongS t = W at *
    clear hs ht
    refine callD_W 39 Tryd.func5 rfl rfl rfl (fun _ _ => rfl) ?_
    exact wkl trivial
  rw [if_pos h] at c2
  rw [if_pos h'] at c3
  have ok := wrongS_zero.1 h
  have ok' := wrongS_zero.1 h'
  have hr := book_right ok
  have hr' := book_right ok'
  have c4 := rsamePr_A (sortP (rawS s)) (sortP (rawS t)) (by have := hr.len; omega) (fun p hp => by have := hr.big p hp; omega)
  have c5 := bare_A s hs.chs
  have c6 := bare_A t ht.chs
  have c7 := rsameB_A s.cns t.cns (s.chs.map bareCh) (t.chs.map bareCh) s.sent t.sent s.got t.got s.acks t.acks hs.cns (by simpa using hs.chs) hs.sent hs.got hs.acks (fun m hm => hs.dg m (.inl hm)) (fun m hm => hs.dg m (.inr (.inl hm))) (fun m hm => hs.dg m (.inr (.inr hm)))
  have key : decide (s.cns = t.cns ∧ s.chs.map bareCh = t.chs.map bareCh ∧ s.sent = t.sent ∧ s.got = t.got ∧ s.acks = t.acks) = decide (sortP (rawS s) = sortP (rawS t)) := by
    rw [decide_eq_decide, book_unlike ok ok']
    simp [bareS]
  rw [key] at c7
  unfold bareS at c5 c6
  simp only [stB] at c7
  generalize decide (sortP (rawS s) = sortP (rawS t)) = q at *
  generalize sortP (rawS s) = S at *
  generalize sortP (rawS t) = T at *
  generalize s.chs.map bareCh = H at *
  generalize t.chs.map bareCh = H' at *
  clear hs ht h h' ok ok' hr hr' key
  have q1 : (q == q) = true := by cases q <;> rfl
  refine callD_W 39 Tryd.func5 rfl rfl rfl (fun _ _ => rfl) ?_
  exact wkl trivial
end Go.Proofs.YtmclpbcipkdmcaaDoor
