/- state.Book: by value. -/
import Derived.Test.YtmclpbcipkdmcaaDoorPutW
import Derived.Test.YtmclpbcipkdmcaaDoorSrtA
import Derived.Test.YtmclpbcipkdmcaaDoorBkP
import Derived.Test.YtmclpbcipkdmcaaDoorGSt
set_option linter.all false
namespace Go.Proofs.YtmclpbcipkdmcaaDoor
open Go Go.Abs Go.RowKit Go.Proofs.YtmclpbcipkdmcaaDoor.Ty

attribute [simp, go_sem] encPr
set_option maxHeartbeats 16000000
set_option maxRecDepth 20000
theorem bput_D (es : List (List I)) (n : Nat) (hn : es.length = n) (hl : n ≤ 1000) (k v : List UInt8) :
    CallD Tryd.prog 63 [.i (bI k), .i (bI v), .pt 0 0 0 0] (hF [(0, .box [.os 1 2 0 n]), (1, .arr 2 es)]) (.tup []) (hOf (hF [(0, .box [.os 1 2 0 n]), (1, .arr 2 es)]) [(0, .box [.os 2 2 0 (n + 1)]), (1, .dead), (2, .arr 2 (es ++ [[bI k, bI v]]))]) := by
  subst hn
  refine hide_c fun R R' hR hR' => ?_
  have d1 : SrcIs [] [(2, 1005)] := ⟨trivial⟩
  obtain ⟨rfl⟩ := hR
  obtain ⟨rfl⟩ := hR'
  refine callD_W 11 Tryd.func63 rfl rfl rfl (fun o ho => by simp [hF, lk, show o ≠ 0 by omega, show o ≠ 1 by omega, show o ≠ 2 by omega, show o ≠ 3 by omega, show o ≠ 4 by omega, show o ≠ 5 by omega]) ?_
  exact wkl trivial
theorem nat6 {i : Nat} (h : i ≤ 1000000) : Num6 (i : Int) := by unfold Num6; omega
theorem book_A (s : StateD) (hs : StSm s) : PureD Tryd.prog 31 [stateD s] (.tup [.i (.sl ((bookS s).1.map encPr)), intD (bookS s).2]) := by
  refine hide_r fun R hR => ?_
  have c1 := swrong_A s hs
  unfold bookS at hR
  by_cases h : wrongS s = 0
  rotate_left
  · rw [if_neg h] at hR
    generalize wrongS s = W at *
    clear hs
    refine callD_W 96 Tryd.func31 rfl rfl rfl (fun _ _ => rfl) ?_
    exact wkl trivial
  have ok := wrongS_zero.1 h
  rw [h] at c1
  rw [if_pos h] at hR
  have l1 := ok.lcn
  have l2 := ok.lch
  have l3 := ok.lsent
  have l4 := ok.lgot
  have l5 := ok.lacks
  clear h hs
  refine callD_W 96 Tryd.func31 rfl rfl rfl (fun _ _ => rfl) ?_
  refine wkl ?_
  clear hR c1; intro hR
  refine W_loopR (ι := Nat × List PairD) (fun q => q.1 ≤ s.cns.length ∧ q.2 = cnB 0 (s.cns.take q.1)) (fun q => stOf [(1, .pt 100 0 0 0), (5, .pt 101 0 0 0), (6, .fn 63 [.pt 101 0 0 0]), (22, .i (.sl (s.cns.map encCn))), (23, intD s.cns.length), (24, intD q.1)]
    [(100, .box ((encSt s).map .i)), (101, .box [.os 102 2 0 q.2.length]), (102, .arr 2 (q.2.map encPr))]) (fun q => s.cns.length - q.1) (0, []) ⟨Nat.zero_le _, rfl⟩ ?_ ?_
  · exact le_ok [] [(100, 1000), (101, 2024)]
  · rintro ⟨i, L⟩ ⟨hi, hL0⟩ RL hL
    simp only at hi hL0
    rw [stOf_eq]
    have hlen : L.length ≤ 8 := by rw [hL0, cnB_len]; simp; omega
    by_cases h : i < s.cns.length
    · have s0 := get_lt (f := encCn) h
      have q := (ok.cns _ (List.getElem_mem h)).on
      unfold N12 at q
      have c1 := ckey_A i (nat6 (by omega))
      have c2 := connb_A s.cns[i] q
      have p1 := bput_D (L.map encPr) L.length (by simp) (by omega) (keyC i) (valCn s.cns[i])
      have b1 := fun σ' => bk [] [(100, 100), (101, 101), (102, 901)] (hL (i + 1, L ++ [⟨keyC i, valCn s.cns[i]⟩]) σ' ⟨h, by rw [hL0]; exact (cnB_take h).symm⟩)
      simp only at b1
      simp only [bI] at p1
      clear hL ok hL0 q
      generalize keyC i = K at *
      generalize valCn s.cns[i] = V at *
      generalize s.cns[i] = x at *
      exact wkp trivial
    · have e : L = cnB 0 s.cns := by rw [hL0, List.take_of_length_le (by omega)]
      clear hL hL0
      refine wkl ?_
      clear hR; intro hR
      intros
      refine W_loopR (ι := Nat × List PairD) (fun q => q.1 ≤ s.chs.length ∧ q.2 = L ++ chB 0 (s.chs.take q.1)) (fun q => stOf [(1, .pt 100 0 0 0), (5, .pt 101 0 0 0), (6, .fn 63 [.pt 101 0 0 0]), (37, .i (.sl (s.chs.map encCh))), (38, intD s.chs.length), (39, intD q.1)]
        [(100, .box ((encSt s).map .i)), (101, .box [.os 102 2 0 q.2.length]), (102, .arr 2 (q.2.map encPr))]) (fun q => s.chs.length - q.1) (0, L) ⟨Nat.zero_le _, (List.append_nil _).symm⟩ ?_ ?_
      · exact le_ok [] [(100, 100), (101, 101), (102, 102)]
      · rintro ⟨i, M⟩ ⟨hi, hM⟩ RL hL
        simp only at hi hM
        rw [stOf_eq]
        have hlen2 : M.length ≤ 24 := by rw [hM, List.length_append, chB_len]; simp; omega
        by_cases h : i < s.chs.length
        · have s0 := get_lt (f := encCh) h
          have q := (ok.chs _ (List.getElem_mem h)).oc
          unfold N12 at q
          have c1 := hkey_A i (nat6 (by omega))
          have c2 := chanb_A s.chs[i] q
          have c3 := nkey_A i (nat6 (by omega))
          have c4 := nextb_A s.chs[i].rcv
          have p1 := bput_D (M.map encPr) M.length (by simp) (by omega) (keyH i) (valCh s.chs[i])
          have p2 := bput_D (M.map encPr ++ [[bI (keyH i), bI (valCh s.chs[i])]]) (M.length + 1) (by simp) (by omega) (keyN i) (valN s.chs[i].rcv)
          have b1 := fun σ' => bk [] [(100, 100), (101, 101), (102, 902)] (hL (i + 1, M ++ [⟨keyH i, valCh s.chs[i]⟩] ++ [⟨keyN i, valN s.chs[i].rcv⟩]) σ' ⟨h, by rw [hM]; simp only [List.append_assoc]; congr 1; have := (chB_take h).symm; simpa using this⟩)
          simp only at b1
          simp only [bI] at p1 p2
          clear hL ok hM q e
          generalize keyH i = K at *
          generalize keyN i = K2 at *
          generalize valCh s.chs[i] = V at *
          generalize valN s.chs[i].rcv = V2 at *
          generalize s.chs[i] = x at *
          exact wkp trivial
        · have e2 : M = cnB 0 s.cns ++ chB 0 s.chs := by rw [hM, e, List.take_of_length_le (by omega)]
          clear hL hM e
          refine wkl ?_
          clear hR; intro hR
          intros
          refine W_loopR (ι := Nat × List PairD) (fun q => q.1 ≤ 3 ∧ q.2 = M ++ (([mkB wSnt s.sent, mkB wGt s.got, mkB wAk s.acks] : List (List PairD)).take q.1).flatten) (fun q => stOf [(5, .pt 101 0 0 0), (6, .fn 63 [.pt 101 0 0 0]), (64, .os 103 1 0 3), (65, intD 3), (66, intD q.1)]
            [(101, .box [.os 102 2 0 q.2.length]), (102, .arr 2 (q.2.map encPr)), (103, .arr 1 [[.sl (s.sent.map encM)], [.sl (s.got.map encM)], [.sl (s.acks.map encM)]])]) (fun q => 3 - q.1) (0, M) ⟨Nat.zero_le _, (List.append_nil _).symm⟩ ?_ ?_
          · exact le_ok [] [(101, 101), (102, 102), (103, 5358)]
          · rintro ⟨k, B⟩ ⟨hk, hB⟩ RL hL
            simp only at hk hB
            rw [stOf_eq]
            match k, hk with
            | 0, _ =>
              have hB : B = M := by rw [hB]; simp
              subst hB
              have b0 := fun σ' => bk [] [(101, 101), (102, 102), (103, 103)] (hL (1, B ++ mkB wSnt s.sent) σ' ⟨by omega, by simp⟩)
              clear hL
              refine wkl ?_
              clear hR; intro hR
              intros
              refine W_loopR (ι := Nat × List PairD) (fun q => q.1 ≤ s.sent.length ∧ q.2 = B ++ mkB wSnt (s.sent.take q.1)) (fun q => stOf [(5, .pt 101 0 0 0), (6, .fn 63 [.pt 101 0 0 0]), (11, intD 0), (64, .os 103 1 0 3), (65, intD 3), (66, intD 0), (71, .i (.sl (s.sent.map encM))), (72, intD s.sent.length), (73, intD q.1)]
                [(101, .box [.os 102 2 0 q.2.length]), (102, .arr 2 (q.2.map encPr)), (103, .arr 1 [[.sl (s.sent.map encM)], [.sl (s.got.map encM)], [.sl (s.acks.map encM)]])]) (fun q => s.sent.length - q.1) (0, B) ⟨Nat.zero_le _, (List.append_nil _).symm⟩ ?_ ?_
              · exact le_ok [] [(101, 101), (102, 102), (103, 103)]
              · rintro ⟨i, C⟩ ⟨hi, hC⟩ RL2 hL2
                simp only at hi hC
                rw [stOf_eq]
                have hlen3 : C.length ≤ 74 := by rw [hC, List.length_append, mkB_len]; simp; omega
                by_cases h : i < s.sent.length
                · have s0 := get_lt (f := encM) h
                  have q := ok.sent.all _ (List.getElem_mem h)
                  have q1 := q.ch
                  have q2 := q.seq
                  have q3 := q.dg
                  unfold N12 at q1 q2
                  have c1 := mkey_A wSnt s.sent[i].ch s.sent[i].seq (by decide) (by unfold Num6; omega) (by unfold Num6; omega)
                  have c2 := clone_A s.sent[i].dg (by omega)
                  have p1 := bput_D (C.map encPr) C.length (by simp) (by omega) (keyM wSnt s.sent[i].ch s.sent[i].seq) s.sent[i].dg
                  have b1 := fun σ' => bk [] [(101, 101), (102, 901), (103, 103)] (hL2 (i + 1, C ++ [⟨keyM wSnt s.sent[i].ch s.sent[i].seq, s.sent[i].dg⟩]) σ' ⟨h, by rw [hC]; simp only [List.append_assoc]; congr 1; exact (mkB_take h).symm⟩)
                  simp only at b1
                  simp only [bI] at p1
                  clear hL2 b0 ok hC q q1 q2 q3 e2
                  generalize keyM wSnt s.sent[i].ch s.sent[i].seq = K at *
                  generalize s.sent[i] = x at *
                  simp only [wSnt] at c1
                  exact wkp trivial
                · have e3 : C = B ++ mkB wSnt s.sent := by rw [hC, List.take_of_length_le (by omega)]
                  rw [← e3] at b0
                  have b1 := b0
                  simp only at b1
                  clear hL2 b0 hC e3
                  exact wkl trivial
            | 1, _ =>
              have hlen2 : B.length ≤ 74 := by rw [hB]; simp [mkB_len]; omega
              have b0 := fun σ' => bk [] [(101, 101), (102, 102), (103, 103)] (hL (2, B ++ mkB wGt s.got) σ' ⟨by omega, by rw [hB]; simp⟩)
              clear hL
              refine wkl ?_
              clear hR; intro hR
              intros
              refine W_loopR (ι := Nat × List PairD) (fun q => q.1 ≤ s.got.length ∧ q.2 = B ++ mkB wGt (s.got.take q.1)) (fun q => stOf [(5, .pt 101 0 0 0), (6, .fn 63 [.pt 101 0 0 0]), (11, intD 1), (64, .os 103 1 0 3), (65, intD 3), (66, intD 1), (71, .i (.sl (s.got.map encM))), (72, intD s.got.length), (73, intD q.1)]
                [(101, .box [.os 102 2 0 q.2.length]), (102, .arr 2 (q.2.map encPr)), (103, .arr 1 [[.sl (s.sent.map encM)], [.sl (s.got.map encM)], [.sl (s.acks.map encM)]])]) (fun q => s.got.length - q.1) (0, B) ⟨Nat.zero_le _, (List.append_nil _).symm⟩ ?_ ?_
              · exact le_ok [] [(101, 101), (102, 102), (103, 103)]
              · rintro ⟨i, C⟩ ⟨hi, hC⟩ RL2 hL2
                simp only at hi hC
                rw [stOf_eq]
                have hlen3 : C.length ≤ 124 := by rw [hC, List.length_append, mkB_len]; simp; omega
                by_cases h : i < s.got.length
                · have s0 := get_lt (f := encM) h
                  have q := ok.got.all _ (List.getElem_mem h)
                  have q1 := q.ch
                  have q2 := q.seq
                  have q3 := q.dg
                  unfold N12 at q1 q2
                  have c1 := mkey_A wGt s.got[i].ch s.got[i].seq (by decide) (by unfold Num6; omega) (by unfold Num6; omega)
                  have c2 := clone_A s.got[i].dg (by omega)
                  have p1 := bput_D (C.map encPr) C.length (by simp) (by omega) (keyM wGt s.got[i].ch s.got[i].seq) s.got[i].dg
                  have b1 := fun σ' => bk [] [(101, 101), (102, 901), (103, 103)] (hL2 (i + 1, C ++ [⟨keyM wGt s.got[i].ch s.got[i].seq, s.got[i].dg⟩]) σ' ⟨h, by rw [hC]; simp only [List.append_assoc]; congr 1; exact (mkB_take h).symm⟩)
                  simp only at b1
                  simp only [bI] at p1
                  clear hL2 b0 ok hC q q1 q2 q3 e2 hB
                  generalize keyM wGt s.got[i].ch s.got[i].seq = K at *
                  generalize s.got[i] = x at *
                  simp only [wGt] at c1
                  exact wkp trivial
                · have e3 : C = B ++ mkB wGt s.got := by rw [hC, List.take_of_length_le (by omega)]
                  rw [← e3] at b0
                  have b1 := b0
                  simp only at b1
                  clear hL2 b0 hC e3 hB
                  exact wkl trivial
            | 2, _ =>
              have hlen2 : B.length ≤ 124 := by rw [hB]; simp [mkB_len]; omega
              have b0 := fun σ' => bk [] [(101, 101), (102, 102), (103, 103)] (hL (3, B ++ mkB wAk s.acks) σ' ⟨by omega, by rw [hB]; simp⟩)
              clear hL
              refine wkl ?_
              clear hR; intro hR
              intros
              refine W_loopR (ι := Nat × List PairD) (fun q => q.1 ≤ s.acks.length ∧ q.2 = B ++ mkB wAk (s.acks.take q.1)) (fun q => stOf [(5, .pt 101 0 0 0), (6, .fn 63 [.pt 101 0 0 0]), (11, intD 2), (64, .os 103 1 0 3), (65, intD 3), (66, intD 2), (71, .i (.sl (s.acks.map encM))), (72, intD s.acks.length), (73, intD q.1)]
                [(101, .box [.os 102 2 0 q.2.length]), (102, .arr 2 (q.2.map encPr)), (103, .arr 1 [[.sl (s.sent.map encM)], [.sl (s.got.map encM)], [.sl (s.acks.map encM)]])]) (fun q => s.acks.length - q.1) (0, B) ⟨Nat.zero_le _, (List.append_nil _).symm⟩ ?_ ?_
              · exact le_ok [] [(101, 101), (102, 102), (103, 103)]
              · rintro ⟨i, C⟩ ⟨hi, hC⟩ RL2 hL2
                simp only at hi hC
                rw [stOf_eq]
                have hlen3 : C.length ≤ 174 := by rw [hC, List.length_append, mkB_len]; simp; omega
                by_cases h : i < s.acks.length
                · have s0 := get_lt (f := encM) h
                  have q := ok.acks.all _ (List.getElem_mem h)
                  have q1 := q.ch
                  have q2 := q.seq
                  have q3 := q.dg
                  unfold N12 at q1 q2
                  have c1 := mkey_A wAk s.acks[i].ch s.acks[i].seq (by decide) (by unfold Num6; omega) (by unfold Num6; omega)
                  have c2 := clone_A s.acks[i].dg (by omega)
                  have p1 := bput_D (C.map encPr) C.length (by simp) (by omega) (keyM wAk s.acks[i].ch s.acks[i].seq) s.acks[i].dg
                  have b1 := fun σ' => bk [] [(101, 101), (102, 901), (103, 103)] (hL2 (i + 1, C ++ [⟨keyM wAk s.acks[i].ch s.acks[i].seq, s.acks[i].dg⟩]) σ' ⟨h, by rw [hC]; simp only [List.append_assoc]; congr 1; exact (mkB_take h).symm⟩)
                  simp only at b1
                  simp only [bI] at p1
                  clear hL2 b0 ok hC q q1 q2 q3 e2 hB
                  generalize keyM wAk s.acks[i].ch s.acks[i].seq = K at *
                  generalize s.acks[i] = x at *
                  simp only [wAk] at c1
                  exact wkp trivial
                · have e3 : C = B ++ mkB wAk s.acks := by rw [hC, List.take_of_length_le (by omega)]
                  rw [← e3] at b0
                  have b1 := b0
                  simp only at b1
                  clear hL2 b0 hC e3 hB
                  exact wkl trivial
            | 3, _ =>
              have hraw : B = rawS s := by rw [hB, e2]; simp [rawS]
              have hlen2 : B.length ≤ 1048576 := by rw [hraw, rawS_len]; omega
              have p1 := sort_D B hlen2 (hraw ▸ rawS_knd ok)
              have hS := sortP_len B
              rw [← hraw] at hR
              clear hL hB hraw e2 ok
              generalize sortP B = S at *
              rw [← hS] at p1 ⊢
              clear hS hlen2
              exact wkp trivial
end Go.Proofs.YtmclpbcipkdmcaaDoor
