/- The law PacketPlaces: what its closure tells. -/
import Derived.Test.YtmclpbcipkdmcaaDoorRHas
import Derived.Test.YtmclpbcipkdmcaaDoorRSt
import Derived.Test.YtmclpbcipkdmcaaDoorGSt
import Derived.Test.YtmclpbcipkdmcaaDoorPkL
set_option linter.all false
namespace Go.Proofs.YtmclpbcipkdmcaaDoor
open Go Go.Abs Go.RowKit Go.Proofs.YtmclpbcipkdmcaaDoor.Ty

set_option maxHeartbeats 16000000
set_option maxRecDepth 20000
theorem plerr_A (s t : StateD) (own e : Int) (h : ¬ e = 0) : PureD Tryd.prog 40 [stateD t, intD e, .rp (encSt s) 0, .rp [.s (.int .i64 own)] 0] (boolD true) := by
  refine hide_r fun R hR => ?_
  refine callD_W 122 Tryd.func40 rfl rfl rfl (fun _ _ => rfl) ?_
  exact wkl trivial
theorem plok_A (s : StateD) (hs : StSm s) (own : Int) (C : List ChanD) (A B D : List MarkD) (h : PkStep s own { s with chs := C, sent := A, got := B, acks := D }) :
    PureD Tryd.prog 40 [stateD { s with chs := C, sent := A, got := B, acks := D }, intD 0, .rp (encSt s) 0, .rp [.s (.int .i64 own)] 0] (boolD true) := by
  refine hide_r fun R hR => ?_
  have c1 := swrong_A _ h.ok.sm
  rw [wrongS_zero.2 h.ok] at c1
  have hlen : C.length = s.chs.length := h.len
  have kc := h.chs
  have ks := h.sent
  have kg := h.got
  have ka := h.acks
  have l1 := hs.chs
  have l2 := hs.sent
  have l3 := hs.got
  have l4 := hs.acks
  have m1 := h.ok.lsent
  have m2 := h.ok.lgot
  have m3 := h.ok.lacks
  simp only at kc ks kg ka m1 m2 m3
  have c2 := rsameS_A s hs
  clear h hs
  refine callD_W 122 Tryd.func40 rfl rfl rfl (fun _ _ => rfl) ?_
  refine wkl ?_
  clear hR; intro hR
  refine W_loopR (ι := Nat) (fun i => i ≤ s.chs.length) (fun i => stOf [(2, .rp (encSt s) 0), (3, .rp [.s (.int .i64 own)] 0), (4, .pt 100 0 0 0), (30, intD s.chs.length), (31, intD i)] [(100, .box ((encSt { s with chs := C, sent := A, got := B, acks := D }).map .i))]) (fun i => s.chs.length - i) 0 (Nat.zero_le _) ?_ ?_
  · exact le_ok [] [(100, 1000)]
  · rintro i hi RL hL
    rw [stOf_eq]
    by_cases h : i < s.chs.length
    · have s0 := get_lt (f := encCh) h
      have hC : i < C.length := by omega
      have s1 := get_lt (f := encCh) hC
      have k1 := kc i h hC
      have b1 := fun σ' => bk [] [(100, 100)] (hL (i + 1) σ' h)
      clear hL kc ks kg ka c1 c2
      by_cases ho : (i : Int) = own
      · generalize s.chs[i] = x at *
        generalize C[i] = y at *
        clear k1
        exact wkl trivial
      · rw [k1 ho] at s1
        generalize s.chs[i] = x at *
        have q1 : (x.ord == x.ord) = true := by cases x.ord <;> rfl
        clear k1
        exact wkl trivial
    · clear hL kc
      refine wkl ?_
      clear hR; intro hR
      refine W_loopR (ι := Nat) (fun k => k ≤ 3) (fun k => stOf [(2, .rp (encSt s) 0), (3, .rp [.s (.int .i64 own)] 0), (4, .pt 100 0 0 0), (66, .os 101 2 0 3), (67, intD 3), (68, intD k)] [(100, .box ((encSt { s with chs := C, sent := A, got := B, acks := D }).map .i)), (101, .arr 2 [[.sl (s.sent.map encM), .sl (A.map encM)], [.sl (s.got.map encM), .sl (B.map encM)], [.sl (s.acks.map encM), .sl (D.map encM)]])]) (fun k => 3 - k) 0 (Nat.zero_le _) ?_ ?_
      · exact le_ok [] [(100, 100), (101, 3831)]
      · rintro k hk RL hL
        rw [stOf_eq]
        have b1 := fun σ' (h : k + 1 ≤ 3) => bk [] [(100, 100), (101, 101)] (hL (k + 1) σ' h)
        clear hL
        match k, hk with
        | 0, _ =>
          have b1 := fun σ' => b1 σ' (by omega)
          refine wkl ?_
          clear hR; intro hR
          refine W_loopR (ι := Nat) (fun j => j ≤ s.sent.length) (fun j => stOf [(2, .rp (encSt s) 0), (3, .rp [.s (.int .i64 own)] 0), (4, .pt 100 0 0 0), (66, .os 101 2 0 3), (67, intD 3), (68, intD 0), (9, .pt 102 0 0 0), (73, .i (.sl (s.sent.map encM))), (74, intD s.sent.length), (75, intD j)] [(100, .box ((encSt { s with chs := C, sent := A, got := B, acks := D }).map .i)), (101, .arr 2 [[.sl (s.sent.map encM), .sl (A.map encM)], [.sl (s.got.map encM), .sl (B.map encM)], [.sl (s.acks.map encM), .sl (D.map encM)]]), (102, .box [.i (.sl (s.sent.map encM)), .i (.sl (A.map encM))])]) (fun j => s.sent.length - j) 0 (Nat.zero_le _) ?_ ?_
          · exact le_ok [] [(100, 100), (101, 101), (102, 4330)]
          · rintro j hj RL2 hL2
            rw [stOf_eq]
            by_cases h' : j < s.sent.length
            · have s0 := get_lt (f := encM) h'
              have k1 := ks _ (List.getElem_mem h')
              have c1 := has_A A s.sent[j].ch s.sent[j].seq (by omega)
              have b2 := fun σ' => bk [] [(100, 100), (101, 101), (102, 102)] (hL2 (j + 1) σ' h')
              clear hL2 b1 ks kg ka c2
              rw [hasM_get] at c1
              generalize s.sent[j] = m at *
              by_cases ho : m.ch = own
              · clear k1
                generalize (match getM A m.ch m.seq with | some m => (m.dg, true) | none => ([], false) : List UInt8 × Bool) = T at *
                exact wkl trivial
              · rw [k1 ho] at c1
                simp only at c1
                clear k1
                exact wkl trivial
            · clear hL2 ks kg ka c2
              exact wkl trivial
        | 1, _ =>
          have b1 := fun σ' => b1 σ' (by omega)
          refine wkl ?_
          clear hR; intro hR
          refine W_loopR (ι := Nat) (fun j => j ≤ s.got.length) (fun j => stOf [(2, .rp (encSt s) 0), (3, .rp [.s (.int .i64 own)] 0), (4, .pt 100 0 0 0), (66, .os 101 2 0 3), (67, intD 3), (68, intD 1), (9, .pt 102 0 0 0), (73, .i (.sl (s.got.map encM))), (74, intD s.got.length), (75, intD j)] [(100, .box ((encSt { s with chs := C, sent := A, got := B, acks := D }).map .i)), (101, .arr 2 [[.sl (s.sent.map encM), .sl (A.map encM)], [.sl (s.got.map encM), .sl (B.map encM)], [.sl (s.acks.map encM), .sl (D.map encM)]]), (102, .box [.i (.sl (s.got.map encM)), .i (.sl (B.map encM))])]) (fun j => s.got.length - j) 0 (Nat.zero_le _) ?_ ?_
          · exact le_ok [] [(100, 100), (101, 101), (102, 4330)]
          · rintro j hj RL2 hL2
            rw [stOf_eq]
            by_cases h' : j < s.got.length
            · have s0 := get_lt (f := encM) h'
              have k1 := kg _ (List.getElem_mem h')
              have c1 := has_A B s.got[j].ch s.got[j].seq (by omega)
              have b2 := fun σ' => bk [] [(100, 100), (101, 101), (102, 102)] (hL2 (j + 1) σ' h')
              clear hL2 b1 ks kg ka c2
              rw [hasM_get] at c1
              generalize s.got[j] = m at *
              by_cases ho : m.ch = own
              · clear k1
                generalize (match getM B m.ch m.seq with | some m => (m.dg, true) | none => ([], false) : List UInt8 × Bool) = T at *
                exact wkl trivial
              · rw [k1 ho] at c1
                simp only at c1
                clear k1
                exact wkl trivial
            · clear hL2 ks kg ka c2
              exact wkl trivial
        | 2, _ =>
          have b1 := fun σ' => b1 σ' (by omega)
          refine wkl ?_
          clear hR; intro hR
          refine W_loopR (ι := Nat) (fun j => j ≤ s.acks.length) (fun j => stOf [(2, .rp (encSt s) 0), (3, .rp [.s (.int .i64 own)] 0), (4, .pt 100 0 0 0), (66, .os 101 2 0 3), (67, intD 3), (68, intD 2), (9, .pt 102 0 0 0), (73, .i (.sl (s.acks.map encM))), (74, intD s.acks.length), (75, intD j)] [(100, .box ((encSt { s with chs := C, sent := A, got := B, acks := D }).map .i)), (101, .arr 2 [[.sl (s.sent.map encM), .sl (A.map encM)], [.sl (s.got.map encM), .sl (B.map encM)], [.sl (s.acks.map encM), .sl (D.map encM)]]), (102, .box [.i (.sl (s.acks.map encM)), .i (.sl (D.map encM))])]) (fun j => s.acks.length - j) 0 (Nat.zero_le _) ?_ ?_
          · exact le_ok [] [(100, 100), (101, 101), (102, 4330)]
          · rintro j hj RL2 hL2
            rw [stOf_eq]
            by_cases h' : j < s.acks.length
            · have s0 := get_lt (f := encM) h'
              have k1 := ka _ (List.getElem_mem h')
              have c1 := has_A D s.acks[j].ch s.acks[j].seq (by omega)
              have b2 := fun σ' => bk [] [(100, 100), (101, 101), (102, 102)] (hL2 (j + 1) σ' h')
              clear hL2 b1 ks kg ka c2
              rw [hasM_get] at c1
              generalize s.acks[j] = m at *
              by_cases ho : m.ch = own
              · clear k1
                generalize (match getM D m.ch m.seq with | some m => (m.dg, true) | none => ([], false) : List UInt8 × Bool) = T at *
                exact wkl trivial
              · rw [k1 ho] at c1
                simp only at c1
                clear k1
                exact wkl trivial
            · clear hL2 ks kg ka c2
              exact wkl trivial
        | 3, _ =>
          clear b1 ks kg ka
          exact wkl trivial
end Go.Proofs.YtmclpbcipkdmcaaDoor
