/- landlaw10.one, alive; the law ChansGo: the walk. -/
import Derived.Test.YtmclpbcipkdmcaaDoorSt1
import Derived.Test.YtmclpbcipkdmcaaDoorChB
import Derived.Test.YtmclpbcipkdmcaaDoorChL
import Derived.Test.YtmclpbcipkdmcaaDoorRSt
import Derived.Test.YtmclpbcipkdmcaaDoorDecSt
import Derived.Test.YtmclpbcipkdmcaaDoorBoxes
set_option linter.all false
namespace Go.Abs
theorem bs_six {P : Program} {t e : Nat} (h : undOf P t = some (.slice e)) (hs : szOf P e = some 1) (hz : (zeroOf P e).map (·.cells.size) = some 1) (id : Nat) (H : Nat → Ob) (f0 f1 f2 f3 f4 f5 : FuncId) (c0 c1 c2 c3 c4 c5 : List D) :
    bsX P t 6 (some [(0, [.fn f0 c0]), (1, [.fn f1 c1]), (2, [.fn f2 c2]), (3, [.fn f3 c3]), (4, [.fn f4 c4]), (5, [.fn f5 c5])]) H .fresh id = some (.bs id 0 6, upd H id (.box [.fn f0 c0, .fn f1 c1, .fn f2 c2, .fn f3 c3, .fn f4 c4, .fn f5 c5])) := by
  rw [bs_gen h hs hz (by omega) rfl (by simp [D.one])]; rfl
end Go.Abs
namespace Go.Proofs.YtmclpbcipkdmcaaDoor
open Go Go.Abs Go.RowKit Go.Proofs.YtmclpbcipkdmcaaDoor.Ty

set_option maxHeartbeats 32000000
set_option maxRecDepth 20000
theorem one10_A : PureD Tryd.prog 57 [] (stateD st1) := by
  refine hide_r fun R hR => ?_
  have hd := d32_map
  unfold st1 at hR
  refine callD_W 10 Tryd.func57 rfl rfl rfl (fun _ _ => rfl) ?_
  exact wkl trivial
def st3 : StateD := { st1 with cns := [⟨3, 0, 0, 0⟩] }
theorem st3_sm : StSm st3 := ⟨by decide, by intro c hc; simp [st3, st1] at hc; subst hc; exact ⟨by decide, by intro k hk; simp at hk; subst hk; exact ⟨by decide, by decide⟩⟩, by decide, by decide, by decide, by decide, by decide, by intro m hm; simp [st3, st1] at hm, by decide⟩
theorem alive10_A : PureD Tryd.prog 17 [] (boolD true) := by
  refine hide_r fun R hR => ?_
  have c1 := one10_A
  have c2 := initch_A st3 st3_sm 0 true
  rw [show initCh st3 0 true = ({ st3 with chs := [⟨1, true, 0, -1, 1, 1, 1⟩] }, 0, 0) by kernel_rfl] at c2
  simp only [st3] at c2
  generalize st1 = s at *
  refine callD_W 34 Tryd.func17 rfl rfl rfl (fun _ _ => rfl) ?_
  exact wkl trivial
def shI (w : ShownD) : List I := [.s (.int .i64 w.h), .s (.int .i64 w.p.i), .s (.int .i64 w.p.n), bI w.p.k, bI w.p.v, bbI w.p.path, .s (.bool w.g.hl), .s (.bool w.g.hr), .s (.int .i64 w.g.left.i), .s (.int .i64 w.g.left.n), bI w.g.left.k, bI w.g.left.v, bbI w.g.left.path, .s (.int .i64 w.g.right.i), .s (.int .i64 w.g.right.n), bI w.g.right.k, bI w.g.right.v, bbI w.g.right.path]
attribute [simp, go_sem] shI
section
variable (s : StateD) (hs : StSm s) (pos : Int) (o : Bool) (other : Int) (w : ShownD)
def resG : Nat → StateD × Int
  | 0 => ((initCh s pos o).1, (initCh s pos o).2.2)
  | 1 => ((tryCh s pos o other w).1, (tryCh s pos o other w).2.2)
  | 2 => ((ackCh s pos other w).1, (ackCh s pos other w).2)
  | 3 => ((confCh 2 3 s pos w).1, (confCh 2 3 s pos w).2)
  | 4 => ((closeCh s pos).1, (closeCh s pos).2)
  | _ => ((confCh 3 4 s pos w).1, (confCh 3 4 s pos w).2)
def accG : Nat → List StateD
  | 0 => []
  | k + 1 => accG k ++ (if (resG s pos o other w k).2 = 0 then [(resG s pos o other w k).1] else [])
theorem accG_ok : ∀ k, ∀ t ∈ accG s pos o other w k, ChStep s pos t
  | 0, t, h => by simp [accG] at h
  | k + 1, t, h => by
    rw [accG, List.mem_append] at h
    rcases h with h | h
    · exact accG_ok k t h
    · split at h
      · rename_i h0
        simp only [List.mem_singleton] at h
        subst h
        match k, h0 with
        | 0, h0 => exact (initCh_zero h0 pos).1
        | 1, h0 => exact (tryCh_zero h0 pos).1
        | 2, h0 => exact ackCh_zero h0
        | 3, h0 => exact confCh_zero (by decide) h0
        | 4, h0 => exact closeCh_zero h0
        | k + 5, h0 => exact confCh_zero (by decide) h0
      · simp at h
include hs
theorem go1_A : CallD Tryd.prog 18 (pts (List.range' 0 3)) (hB [(encSt s).map .i, [.i (.s (.int .i64 pos))], [.i (.s (.bool o))]]) (.tup [stateD (resG s pos o other w 0).1, intD (resG s pos o other w 0).2]) (hB [(encSt s).map .i, [.i (.s (.int .i64 pos))], [.i (.s (.bool o))]]) := by
  rw [show hB [(encSt s).map .i, [.i (.s (.int .i64 pos))], [.i (.s (.bool o))]] = hF [(0, .box ((encSt s).map .i)), (1, .box ([.i (.s (.int .i64 pos))])), (2, .box ([.i (.s (.bool o))]))] from by funext i; match i with | 0 => rfl | 1 => rfl | 2 => rfl | _ + 3 => rfl]
  show CallD _ _ [.pt 0 0 0 0, .pt 1 0 0 0, .pt 2 0 0 0] _ _ _
  refine hide_c fun R R' hR hR' => ?_
  rw [← hOf_hF] at hR'
  have c1 := initch_A s hs pos o
  simp only [resG] at hR
  generalize initCh s pos o = A at *
  have d1 : SrcIs [] [] := ⟨trivial⟩
  obtain ⟨rfl⟩ := hR
  obtain ⟨rfl⟩ := hR'
  clear hs
  refine callD_W 18 Tryd.func18 rfl rfl rfl (fun o ho => by simp [hF, lk, show o ≠ 0 by omega, show o ≠ 1 by omega, show o ≠ 2 by omega, show o ≠ 3 by omega, show o ≠ 4 by omega, show o ≠ 5 by omega]) ?_
  exact wkl trivial
theorem go2_A : CallD Tryd.prog 20 (pts (List.range' 0 5)) (hB [(encSt s).map .i, [.i (.s (.int .i64 pos))], [.i (.s (.bool o))], [.i (.s (.int .i64 other))], (shI w).map .i]) (.tup [stateD (resG s pos o other w 1).1, intD (resG s pos o other w 1).2]) (hB [(encSt s).map .i, [.i (.s (.int .i64 pos))], [.i (.s (.bool o))], [.i (.s (.int .i64 other))], (shI w).map .i]) := by
  rw [show hB [(encSt s).map .i, [.i (.s (.int .i64 pos))], [.i (.s (.bool o))], [.i (.s (.int .i64 other))], (shI w).map .i] = hF [(0, .box ((encSt s).map .i)), (1, .box ([.i (.s (.int .i64 pos))])), (2, .box ([.i (.s (.bool o))])), (3, .box ([.i (.s (.int .i64 other))])), (4, .box ((shI w).map .i))] from by funext i; match i with | 0 => rfl | 1 => rfl | 2 => rfl | 3 => rfl | 4 => rfl | _ + 5 => rfl]
  show CallD _ _ [.pt 0 0 0 0, .pt 1 0 0 0, .pt 2 0 0 0, .pt 3 0 0 0, .pt 4 0 0 0] _ _ _
  refine hide_c fun R R' hR hR' => ?_
  rw [← hOf_hF] at hR'
  have c1 := trych_A s hs pos o other w
  simp only [resG] at hR
  generalize tryCh s pos o other w = A at *
  have d1 : SrcIs [] [] := ⟨trivial⟩
  obtain ⟨rfl⟩ := hR
  obtain ⟨rfl⟩ := hR'
  clear hs
  refine callD_W 22 Tryd.func20 rfl rfl rfl (fun o ho => by simp [hF, lk, show o ≠ 0 by omega, show o ≠ 1 by omega, show o ≠ 2 by omega, show o ≠ 3 by omega, show o ≠ 4 by omega, show o ≠ 5 by omega]) ?_
  exact wkl trivial
theorem go3_A : CallD Tryd.prog 22 (pts (List.range' 0 4)) (hB [(encSt s).map .i, [.i (.s (.int .i64 pos))], [.i (.s (.int .i64 other))], (shI w).map .i]) (.tup [stateD (resG s pos o other w 2).1, intD (resG s pos o other w 2).2]) (hB [(encSt s).map .i, [.i (.s (.int .i64 pos))], [.i (.s (.int .i64 other))], (shI w).map .i]) := by
  rw [show hB [(encSt s).map .i, [.i (.s (.int .i64 pos))], [.i (.s (.int .i64 other))], (shI w).map .i] = hF [(0, .box ((encSt s).map .i)), (1, .box ([.i (.s (.int .i64 pos))])), (2, .box ([.i (.s (.int .i64 other))])), (3, .box ((shI w).map .i))] from by funext i; match i with | 0 => rfl | 1 => rfl | 2 => rfl | 3 => rfl | _ + 4 => rfl]
  show CallD _ _ [.pt 0 0 0 0, .pt 1 0 0 0, .pt 2 0 0 0, .pt 3 0 0 0] _ _ _
  refine hide_c fun R R' hR hR' => ?_
  rw [← hOf_hF] at hR'
  have c1 := ackch_A s hs pos other w
  simp only [resG] at hR
  generalize ackCh s pos other w = A at *
  have d1 : SrcIs [] [] := ⟨trivial⟩
  obtain ⟨rfl⟩ := hR
  obtain ⟨rfl⟩ := hR'
  clear hs
  refine callD_W 13 Tryd.func22 rfl rfl rfl (fun o ho => by simp [hF, lk, show o ≠ 0 by omega, show o ≠ 1 by omega, show o ≠ 2 by omega, show o ≠ 3 by omega, show o ≠ 4 by omega, show o ≠ 5 by omega]) ?_
  exact wkl trivial
theorem go4_A : CallD Tryd.prog 24 (pts (List.range' 0 3)) (hB [(encSt s).map .i, [.i (.s (.int .i64 pos))], (shI w).map .i]) (.tup [stateD (resG s pos o other w 3).1, intD (resG s pos o other w 3).2]) (hB [(encSt s).map .i, [.i (.s (.int .i64 pos))], (shI w).map .i]) := by
  rw [show hB [(encSt s).map .i, [.i (.s (.int .i64 pos))], (shI w).map .i] = hF [(0, .box ((encSt s).map .i)), (1, .box ([.i (.s (.int .i64 pos))])), (2, .box ((shI w).map .i))] from by funext i; match i with | 0 => rfl | 1 => rfl | 2 => rfl | _ + 3 => rfl]
  show CallD _ _ [.pt 0 0 0 0, .pt 1 0 0 0, .pt 2 0 0 0] _ _ _
  refine hide_c fun R R' hR hR' => ?_
  rw [← hOf_hF] at hR'
  have c1 := confch_A s hs pos w
  simp only [resG] at hR
  generalize confCh 2 3 s pos w = A at *
  have d1 : SrcIs [] [] := ⟨trivial⟩
  obtain ⟨rfl⟩ := hR
  obtain ⟨rfl⟩ := hR'
  clear hs
  refine callD_W 11 Tryd.func24 rfl rfl rfl (fun o ho => by simp [hF, lk, show o ≠ 0 by omega, show o ≠ 1 by omega, show o ≠ 2 by omega, show o ≠ 3 by omega, show o ≠ 4 by omega, show o ≠ 5 by omega]) ?_
  exact wkl trivial
theorem go5_A : CallD Tryd.prog 26 (pts (List.range' 0 2)) (hB [(encSt s).map .i, [.i (.s (.int .i64 pos))]]) (.tup [stateD (resG s pos o other w 4).1, intD (resG s pos o other w 4).2]) (hB [(encSt s).map .i, [.i (.s (.int .i64 pos))]]) := by
  rw [show hB [(encSt s).map .i, [.i (.s (.int .i64 pos))]] = hF [(0, .box ((encSt s).map .i)), (1, .box ([.i (.s (.int .i64 pos))]))] from by funext i; match i with | 0 => rfl | 1 => rfl | _ + 2 => rfl]
  show CallD _ _ [.pt 0 0 0 0, .pt 1 0 0 0] _ _ _
  refine hide_c fun R R' hR hR' => ?_
  rw [← hOf_hF] at hR'
  have c1 := closech_A s hs pos
  simp only [resG] at hR
  generalize closeCh s pos = A at *
  have d1 : SrcIs [] [] := ⟨trivial⟩
  obtain ⟨rfl⟩ := hR
  obtain ⟨rfl⟩ := hR'
  clear hs
  refine callD_W 9 Tryd.func26 rfl rfl rfl (fun o ho => by simp [hF, lk, show o ≠ 0 by omega, show o ≠ 1 by omega, show o ≠ 2 by omega, show o ≠ 3 by omega, show o ≠ 4 by omega, show o ≠ 5 by omega]) ?_
  exact wkl trivial
theorem go6_A : CallD Tryd.prog 28 (pts (List.range' 0 3)) (hB [(encSt s).map .i, [.i (.s (.int .i64 pos))], (shI w).map .i]) (.tup [stateD (resG s pos o other w 5).1, intD (resG s pos o other w 5).2]) (hB [(encSt s).map .i, [.i (.s (.int .i64 pos))], (shI w).map .i]) := by
  rw [show hB [(encSt s).map .i, [.i (.s (.int .i64 pos))], (shI w).map .i] = hF [(0, .box ((encSt s).map .i)), (1, .box ([.i (.s (.int .i64 pos))])), (2, .box ((shI w).map .i))] from by funext i; match i with | 0 => rfl | 1 => rfl | 2 => rfl | _ + 3 => rfl]
  show CallD _ _ [.pt 0 0 0 0, .pt 1 0 0 0, .pt 2 0 0 0] _ _ _
  refine hide_c fun R R' hR hR' => ?_
  rw [← hOf_hF] at hR'
  have c1 := closedch_A s hs pos w
  simp only [resG] at hR
  generalize confCh 3 4 s pos w = A at *
  have d1 : SrcIs [] [] := ⟨trivial⟩
  obtain ⟨rfl⟩ := hR
  obtain ⟨rfl⟩ := hR'
  clear hs
  refine callD_W 11 Tryd.func28 rfl rfl rfl (fun o ho => by simp [hF, lk, show o ≠ 0 by omega, show o ≠ 1 by omega, show o ≠ 2 by omega, show o ≠ 3 by omega, show o ≠ 4 by omega, show o ≠ 5 by omega]) ?_
  exact wkl trivial
end
theorem walk_ChansGo (y0 : List I) (s : StateD) (e0 : y0 = encSt s ∧ ∀ p ∈ s.pus, p.n < 18446744073709551616) (y1 : I) (pos : Int) (e1 : y1 = .s (.int .i64 pos) ∧ (Lit.int .i64 pos).wf = true) (y2 : I) (o : Bool) (e2 : y2 = .s (.bool o))
    (y3 : I) (other : Int) (e3 : y3 = .s (.int .i64 other) ∧ (Lit.int .i64 other).wf = true) (y4 : List I) (w : ShownD) (e4 : y4 = encShI w)
    (hb : bkL y0 + bkI y1 + bkI y2 + bkI y3 + bkL y4 ≤ 1048576) :
    ∃ Ds, PureD Tryd.prog 4 Ds (.i (.s (.bool true))) ∧ Ds = [.agg (y0.map .i), .i y1, .i y2, .i y3, .agg (y4.map .i)] := by
  obtain ⟨rfl, _⟩ := e0
  obtain ⟨rfl, _⟩ := e1
  subst e2
  obtain ⟨rfl, _⟩ := e3
  subst e4
  refine ⟨_, ?_, rfl⟩
  rw [st_agg, sh_agg]
  have hs := st_sm (s := s) (n := 1048576) (by omega) (by omega)
  clear hb
  refine hide_r fun R hR => ?_
  have c1 := alive10_A
  have hL := accG_ok s pos o other w 6
  have hlen := hs.chs
  have r1 := bs_six (P := Tryd.prog) (t := 55) (e := 52) (by kernel_rfl) (by kernel_rfl) (by kernel_rfl)
  refine callD_W 126 Tryd.func4 rfl rfl rfl (fun _ _ => rfl) ?_
  refine wkl ?_
  clear hR c1
  intro hR
  refine W_loopR (ι := Nat) (fun k => k ≤ 6) (fun k => stOf [(5, .pt 100 0 0 0), (6, .pt 101 0 0 0), (29, .bs 105 0 6), (30, intD 6), (31, intD k), (11, .os 106 10 0 (accG s pos o other w k).length)]
    [(100, .box ((encSt s).map .i)), (101, .box [.i (.s (.int .i64 pos))]), (102, .box [.i (.s (.bool o))]), (103, .box [.i (.s (.int .i64 other))]), (104, .box ((shI w).map .i)),
     (105, .box [.fn 18 [.pt 100 0 0 0, .pt 101 0 0 0, .pt 102 0 0 0], .fn 20 [.pt 100 0 0 0, .pt 101 0 0 0, .pt 102 0 0 0, .pt 103 0 0 0, .pt 104 0 0 0], .fn 22 [.pt 100 0 0 0, .pt 101 0 0 0, .pt 103 0 0 0, .pt 104 0 0 0], .fn 24 [.pt 100 0 0 0, .pt 101 0 0 0, .pt 104 0 0 0], .fn 26 [.pt 100 0 0 0, .pt 101 0 0 0], .fn 28 [.pt 100 0 0 0, .pt 101 0 0 0, .pt 104 0 0 0]]),
     (106, .arr 10 ((accG s pos o other w k).map encSt))]) (fun k => 6 - k) 0 (Nat.zero_le _) ?_ ?_
  · have a0 : accG s pos o other w 0 = [] := rfl
    exact le_ok [] [(100, 1000), (101, 1001), (102, 1002), (103, 1003), (104, 1004), (105, 2030)]
  · rintro k hk RL hL1
    rw [stOf_eq]
    have hacc : ∀ k, (accG s pos o other w k).length ≤ k := fun k => by
      induction k with
      | zero => simp [accG]
      | succ k ih => rw [accG, List.length_append]; split <;> simp <;> omega
    have b0 := fun σ' (h : k + 1 ≤ 6) => bk [] [(100, 100), (101, 101), (102, 102), (103, 103), (104, 104), (105, 105), (106, 3307)] (hL1 (k + 1) σ' h)
    have b00 := fun σ' (h : k + 1 ≤ 6) => bk [] [(100, 100), (101, 101), (102, 102), (103, 103), (104, 104), (105, 105), (106, 106)] (hL1 (k + 1) σ' h)
    clear hL1 r1
    match k, hk with
    | 0, _ =>
      have g1 := go1_A s hs pos o other w
      have ha := hacc 0
      clear hacc hs hL
      by_cases h : (resG s pos o other w 0).2 = 0
      · have b1 := fun σ' => b0 σ' (by omega)
        rw [accG, if_pos h] at b1
        rw [h] at g1
        clear b0 b00 h
        generalize (resG s pos o other w 0).1 = T at *
        generalize accG s pos o other w 0 = L at *
        refine wkl ?_
        clear hR; intro hR
        refine Call_boxes [100, 101, 102] (css := [(encSt s).map .i, [.i (.s (.int .i64 pos))], [.i (.s (.bool o))]]) g1 (by decide) (by simp [boxesOk, upd, hO, lk]) rfl (fun H' s' => by simp [cv, cvT, cv1, cvL, cv0]) rfl ?_
        clear g1
        exact wkl trivial
      · have b1 := fun σ' => b00 σ' (by omega)
        rw [accG, if_neg h, List.append_nil] at b1
        clear b0 b00
        generalize resG s pos o other w 0 = T at *
        generalize accG s pos o other w 0 = L at *
        refine wkl ?_
        clear hR; intro hR
        refine Call_boxes [100, 101, 102] (css := [(encSt s).map .i, [.i (.s (.int .i64 pos))], [.i (.s (.bool o))]]) g1 (by decide) (by simp [boxesOk, upd, hO, lk]) rfl (fun H' s' => by simp [cv, cvT, cv1, cvL, cv0]) rfl ?_
        clear g1
        exact wkl trivial
    | 1, _ =>
      have g1 := go2_A s hs pos o other w
      have ha := hacc 1
      clear hacc hs hL
      by_cases h : (resG s pos o other w 1).2 = 0
      · have b1 := fun σ' => b0 σ' (by omega)
        rw [accG, if_pos h] at b1
        rw [h] at g1
        clear b0 b00 h
        generalize (resG s pos o other w 1).1 = T at *
        generalize accG s pos o other w 1 = L at *
        refine wkl ?_
        clear hR; intro hR
        refine Call_boxes [100, 101, 102, 103, 104] (css := [(encSt s).map .i, [.i (.s (.int .i64 pos))], [.i (.s (.bool o))], [.i (.s (.int .i64 other))], (shI w).map .i]) g1 (by decide) (by simp [boxesOk, upd, hO, lk]) rfl (fun H' s' => by simp [cv, cvT, cv1, cvL, cv0]) rfl ?_
        clear g1
        exact wkl trivial
      · have b1 := fun σ' => b00 σ' (by omega)
        rw [accG, if_neg h, List.append_nil] at b1
        clear b0 b00
        generalize resG s pos o other w 1 = T at *
        generalize accG s pos o other w 1 = L at *
        refine wkl ?_
        clear hR; intro hR
        refine Call_boxes [100, 101, 102, 103, 104] (css := [(encSt s).map .i, [.i (.s (.int .i64 pos))], [.i (.s (.bool o))], [.i (.s (.int .i64 other))], (shI w).map .i]) g1 (by decide) (by simp [boxesOk, upd, hO, lk]) rfl (fun H' s' => by simp [cv, cvT, cv1, cvL, cv0]) rfl ?_
        clear g1
        exact wkl trivial
    | 2, _ =>
      have g1 := go3_A s hs pos o other w
      have ha := hacc 2
      clear hacc hs hL
      by_cases h : (resG s pos o other w 2).2 = 0
      · have b1 := fun σ' => b0 σ' (by omega)
        rw [accG, if_pos h] at b1
        rw [h] at g1
        clear b0 b00 h
        generalize (resG s pos o other w 2).1 = T at *
        generalize accG s pos o other w 2 = L at *
        refine wkl ?_
        clear hR; intro hR
        refine Call_boxes [100, 101, 103, 104] (css := [(encSt s).map .i, [.i (.s (.int .i64 pos))], [.i (.s (.int .i64 other))], (shI w).map .i]) g1 (by decide) (by simp [boxesOk, upd, hO, lk]) rfl (fun H' s' => by simp [cv, cvT, cv1, cvL, cv0]) rfl ?_
        clear g1
        exact wkl trivial
      · have b1 := fun σ' => b00 σ' (by omega)
        rw [accG, if_neg h, List.append_nil] at b1
        clear b0 b00
        generalize resG s pos o other w 2 = T at *
        generalize accG s pos o other w 2 = L at *
        refine wkl ?_
        clear hR; intro hR
        refine Call_boxes [100, 101, 103, 104] (css := [(encSt s).map .i, [.i (.s (.int .i64 pos))], [.i (.s (.int .i64 other))], (shI w).map .i]) g1 (by decide) (by simp [boxesOk, upd, hO, lk]) rfl (fun H' s' => by simp [cv, cvT, cv1, cvL, cv0]) rfl ?_
        clear g1
        exact wkl trivial
    | 3, _ =>
      have g1 := go4_A s hs pos o other w
      have ha := hacc 3
      clear hacc hs hL
      by_cases h : (resG s pos o other w 3).2 = 0
      · have b1 := fun σ' => b0 σ' (by omega)
        rw [accG, if_pos h] at b1
        rw [h] at g1
        clear b0 b00 h
        generalize (resG s pos o other w 3).1 = T at *
        generalize accG s pos o other w 3 = L at *
        refine wkl ?_
        clear hR; intro hR
        refine Call_boxes [100, 101, 104] (css := [(encSt s).map .i, [.i (.s (.int .i64 pos))], (shI w).map .i]) g1 (by decide) (by simp [boxesOk, upd, hO, lk]) rfl (fun H' s' => by simp [cv, cvT, cv1, cvL, cv0]) rfl ?_
        clear g1
        exact wkl trivial
      · have b1 := fun σ' => b00 σ' (by omega)
        rw [accG, if_neg h, List.append_nil] at b1
        clear b0 b00
        generalize resG s pos o other w 3 = T at *
        generalize accG s pos o other w 3 = L at *
        refine wkl ?_
        clear hR; intro hR
        refine Call_boxes [100, 101, 104] (css := [(encSt s).map .i, [.i (.s (.int .i64 pos))], (shI w).map .i]) g1 (by decide) (by simp [boxesOk, upd, hO, lk]) rfl (fun H' s' => by simp [cv, cvT, cv1, cvL, cv0]) rfl ?_
        clear g1
        exact wkl trivial
    | 4, _ =>
      have g1 := go5_A s hs pos o other w
      have ha := hacc 4
      clear hacc hs hL
      by_cases h : (resG s pos o other w 4).2 = 0
      · have b1 := fun σ' => b0 σ' (by omega)
        rw [accG, if_pos h] at b1
        rw [h] at g1
        clear b0 b00 h
        generalize (resG s pos o other w 4).1 = T at *
        generalize accG s pos o other w 4 = L at *
        refine wkl ?_
        clear hR; intro hR
        refine Call_boxes [100, 101] (css := [(encSt s).map .i, [.i (.s (.int .i64 pos))]]) g1 (by decide) (by simp [boxesOk, upd, hO, lk]) rfl (fun H' s' => by simp [cv, cvT, cv1, cvL, cv0]) rfl ?_
        clear g1
        exact wkl trivial
      · have b1 := fun σ' => b00 σ' (by omega)
        rw [accG, if_neg h, List.append_nil] at b1
        clear b0 b00
        generalize resG s pos o other w 4 = T at *
        generalize accG s pos o other w 4 = L at *
        refine wkl ?_
        clear hR; intro hR
        refine Call_boxes [100, 101] (css := [(encSt s).map .i, [.i (.s (.int .i64 pos))]]) g1 (by decide) (by simp [boxesOk, upd, hO, lk]) rfl (fun H' s' => by simp [cv, cvT, cv1, cvL, cv0]) rfl ?_
        clear g1
        exact wkl trivial
    | 5, _ =>
      have g1 := go6_A s hs pos o other w
      have ha := hacc 5
      clear hacc hs hL
      by_cases h : (resG s pos o other w 5).2 = 0
      · have b1 := fun σ' => b0 σ' (by omega)
        rw [accG, if_pos h] at b1
        rw [h] at g1
        clear b0 b00 h
        generalize (resG s pos o other w 5).1 = T at *
        generalize accG s pos o other w 5 = L at *
        refine wkl ?_
        clear hR; intro hR
        refine Call_boxes [100, 101, 104] (css := [(encSt s).map .i, [.i (.s (.int .i64 pos))], (shI w).map .i]) g1 (by decide) (by simp [boxesOk, upd, hO, lk]) rfl (fun H' s' => by simp [cv, cvT, cv1, cvL, cv0]) rfl ?_
        clear g1
        exact wkl trivial
      · have b1 := fun σ' => b00 σ' (by omega)
        rw [accG, if_neg h, List.append_nil] at b1
        clear b0 b00
        generalize resG s pos o other w 5 = T at *
        generalize accG s pos o other w 5 = L at *
        refine wkl ?_
        clear hR; intro hR
        refine Call_boxes [100, 101, 104] (css := [(encSt s).map .i, [.i (.s (.int .i64 pos))], (shI w).map .i]) g1 (by decide) (by simp [boxesOk, upd, hO, lk]) rfl (fun H' s' => by simp [cv, cvT, cv1, cvL, cv0]) rfl ?_
        clear g1
        exact wkl trivial
    | 6, _ =>
      clear b0 b00
      have ha := hacc 6
      clear hacc
      generalize accG s pos o other w 6 = L at *
      refine wkl ?_
      clear hR; intro hR
      refine W_loopR (ι := Nat) (fun i => i ≤ L.length) (fun i => stOf [(5, .pt 100 0 0 0), (6, .pt 101 0 0 0), (47, .i (.sl (L.map encSt))), (48, intD L.length), (49, intD i)] [(100, .box ((encSt s).map .i)), (101, .box [.i (.s (.int .i64 pos))])]) (fun i => L.length - i) 0 (Nat.zero_le _) ?_ ?_
      · exact le_ok [106] [(100, 100), (101, 101)]
      · rintro i hi RL hL1
        rw [stOf_eq]
        by_cases h : i < L.length
        · have s0 := get_lt (f := encSt) h
          have ht := hL _ (List.getElem_mem h)
          have b1 := fun σ' => bk [] [(100, 100), (101, 101)] (hL1 (i + 1) σ' h)
          clear hL hL1
          generalize L[i] = t at *
          obtain ⟨X, rfl⟩ : ∃ X, t = { s with chs := X } := ⟨t.chs, by have := ht.same; cases t; cases s; simp only [StateD.mk.injEq] at this ⊢; simp [this]⟩
          have c1 := swrong_A _ ht.ok.sm
          rw [wrongS_zero.2 ht.ok] at c1
          have c2 := rsameS_A s hs
          have hk := ht.keep
          have hxl := ht.len
          have hx8 := ht.ok.lch
          simp only at hk hxl hx8
          clear ht hs
          refine wkl ?_
          clear hR c1; intro hR
          refine W_loopR (ι := Nat) (fun j => j ≤ s.chs.length) (fun j => stOf [(5, .pt 100 0 0 0), (6, .pt 101 0 0 0), (17, .pt 107 0 0 0), (47, .i (.sl (L.map encSt))), (48, intD L.length), (49, intD i), (66, .i (.sl (s.chs.map encCh))), (67, intD s.chs.length), (68, intD j)] [(100, .box ((encSt s).map .i)), (101, .box [.i (.s (.int .i64 pos))]), (107, .box ((encSt { s with chs := X }).map .i))]) (fun j => s.chs.length - j) 0 (Nat.zero_le _) ?_ ?_
          · exact le_ok [] [(100, 100), (101, 101), (107, 4330)]
          · rintro j hj RL2 hL2
            rw [stOf_eq]
            by_cases h' : j < s.chs.length
            · have s1 := get_lt (f := encCh) h'
              have hX : j < X.length := by omega
              have s2 := get_lt (f := encCh) hX
              obtain ⟨k1, k2, k3, k4⟩ := hk j h' hX
              have b2 := fun σ' => bk [] [(100, 100), (101, 101), (107, 107)] (hL2 (j + 1) σ' h')
              clear hL2 hk b1 c2 s0
              by_cases q : s.chs[j].st = 4 ∨ ¬ (j : Int) = pos
              · rw [k4 q] at s2
                clear k1 k2 k3 k4
                generalize s.chs[j] = x at *
                have q1 : (x.ord != x.ord) = false := by cases x.ord <;> rfl
                have q2 : (!decide (x.ord = x.ord)) = false := by simp
                have q3 : (!(x.ord == x.ord)) = false := by cases x.ord <;> rfl
                exact wkl trivial
              · clear k4
                obtain ⟨q1, q2⟩ := not_or.1 q
                have q2 := Classical.not_not.1 q2
                clear q
                subst q2
                generalize s.chs[j] = x at *
                generalize X[j] = y at *
                have q3 : (x.ord != x.ord) = false := by cases x.ord <;> rfl
                have q4 : (!decide (x.ord = x.ord)) = false := by simp
                have q5 : (!(x.ord == x.ord)) = false := by cases x.ord <;> rfl
                exact wkl trivial
            · clear hL2 hk s0
              exact wkl trivial
        · clear hL hL1
          exact wkl trivial
end Go.Proofs.YtmclpbcipkdmcaaDoor
