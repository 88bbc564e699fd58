/- Walk of the digest's writer: bytes come in, whole blocks are stirred in. -/
import Derived.Test.YtmclpbcipkdmcaaDoorShaB
set_option linter.all false
namespace Go.Proofs.YtmclpbcipkdmcaaDoor
open Go.RowKit

theorem OwnS.open' {B size : Nat} {w : World} {v : Value} {cs : List Value} (h : OwnS B size w v cs) (hpos : 0 < size) : ∃ a n cap, v = .slice a n cap ∧ cs.length = n * size ∧ (0 < n → ∃ g off, a = some ⟨g, off, none⟩) ∧ n ≤ cap ∧ cap ≤ maxLen := by
  rcases h with ⟨rfl, rfl⟩ | ⟨g, off, n, cap, rfl, h2, h3, h4, h5, h6, h7, h8⟩
  · exact ⟨none, 0, 0, rfl, by simp, by omega, Nat.le_refl _, by simp [maxLen]⟩
  · exact ⟨_, n, cap, rfl, h6, fun _ => ⟨g, off, rfl⟩, h4, h5⟩

/-- a number, less whole 2^64s -/
def n64 (n : Nat) : Nat := n % 18446744073709551616
theorem n64_add (a b : Nat) : IntKind.u64.wrap ((n64 a : Int) + (b : Int)) = (n64 (a + b) : Int) := by
  simp [IntKind.wrap, IntKind.bits, IntKind.signed, n64]
/-- The writer's state in memory: block g; k blocks of M have been stirred in, the rest of M waits. -/
def StAt (B : Nat) (w : World) (g k : Nat) (M : List UInt8) : Prop :=
  ∃ rv, w.rangeAt g 0 ((blocksW V0 k M).cells ++ [rv, .int .u64 (n64 M.length : Int)]) ∧ (∀ j, j < 10 → w.frozen? ⟨g, j, none⟩ = false) ∧
    OwnS B 1 w rv (bcs (M.drop (64 * k))) ∧ rv.ownBlock ≠ some g ∧ 64 * k ≤ M.length ∧ B ≤ g ∧ g < w.heap.size
def IsSt (B : Nat) (w : World) (g : Nat) (M : List UInt8) : Prop := StAt B w g (M.length / 64) M

theorem V8.cells_length (v : V8) : v.cells.length = 8 := rfl
theorem st_cells {w : World} {g : Nat} {v : V8} {a b : Value} (h : w.rangeAt g 0 (v.cells ++ [a, b])) : w.rangeAt g 0 v.cells ∧ w.cell? ⟨g, 8, none⟩ = some a ∧ w.cell? ⟨g, 9, none⟩ = some b := by
  refine ⟨fun j u hu => ?_, by simpa using h 8 a rfl, by simpa using h 9 b rfl⟩
  exact h j u (by rw [List.getElem?_append_left (List.getElem?_eq_some_iff.1 hu).1]; exact hu)
theorem st_range {w : World} {g : Nat} {v : V8} {a b : Value} (h : w.rangeAt g 0 v.cells) (ha : w.cell? ⟨g, 8, none⟩ = some a) (hb : w.cell? ⟨g, 9, none⟩ = some b) : w.rangeAt g 0 (v.cells ++ [a, b]) := by
  intro j u hu
  rcases Nat.lt_or_ge j 8 with hj | hj
  · rw [List.getElem?_append_left (show j < v.cells.length from hj)] at hu; exact h j u hu
  · rw [List.getElem?_append_right (show v.cells.length ≤ j from hj)] at hu
    have hl : v.cells.length = 8 := rfl
    rw [hl] at hu
    match j, hj, hu with
    | 8, _, hu => simp at hu; subst hu; simpa using ha
    | 9, _, hu => simp at hu; subst hu; simpa using hb
    | j + 10, _, hu => simp [show j + 10 - 8 = j + 2 by omega] at hu

theorem OwnS.cap_end {B w g off cs} (h : OwnS B 1 w (.slice (some ⟨g, off, none⟩) 64 64) cs) : OwnS B 1 w (.slice (some ⟨g, off, none⟩) 0 0) (cs.drop 64) := by
  rcases h with ⟨h, _⟩ | ⟨g', off', n', cap', h1, h2, h3, h4, h5, h6, h7, h8⟩
  · cases h
  · injection h1 with e1 e2 e3
    injection e1 with e1
    injection e1 with e1 e4 e5
    subst e1 e2 e3 e4
    exact .inr ⟨g, _, 0, 0, rfl, h2, h3, by omega, by simp [maxLen], by simp [h6], by rw [List.drop_of_length_le (by omega)]; exact fun j u hu => by simp at hu, fun j hj => by omega⟩
theorem OwnS.setCells {B size : Nat} {w : World} {v : Value} {cs : List Value} (h : OwnS B size w v cs) (g o : Nat) (vs : List Value) (hne : v.ownBlock ≠ some g) : OwnS B size (w.setCells g o vs) v cs :=
  h.grown (grownBy_setCells w g o vs) (fun k hk e => hne (by rw [hk, ← e]))
theorem cell_set_same {w : World} {g j : Nat} {o : Value} (u : Value) (h : w.cell? ⟨g, j, none⟩ = some o) : (w.setCell ⟨g, j, none⟩ u).cell? ⟨g, j, none⟩ = some u :=
  World.cell?_setCell_same _ _ u h
theorem cell_set_other {w : World} {g j i : Nat} (u : Value) (h : i ≠ j) : (w.setCell ⟨g, j, none⟩ u).cell? ⟨g, i, none⟩ = w.cell? ⟨g, i, none⟩ :=
  World.cell?_setCell_other _ _ _ _ (fun e => h (by injection e with _ e; exact e.symm))
theorem below_setCells {B : Nat} {w w' : World} (h : Below B w w') (g o : Nat) (vs : List Value) (hg : B ≤ g) (hB : B ≤ w'.heap.size) : Below B w (w'.setCells g o vs) :=
  h.grown (grownBy_setCells w' g o vs) hB (fun k e => by cases e; exact hg)

theorem setCell_size (w : World) (a : Addr) (v : Value) : (w.setCell a v).heap.size = w.heap.size := by simp [World.setCell]
theorem st_put {B g k m2 : Nat} {M : List UInt8} {w X : World} {rv rv' : Value} (e8 : X.cell? ⟨g, 8, none⟩ = w.cell? ⟨g, 8, none⟩) (hr8 : w.cell? ⟨g, 8, none⟩ = some rv)
    (h9 : X.cell? ⟨g, 9, none⟩ = some (.int .u64 (n64 M.length : Int))) (ef : ∀ j, j < 10 → X.frozen? ⟨g, j, none⟩ = false) (ho : OwnS B 1 X rv' (bcs (M.drop (64 * k)))) (hne : rv'.ownBlock ≠ some g)
    (hr : X.rangeAt g 0 (blocksW V0 k M).cells) (hg : g < X.heap.size) (hb : Below B w X) (hl : 64 * k ≤ M.length) (hBg : B ≤ g) :
    (X.drewN m2).cell? ⟨g, 8, none⟩ = some rv ∧ (X.drewN m2).frozen? ⟨g, 8, none⟩ = false ∧ StAt B ((X.drewN m2).setCell ⟨g, 8, none⟩ rv') g k M ∧ Below B w ((X.drewN m2).setCell ⟨g, 8, none⟩ rv') := by
  have c8 := e8.trans hr8
  refine ⟨c8, ef 8 (by omega), ?_, ?_⟩
  · have hr' : (X.setCell ⟨g, 8, none⟩ rv').rangeAt g 0 (blocksW V0 k M).cells := fun j u hu => by
      have hj : j < 8 := (List.getElem?_eq_some_iff.1 hu).1
      have := hr j u hu
      rw [Nat.zero_add] at this ⊢
      rw [cell_set_other _ (by omega)]
      exact this
    have h9' : (X.setCell ⟨g, 8, none⟩ rv').cell? ⟨g, 9, none⟩ = some (.int .u64 (n64 M.length : Int)) := by rw [cell_set_other _ (by omega)]; exact h9
    have h8' := cell_set_same rv' c8
    have hst : StAt B (X.setCell ⟨g, 8, none⟩ rv') g k M :=
      ⟨rv', st_range hr' h8' h9', fun j hj => by rw [World.frozen?_setCell]; exact ef j hj, ho.setCell _ _ hne, hne, hl, hBg, by rw [setCell_size]; exact hg⟩
    exact hst
  · have := Below.setCell hb (p := ⟨g, 8, none⟩) hBg rv'
    exact this.trans (below_drewN B _ m2)

/-- One block more has been stirred in, and the rest was moved on. -/
theorem st_step {B g k q2 n2 : Nat} {M : List UInt8} {w w' : World} {rv rv' : Value} {q off : Nat} (hrv : rv = .slice (some ⟨q, off, none⟩) n2 q2)
    (hr1 : w.rangeAt g 0 (blocksW V0 k M).cells) (hr8 : w.cell? ⟨g, 8, none⟩ = some rv) (hr9 : w.cell? ⟨g, 9, none⟩ = some (.int .u64 (n64 M.length : Int)))
    (hf : ∀ j, j < 10 → w.frozen? ⟨g, j, none⟩ = false) (ho : OwnS B 1 w rv (bcs (M.drop (64 * k)))) (hrg : rv.ownBlock ≠ some g) (h64 : 64 ≤ n2) (hn2 : (M.drop (64 * k)).length = n2) (hBg : B ≤ g) (hg : g < w.heap.size)
    (hrv' : rv' = if q2 = 64 then .slice (some ⟨q, off, none⟩) (n2 - 64) (q2 - 64) else .slice (some ⟨q, off + 64, none⟩) (n2 - 64) (q2 - 64))
    (hw : WroteTo g (blockW (blocksW V0 k M) ((M.drop (64 * k)).take 64)).cells w w') :
    w'.cell? ⟨g, 8, none⟩ = some rv ∧ w'.frozen? ⟨g, 8, none⟩ = false ∧ StAt B (w'.setCell ⟨g, 8, none⟩ rv') g (k + 1) M ∧ Below B w (w'.setCell ⟨g, 8, none⟩ rv') := by
  obtain ⟨w2, m2, hB2, rfl⟩ := hw
  generalize hnew : blockW (blocksW V0 k M) ((M.drop (64 * k)).take 64) = new
  have hlen : new.cells.length = 8 := rfl
  have e8 : ∀ j, 8 ≤ j → (w2.setCells g 0 new.cells).cell? ⟨g, j, none⟩ = w.cell? ⟨g, j, none⟩ := fun j hj => by
    rw [cell_setCells_past _ _ _ _ (by rw [hlen]; exact hj), hB2.cell (p := ⟨g, j, none⟩) hg]
  have ef : ∀ j, j < 10 → (w2.setCells g 0 new.cells).frozen? ⟨g, j, none⟩ = false := fun j hj => by
    rw [World.frozen?_setCells, hB2.frozen (p := ⟨g, j, none⟩) hg]; exact hf j hj
  have hth : w2.there g 0 new.cells.length := fun j hj => by
    have hj' : j < 8 := hj
    rw [Nat.zero_add, hB2.cell (p := ⟨g, j, none⟩) hg, hB2.frozen (p := ⟨g, j, none⟩) hg]
    refine ⟨?_, hf j (by omega)⟩
    have := hr1 j _ ((blocksW V0 k M).cells_get j hj')
    rw [Nat.zero_add] at this
    rw [this]; rfl
  have hown : OwnS B 1 (w2.setCells g 0 new.cells) rv (bcs (M.drop (64 * k))) := (ho.below hB2 (Nat.le_refl _)).setCells _ _ _ hrg
  have hq : OwnS B 1 (w2.setCells g 0 new.cells) rv' (bcs (M.drop (64 * (k + 1)))) ∧ rv'.ownBlock ≠ some g := by
    have hd : bcs (M.drop (64 * (k + 1))) = (bcs (M.drop (64 * k))).drop 64 := by rw [bcs_drop, List.drop_drop]; congr 2
    subst hrv
    rw [hd, hrv']
    split
    · rename_i hq2
      subst hq2
      have : n2 = 64 := by
        rcases ho with ⟨h, _⟩ | ⟨_, _, _, _, h1, _, _, h4, _⟩
        · cases h
        · injection h1 with _ e2 e3; omega
      subst this
      exact ⟨hown.cap_end, hrg⟩
    · exact ⟨by simpa using hown.reslice h64, hrg⟩
  have hrr : (w2.setCells g 0 new.cells).rangeAt g 0 (blocksW V0 (k + 1) M).cells := by
    rw [blocksW_succ, hnew]; exact World.rangeAt_setCells_same w2 g 0 new.cells hth
  have hsz : w.heap.size ≤ (w2.setCells g 0 new.cells).heap.size := by rw [size_setCells]; exact hB2.size
  have hbb : Below B w (w2.setCells g 0 new.cells) := below_setCells (hB2.mono (by omega)) g 0 _ hBg (by have := hB2.size; omega)
  have hlast : 64 * (k + 1) ≤ M.length := by rw [List.length_drop] at hn2; omega
  clear hth hr1 hn2 hrv' ho
  generalize w2.setCells g 0 new.cells = X at *
  exact st_put (e8 8 (Nat.le_refl _)) hr8 ((e8 9 (by omega)).trans hr9) ef hq.1 hq.2 hrr (by omega) hbb hlast hBg

theorem slT_bytes : SlT Tryd.prog 29 5 1 1 := .mk' (z := .int .u8 0) (by kernel_rfl) (by kernel_rfl) (by kernel_rfl) (by decide)

set_option maxRecDepth 100000 in
set_option maxHeartbeats 400000 in
theorem write_any (B B' g : Nat) (m b : List UInt8) (bv : Value) (w : World) (hst : IsSt B w g m) (hb : IsB B' w bv b) (hne : b = [] ∨ ∀ k, bv.ownBlock = some k → k ≠ g) (hB : B ≤ w.heap.size)
    (hlen : b.length ≤ 140737488355264) :
    Calls Tryd.prog 140 #[.pointer (some ⟨g, 0, none⟩), bv] w fun e w' => e = .returned (.tuple #[]) ∧ IsSt B w' g (m ++ b) ∧ Below B w w' := by
  obtain ⟨rv, hr, hf, ho, hrg, hk, hBg, hg⟩ := hst
  obtain ⟨hr1, hr8, hr9⟩ := st_cells hr
  have f8 := hf 8 (by omega)
  have f9 := hf 9 (by omega)
  have HR := Lib.hid hr1; have HF := Lib.hid hf; have HO := Lib.hid ho; have HRG := Lib.hid hrg; have HB := Lib.hid hb; have HNE := Lib.hid hne
  have hbl : ∃ a n cap, bv = .slice a n cap ∧ n = b.length := by
    rcases hb.open with ⟨_, _, rfl, rfl⟩ | ⟨q, off, cap, rfl, _⟩
    · exact ⟨_, _, _, rfl, rfl⟩
    · exact ⟨_, _, _, rfl, rfl⟩
  obtain ⟨a, n, cap, rfl, hn⟩ := hbl
  have HN := Lib.hid hn
  have hn2 : n ≤ 140737488355264 := by omega
  clear hr hf ho hrg hb hne hn hr1
  generalize hml : (n64 m.length : Int) = ml at *
  have HML := Lib.hid hml
  clear hml
  go_enter Tryd.func140, Tryd.ntmps140
  go_wp2_with (refine wpl_append rfl _ _ rfl B 1 (cs := bcs (m.drop (64 * (m.length / 64)))) (news := bcs b) (m := b.length) slT_bytes rfl rfl ?h1 ?h2 ?h3 ?h4 ?h5 ?_)
  case h1 => exact HO.out.setCell _ _ HRG.out
  case h2 =>
    have := (IsS.setCell HB.out ⟨g, 9, none⟩ (.int .u64 (IntKind.u64.wrap (ml + ↑n))) (HNE.out.imp (fun e => by rw [e]; rfl) (fun h e => h _ e rfl))).src (P := Tryd.prog) (tx := 29) (by decide) rfl (bcs_one b)
    rw [bcs_length, Nat.div_one] at this
    exact this
  case h3 => simpa [World.setCell] using hB
  case h4 => simp [bcs_length]; omega
  case h5 => simp [bcs_length, maxLen]; omega
  intro v1 w1 ho1 hg1 hk1
  obtain ⟨a1, n1, q1, rfl, -, -, -, -⟩ := ho1.open' (by decide)
  have hs1 : w.heap.size ≤ w1.heap.size := by have := hg1.size; simpa [World.setCell] using this
  have hbg : w1.heap[g]? = (w.setCell ⟨g, 9, none⟩ (.int .u64 (IntKind.u64.wrap (ml + ↑n)))).heap[g]? := hg1.block g (by simpa [World.setCell] using hg) (fun e => HRG.out e.symm)
  have c8 : w1.cell? ⟨g, 8, none⟩ = some rv := by
    rw [World.cell?_of_block hbg]; exact (cell_set_other _ (by omega)).trans hr8
  have c9 : w1.cell? ⟨g, 9, none⟩ = some (.int .u64 (n64 (m ++ b).length : Int)) := by
    rw [World.cell?_of_block hbg, cell_set_same _ hr9, ← HML.out, HN.out, n64_add, List.length_append]
  have d8 : w1.frozen? ⟨g, 8, none⟩ = false := by
    rw [World.frozen?_of_block hbg, World.frozen?_setCell]; exact f8
  have hput := st_put (B := B) (g := g) (k := m.length / 64) (m2 := 0) (M := m ++ b) (w := w) (X := w1) (rv := rv) (rv' := .slice a1 n1 q1) (c8.trans hr8.symm) hr8 c9
    (fun j hj => by rw [World.frozen?_of_block hbg, World.frozen?_setCell]; exact HF.out j hj)
    (by rw [List.drop_append_of_le_length (by omega), bcs_append]; exact ho1)
    (fun e => (hk1 g e).elim HRG.out (fun h => by have : (w.setCell ⟨g, 9, none⟩ (.int .u64 (IntKind.u64.wrap (ml + ↑n)))).heap.size = w.heap.size := setCell_size _ _ _; omega))
    (by
      rw [blocksW_append _ _ _ _ (by omega)]
      intro j u hu
      have hj : j < 8 := (List.getElem?_eq_some_iff.1 hu).1
      rw [Nat.zero_add, World.cell?_of_block hbg, cell_set_other _ (by omega)]
      simpa using HR.out j u hu)
    (by omega)
    (((Below.refl B w).setCell (p := ⟨g, 9, none⟩) hBg _).grown hg1 (by rw [setCell_size]; exact hB) (fun k hk => (HO.out.lt k hk).1))
    (by rw [List.length_append]; omega) hBg
  have hst1 : StAt B (w1.setCell ⟨g, 8, none⟩ (.slice a1 n1 q1)) g (m.length / 64) (m ++ b) := hput.2.2.1
  have hbel1 : Below B w (w1.setCell ⟨g, 8, none⟩ (.slice a1 n1 q1)) := hput.2.2.2
  clear hput
  have HST := Lib.hid hst1
  have HBEL := Lib.hid hbel1
  have HC9 := Lib.hid c9
  clear hst1 hbel1 hbg ho1 hg1 hk1 c9
  go_wp2
  obtain ⟨W, HW⟩ : ∃ W, Hid (W = w1.setCell ⟨g, 8, none⟩ (.slice a1 n1 q1)) := ⟨_, Lib.hid rfl⟩
  rw [← HW.out]
  rw [← HW.out] at HST HBEL
  clear HW c8 d8 hr8 hr9 f8 f9
  go_loopg [] ((m ++ b).length / 64 - m.length / 64) (fun gk wr => ∃ k, k + gk = (m ++ b).length / 64 ∧ StAt B wr g k (m ++ b) ∧ Below B w wr)
  case atStart => exact ⟨m.length / 64, by rw [List.length_append]; have := Nat.div_le_div_right (c := 64) (Nat.le_add_right m.length b.length); omega, HST.out, HBEL.out⟩
  case round =>
    obtain ⟨k, hk, hst, hbel⟩ := hrel
    have HSTK := Lib.hid hst
    obtain ⟨rv2, hr, hf, ho, hrg, h64, hBg2, hg2⟩ := hst
    obtain ⟨hr1, hr8, hr9⟩ := st_cells hr
    obtain ⟨a2, n2, q2, rfl, hl2, ha2, hq2, hm2⟩ := ho.open' (by decide)
    rw [bcs_length, Nat.mul_one] at hl2
    have f8 := hf 8 (by omega)
    have HBL := Lib.hid hbel; have HK := Lib.hid hk; have HO2 := Lib.hid ho; have HR1 := Lib.hid hr1; have HF2 := Lib.hid hf; have HR9 := Lib.hid hr9; have HRG2 := Lib.hid hrg; have HL2 := Lib.hid hl2
    unfold maxLen at hm2
    clear hbel hk ho hr1 hf hr9 hr hrg hl2
    by_cases hge : 64 ≤ n2
    · obtain ⟨q, off, rfl⟩ := ha2 (by omega)
      have e1 : (64 : Int) ≤ (n2 : Int) := by omega
      have e2 : (64 : Int) ≤ (q2 : Int) := by omega
      go_wp2_with (go_at_call 152; refine (block_any (((m ++ b).drop (64 * k)).take 64) (blocksW V0 k (m ++ b)) g q off q2 64 wr hg2 ?hfz ?hl ?hb ?hc ?hcm ?hr ?hg).mono ?_)
      case hfz => exact fun j hj => HF2.out j (by omega)
      case hl => rw [List.length_take, HL2.out]; omega
      case hb => rw [List.length_take, HL2.out]; omega
      case hc => omega
      case hcm => omega
      case hr =>
        rw [← bcs_take]
        rcases HO2.out with ⟨h, _⟩ | ⟨g', off', n', cap', h1, h2, h3, h4, h5, h6, h7, h8⟩
        · cases h
        · injection h1 with e1 _ _
          injection e1 with e1
          injection e1 with e1 e4 e5
          subst e1 e4
          exact rangeAt_take h7 64
      case hg => exact HR1.out
      rintro e w2 ⟨rfl, hw2⟩
      by_cases hq64 : q2 = 64
      · have hstep := st_step rfl HR1.out hr8 HR9.out HF2.out HO2.out HRG2.out hge HL2.out hBg2 hg2 (if_pos hq64).symm hw2
        obtain ⟨s1, s2, s3, s4⟩ := hstep
        have S3 := Lib.hid s3; have S4 := Lib.hid s4
        clear s3 s4 hr8 hw2 f8
        subst hq64
        go_wp2
        go_roundg (gk - 1)
        case measure =>
          have := HK.out; have := HL2.out; rw [List.length_drop] at this; omega
        case rel =>
          have := HK.out; have hl := HL2.out; rw [List.length_drop] at hl
          have h0 : n2 - 64 = 0 := by omega
          have S3' := S3.out; have S4' := S4.out
          rw [h0] at S3' S4'
          exact ⟨k + 1, by omega, S3', HBL.out.trans S4'⟩
      · have hstep := st_step rfl HR1.out hr8 HR9.out HF2.out HO2.out HRG2.out hge HL2.out hBg2 hg2 (if_neg hq64).symm hw2
        obtain ⟨s1, s2, s3, s4⟩ := hstep
        have S3 := Lib.hid s3; have S4 := Lib.hid s4
        clear s3 s4 hr8 hw2 f8
        go_wp2
        go_roundg (gk - 1)
        case measure =>
          have := HK.out; have := HL2.out; rw [List.length_drop] at this; omega
        case rel =>
          have := HK.out; have hl := HL2.out; rw [List.length_drop] at hl
          exact ⟨k + 1, by omega, S3.out, HBL.out.trans S4.out⟩
    · have e1 : (n2 : Int) < 64 := by omega
      have e2 : ¬ (64 : Int) ≤ (n2 : Int) := by omega
      go_wp2
      go_end0
      have hl := HL2.out
      rw [List.length_drop] at hl
      have hkk : k = (m ++ b).length / 64 := by omega
      exact ⟨rfl, by unfold IsSt; rw [← hkk]; exact HSTK.out, HBL.out⟩
end Go.Proofs.YtmclpbcipkdmcaaDoor
