/- Walk of one block of the digest. -/
import Derived.Test.YtmclpbcipkdmcaaDoorShaA
import Derived.StillTailTactics
import Derived.Deep.DeepCutAuto
import Derived.Deep.LoopGhost
import Derived.Deep.RegionHeld3
import Derived.Deep.RegionWith
set_option linter.all false
namespace Go.Proofs.YtmclpbcipkdmcaaDoor
open Go.RowKit

/-- 64 words in a row: those of a list, then noughts. -/
def wrow (l : List Nat) : Array Value := ((l ++ List.replicate (64 - l.length) 0).map (fun x : Nat => Value.int .u32 (x : Int))).toArray
/-- a list's j-th number -/
def lnth (l : List Nat) (j : Nat) : Nat := l.getD j 0
theorem wrow_get (l : List Nat) (j : Nat) (hj : j < 64) (hl : l.length ≤ 64) : (wrow l)[j]? = some (.int .u32 (lnth l j : Nat)) := by
  unfold wrow lnth
  simp only [List.getElem?_toArray, List.getElem?_map, List.getElem?_append, List.getD_eq_getElem?_getD]
  split
  · rename_i h; simp [h]
  · rename_i h
    rw [List.getElem?_replicate, if_pos (by omega)]
    simp [List.getElem?_eq_none (Nat.le_of_not_lt h)]
theorem wrow_set (l : List Nat) (x : Nat) (h : l.length < 64) : (wrow l).setIfInBounds l.length (.int .u32 (x : Int)) = wrow (l ++ [x]) := by
  unfold wrow
  rw [List.setIfInBounds_toArray, ← List.map_set, List.set_append_right _ _ (Nat.le_refl _), Nat.sub_self]
  congr 2
  have : 64 - l.length = (64 - (l ++ [x]).length) + 1 := by simp; omega
  rw [this, List.replicate_succ, List.set_cons_zero]
  simp [List.append_assoc]
theorem wrow_nil : wrow [] = (List.replicate 64 (Value.int .u32 0)).toArray := rfl
theorem wrow_size (l : List Nat) (h : l.length ≤ 64) : (wrow l).size = 64 := by simp [wrow]; omega

theorem bnth_drop (l : List UInt8) (k i : Nat) : bnth (l.drop k) i = bnth l (k + i) := by simp [bnth, List.getD_eq_getElem?_getD, List.getElem?_drop]
theorem wordAt_drop (l : List UInt8) (k : Nat) : wordAt (l.drop k) 0 = wordAt l k := by simp [wordAt, bnth_drop]
theorem sched_lo (bk : List UInt8) {t : Nat} (h : t < 16) : sched bk (t + 1) = sched bk t ++ [wordAt bk (4 * t)] := by simp [sched, h]
theorem sched_hi (bk : List UInt8) {t : Nat} (h : ¬ t < 16) : sched bk (t + 1) = sched bk t ++ [nextW (sched bk t) t] := by simp [sched, h]

theorem store_row (w : World) (c : Array Value) (t m i : Nat) (v : Value) : ((w.alloc (.cells c t)).drewN m).setCell ⟨w.heap.size, i, none⟩ v = (w.alloc (.cells (c.setIfInBounds i v) t)).drewN m := by
  show ((w.alloc (.cells c t)).setCell ⟨w.heap.size, i, none⟩ v).drewN m = _
  rw [World.setCell_alloc_at _ _ _ _ _ rfl]
theorem cell_row (w : World) (c : Array Value) (t i : Nat) : (w.alloc (.cells c t)).cell? ⟨w.heap.size, i, none⟩ = c[i]? := World.cell?_alloc_at _ _ _ _ rfl

theorem setCells_snoc (g : Nat) (u : Value) : ∀ (vs : List Value) (o : Nat) (w : World), w.setCells g o (vs ++ [u]) = (w.setCells g o vs).setCell ⟨g, o + vs.length, none⟩ u
  | [], o, w => by simp [World.setCells]
  | x :: vs, o, w => by
    rw [List.cons_append, World.setCells, setCells_snoc g u vs (o + 1) _, World.setCells, List.length_cons]
    rw [show o + 1 + vs.length = o + (vs.length + 1) by omega]
theorem cell_setCells_past (w : World) (g i : Nat) (vs : List Value) (h : vs.length ≤ i) : (w.setCells g 0 vs).cell? ⟨g, i, none⟩ = w.cell? ⟨g, i, none⟩ :=
  World.cell?_setCells_out g vs 0 w ⟨g, i, none⟩ (fun _ _ => by right; simpa using h)
theorem cell_setCells_other (w : World) (g b i : Nat) (vs : List Value) (h : b ≠ g) : (w.setCells g 0 vs).cell? ⟨b, i, none⟩ = w.cell? ⟨b, i, none⟩ :=
  World.cell?_setCells_out g vs 0 w ⟨b, i, none⟩ (fun hb _ => absurd hb h)
theorem V8.cells_list (v : V8) : v.cells = v.list.map fun x : Nat => Value.int .u32 (x : Int) := rfl
def V8.add (v u : V8) : V8 := ⟨wadd v.a u.a, wadd v.b u.b, wadd v.c u.c, wadd v.d u.d, wadd v.e u.e, wadd v.f u.f, wadd v.g u.g, wadd v.h u.h⟩
theorem V8.add_nth (v u : V8) (i : Nat) (hi : i < 8) : lnth (v.add u).list i = wadd (lnth v.list i) (lnth u.list i) := by
  match i, hi with
  | 0, _ | 1, _ | 2, _ | 3, _ | 4, _ | 5, _ | 6, _ | 7, _ => rfl
theorem V8.cells_take (v : V8) (i : Nat) (hi : i < 8) : v.cells.take (i + 1) = v.cells.take i ++ [.int .u32 (lnth v.list i : Nat)] := by
  match i, hi with
  | 0, _ | 1, _ | 2, _ | 3, _ | 4, _ | 5, _ | 6, _ | 7, _ => rfl
theorem V8.cells_get (v : V8) (i : Nat) (hi : i < 8) : v.cells[i]? = some (.int .u32 (lnth v.list i : Nat)) := by
  match i, hi with
  | 0, _ | 1, _ | 2, _ | 3, _ | 4, _ | 5, _ | 6, _ | 7, _ => rfl

/-- New blocks and draws, and then the first cells of block g were written. -/
def WroteTo (g : Nat) (cs : List Value) (w w' : World) : Prop := ∃ w1 m, Below w.heap.size w w1 ∧ w' = (w1.setCells g 0 cs).drewN m
theorem setCell_dn (w : World) (m : Nat) (a : Addr) (v : Value) : (w.drewN m).setCell a v = (w.setCell a v).drewN m := rfl
theorem store8 (X : World) (n t m : Nat) (hn : n = X.heap.size) (o0 o1 o2 o3 o4 o5 o6 o7 n0 n1 n2 n3 n4 n5 n6 n7 : Value) :
    (((((((((X.alloc (.cells #[o0, o1, o2, o3, o4, o5, o6, o7] t)).drewN m).setCell ⟨n, 0, none⟩ n0).setCell ⟨n, 1, none⟩ n1).setCell ⟨n, 2, none⟩ n2).setCell ⟨n, 3, none⟩ n3).setCell ⟨n, 4, none⟩ n4).setCell ⟨n, 5, none⟩ n5).setCell ⟨n, 6, none⟩ n6).setCell ⟨n, 7, none⟩ n7 = (X.alloc (.cells #[n0, n1, n2, n3, n4, n5, n6, n7] t)).drewN m := by
  subst hn
  simp [setCell_dn, World.setCell_alloc_at]
theorem sum5 (a b c d e : Nat) : ((a : Int) + b + c + d + e) % 4294967296 = ((wadd (wadd (wadd (wadd a b) c) d) e : Nat) : Int) := by unfold wadd; omega
theorem sum4 (a b c d e : Nat) : ((e : Int) + ((a : Int) + b + c + d)) % 4294967296 = ((wadd e (wadd (wadd (wadd a b) c) d) : Nat) : Int) := by unfold wadd; omega

theorem still_of {P : Program} {f : FuncId} {args : Array Value} {w : World} {v : Value} (h : Calls P f args w fun e w' => e = .returned v ∧ w = w') : Calls P f args w fun e w' => e = .returned v ∧ w' = w :=
  h.mono fun _ _ ⟨a, b⟩ => ⟨a, b.symm⟩

set_option maxRecDepth 100000 in
set_option maxHeartbeats 1000000 in
theorem block_any (bk : List UInt8) (v : V8) (g b o c n : Nat) (w : World) (hgB : g < w.heap.size) (hfz : ∀ j, j < 8 → w.frozen? ⟨g, j, none⟩ = false) (hl : bk.length = 64) (hb : n = bk.length) (hc : n ≤ c) (hcm : c ≤ 9223372036854775807) (hr : w.rangeAt b o (bcs bk))
    (hg : w.rangeAt g 0 v.cells) :
    Calls Tryd.prog 152 #[.pointer (some ⟨g, 0, none⟩), .slice (some ⟨b, o, none⟩) n c] w fun e w' => e = .returned (.tuple #[]) ∧ WroteTo g (blockW v bk).cells w w' := by
  have HL := Lib.hid hl
  have HR := Lib.hid hr
  have HN := Lib.hid (show n = 64 by omega)
  clear hl hr hb
  go_enter Tryd.func152, Tryd.ntmps152
  go_wp2
  go_loopw [16] (fun i wr => ∃ t : Nat, t ≤ 64 ∧ i = .int .i64 t ∧ ∃ m, wr = (w.alloc (.cells (wrow (sched bk t)) 221)).drewN m) (fun i _ => 64 - (intOf i).toNat)
  case atStart => exact ⟨0, by omega, rfl, 0, rfl⟩
  case round =>
    obtain ⟨t, ht, rfl, m, rfl⟩ := hrel
    have HW := Lib.hid (wrow_get (sched bk t))
    have HS := Lib.hid (wrow_set (sched bk t))
    have hlen := sched_length bk t
    have HLen := Lib.hid hlen
    clear hlen
    generalize hsc : sched bk t = l at *
    have HSc := Lib.hid hsc
    clear hsc
    by_cases h16 : t < 16
    · have hn1 : 4 * t + 4 ≤ n := by have := HN.out; omega
      have hn2 : n ≤ 64 := by have := HN.out; omega
      have hn3 : 64 ≤ n := by have := HN.out; omega
      have HR2 := Lib.hid (rangeAt_drop HR.out (4 * t))
      have hg1 := HW.out t (by omega) (by have := HLen.out; omega)
      go_wp2_with (go_at_call 159; refine (word_any (bk.drop (4 * t)) _ _ _ _ _ ?_ ?_ ?_ ?_).mono ?_)
      case refine_1 => have := HL.out; rw [List.length_drop]; omega
      case refine_2 => have := HL.out; rw [List.length_drop]; omega
      case refine_3 => omega
      case refine_4 => rw [← bcs_drop]; exact rangeAt_drewN (World.rangeAt_alloc HR2.out _) _
      rintro e w' ⟨rfl, k, rfl⟩
      go_wp2
      go_roundw
      case rel =>
        refine ⟨t + 1, by omega, by go_num, m + k, ?_⟩
        rw [sched_lo bk h16, HSc.out, ← HS.out _ (by have := HLen.out; omega), HLen.out, wordAt_drop, ← store_row]
      case measure => simp [intOf]; omega
    · by_cases hlt : t < 64
      · have e2 : (16 : Int) ≤ (t : Int) := by omega
        have g16 := HW.out (t - 16) (by omega) (by have := HLen.out; omega)
        have g7 := HW.out (t - 7) (by omega) (by have := HLen.out; omega)
        have g15 := HW.out (t - 15) (by omega) (by have := HLen.out; omega)
        have g2 := HW.out (t - 2) (by omega) (by have := HLen.out; omega)
        have gt := HW.out t (by omega) (by have := HLen.out; omega)
        go_wp2
        go_quiet (fail)
        go_wp2
        clear g16 g7 g15 g2
        have g16 := HW.out (t - 16) (by omega) (by have := HLen.out; omega)
        have g7 := HW.out (t - 7) (by omega) (by have := HLen.out; omega)
        generalize hx16 : lnth l (t - 16) = x16 at *
        generalize hx7 : lnth l (t - 7) = x7 at *
        generalize hx15 : lnth l (t - 15) = x15 at *
        generalize hx2 : lnth l (t - 2) = x2 at *
        have X16 := Lib.hid hx16; have X7 := Lib.hid hx7; have X15 := Lib.hid hx15; have X2 := Lib.hid hx2
        clear hx16 hx7 hx15 hx2
        rw [World.drewN_drewN]
        have hs1 : ∀ a : Nat, (a : Int) / 8 = ((wshr a 8 : Nat) : Int) := fun a => by unfold wshr; omega
        have hs2 : ∀ a : Nat, (a : Int) / 1024 = ((wshr a 1024 : Nat) : Int) := fun a => by unfold wshr; omega
        have rs := rs
        have rx := rx
        obtain ⟨W, HWW⟩ : ∃ W, Hid (W = (w.alloc (.cells (wrow l) 221)).drewN (m + nq)) := ⟨_, Lib.hid rfl⟩
        rw [← HWW.out]
        have c16 : ∀ tp d os out, World.cell? ⟨W.heap, tp, d, os, out⟩ ⟨w.heap.size, t - 16, none⟩ = some (.int .u32 (x16 : Int)) := fun _ _ _ _ => by rw [HWW.out]; exact (cell_row _ _ _ _).trans g16
        have c7 : ∀ tp d os out, World.cell? ⟨W.heap, tp, d, os, out⟩ ⟨w.heap.size, t - 7, none⟩ = some (.int .u32 (x7 : Int)) := fun _ _ _ _ => by rw [HWW.out]; exact (cell_row _ _ _ _).trans g7
        have k16 : IntKind.i64.wrap ((t : Int) - 16) = (t : Int) - 16 := IntWalk.i64_in _ (by omega)
        have k7 : IntKind.i64.wrap ((t : Int) - 7) = (t : Int) - 7 := IntWalk.i64_in _ (by omega)
        have p16 : ((t : Int) - 16).toNat = t - 16 := by omega
        have p7 : ((t : Int) - 7).toNat = t - 7 := by omega
        have q16 : (0 : Int) ≤ (t : Int) - 16 := by omega
        have q7 : (7 : Int) ≤ (t : Int) := by omega
        have r16 : (t : Int) - 16 < 64 := by omega
        have r7 : (t : Int) - 7 < 64 := by omega
        go_still_tail 29, (by kernel_rfl)
        still_call (still_of (rot7 x15 _))
        repeat still_step
        still_call (still_of (rot18 x15 _))
        repeat still_step
        still_call (still_of (rot17 x2 _))
        repeat still_step
        still_call (still_of (rot19 x2 _))
        repeat still_step
        refine wpStill_nil ?_
        change wpList _ _ _ _ _ W.drew
        rw [HWW.out]
        clear c16 c7
        go_wp2
        go_roundw
        case rel =>
          refine ⟨t + 1, by omega, by go_num, m + nq + 1, ?_⟩
          rw [sched_hi bk h16, HSc.out, ← HS.out _ (by have := HLen.out; omega), HLen.out, ← store_row]
          have e : nextW l t = wadd (wadd (wadd x16 x7) (wxor (wxor (wrot x15 7) (wrot x15 18)) (wshr x15 8))) (wxor (wxor (wrot x2 17) (wrot x2 19)) (wshr x2 1024)) := by
            rw [← X16.out, ← X7.out, ← X15.out, ← X2.out]; rfl
          rw [e]
        case measure => simp [intOf]; omega
      · have T64 := Lib.hid (show t = 64 by omega)
        have h64 : ¬ (t : Int) < 64 := by omega
        obtain ⟨W, HWW⟩ : ∃ W, Hid (W = (w.alloc (.cells (wrow l) 221)).drewN m) := ⟨_, Lib.hid rfl⟩
        rw [← HWW.out]
        have hsz : W.heap.size = w.heap.size + 1 := by rw [HWW.out]; simp [World.drewN]
        have HSZ := Lib.hid hsz
        have hc : ∀ j u, v.cells[j]? = some u → W.cell? ⟨g, j, none⟩ = some u := fun j u hu => by
          rw [HWW.out]; exact (World.cell?_alloc_past _ _ _ hgB).trans (by simpa using hg j u hu)
        have c0 := hc 0 _ rfl; have c1 := hc 1 _ rfl; have c2 := hc 2 _ rfl; have c3 := hc 3 _ rfl
        have c4 := hc 4 _ rfl; have c5 := hc 5 _ rfl; have c6 := hc 6 _ rfl; have c7 := hc 7 _ rfl
        clear hc hsz
        go_wp2_with fail
        refine (rounds_any _).mono ?_
        rintro e w' ⟨rfl, rfl⟩
        simp only []
        go_step
        go_step
        go_step
        go_step
        refine (wpl_store_new (t := 221) kcells.toArray rfl _ _ rfl rfl ?_ rfl ?_ ?_ ?_ ?_)
        · simp
        · kernel_rfl
        · rfl
        · decide +kernel
        simp only [Act.put]
        obtain ⟨ka, HKA⟩ : ∃ ka, Hid (kcells = ka.toList) := ⟨kcells.toArray, Lib.hid rfl⟩
        have hka : kcells.toArray = ka := by rw [HKA.out]
        rw [hka]
        clear hka
        have hgW : g < W.heap.size := by have := HSZ.out; omega
        have hgW1 : g < W.heap.size + 1 := by omega
        have hgW2 : g < W.heap.size + 1 + 1 := by omega
        clear ht h16 hlt h64
        have cw : ∀ t, t < 64 → W.cell? ⟨w.heap.size, t, none⟩ = some (.int .u32 (lnth l t : Nat)) := fun j hj => by
          rw [HWW.out]; exact (cell_row _ _ _ _).trans (HW.out j hj (by have := HLen.out; have := T64.out; omega))
        have CW := Lib.hid cw
        have KG : Hid (∀ j, j < 64 → ka[j]? = some (.int .u32 (KS.getD j 0 : Nat))) := fun j hj => by
          rw [← kcells_get j hj, HKA.out, Array.getElem?_toList]
        clear HKA
        have HSc := Lib.hid (show l = sched bk t from HSc.out.symm)
        have hNW : w.heap.size < W.heap.size := by have := HSZ.out; omega
        have hNW1 : w.heap.size < W.heap.size + 1 := by omega
        have hNW2 : w.heap.size < W.heap.size + 1 + 1 := by omega
        clear cw
        go_wp2
        go_loopw [71] (fun i wr => ∃ t : Nat, t ≤ 64 ∧ i = .int .i64 t ∧ ∃ m, wr = (((W.alloc (.cells ka 221)).alloc (.cells ka 221)).alloc (.cells #[.int .u32 ((roundsTo v l t).a : Nat), .int .u32 ((roundsTo v l t).b : Nat), .int .u32 ((roundsTo v l t).c : Nat), .int .u32 ((roundsTo v l t).d : Nat), .int .u32 ((roundsTo v l t).e : Nat), .int .u32 ((roundsTo v l t).f : Nat), .int .u32 ((roundsTo v l t).g : Nat), .int .u32 ((roundsTo v l t).h : Nat)] 210)).drewN m) (fun i _ => 64 - (intOf i).toNat)
        case atStart => exact ⟨0, by omega, rfl, 0, rfl⟩
        case round =>
          obtain ⟨j, hj, rfl, m, rfl⟩ := hrel
          by_cases hlt : j < 64
          · have hlj : (j : Int) < 64 := by omega
            have hkt := KG.out j hlt
            have hwt := CW.out j hlt
            have hkt' : KS.getD j 0 = lnth KS j := rfl
            rw [hkt'] at hkt
            clear hkt'
            generalize hkk : lnth KS j = kk at *
            generalize hww : lnth l j = ww at *
            generalize huu : roundsTo v l j = u at *
            have KK := Lib.hid hkk; have WW := Lib.hid hww; have UU := Lib.hid huu
            clear hkk hww huu
            have rs := rs
            have rx := rx
            have ra := ra
            have rn : ∀ a : Nat, bits BinOp.xor IntKind.u32 IntKind.u32.max (a : Int) = ((wnot a : Nat) : Int) := rn
            go_wp2
            go_quiet (fail)
            go_wp2
            rw [World.drewN_drewN]
            go_quiet (first | (go_at_call 160; (with_reducible refine (rot6 _ _).mono ?_); exact (fun _ _ h => ⟨h.1, _, h.2.symm⟩)) | (go_at_call 160; (with_reducible refine (rot11 _ _).mono ?_); exact (fun _ _ h => ⟨h.1, _, h.2.symm⟩)) | (go_at_call 160; (with_reducible refine (rot25 _ _).mono ?_); exact (fun _ _ h => ⟨h.1, _, h.2.symm⟩)))
            go_wp2
            go_quiet (first | (go_at_call 160; (with_reducible refine (rot2 _ _).mono ?_); exact (fun _ _ h => ⟨h.1, _, h.2.symm⟩)) | (go_at_call 160; (with_reducible refine (rot13 _ _).mono ?_); exact (fun _ _ h => ⟨h.1, _, h.2.symm⟩)) | (go_at_call 160; (with_reducible refine (rot22 _ _).mono ?_); exact (fun _ _ h => ⟨h.1, _, h.2.symm⟩)))
            go_wp2
            go_roundw
            case rel =>
              have e : roundsTo v l (j + 1) = roundW u kk ww := by rw [← KK.out, ← WW.out, ← UU.out]; rfl
              rw [store8 _ _ _ _ (by simp), sum5, sum4]
              refine ⟨j + 1, by omega, by go_num, ?_⟩
              rw [e]
              exact ⟨_, rfl⟩
            case measure => simp [intOf]; omega
          · have J64 := Lib.hid (show j = 64 by omega)
            have hj64 : ¬ (j : Int) < 64 := by omega
            generalize huu : roundsTo v l j = u at *
            have UU := Lib.hid huu
            clear huu
            obtain ⟨W3, HW3⟩ : ∃ X, Hid (X = (((W.alloc (.cells ka 221)).alloc (.cells ka 221)).alloc (.cells #[.int .u32 (u.a : Nat), .int .u32 (u.b : Nat), .int .u32 (u.c : Nat), .int .u32 (u.d : Nat), .int .u32 (u.e : Nat), .int .u32 (u.f : Nat), .int .u32 (u.g : Nat), .int .u32 (u.h : Nat)] 210)).drewN m) := ⟨_, Lib.hid rfl⟩
            rw [← HW3.out]
            have hB3 : Below w.heap.size w W3 := by
              rw [HW3.out, HWW.out]
              exact ((((((Below.refl _ w).alloc (Nat.le_refl _) _).trans (below_drewN _ _ _)).alloc (by simp [World.drewN]) _).alloc (by simp [World.drewN]; omega) _).alloc (by simp [World.drewN]; omega) _).trans (below_drewN _ _ _)
            have HB3 := Lib.hid hB3
            have gc : Hid (∀ i, i < 8 → W3.cell? ⟨g, i, none⟩ = some (.int .u32 (lnth v.list i : Nat))) := fun i hi => by
              rw [hB3.cell (p := ⟨g, i, none⟩) hgB]; simpa using hg i _ (v.cells_get i hi)
            have gf : Hid (∀ i, i < 8 → W3.frozen? ⟨g, i, none⟩ = false) := fun i hi => by
              rw [hB3.frozen (p := ⟨g, i, none⟩) hgB]; exact hfz i hi
            have uc : Hid (∀ i, i < 8 → W3.cell? ⟨W.heap.size + 1 + 1, i, none⟩ = some (.int .u32 (lnth u.list i : Nat))) := fun i hi => by
              rw [HW3.out]
              refine (World.cell?_alloc_at _ _ _ _ (by simp)).trans ?_
              exact (List.getElem?_toArray).trans (u.cells_get i hi)
            clear hB3 hj64 c0 c1 c2 c3 c4 c5 c6 c7 hg hfz
            have hne : W.heap.size + 1 + 1 ≠ g := by omega
            go_wp2
            go_loopw [151] (fun i wr => ∃ k : Nat, k ≤ 8 ∧ i = .int .i64 k ∧ ∃ m, wr = (W3.setCells g 0 ((v.add u).cells.take k)).drewN m) (fun i _ => 8 - (intOf i).toNat)
            case atStart => exact ⟨0, by omega, rfl, 0, rfl⟩
            case round =>
              obtain ⟨k, hk, rfl, m, rfl⟩ := hrel
              by_cases hlt : k < 8
              · have hlk : (k : Int) < 8 := by omega
                have g1 := gc.out k hlt
                have g2 := gf.out k hlt
                have g3 := uc.out k hlt
                have hlen : ((v.add u).cells.take k).length = k := by rw [List.length_take]; show min k 8 = k; omega
                obtain ⟨W4, HW4⟩ : ∃ X, Hid (X = (W3.setCells g 0 ((v.add u).cells.take k)).drewN m) := ⟨_, Lib.hid rfl⟩
                rw [← HW4.out]
                have k1 : ∀ tp d os out, World.cell? ⟨W4.heap, tp, d, os, out⟩ ⟨g, k, none⟩ = some (.int .u32 (lnth v.list k : Nat)) := fun _ _ _ _ => by
                  rw [HW4.out]; exact (cell_setCells_past _ _ _ _ (by omega)).trans g1
                have k2 : ∀ tp d os out, World.cell? ⟨W4.heap, tp, d, os, out⟩ ⟨W.heap.size + 1 + 1, k, none⟩ = some (.int .u32 (lnth u.list k : Nat)) := fun _ _ _ _ => by
                  rw [HW4.out]; exact (cell_setCells_other _ _ _ _ _ hne).trans g3
                have k3 : W4.frozen? ⟨g, k, none⟩ = false := by
                  rw [HW4.out]; exact (World.frozen?_setCells _ _ _ _ _).trans g2
                have HLEN := Lib.hid hlen
                clear hlen g1 g2 g3
                have rs := rs
                go_wp2
                go_still_tail 13, (by kernel_rfl)
                change wpList _ _ _ _ _ W4.drew
                go_wp2
                go_roundw
                case rel =>
                  refine ⟨k + 1, by omega, by go_num, ?_⟩
                  rw [V8.cells_take _ _ hlt, setCells_snoc, HLEN.out, V8.add_nth _ _ _ hlt, HW4.out, Nat.zero_add]
                  exact ⟨m + 1, rfl⟩
                case measure => simp [intOf]; omega
              · have K8 := Lib.hid (show k = 8 by omega)
                have hk8 : ¬ (k : Int) < 8 := by omega
                go_wp2
                go_end0
                have hfin : (v.add u).cells.take k = (blockW v bk).cells := by
                  rw [K8.out, ← UU.out, HSc.out, J64.out, T64.out]
                  exact (List.take_of_length_le (Nat.le_refl 8)).trans rfl
                exact ⟨rfl, W3, m, HB3.out, by rw [hfin]⟩
end Go.Proofs.YtmclpbcipkdmcaaDoor
