/- math/bits.Div64: by value. Written by a program. -/
import Derived.Test.YtdpfjmkilbepgaaLen64
set_option linter.all false
namespace Go.Proofs.Ytdpfjmkilbepgaa
open Go Go.Abs Go.RowKit Go.Proofs.Ytdpfjmkilbepgaa.Ty
theorem tyDiv640 : (type_of% @Ty.T3) ∧ (type_of% @Ty.T44) ∧ (type_of% @Ty.T151) ∧ (type_of% @Ty.T168) := ⟨@Ty.T3, @Ty.T44, @Ty.T151, @Ty.T168⟩

theorem or64 {a b k : Nat} (ha : a * 2 ^ k < 18446744073709551616) (hb : b < 2 ^ k) (hk : k ≤ 63) : bits .or .u64 ((a * 2 ^ k : Nat) : Int) (b : Int) = ((a * 2 ^ k + b : Nat) : Int) := by
  have h2 : 2 ^ k < 18446744073709551616 := Nat.lt_of_le_of_lt (Nat.pow_le_pow_right (by decide) hk) (by decide)
  have := (bits_nat .u64 64 (by decide) (fun n g0 g1 => by rw [IntKind.wrap_u64]; omega) (a * 2 ^ k) b ha (by omega)).2
  rw [this, Nat.mul_comm a, ← Nat.two_pow_add_eq_or_of_lt hb]
theorem wrp (n : Nat) : IntKind.u64.wrap (n : Int) = ((n % 18446744073709551616 : Nat) : Int) := by rw [IntKind.wrap_u64]; omega
/-- the rest, by wrapping arithmetic -/
theorem rest_wrap {u d q y r : Nat} (h : q * y + r = u * 4294967296 + d) (hr : r < 18446744073709551616) :
    IntKind.u64.wrap (IntKind.u64.wrap (IntKind.u64.wrap ((u : Int) * 4294967296) + (d : Int)) - IntKind.u64.wrap ((q : Int) * (y : Int))) = (r : Int) := by
  have e : ((q : Int) * (y : Int)) = ((q * y : Nat) : Int) := (Int.natCast_mul _ _).symm
  rw [e]
  generalize q * y = c at h
  simp only [IntKind.wrap_u64]; omega
/-- V is the dividend, its bits moved up. -/
theorem shift_parts (hi lo s : Nat) (hs : s ≤ 63) (hlo : lo < 18446744073709551616) (hh : hi * 2 ^ s < 18446744073709551616) :
    (hi * 18446744073709551616 + lo) * 2 ^ s = (hi * 2 ^ s + lo / 2 ^ (64 - s)) * 18446744073709551616 + lo * 2 ^ s % 18446744073709551616 ∧ lo / 2 ^ (64 - s) < 2 ^ s := by
  have h64 : 2 ^ (64 - s) * 2 ^ s = 18446744073709551616 := by rw [← Nat.pow_add, show 64 - s + s = 64 by omega]
  have e1 : lo / 2 ^ (64 - s) = lo * 2 ^ s / 18446744073709551616 := by
    rw [← h64, Nat.mul_div_mul_right _ _ (Nat.pow_pos (by decide))]
  constructor
  · rw [e1, Nat.add_mul, Nat.mul_right_comm]
    have := Nat.div_add_mod (lo * 2 ^ s) 18446744073709551616
    omega
  · rw [Nat.div_lt_iff_lt_mul (Nat.pow_pos (by decide)), Nat.mul_comm, h64]; exact hlo

set_option maxHeartbeats 8000000
theorem div64_A (hi lo y : Nat) (hlo : lo < 18446744073709551616) (hy : y < 18446744073709551616) (h : hi < y) :
    PureD Try.prog 136 [.i (.s (.int .u64 (hi : Int))), .i (.s (.int .u64 (lo : Int))), .i (.s (.int .u64 (y : Int)))] (.tup [.i (.s (.int .u64 (((hi * 18446744073709551616 + lo) / y : Nat) : Int))), .i (.s (.int .u64 (((hi * 18446744073709551616 + lo) % y : Nat) : Int)))]) := by
  have g0 : decide ((y : Int) = 0) = false := by simp; omega
  have g1 : decide ((y : Int) ≤ (hi : Int)) = false := by simp; omega
  have q0 : ((y : Int) = 0) = False := eq_false (by omega)
  refine callD_W 135 Try.func136 rfl rfl rfl (fun _ _ => rfl) ?_
  by_cases h0 : hi = 0
  · subst h0
    have r1 : IntKind.u64.wrap ((lo : Int).tdiv (y : Int)) = ((lo / y : Nat) : Int) := by
      rw [Int.tdiv_eq_ediv_of_nonneg (by omega), ← Int.natCast_ediv, IntKind.wrap_u64]
      have := Nat.div_le_self lo y
      generalize lo / y = d at this ⊢
      omega
    have r2 : (lo : Int).tmod (y : Int) = ((lo % y : Nat) : Int) := by
      rw [Int.tmod_eq_emod_of_nonneg (by omega)]; exact (Int.natCast_emod _ _).symm
    have g1' : decide ((y : Int) ≤ 0) = false := by simp; omega
    (repeat (first | (simp -implicitDefEqProofs only [ev, mixed, Nat.reduceLT, Nat.reduceAdd, Nat.reduceMul, reduceIte, Nat.reduceEqDiff, reduceCtorEq, Nat.reducePow, Nat.reduceLeDiff, Int.reduceLE, Int.reduceLT, Int.reduceToNat, Int.reduceEq, Nat.reduceBEq, itsOf, gdA, byteI, opid, lenQ, ixQ, ldH, readAt, readCells, asCell, faQ, exQ, fldQ, partA, buildQ, slQ, stH, bslH, appH, dcells, convI, elemsOf, D.one, nilS, fillD, convN, cvH, tyDiv640, g0, g1', q0, r1, r2]) | (with_reducible refine ⟨?_, ?_⟩; (· first | (obtain ⟨rfl⟩ := ‹Hq _ _›; with_reducible refine chk_ok ?_; kernel_rfl) | kernel_rfl)) | (with_reducible intro ops hops)))
    refine fin_tt [] rfl ?_
    simp [cv, cvT, cv1, cv0, upd]
  have gh : decide ((hi : Int) = 0) = false := by simp; omega
  have hlog : Nat.log2 y < 64 := (Nat.log2_lt (by omega)).2 (by omega)
  have hs : 63 - Nat.log2 y ≤ 63 := by omega
  have hY : 2 ^ 63 ≤ y * 2 ^ (63 - Nat.log2 y) ∧ y * 2 ^ (63 - Nat.log2 y) < 2 ^ 64 := by
    have a := Nat.log2_self_le (n := y) (by omega)
    have b := Nat.lt_log2_self (n := y)
    have p := Nat.pow_pos (n := 63 - Nat.log2 y) (show 0 < 2 by decide)
    constructor
    · have := Nat.mul_le_mul_right (2 ^ (63 - Nat.log2 y)) a
      rw [← Nat.pow_add, show Nat.log2 y + (63 - Nat.log2 y) = 63 by omega] at this
      exact this
    · have := Nat.mul_lt_mul_of_pos_right b p
      rw [← Nat.pow_add, show Nat.log2 y + 1 + (63 - Nat.log2 y) = 64 by omega] at this
      exact this
  (repeat (first | (simp -implicitDefEqProofs only [ev, mixed, Nat.reduceLT, Nat.reduceAdd, Nat.reduceMul, reduceIte, Nat.reduceEqDiff, reduceCtorEq, Nat.reducePow, Nat.reduceLeDiff, Int.reduceLE, Int.reduceLT, Int.reduceToNat, Int.reduceEq, Nat.reduceBEq, itsOf, gdA, byteI, opid, lenQ, ixQ, ldH, readAt, readCells, asCell, faQ, exQ, fldQ, partA, buildQ, slQ, stH, bslH, appH, dcells, convI, elemsOf, D.one, nilS, fillD, convN, cvH, tyDiv640, g0, g1, gh]) | (with_reducible refine ⟨?_, ?_⟩; (· first | (obtain ⟨rfl⟩ := ‹Hq _ _›; with_reducible refine chk_ok ?_; kernel_rfl) | kernel_rfl)) | (with_reducible intro ops hops)))
  (first | refine Call_flat [] [] (lz64_A y (by omega) hy) (by simp [cvAs, cvA, cvRL, cvR, cvBox, cv1, cvL, cv0, bI, byteI, elemsOf, upd]) rfl ?_ | refine CallF_flat [] [] [] (lz64_A y (by omega) hy) (fun G _ => by simp [cvAs, cvA, cvRL, cvR, cvBox, cv1, cvL, cv0, bI, byteI, elemsOf, upd]) rfl ?_)
  generalize 63 - Nat.log2 y = s at hs hY
  clear hlog
  have hhY : hi * 2 ^ s + 2 ^ s ≤ y * 2 ^ s := by have := Nat.mul_le_mul_right (2 ^ s) (show hi + 1 ≤ y by omega); rw [Nat.add_mul, Nat.one_mul] at this; exact this
  have c64 : (2 : Nat) ^ 64 = 18446744073709551616 := by decide
  have c63 : (2 : Nat) ^ 63 = 9223372036854775808 := by decide
  rw [c64, c63] at hY
  have hp := Nat.pow_pos (n := s) (show 0 < 2 by decide)
  obtain ⟨hV, hb⟩ := shift_parts hi lo s hs hlo (by omega)
  have hdd := shift_div (hi * 18446744073709551616 + lo) y s
  have hmm := shift_mod (hi * 18446744073709551616 + lo) y s
  have hor := or64 (a := hi) (b := lo / 2 ^ (64 - s)) (k := s) (by omega) hb hs
  have ws : IntKind.u64.wrap (s : Int) = (s : Int) := by rw [IntKind.wrap_u64]; omega
  have ws2 : IntKind.u64.wrap (64 - (s : Int)) = ((64 - s : Nat) : Int) := by rw [IntKind.wrap_u64]; omega
  have e2 : ((2 : Int) ^ s) = ((2 ^ s : Nat) : Int) := by simp
  have wsh : ∀ n : Nat, IntKind.u64.wrap ((n : Int) * 2 ^ min s (IntKind.bits .u64)) = ((n * 2 ^ s % 18446744073709551616 : Nat) : Int) := by
    intro n
    rw [show min s (IntKind.bits .u64) = s by simp [IntKind.bits]; omega, e2, ← Int.natCast_mul, wrp]
  have wy := wsh y
  have wh := wsh hi
  have wl := wsh lo
  rw [Nat.mod_eq_of_lt (show y * 2 ^ s < 18446744073709551616 by omega)] at wy
  rw [Nat.mod_eq_of_lt (show hi * 2 ^ s < 18446744073709551616 by omega)] at wh
  have wr := shr_u64 lo (64 - s) (by omega)
  have hU : hi * 2 ^ s + lo / 2 ^ (64 - s) < y * 2 ^ s := by omega
  have hfin : ∀ n : Nat, (n : Int).fdiv (2 ^ min s (IntKind.bits .u64)) = ((n / 2 ^ s : Nat) : Int) := fun n => shr_u64 n s (by omega)
  have hback : ∀ n, n * 2 ^ s / 2 ^ s = n := fun n => Nat.mul_div_cancel n hp
  rw [← hdd, ← hback ((hi * 18446744073709551616 + lo) % y), ← hmm]
  rw [hV]
  clear hdd hmm hV hback wsh e2
  have hlow : lo * 2 ^ s % 18446744073709551616 < 18446744073709551616 := Nat.mod_lt _ (by decide)
  generalize lo * 2 ^ s % 18446744073709551616 = low at wl hlow ⊢
  generalize hi * 2 ^ s + lo / 2 ^ (64 - s) = u at hor hU ⊢
  generalize lo / 2 ^ (64 - s) = lr at hor wr
  generalize hi * 2 ^ s = hsh at hor wh
  generalize y * 2 ^ s = Y at *
  clear hb hhY
  have mY := Mul64.maskN Y (by omega)
  have dY := shr32 Y
  have mL := Mul64.maskN low hlow
  have dL := shr32 low
  have hYe : Y = Y / 4294967296 * 4294967296 + Y % 4294967296 := by omega
  have hLe : low = low / 4294967296 * 4294967296 + low % 4294967296 := by omega
  have hy1 : 2 ^ 31 ≤ Y / 4294967296 := by have : (2 : Nat) ^ 31 = 2147483648 := by decide
                                           omega
  have hy1b : Y / 4294967296 < 4294967296 := by omega
  have hy0 : Y % 4294967296 < 4294967296 := Nat.mod_lt _ (by decide)
  have hd1 : low / 4294967296 < 4294967296 := by omega
  have hd0 : low % 4294967296 < 4294967296 := Nat.mod_lt _ (by decide)
  have hVV : u * 18446744073709551616 + low = (u * 4294967296 + low / 4294967296) * 4294967296 + low % 4294967296 := by omega
  rw [hVV]
  generalize low / 4294967296 = d1 at *
  generalize low % 4294967296 = d0 at *
  generalize Y / 4294967296 = y1 at *
  generalize Y % 4294967296 = y0 at *
  have hYpos : 0 < Y := by omega
  obtain ⟨td, tm⟩ := two_digits ((u * 4294967296 + d1) * 4294967296 + d0) Y 4294967296 hYpos (by decide) u d1 d0 rfl hd0
  obtain ⟨Q1, hQ1⟩ : ∃ Q, Q = (u * 4294967296 + d1) / Y := ⟨_, rfl⟩
  obtain ⟨R1, hR1⟩ : ∃ R, R = (u * 4294967296 + d1) % Y := ⟨_, rfl⟩
  rw [← hQ1, ← hR1] at td
  rw [← hR1] at tm
  obtain ⟨Q0, hQ0⟩ : ∃ Q, Q = (R1 * 4294967296 + d0) / Y := ⟨_, rfl⟩
  obtain ⟨R0, hR0⟩ : ∃ R, R = (R1 * 4294967296 + d0) % Y := ⟨_, rfl⟩
  rw [← hQ0] at td
  rw [← hR0] at tm
  rw [td, tm]
  clear td tm hVV hLe
  obtain ⟨p1, p2, p3⟩ := kn_parts hQ1 hYpos hU hd1 hR1
  obtain ⟨p4, p5, p6⟩ := kn_parts hQ0 hYpos p2 hd0 hR0
  have wrest1 := rest_wrap (q := Q1) (y := Y) (u := u) (d := d1) (r := R1) p1 (by omega)
  have wrest0 := rest_wrap (q := Q0) (y := Y) (u := R1) (d := d0) (r := R0) p4 (by omega)
  have wsum : IntKind.u64.wrap (IntKind.u64.wrap ((Q1 : Int) * 4294967296) + (Q0 : Int)) = ((Q1 * 4294967296 + Q0 : Nat) : Int) := by simp only [IntKind.wrap_u64]; omega
  have wfin := hfin R0
  have qy1 : ((y1 : Int) = 0) = False := eq_false (by omega)
  have tq : ∀ n : Nat, n < 18446744073709551616 → IntKind.u64.wrap ((n : Int).tdiv (y1 : Int)) = ((n / y1 : Nat) : Int) := by
    intro n hn
    rw [Int.tdiv_eq_ediv_of_nonneg (by omega), ← Int.natCast_ediv, IntKind.wrap_u64]
    have := Nat.div_le_self n y1
    generalize n / y1 = d at this ⊢
    omega
  have tr : ∀ n : Nat, n < 18446744073709551616 → IntKind.u64.wrap ((n : Int) - IntKind.u64.wrap (((n / y1 : Nat) : Int) * (y1 : Int))) = ((n % y1 : Nat) : Int) := by
    intro n hn
    have e := Nat.div_add_mod' n y1
    have e3 : (((n / y1 : Nat) : Int) * (y1 : Int)) = ((n / y1 * y1 : Nat) : Int) := (Int.natCast_mul _ _).symm
    rw [e3]
    generalize n / y1 * y1 = c at e
    simp only [IntKind.wrap_u64]; omega
  have mb : ∀ q : Nat, q < 4294967296 → IntKind.u64.wrap ((q : Int) * (y0 : Int)) = ((q * y0 : Nat) : Int) := by
    intro q hq
    have := Nat.mul_lt_mul'' hq hy0
    rw [← Int.natCast_mul, wrp, Nat.mod_eq_of_lt (by omega)]
  have ab : ∀ r d : Nat, r < 4294967296 → d < 4294967296 → IntKind.u64.wrap (IntKind.u64.wrap (4294967296 * (r : Int)) + (d : Int)) = ((4294967296 * r + d : Nat) : Int) := by
    intro r d hr hd
    simp only [IntKind.wrap_u64]; omega
  have tqu := tq u (by omega)
  have tru := tr u (by omega)
  have tq1 := tq R1 (by omega)
  have tr1 := tr R1 (by omega)
  obtain ⟨hf1, hf2⟩ := kn_first' hQ1 hYe hy1 rfl hy0 hU hd1
  have hgu := kn_guess' hYe hy1 rfl hy0 hU
  have hrl := Nat.mod_lt u (show 0 < y1 by omega)
  obtain ⟨hg1, hg2⟩ := kn_first' hQ0 hYe hy1 rfl hy0 p2 hd0
  have hgu2 := kn_guess' hYe hy1 rfl hy0 p2
  have hrl2 := Nat.mod_lt R1 (show 0 < y1 by omega)
  clear tq tr hfin
  (repeat (first | (simp -implicitDefEqProofs only [ev, mixed, Nat.reduceLT, Nat.reduceAdd, Nat.reduceMul, reduceIte, Nat.reduceEqDiff, reduceCtorEq, Nat.reducePow, Nat.reduceLeDiff, Int.reduceLE, Int.reduceLT, Int.reduceToNat, Int.reduceEq, Nat.reduceBEq, itsOf, gdA, byteI, opid, lenQ, ixQ, ldH, readAt, readCells, asCell, faQ, exQ, fldQ, partA, buildQ, slQ, stH, bslH, appH, dcells, convI, elemsOf, D.one, nilS, fillD, convN, cvH, tyDiv640, ws, ws2, wy, wh, wl, wr, hor, mY, dY, mL, dL, qy1, tqu, tru]) | (with_reducible refine ⟨?_, ?_⟩; (· first | (obtain ⟨rfl⟩ := ‹Hq _ _›; with_reducible refine chk_ok ?_; kernel_rfl) | kernel_rfl)) | (with_reducible intro ops hops)))
  clear tqu tru ws ws2 wy wh wl wr hor mY dY mL dL hlo h g0 g1 q0 gh
  generalize u / y1 = qi at *
  generalize u % y1 = ri at *
  generalize R1 / y1 = qi2 at *
  generalize R1 % y1 = ri2 at *
  refine W_loopI (ι := Nat × Nat) (fun p => p.1 * y1 + p.2 = u ∧ Q1 ≤ p.1 ∧ p.2 < 4294967296 ∧ p.1 ≤ 4294967297)
    (fun p => stOf [(2, .i (.s (.int .u64 (Y : Nat)))), (8, .i (.s (.int .u64 (s : Nat)))), (9, .i (.s (.int .u64 (y1 : Nat)))), (10, .i (.s (.int .u64 (y0 : Nat)))), (11, .i (.s (.int .u64 (u : Nat)))), (13, .i (.s (.int .u64 (d1 : Nat)))), (14, .i (.s (.int .u64 (d0 : Nat)))), (15, .i (.s (.int .u64 (p.1 : Nat)))), (16, .i (.s (.int .u64 (p.2 : Nat))))] []) (fun p => p.1) (qi, ri) ⟨hf1, hf2, by simp; omega, hgu⟩ ?_ ?_
  · refine le_stOf _ _ [] [] ?_ ?_ rfl rfl
    · simp [cv, cv1, cv0, upd, lk, srcOf]
    · simp
  rintro ⟨q, r⟩ ⟨hI, hq, hr, hqB⟩
  simp only at hI hq hr hqB
  rw [stOf_eq]
  have abr := ab r d1 hr (by omega)
  by_cases hc : 4294967296 ≤ q ∨ 4294967296 * r + d1 < q * y0
  · have hlt := kn_more' hQ1 hYe hU (by omega) hI hc
    obtain ⟨q', rfl⟩ : ∃ q', q = q' + 1 := ⟨q - 1, by omega⟩
    have wq : IntKind.u64.wrap (((q' + 1 : Nat) : Int) - 1) = (q' : Int) := by rw [IntKind.wrap_u64]; omega
    have wr' : IntKind.u64.wrap ((r : Int) + (y1 : Int)) = ((r + y1 : Nat) : Int) := by rw [IntKind.wrap_u64]; omega
    have hI2 : q' * y1 + (r + y1) = u := by rw [Nat.add_mul, Nat.one_mul] at hI; omega
    by_cases hc1 : 4294967296 ≤ q' + 1
    · have k1 : decide ((4294967296 : Int) ≤ ((q' + 1 : Nat) : Int)) = true := by simp; omega
      by_cases hr2 : 4294967296 ≤ r + y1
      · have k3 : decide ((4294967296 : Int) ≤ ((r + y1 : Nat) : Int)) = true := by simp; omega
        have he := kn_break' hQ1 hYe hYpos hy0 hI2 (Nat.le_of_lt_succ hlt) (by omega) hr2
        subst q'
        (repeat (first | (simp -implicitDefEqProofs only [ev, mixed, Nat.reduceLT, Nat.reduceAdd, Nat.reduceMul, reduceIte, Nat.reduceEqDiff, reduceCtorEq, Nat.reducePow, Nat.reduceLeDiff, Int.reduceLE, Int.reduceLT, Int.reduceToNat, Int.reduceEq, Nat.reduceBEq, itsOf, gdA, byteI, opid, lenQ, ixQ, ldH, readAt, readCells, asCell, faQ, exQ, fldQ, partA, buildQ, slQ, stH, bslH, appH, dcells, convI, elemsOf, D.one, nilS, fillD, convN, cvH, tyDiv640, k1, wq, wr', k3, wrest1, qy1, tq1, tr1]) | (with_reducible refine ⟨?_, ?_⟩; (· first | (obtain ⟨rfl⟩ := ‹Hq _ _›; with_reducible refine chk_ok ?_; kernel_rfl) | kernel_rfl)) | (with_reducible intro ops hops)))
        clear k3 hr2 wq wr' hI2 hlt hI hq hr hqB abr
        refine W_loopI (ι := Nat × Nat) (fun p => p.1 * y1 + p.2 = R1 ∧ Q0 ≤ p.1 ∧ p.2 < 4294967296 ∧ p.1 ≤ 4294967297)
          (fun p => stOf [(2, .i (.s (.int .u64 (Y : Nat)))), (8, .i (.s (.int .u64 (s : Nat)))), (9, .i (.s (.int .u64 (y1 : Nat)))), (10, .i (.s (.int .u64 (y0 : Nat)))), (14, .i (.s (.int .u64 (d0 : Nat)))), (15, .i (.s (.int .u64 (Q1 : Nat)))), (17, .i (.s (.int .u64 (R1 : Nat)))), (18, .i (.s (.int .u64 (p.1 : Nat)))), (16, .i (.s (.int .u64 (p.2 : Nat))))] []) (fun p => p.1) (qi2, ri2) ⟨hg1, hg2, by simp; omega, hgu2⟩ ?_ ?_
        · refine le_stOf _ _ [] [] ?_ ?_ rfl rfl
          · simp [cv, cv1, cv0, upd, lk, srcOf]
          · simp
        rintro ⟨q, r⟩ ⟨hI, hq, hr, hqB⟩
        simp only at hI hq hr hqB
        rw [stOf_eq]
        have abr := ab r d0 hr (by omega)
        by_cases hc : 4294967296 ≤ q ∨ 4294967296 * r + d0 < q * y0
        · have hlt := kn_more' hQ0 hYe p2 (by omega) hI hc
          obtain ⟨q', rfl⟩ : ∃ q', q = q' + 1 := ⟨q - 1, by omega⟩
          have wq : IntKind.u64.wrap (((q' + 1 : Nat) : Int) - 1) = (q' : Int) := by rw [IntKind.wrap_u64]; omega
          have wr' : IntKind.u64.wrap ((r : Int) + (y1 : Int)) = ((r + y1 : Nat) : Int) := by rw [IntKind.wrap_u64]; omega
          have hI2 : q' * y1 + (r + y1) = R1 := by rw [Nat.add_mul, Nat.one_mul] at hI; omega
          by_cases hc1 : 4294967296 ≤ q' + 1
          · have k1 : decide ((4294967296 : Int) ≤ ((q' + 1 : Nat) : Int)) = true := by simp; omega
            by_cases hr2 : 4294967296 ≤ r + y1
            · have k3 : decide ((4294967296 : Int) ≤ ((r + y1 : Nat) : Int)) = true := by simp; omega
              have he := kn_break' hQ0 hYe hYpos hy0 hI2 (Nat.le_of_lt_succ hlt) (by omega) hr2
              subst q'
              (repeat (first | (simp -implicitDefEqProofs only [ev, mixed, Nat.reduceLT, Nat.reduceAdd, Nat.reduceMul, reduceIte, Nat.reduceEqDiff, reduceCtorEq, Nat.reducePow, Nat.reduceLeDiff, Int.reduceLE, Int.reduceLT, Int.reduceToNat, Int.reduceEq, Nat.reduceBEq, itsOf, gdA, byteI, opid, lenQ, ixQ, ldH, readAt, readCells, asCell, faQ, exQ, fldQ, partA, buildQ, slQ, stH, bslH, appH, dcells, convI, elemsOf, D.one, nilS, fillD, convN, cvH, tyDiv640, k1, wq, wr', k3, wrest0, wsum, wfin]) | (with_reducible refine ⟨?_, ?_⟩; (· first | (obtain ⟨rfl⟩ := ‹Hq _ _›; with_reducible refine chk_ok ?_; kernel_rfl) | kernel_rfl)) | (with_reducible intro ops hops)))
              refine fin_tt [] rfl ?_
              simp [cv, cvT, cv1, cv0, upd]
            · have k3 : decide ((4294967296 : Int) ≤ ((r + y1 : Nat) : Int)) = false := by simp; omega
              (repeat (first | (simp -implicitDefEqProofs only [ev, mixed, Nat.reduceLT, Nat.reduceAdd, Nat.reduceMul, reduceIte, Nat.reduceEqDiff, reduceCtorEq, Nat.reducePow, Nat.reduceLeDiff, Int.reduceLE, Int.reduceLT, Int.reduceToNat, Int.reduceEq, Nat.reduceBEq, itsOf, gdA, byteI, opid, lenQ, ixQ, ldH, readAt, readCells, asCell, faQ, exQ, fldQ, partA, buildQ, slQ, stH, bslH, appH, dcells, convI, elemsOf, D.one, nilS, fillD, convN, cvH, tyDiv640, k1, wq, wr', k3]) | (with_reducible refine ⟨?_, ?_⟩; (· first | (obtain ⟨rfl⟩ := ‹Hq _ _›; with_reducible refine chk_ok ?_; kernel_rfl) | kernel_rfl)) | (with_reducible intro ops hops)))
              refine ⟨(q', r + y1), ⟨hI2, by simp; omega, by simp; omega, by simp; omega⟩, le_stOf _ _ [] [] ?_ ?_ rfl rfl, by simp⟩
              · simp [cv, cv1, cv0, upd, lk, srcOf]
              · simp
          · have k1 : decide ((4294967296 : Int) ≤ ((q' + 1 : Nat) : Int)) = false := by simp; omega
            have mbq := mb (q' + 1) (by omega)
            have k2 : decide (((4294967296 * r + d0 : Nat) : Int) < (((q' + 1) * y0 : Nat) : Int)) = true := by simp only [decide_eq_true_eq, Int.ofNat_lt]; exact hc.resolve_left hc1
            generalize (q' + 1) * y0 = m at mbq k2 hc
            generalize 4294967296 * r + d0 = m2 at abr k2 hc
            by_cases hr2 : 4294967296 ≤ r + y1
            · have k3 : decide ((4294967296 : Int) ≤ ((r + y1 : Nat) : Int)) = true := by simp; omega
              have he := kn_break' hQ0 hYe hYpos hy0 hI2 (Nat.le_of_lt_succ hlt) (by omega) hr2
              subst q'
              (repeat (first | (simp -implicitDefEqProofs only [ev, mixed, Nat.reduceLT, Nat.reduceAdd, Nat.reduceMul, reduceIte, Nat.reduceEqDiff, reduceCtorEq, Nat.reducePow, Nat.reduceLeDiff, Int.reduceLE, Int.reduceLT, Int.reduceToNat, Int.reduceEq, Nat.reduceBEq, itsOf, gdA, byteI, opid, lenQ, ixQ, ldH, readAt, readCells, asCell, faQ, exQ, fldQ, partA, buildQ, slQ, stH, bslH, appH, dcells, convI, elemsOf, D.one, nilS, fillD, convN, cvH, tyDiv640, k1, mbq, abr, k2, wq, wr', k3, wrest0, wsum, wfin]) | (with_reducible refine ⟨?_, ?_⟩; (· first | (obtain ⟨rfl⟩ := ‹Hq _ _›; with_reducible refine chk_ok ?_; kernel_rfl) | kernel_rfl)) | (with_reducible intro ops hops)))
              refine fin_tt [] rfl ?_
              simp [cv, cvT, cv1, cv0, upd]
            · have k3 : decide ((4294967296 : Int) ≤ ((r + y1 : Nat) : Int)) = false := by simp; omega
              (repeat (first | (simp -implicitDefEqProofs only [ev, mixed, Nat.reduceLT, Nat.reduceAdd, Nat.reduceMul, reduceIte, Nat.reduceEqDiff, reduceCtorEq, Nat.reducePow, Nat.reduceLeDiff, Int.reduceLE, Int.reduceLT, Int.reduceToNat, Int.reduceEq, Nat.reduceBEq, itsOf, gdA, byteI, opid, lenQ, ixQ, ldH, readAt, readCells, asCell, faQ, exQ, fldQ, partA, buildQ, slQ, stH, bslH, appH, dcells, convI, elemsOf, D.one, nilS, fillD, convN, cvH, tyDiv640, k1, mbq, abr, k2, wq, wr', k3]) | (with_reducible refine ⟨?_, ?_⟩; (· first | (obtain ⟨rfl⟩ := ‹Hq _ _›; with_reducible refine chk_ok ?_; kernel_rfl) | kernel_rfl)) | (with_reducible intro ops hops)))
              refine ⟨(q', r + y1), ⟨hI2, by simp; omega, by simp; omega, by simp; omega⟩, le_stOf _ _ [] [] ?_ ?_ rfl rfl, by simp⟩
              · simp [cv, cv1, cv0, upd, lk, srcOf]
              · simp
        · have hc1 : ¬ 4294967296 ≤ q := fun h => hc (.inl h)
          have hc2 : ¬ 4294967296 * r + d0 < q * y0 := fun h => hc (.inr h)
          have he := kn_exit' hQ0 hYe hYpos hI hq (Nat.le_of_not_lt hc2)
          have k1 : decide ((4294967296 : Int) ≤ (q : Int)) = false := by simp; omega
          have mbq := mb q (by omega)
          have k2 : decide (((4294967296 * r + d0 : Nat) : Int) < ((q * y0 : Nat) : Int)) = false := by simp only [decide_eq_false_iff_not, Int.ofNat_lt]; exact hc2
          generalize q * y0 = m at mbq k2 hc hc2
          generalize 4294967296 * r + d0 = m2 at abr k2 hc hc2
          subst q
          (repeat (first | (simp -implicitDefEqProofs only [ev, mixed, Nat.reduceLT, Nat.reduceAdd, Nat.reduceMul, reduceIte, Nat.reduceEqDiff, reduceCtorEq, Nat.reducePow, Nat.reduceLeDiff, Int.reduceLE, Int.reduceLT, Int.reduceToNat, Int.reduceEq, Nat.reduceBEq, itsOf, gdA, byteI, opid, lenQ, ixQ, ldH, readAt, readCells, asCell, faQ, exQ, fldQ, partA, buildQ, slQ, stH, bslH, appH, dcells, convI, elemsOf, D.one, nilS, fillD, convN, cvH, tyDiv640, k1, mbq, abr, k2, wrest0, wsum, wfin]) | (with_reducible refine ⟨?_, ?_⟩; (· first | (obtain ⟨rfl⟩ := ‹Hq _ _›; with_reducible refine chk_ok ?_; kernel_rfl) | kernel_rfl)) | (with_reducible intro ops hops)))
          refine fin_tt [] rfl ?_
          simp [cv, cvT, cv1, cv0, upd]
      · have k3 : decide ((4294967296 : Int) ≤ ((r + y1 : Nat) : Int)) = false := by simp; omega
        (repeat (first | (simp -implicitDefEqProofs only [ev, mixed, Nat.reduceLT, Nat.reduceAdd, Nat.reduceMul, reduceIte, Nat.reduceEqDiff, reduceCtorEq, Nat.reducePow, Nat.reduceLeDiff, Int.reduceLE, Int.reduceLT, Int.reduceToNat, Int.reduceEq, Nat.reduceBEq, itsOf, gdA, byteI, opid, lenQ, ixQ, ldH, readAt, readCells, asCell, faQ, exQ, fldQ, partA, buildQ, slQ, stH, bslH, appH, dcells, convI, elemsOf, D.one, nilS, fillD, convN, cvH, tyDiv640, k1, wq, wr', k3]) | (with_reducible refine ⟨?_, ?_⟩; (· first | (obtain ⟨rfl⟩ := ‹Hq _ _›; with_reducible refine chk_ok ?_; kernel_rfl) | kernel_rfl)) | (with_reducible intro ops hops)))
        refine ⟨(q', r + y1), ⟨hI2, by simp; omega, by simp; omega, by simp; omega⟩, le_stOf _ _ [] [] ?_ ?_ rfl rfl, by simp⟩
        · simp [cv, cv1, cv0, upd, lk, srcOf]
        · simp
    · have k1 : decide ((4294967296 : Int) ≤ ((q' + 1 : Nat) : Int)) = false := by simp; omega
      have mbq := mb (q' + 1) (by omega)
      have k2 : decide (((4294967296 * r + d1 : Nat) : Int) < (((q' + 1) * y0 : Nat) : Int)) = true := by simp only [decide_eq_true_eq, Int.ofNat_lt]; exact hc.resolve_left hc1
      generalize (q' + 1) * y0 = m at mbq k2 hc
      generalize 4294967296 * r + d1 = m2 at abr k2 hc
      by_cases hr2 : 4294967296 ≤ r + y1
      · have k3 : decide ((4294967296 : Int) ≤ ((r + y1 : Nat) : Int)) = true := by simp; omega
        have he := kn_break' hQ1 hYe hYpos hy0 hI2 (Nat.le_of_lt_succ hlt) (by omega) hr2
        subst q'
        (repeat (first | (simp -implicitDefEqProofs only [ev, mixed, Nat.reduceLT, Nat.reduceAdd, Nat.reduceMul, reduceIte, Nat.reduceEqDiff, reduceCtorEq, Nat.reducePow, Nat.reduceLeDiff, Int.reduceLE, Int.reduceLT, Int.reduceToNat, Int.reduceEq, Nat.reduceBEq, itsOf, gdA, byteI, opid, lenQ, ixQ, ldH, readAt, readCells, asCell, faQ, exQ, fldQ, partA, buildQ, slQ, stH, bslH, appH, dcells, convI, elemsOf, D.one, nilS, fillD, convN, cvH, tyDiv640, k1, mbq, abr, k2, wq, wr', k3, wrest1, qy1, tq1, tr1]) | (with_reducible refine ⟨?_, ?_⟩; (· first | (obtain ⟨rfl⟩ := ‹Hq _ _›; with_reducible refine chk_ok ?_; kernel_rfl) | kernel_rfl)) | (with_reducible intro ops hops)))
        clear k3 hr2 wq wr' hI2 hlt hI hq hr hqB abr
        refine W_loopI (ι := Nat × Nat) (fun p => p.1 * y1 + p.2 = R1 ∧ Q0 ≤ p.1 ∧ p.2 < 4294967296 ∧ p.1 ≤ 4294967297)
          (fun p => stOf [(2, .i (.s (.int .u64 (Y : Nat)))), (8, .i (.s (.int .u64 (s : Nat)))), (9, .i (.s (.int .u64 (y1 : Nat)))), (10, .i (.s (.int .u64 (y0 : Nat)))), (14, .i (.s (.int .u64 (d0 : Nat)))), (15, .i (.s (.int .u64 (Q1 : Nat)))), (17, .i (.s (.int .u64 (R1 : Nat)))), (18, .i (.s (.int .u64 (p.1 : Nat)))), (16, .i (.s (.int .u64 (p.2 : Nat))))] []) (fun p => p.1) (qi2, ri2) ⟨hg1, hg2, by simp; omega, hgu2⟩ ?_ ?_
        · refine le_stOf _ _ [] [] ?_ ?_ rfl rfl
          · simp [cv, cv1, cv0, upd, lk, srcOf]
          · simp
        rintro ⟨q, r⟩ ⟨hI, hq, hr, hqB⟩
        simp only at hI hq hr hqB
        rw [stOf_eq]
        have abr := ab r d0 hr (by omega)
        by_cases hc : 4294967296 ≤ q ∨ 4294967296 * r + d0 < q * y0
        · have hlt := kn_more' hQ0 hYe p2 (by omega) hI hc
          obtain ⟨q', rfl⟩ : ∃ q', q = q' + 1 := ⟨q - 1, by omega⟩
          have wq : IntKind.u64.wrap (((q' + 1 : Nat) : Int) - 1) = (q' : Int) := by rw [IntKind.wrap_u64]; omega
          have wr' : IntKind.u64.wrap ((r : Int) + (y1 : Int)) = ((r + y1 : Nat) : Int) := by rw [IntKind.wrap_u64]; omega
          have hI2 : q' * y1 + (r + y1) = R1 := by rw [Nat.add_mul, Nat.one_mul] at hI; omega
          by_cases hc1 : 4294967296 ≤ q' + 1
          · have k1 : decide ((4294967296 : Int) ≤ ((q' + 1 : Nat) : Int)) = true := by simp; omega
            by_cases hr2 : 4294967296 ≤ r + y1
            · have k3 : decide ((4294967296 : Int) ≤ ((r + y1 : Nat) : Int)) = true := by simp; omega
              have he := kn_break' hQ0 hYe hYpos hy0 hI2 (Nat.le_of_lt_succ hlt) (by omega) hr2
              subst q'
              (repeat (first | (simp -implicitDefEqProofs only [ev, mixed, Nat.reduceLT, Nat.reduceAdd, Nat.reduceMul, reduceIte, Nat.reduceEqDiff, reduceCtorEq, Nat.reducePow, Nat.reduceLeDiff, Int.reduceLE, Int.reduceLT, Int.reduceToNat, Int.reduceEq, Nat.reduceBEq, itsOf, gdA, byteI, opid, lenQ, ixQ, ldH, readAt, readCells, asCell, faQ, exQ, fldQ, partA, buildQ, slQ, stH, bslH, appH, dcells, convI, elemsOf, D.one, nilS, fillD, convN, cvH, tyDiv640, k1, wq, wr', k3, wrest0, wsum, wfin]) | (with_reducible refine ⟨?_, ?_⟩; (· first | (obtain ⟨rfl⟩ := ‹Hq _ _›; with_reducible refine chk_ok ?_; kernel_rfl) | kernel_rfl)) | (with_reducible intro ops hops)))
              refine fin_tt [] rfl ?_
              simp [cv, cvT, cv1, cv0, upd]
            · have k3 : decide ((4294967296 : Int) ≤ ((r + y1 : Nat) : Int)) = false := by simp; omega
              (repeat (first | (simp -implicitDefEqProofs only [ev, mixed, Nat.reduceLT, Nat.reduceAdd, Nat.reduceMul, reduceIte, Nat.reduceEqDiff, reduceCtorEq, Nat.reducePow, Nat.reduceLeDiff, Int.reduceLE, Int.reduceLT, Int.reduceToNat, Int.reduceEq, Nat.reduceBEq, itsOf, gdA, byteI, opid, lenQ, ixQ, ldH, readAt, readCells, asCell, faQ, exQ, fldQ, partA, buildQ, slQ, stH, bslH, appH, dcells, convI, elemsOf, D.one, nilS, fillD, convN, cvH, tyDiv640, k1, wq, wr', k3]) | (with_reducible refine ⟨?_, ?_⟩; (· first | (obtain ⟨rfl⟩ := ‹Hq _ _›; with_reducible refine chk_ok ?_; kernel_rfl) | kernel_rfl)) | (with_reducible intro ops hops)))
              refine ⟨(q', r + y1), ⟨hI2, by simp; omega, by simp; omega, by simp; omega⟩, le_stOf _ _ [] [] ?_ ?_ rfl rfl, by simp⟩
              · simp [cv, cv1, cv0, upd, lk, srcOf]
              · simp
          · have k1 : decide ((4294967296 : Int) ≤ ((q' + 1 : Nat) : Int)) = false := by simp; omega
            have mbq := mb (q' + 1) (by omega)
            have k2 : decide (((4294967296 * r + d0 : Nat) : Int) < (((q' + 1) * y0 : Nat) : Int)) = true := by simp only [decide_eq_true_eq, Int.ofNat_lt]; exact hc.resolve_left hc1
            generalize (q' + 1) * y0 = m at mbq k2 hc
            generalize 4294967296 * r + d0 = m2 at abr k2 hc
            by_cases hr2 : 4294967296 ≤ r + y1
            · have k3 : decide ((4294967296 : Int) ≤ ((r + y1 : Nat) : Int)) = true := by simp; omega
              have he := kn_break' hQ0 hYe hYpos hy0 hI2 (Nat.le_of_lt_succ hlt) (by omega) hr2
              subst q'
              (repeat (first | (simp -implicitDefEqProofs only [ev, mixed, Nat.reduceLT, Nat.reduceAdd, Nat.reduceMul, reduceIte, Nat.reduceEqDiff, reduceCtorEq, Nat.reducePow, Nat.reduceLeDiff, Int.reduceLE, Int.reduceLT, Int.reduceToNat, Int.reduceEq, Nat.reduceBEq, itsOf, gdA, byteI, opid, lenQ, ixQ, ldH, readAt, readCells, asCell, faQ, exQ, fldQ, partA, buildQ, slQ, stH, bslH, appH, dcells, convI, elemsOf, D.one, nilS, fillD, convN, cvH, tyDiv640, k1, mbq, abr, k2, wq, wr', k3, wrest0, wsum, wfin]) | (with_reducible refine ⟨?_, ?_⟩; (· first | (obtain ⟨rfl⟩ := ‹Hq _ _›; with_reducible refine chk_ok ?_; kernel_rfl) | kernel_rfl)) | (with_reducible intro ops hops)))
              refine fin_tt [] rfl ?_
              simp [cv, cvT, cv1, cv0, upd]
            · have k3 : decide ((4294967296 : Int) ≤ ((r + y1 : Nat) : Int)) = false := by simp; omega
              (repeat (first | (simp -implicitDefEqProofs only [ev, mixed, Nat.reduceLT, Nat.reduceAdd, Nat.reduceMul, reduceIte, Nat.reduceEqDiff, reduceCtorEq, Nat.reducePow, Nat.reduceLeDiff, Int.reduceLE, Int.reduceLT, Int.reduceToNat, Int.reduceEq, Nat.reduceBEq, itsOf, gdA, byteI, opid, lenQ, ixQ, ldH, readAt, readCells, asCell, faQ, exQ, fldQ, partA, buildQ, slQ, stH, bslH, appH, dcells, convI, elemsOf, D.one, nilS, fillD, convN, cvH, tyDiv640, k1, mbq, abr, k2, wq, wr', k3]) | (with_reducible refine ⟨?_, ?_⟩; (· first | (obtain ⟨rfl⟩ := ‹Hq _ _›; with_reducible refine chk_ok ?_; kernel_rfl) | kernel_rfl)) | (with_reducible intro ops hops)))
              refine ⟨(q', r + y1), ⟨hI2, by simp; omega, by simp; omega, by simp; omega⟩, le_stOf _ _ [] [] ?_ ?_ rfl rfl, by simp⟩
              · simp [cv, cv1, cv0, upd, lk, srcOf]
              · simp
        · have hc1 : ¬ 4294967296 ≤ q := fun h => hc (.inl h)
          have hc2 : ¬ 4294967296 * r + d0 < q * y0 := fun h => hc (.inr h)
          have he := kn_exit' hQ0 hYe hYpos hI hq (Nat.le_of_not_lt hc2)
          have k1 : decide ((4294967296 : Int) ≤ (q : Int)) = false := by simp; omega
          have mbq := mb q (by omega)
          have k2 : decide (((4294967296 * r + d0 : Nat) : Int) < ((q * y0 : Nat) : Int)) = false := by simp only [decide_eq_false_iff_not, Int.ofNat_lt]; exact hc2
          generalize q * y0 = m at mbq k2 hc hc2
          generalize 4294967296 * r + d0 = m2 at abr k2 hc hc2
          subst q
          (repeat (first | (simp -implicitDefEqProofs only [ev, mixed, Nat.reduceLT, Nat.reduceAdd, Nat.reduceMul, reduceIte, Nat.reduceEqDiff, reduceCtorEq, Nat.reducePow, Nat.reduceLeDiff, Int.reduceLE, Int.reduceLT, Int.reduceToNat, Int.reduceEq, Nat.reduceBEq, itsOf, gdA, byteI, opid, lenQ, ixQ, ldH, readAt, readCells, asCell, faQ, exQ, fldQ, partA, buildQ, slQ, stH, bslH, appH, dcells, convI, elemsOf, D.one, nilS, fillD, convN, cvH, tyDiv640, k1, mbq, abr, k2, wrest0, wsum, wfin]) | (with_reducible refine ⟨?_, ?_⟩; (· first | (obtain ⟨rfl⟩ := ‹Hq _ _›; with_reducible refine chk_ok ?_; kernel_rfl) | kernel_rfl)) | (with_reducible intro ops hops)))
          refine fin_tt [] rfl ?_
          simp [cv, cvT, cv1, cv0, upd]
      · have k3 : decide ((4294967296 : Int) ≤ ((r + y1 : Nat) : Int)) = false := by simp; omega
        (repeat (first | (simp -implicitDefEqProofs only [ev, mixed, Nat.reduceLT, Nat.reduceAdd, Nat.reduceMul, reduceIte, Nat.reduceEqDiff, reduceCtorEq, Nat.reducePow, Nat.reduceLeDiff, Int.reduceLE, Int.reduceLT, Int.reduceToNat, Int.reduceEq, Nat.reduceBEq, itsOf, gdA, byteI, opid, lenQ, ixQ, ldH, readAt, readCells, asCell, faQ, exQ, fldQ, partA, buildQ, slQ, stH, bslH, appH, dcells, convI, elemsOf, D.one, nilS, fillD, convN, cvH, tyDiv640, k1, mbq, abr, k2, wq, wr', k3]) | (with_reducible refine ⟨?_, ?_⟩; (· first | (obtain ⟨rfl⟩ := ‹Hq _ _›; with_reducible refine chk_ok ?_; kernel_rfl) | kernel_rfl)) | (with_reducible intro ops hops)))
        refine ⟨(q', r + y1), ⟨hI2, by simp; omega, by simp; omega, by simp; omega⟩, le_stOf _ _ [] [] ?_ ?_ rfl rfl, by simp⟩
        · simp [cv, cv1, cv0, upd, lk, srcOf]
        · simp
  · have hc1 : ¬ 4294967296 ≤ q := fun h => hc (.inl h)
    have hc2 : ¬ 4294967296 * r + d1 < q * y0 := fun h => hc (.inr h)
    have he := kn_exit' hQ1 hYe hYpos hI hq (Nat.le_of_not_lt hc2)
    have k1 : decide ((4294967296 : Int) ≤ (q : Int)) = false := by simp; omega
    have mbq := mb q (by omega)
    have k2 : decide (((4294967296 * r + d1 : Nat) : Int) < ((q * y0 : Nat) : Int)) = false := by simp only [decide_eq_false_iff_not, Int.ofNat_lt]; exact hc2
    generalize q * y0 = m at mbq k2 hc hc2
    generalize 4294967296 * r + d1 = m2 at abr k2 hc hc2
    subst q
    (repeat (first | (simp -implicitDefEqProofs only [ev, mixed, Nat.reduceLT, Nat.reduceAdd, Nat.reduceMul, reduceIte, Nat.reduceEqDiff, reduceCtorEq, Nat.reducePow, Nat.reduceLeDiff, Int.reduceLE, Int.reduceLT, Int.reduceToNat, Int.reduceEq, Nat.reduceBEq, itsOf, gdA, byteI, opid, lenQ, ixQ, ldH, readAt, readCells, asCell, faQ, exQ, fldQ, partA, buildQ, slQ, stH, bslH, appH, dcells, convI, elemsOf, D.one, nilS, fillD, convN, cvH, tyDiv640, k1, mbq, abr, k2, wrest1, qy1, tq1, tr1]) | (with_reducible refine ⟨?_, ?_⟩; (· first | (obtain ⟨rfl⟩ := ‹Hq _ _›; with_reducible refine chk_ok ?_; kernel_rfl) | kernel_rfl)) | (with_reducible intro ops hops)))
    clear k1 k2 mbq abr hI hq hr hqB hc hc1 hc2
    refine W_loopI (ι := Nat × Nat) (fun p => p.1 * y1 + p.2 = R1 ∧ Q0 ≤ p.1 ∧ p.2 < 4294967296 ∧ p.1 ≤ 4294967297)
      (fun p => stOf [(2, .i (.s (.int .u64 (Y : Nat)))), (8, .i (.s (.int .u64 (s : Nat)))), (9, .i (.s (.int .u64 (y1 : Nat)))), (10, .i (.s (.int .u64 (y0 : Nat)))), (14, .i (.s (.int .u64 (d0 : Nat)))), (15, .i (.s (.int .u64 (Q1 : Nat)))), (17, .i (.s (.int .u64 (R1 : Nat)))), (18, .i (.s (.int .u64 (p.1 : Nat)))), (16, .i (.s (.int .u64 (p.2 : Nat))))] []) (fun p => p.1) (qi2, ri2) ⟨hg1, hg2, by simp; omega, hgu2⟩ ?_ ?_
    · refine le_stOf _ _ [] [] ?_ ?_ rfl rfl
      · simp [cv, cv1, cv0, upd, lk, srcOf]
      · simp
    rintro ⟨q, r⟩ ⟨hI, hq, hr, hqB⟩
    simp only at hI hq hr hqB
    rw [stOf_eq]
    have abr := ab r d0 hr (by omega)
    by_cases hc : 4294967296 ≤ q ∨ 4294967296 * r + d0 < q * y0
    · have hlt := kn_more' hQ0 hYe p2 (by omega) hI hc
      obtain ⟨q', rfl⟩ : ∃ q', q = q' + 1 := ⟨q - 1, by omega⟩
      have wq : IntKind.u64.wrap (((q' + 1 : Nat) : Int) - 1) = (q' : Int) := by rw [IntKind.wrap_u64]; omega
      have wr' : IntKind.u64.wrap ((r : Int) + (y1 : Int)) = ((r + y1 : Nat) : Int) := by rw [IntKind.wrap_u64]; omega
      have hI2 : q' * y1 + (r + y1) = R1 := by rw [Nat.add_mul, Nat.one_mul] at hI; omega
      by_cases hc1 : 4294967296 ≤ q' + 1
      · have k1 : decide ((4294967296 : Int) ≤ ((q' + 1 : Nat) : Int)) = true := by simp; omega
        by_cases hr2 : 4294967296 ≤ r + y1
        · have k3 : decide ((4294967296 : Int) ≤ ((r + y1 : Nat) : Int)) = true := by simp; omega
          have he := kn_break' hQ0 hYe hYpos hy0 hI2 (Nat.le_of_lt_succ hlt) (by omega) hr2
          subst q'
          (repeat (first | (simp -implicitDefEqProofs only [ev, mixed, Nat.reduceLT, Nat.reduceAdd, Nat.reduceMul, reduceIte, Nat.reduceEqDiff, reduceCtorEq, Nat.reducePow, Nat.reduceLeDiff, Int.reduceLE, Int.reduceLT, Int.reduceToNat, Int.reduceEq, Nat.reduceBEq, itsOf, gdA, byteI, opid, lenQ, ixQ, ldH, readAt, readCells, asCell, faQ, exQ, fldQ, partA, buildQ, slQ, stH, bslH, appH, dcells, convI, elemsOf, D.one, nilS, fillD, convN, cvH, tyDiv640, k1, wq, wr', k3, wrest0, wsum, wfin]) | (with_reducible refine ⟨?_, ?_⟩; (· first | (obtain ⟨rfl⟩ := ‹Hq _ _›; with_reducible refine chk_ok ?_; kernel_rfl) | kernel_rfl)) | (with_reducible intro ops hops)))
          refine fin_tt [] rfl ?_
          simp [cv, cvT, cv1, cv0, upd]
        · have k3 : decide ((4294967296 : Int) ≤ ((r + y1 : Nat) : Int)) = false := by simp; omega
          (repeat (first | (simp -implicitDefEqProofs only [ev, mixed, Nat.reduceLT, Nat.reduceAdd, Nat.reduceMul, reduceIte, Nat.reduceEqDiff, reduceCtorEq, Nat.reducePow, Nat.reduceLeDiff, Int.reduceLE, Int.reduceLT, Int.reduceToNat, Int.reduceEq, Nat.reduceBEq, itsOf, gdA, byteI, opid, lenQ, ixQ, ldH, readAt, readCells, asCell, faQ, exQ, fldQ, partA, buildQ, slQ, stH, bslH, appH, dcells, convI, elemsOf, D.one, nilS, fillD, convN, cvH, tyDiv640, k1, wq, wr', k3]) | (with_reducible refine ⟨?_, ?_⟩; (· first | (obtain ⟨rfl⟩ := ‹Hq _ _›; with_reducible refine chk_ok ?_; kernel_rfl) | kernel_rfl)) | (with_reducible intro ops hops)))
          refine ⟨(q', r + y1), ⟨hI2, by simp; omega, by simp; omega, by simp; omega⟩, le_stOf _ _ [] [] ?_ ?_ rfl rfl, by simp⟩
          · simp [cv, cv1, cv0, upd, lk, srcOf]
          · simp
      · have k1 : decide ((4294967296 : Int) ≤ ((q' + 1 : Nat) : Int)) = false := by simp; omega
        have mbq := mb (q' + 1) (by omega)
        have k2 : decide (((4294967296 * r + d0 : Nat) : Int) < (((q' + 1) * y0 : Nat) : Int)) = true := by simp only [decide_eq_true_eq, Int.ofNat_lt]; exact hc.resolve_left hc1
        generalize (q' + 1) * y0 = m at mbq k2 hc
        generalize 4294967296 * r + d0 = m2 at abr k2 hc
        by_cases hr2 : 4294967296 ≤ r + y1
        · have k3 : decide ((4294967296 : Int) ≤ ((r + y1 : Nat) : Int)) = true := by simp; omega
          have he := kn_break' hQ0 hYe hYpos hy0 hI2 (Nat.le_of_lt_succ hlt) (by omega) hr2
          subst q'
          (repeat (first | (simp -implicitDefEqProofs only [ev, mixed, Nat.reduceLT, Nat.reduceAdd, Nat.reduceMul, reduceIte, Nat.reduceEqDiff, reduceCtorEq, Nat.reducePow, Nat.reduceLeDiff, Int.reduceLE, Int.reduceLT, Int.reduceToNat, Int.reduceEq, Nat.reduceBEq, itsOf, gdA, byteI, opid, lenQ, ixQ, ldH, readAt, readCells, asCell, faQ, exQ, fldQ, partA, buildQ, slQ, stH, bslH, appH, dcells, convI, elemsOf, D.one, nilS, fillD, convN, cvH, tyDiv640, k1, mbq, abr, k2, wq, wr', k3, wrest0, wsum, wfin]) | (with_reducible refine ⟨?_, ?_⟩; (· first | (obtain ⟨rfl⟩ := ‹Hq _ _›; with_reducible refine chk_ok ?_; kernel_rfl) | kernel_rfl)) | (with_reducible intro ops hops)))
          refine fin_tt [] rfl ?_
          simp [cv, cvT, cv1, cv0, upd]
        · have k3 : decide ((4294967296 : Int) ≤ ((r + y1 : Nat) : Int)) = false := by simp; omega
          (repeat (first | (simp -implicitDefEqProofs only [ev, mixed, Nat.reduceLT, Nat.reduceAdd, Nat.reduceMul, reduceIte, Nat.reduceEqDiff, reduceCtorEq, Nat.reducePow, Nat.reduceLeDiff, Int.reduceLE, Int.reduceLT, Int.reduceToNat, Int.reduceEq, Nat.reduceBEq, itsOf, gdA, byteI, opid, lenQ, ixQ, ldH, readAt, readCells, asCell, faQ, exQ, fldQ, partA, buildQ, slQ, stH, bslH, appH, dcells, convI, elemsOf, D.one, nilS, fillD, convN, cvH, tyDiv640, k1, mbq, abr, k2, wq, wr', k3]) | (with_reducible refine ⟨?_, ?_⟩; (· first | (obtain ⟨rfl⟩ := ‹Hq _ _›; with_reducible refine chk_ok ?_; kernel_rfl) | kernel_rfl)) | (with_reducible intro ops hops)))
          refine ⟨(q', r + y1), ⟨hI2, by simp; omega, by simp; omega, by simp; omega⟩, le_stOf _ _ [] [] ?_ ?_ rfl rfl, by simp⟩
          · simp [cv, cv1, cv0, upd, lk, srcOf]
          · simp
    · have hc1 : ¬ 4294967296 ≤ q := fun h => hc (.inl h)
      have hc2 : ¬ 4294967296 * r + d0 < q * y0 := fun h => hc (.inr h)
      have he := kn_exit' hQ0 hYe hYpos hI hq (Nat.le_of_not_lt hc2)
      have k1 : decide ((4294967296 : Int) ≤ (q : Int)) = false := by simp; omega
      have mbq := mb q (by omega)
      have k2 : decide (((4294967296 * r + d0 : Nat) : Int) < ((q * y0 : Nat) : Int)) = false := by simp only [decide_eq_false_iff_not, Int.ofNat_lt]; exact hc2
      generalize q * y0 = m at mbq k2 hc hc2
      generalize 4294967296 * r + d0 = m2 at abr k2 hc hc2
      subst q
      (repeat (first | (simp -implicitDefEqProofs only [ev, mixed, Nat.reduceLT, Nat.reduceAdd, Nat.reduceMul, reduceIte, Nat.reduceEqDiff, reduceCtorEq, Nat.reducePow, Nat.reduceLeDiff, Int.reduceLE, Int.reduceLT, Int.reduceToNat, Int.reduceEq, Nat.reduceBEq, itsOf, gdA, byteI, opid, lenQ, ixQ, ldH, readAt, readCells, asCell, faQ, exQ, fldQ, partA, buildQ, slQ, stH, bslH, appH, dcells, convI, elemsOf, D.one, nilS, fillD, convN, cvH, tyDiv640, k1, mbq, abr, k2, wrest0, wsum, wfin]) | (with_reducible refine ⟨?_, ?_⟩; (· first | (obtain ⟨rfl⟩ := ‹Hq _ _›; with_reducible refine chk_ok ?_; kernel_rfl) | kernel_rfl)) | (with_reducible intro ops hops)))
      refine fin_tt [] rfl ?_
      simp [cv, cvT, cv1, cv0, upd]
end Go.Proofs.Ytdpfjmkilbepgaa
