/- math/bits.Len64, LeadingZeros64, Div64: by value. Written by a program. -/
import Derived.Test.YtmclpbcipkdmcaaDoorAbs4
import Derived.Test.YtmclpbcipkdmcaaDoorBits
import Derived.Test.YtmclpbcipkdmcaaDoorDivS
set_option linter.all false
namespace Go.Proofs.YtmclpbcipkdmcaaDoor
open Go Go.Abs Go.RowKit Go.Proofs.YtmclpbcipkdmcaaDoor.Ty
theorem tyLen640 : (type_of% @Ty.T3) ∧ (type_of% @Ty.T5) ∧ (type_of% @Ty.T9) ∧ (type_of% @Ty.T107) := ⟨@Ty.T3, @Ty.T5, @Ty.T9, @Ty.T107⟩

section
variable {P : Program} {sl : Nat → D} {H : Nat → Ob} {t : TypeId} {x y : Operand}
theorem index_str {S : ByteArray} {k : IntKind} {n : Nat} {u : Option TypeDesc} (h : undOf P t = some .string) (hn : n < S.size) : idQ P t (.i (.s (.string S))) u (some (.int k (n : Int))) = some (.i (.s (.int .u8 ((S.data.toList.getD n 0).toNat : Int)))) :=
  id_str h (Int.natCast_nonneg _) (by simpa using hn)
end

theorem len_of {x x3 k L : Nat} (hx3 : x3 = x / 2 ^ k) (hL : 1 ≤ L) (h1 : 2 ^ (L - 1) ≤ x3) (h2 : x3 < 2 ^ L) : Nat.log2 x + 1 = k + L := by
  subst hx3
  have hp : 0 < 2 ^ k := Nat.pow_pos (by decide)
  rw [Nat.le_div_iff_mul_le hp, ← Nat.pow_add] at h1
  rw [Nat.div_lt_iff_lt_mul hp, ← Nat.pow_add] at h2
  have hx : x ≠ 0 := by
    have := Nat.pow_pos (n := L - 1 + k) (show 0 < 2 by decide)
    omega
  have := (Nat.log2_eq_iff hx (k := L - 1 + k)).2 ⟨h1, by rw [show L - 1 + k + 1 = L + k by omega]; exact h2⟩
  omega
theorem shr_u64 (a d : Nat) (hd : d ≤ 64) : (a : Int).fdiv (2 ^ min d (IntKind.bits .u64)) = ((a / 2 ^ d : Nat) : Int) := by
  rw [show min d (IntKind.bits .u64) = d by simp [IntKind.bits]; omega, Int.fdiv_eq_ediv_of_nonneg _ (Int.le_of_lt (Int.pow_pos (by decide)))]
  have e : ((2 : Int) ^ d) = ((2 ^ d : Nat) : Int) := by simp
  rw [e]; exact (Int.natCast_ediv _ _).symm
theorem wn1 : IntKind.i64.wrap (0 + 16) = 16 := by decide
theorem wn2 : IntKind.i64.wrap (32 + 16) = 48 := by decide
theorem wn3 : IntKind.i64.wrap (0 + 8) = 8 := by decide
theorem wn4 : IntKind.i64.wrap (16 + 8) = 24 := by decide
theorem wn5 : IntKind.i64.wrap (32 + 8) = 40 := by decide
theorem wn6 : IntKind.i64.wrap (48 + 8) = 56 := by decide

set_option maxHeartbeats 4000000
theorem len64_A (x : Nat) (hx0 : 0 < x) (hx : x < 18446744073709551616) : PureD Tryd.prog 128 [.i (.s (.int .u64 (x : Int)))] (.i (.s (.int .i64 ((Nat.log2 x + 1 : Nat) : Int)))) := by
  refine callD_W 25 Tryd.func128 rfl rfl rfl (fun _ _ => rfl) ?_
  generalize hS : (ByteArray.mk _) = S
  have hSz : S.size = 256 := by subst hS; decide +kernel
  have hT : ∀ x, x < 256 → 0 < x → 1 ≤ (S.data.toList.getD x 0).toNat ∧ (S.data.toList.getD x 0).toNat ≤ 8 ∧ 2 ^ ((S.data.toList.getD x 0).toNat - 1) ≤ x ∧ x < 2 ^ (S.data.toList.getD x 0).toNat := by subst hS; decide +kernel
  clear hS
  have s32 := shr_u64 x 32 (by decide)
  have c32 : (2 : Nat) ^ 32 = 4294967296 := by decide
  have c16 : (2 : Nat) ^ 16 = 65536 := by decide
  have c8 : (2 : Nat) ^ 8 = 256 := by decide
  by_cases h0 : 4294967296 ≤ x
  · have g0 : decide ((4294967296 : Int) ≤ (x : Int)) = true := by simp; omega
    have sh0 := shr_u64 x 32 (by decide)
    have hb0 : 0 < x / 2 ^ 32 ∧ x / 2 ^ 32 < 4294967296 := by rw [c32]; omega
    generalize he0 : x / 2 ^ 32 = x1 at sh0 hb0
    by_cases h1 : 65536 ≤ x1
    · have g1 : decide ((65536 : Int) ≤ (x1 : Int)) = true := by simp; omega
      have sh1 := shr_u64 x1 16 (by decide)
      have hb1 : 0 < x1 / 2 ^ 16 ∧ x1 / 2 ^ 16 < 65536 := by rw [c16]; omega
      generalize he1 : x1 / 2 ^ 16 = x2 at sh1 hb1
      by_cases h2 : 256 ≤ x2
      · have g2 : decide ((256 : Int) ≤ (x2 : Int)) = true := by simp; omega
        have sh2 := shr_u64 x2 8 (by decide)
        have hb2 : 0 < x2 / 2 ^ 8 ∧ x2 / 2 ^ 8 < 256 := by rw [c8]; omega
        generalize he2 : x2 / 2 ^ 8 = x3 at sh2 hb2
        have hdiv : x3 = x / 2 ^ 56 := by simp [← he2, ← he1, ← he0, Nat.div_div_eq_div_mul]
        have hx3 : x3 < S.size := by rw [hSz]; omega
        have h30 : 0 < x3 := by omega
        obtain ⟨t1, t2, t3, t4⟩ := hT x3 (by omega) h30
        have hr := len_of (x := x) (x3 := x3) (k := 56) hdiv t1 t3 t4
        have wu : IntKind.u8.wrap (x3 : Int) = (x3 : Int) := by rw [IntKind.wrap_u8]; omega
        generalize hLL : (S.data.toList.getD x3 0).toNat = L at t1 t2 t3 t4 hr
        have wl : IntKind.i64.wrap (L : Int) = (L : Int) := by rw [wrap64 (by omega) (by omega)]
        have wr : IntKind.i64.wrap (56 + (L : Int)) = ((Nat.log2 x + 1 : Nat) : Int) := by rw [hr, wrap64 (by omega) (by omega)]; omega
        have hix : ∀ {k : IntKind} {t : TypeId} {u : Option TypeDesc}, undOf Tryd.prog t = some .string → idQ Tryd.prog t (.i (.s (.string S))) u (some (.int k ((x3 : Nat) : Int))) = some (.i (.s (.int .u8 (L : Int)))) := fun h => by rw [index_str h hx3, hLL]
        (repeat (first | (simp -implicitDefEqProofs only [ev, mixed, Nat.reduceLT, Nat.reduceAdd, Nat.reduceMul, reduceIte, Nat.reduceEqDiff, reduceCtorEq, Nat.reducePow, Nat.reduceLeDiff, Int.reduceLE, Int.reduceLT, Int.reduceToNat, Int.reduceEq, Nat.reduceBEq, itsOf, gdA, byteI, opid, lenQ, ixQ, ldH, readAt, readCells, asCell, faQ, exQ, fldQ, partA, buildQ, slQ, stH, bslH, appH, dcells, convI, elemsOf, D.one, nilS, fillD, convN, cvH, tyLen640, g0, sh0, g1, sh1, g2, sh2, oQ_index, hix, wu, wl, wr, wn1, wn2, wn3, wn4, wn5, wn6]) | (with_reducible refine ⟨?_, ?_⟩; (· first | (obtain ⟨rfl⟩ := ‹Hq _ _›; with_reducible refine chk_ok ?_; kernel_rfl) | kernel_rfl)) | (with_reducible intro ops hops)))
        refine fin_ret [] rfl ?_
        simp [cv, cv1, cv0, upd]
      · have g2 : decide ((256 : Int) ≤ (x2 : Int)) = false := by simp; omega
        have hdiv : x2 = x / 2 ^ 48 := by simp [← he1, ← he0, Nat.div_div_eq_div_mul]
        have hx3 : x2 < S.size := by rw [hSz]; omega
        have h30 : 0 < x2 := by omega
        obtain ⟨t1, t2, t3, t4⟩ := hT x2 (by omega) h30
        have hr := len_of (x := x) (x3 := x2) (k := 48) hdiv t1 t3 t4
        have wu : IntKind.u8.wrap (x2 : Int) = (x2 : Int) := by rw [IntKind.wrap_u8]; omega
        generalize hLL : (S.data.toList.getD x2 0).toNat = L at t1 t2 t3 t4 hr
        have wl : IntKind.i64.wrap (L : Int) = (L : Int) := by rw [wrap64 (by omega) (by omega)]
        have wr : IntKind.i64.wrap (48 + (L : Int)) = ((Nat.log2 x + 1 : Nat) : Int) := by rw [hr, wrap64 (by omega) (by omega)]; omega
        have hix : ∀ {k : IntKind} {t : TypeId} {u : Option TypeDesc}, undOf Tryd.prog t = some .string → idQ Tryd.prog t (.i (.s (.string S))) u (some (.int k ((x2 : Nat) : Int))) = some (.i (.s (.int .u8 (L : Int)))) := fun h => by rw [index_str h hx3, hLL]
        (repeat (first | (simp -implicitDefEqProofs only [ev, mixed, Nat.reduceLT, Nat.reduceAdd, Nat.reduceMul, reduceIte, Nat.reduceEqDiff, reduceCtorEq, Nat.reducePow, Nat.reduceLeDiff, Int.reduceLE, Int.reduceLT, Int.reduceToNat, Int.reduceEq, Nat.reduceBEq, itsOf, gdA, byteI, opid, lenQ, ixQ, ldH, readAt, readCells, asCell, faQ, exQ, fldQ, partA, buildQ, slQ, stH, bslH, appH, dcells, convI, elemsOf, D.one, nilS, fillD, convN, cvH, tyLen640, g0, sh0, g1, sh1, g2, oQ_index, hix, wu, wl, wr, wn1, wn2, wn3, wn4, wn5, wn6]) | (with_reducible refine ⟨?_, ?_⟩; (· first | (obtain ⟨rfl⟩ := ‹Hq _ _›; with_reducible refine chk_ok ?_; kernel_rfl) | kernel_rfl)) | (with_reducible intro ops hops)))
        refine fin_ret [] rfl ?_
        simp [cv, cv1, cv0, upd]
    · have g1 : decide ((65536 : Int) ≤ (x1 : Int)) = false := by simp; omega
      by_cases h2 : 256 ≤ x1
      · have g2 : decide ((256 : Int) ≤ (x1 : Int)) = true := by simp; omega
        have sh2 := shr_u64 x1 8 (by decide)
        have hb2 : 0 < x1 / 2 ^ 8 ∧ x1 / 2 ^ 8 < 256 := by rw [c8]; omega
        generalize he2 : x1 / 2 ^ 8 = x3 at sh2 hb2
        have hdiv : x3 = x / 2 ^ 40 := by simp [← he2, ← he0, Nat.div_div_eq_div_mul]
        have hx3 : x3 < S.size := by rw [hSz]; omega
        have h30 : 0 < x3 := by omega
        obtain ⟨t1, t2, t3, t4⟩ := hT x3 (by omega) h30
        have hr := len_of (x := x) (x3 := x3) (k := 40) hdiv t1 t3 t4
        have wu : IntKind.u8.wrap (x3 : Int) = (x3 : Int) := by rw [IntKind.wrap_u8]; omega
        generalize hLL : (S.data.toList.getD x3 0).toNat = L at t1 t2 t3 t4 hr
        have wl : IntKind.i64.wrap (L : Int) = (L : Int) := by rw [wrap64 (by omega) (by omega)]
        have wr : IntKind.i64.wrap (40 + (L : Int)) = ((Nat.log2 x + 1 : Nat) : Int) := by rw [hr, wrap64 (by omega) (by omega)]; omega
        have hix : ∀ {k : IntKind} {t : TypeId} {u : Option TypeDesc}, undOf Tryd.prog t = some .string → idQ Tryd.prog t (.i (.s (.string S))) u (some (.int k ((x3 : Nat) : Int))) = some (.i (.s (.int .u8 (L : Int)))) := fun h => by rw [index_str h hx3, hLL]
        (repeat (first | (simp -implicitDefEqProofs only [ev, mixed, Nat.reduceLT, Nat.reduceAdd, Nat.reduceMul, reduceIte, Nat.reduceEqDiff, reduceCtorEq, Nat.reducePow, Nat.reduceLeDiff, Int.reduceLE, Int.reduceLT, Int.reduceToNat, Int.reduceEq, Nat.reduceBEq, itsOf, gdA, byteI, opid, lenQ, ixQ, ldH, readAt, readCells, asCell, faQ, exQ, fldQ, partA, buildQ, slQ, stH, bslH, appH, dcells, convI, elemsOf, D.one, nilS, fillD, convN, cvH, tyLen640, g0, sh0, g1, g2, sh2, oQ_index, hix, wu, wl, wr, wn1, wn2, wn3, wn4, wn5, wn6]) | (with_reducible refine ⟨?_, ?_⟩; (· first | (obtain ⟨rfl⟩ := ‹Hq _ _›; with_reducible refine chk_ok ?_; kernel_rfl) | kernel_rfl)) | (with_reducible intro ops hops)))
        refine fin_ret [] rfl ?_
        simp [cv, cv1, cv0, upd]
      · have g2 : decide ((256 : Int) ≤ (x1 : Int)) = false := by simp; omega
        have hdiv : x1 = x / 2 ^ 32 := by simp [← he0, Nat.div_div_eq_div_mul]
        have hx3 : x1 < S.size := by rw [hSz]; omega
        have h30 : 0 < x1 := by omega
        obtain ⟨t1, t2, t3, t4⟩ := hT x1 (by omega) h30
        have hr := len_of (x := x) (x3 := x1) (k := 32) hdiv t1 t3 t4
        have wu : IntKind.u8.wrap (x1 : Int) = (x1 : Int) := by rw [IntKind.wrap_u8]; omega
        generalize hLL : (S.data.toList.getD x1 0).toNat = L at t1 t2 t3 t4 hr
        have wl : IntKind.i64.wrap (L : Int) = (L : Int) := by rw [wrap64 (by omega) (by omega)]
        have wr : IntKind.i64.wrap (32 + (L : Int)) = ((Nat.log2 x + 1 : Nat) : Int) := by rw [hr, wrap64 (by omega) (by omega)]; omega
        have hix : ∀ {k : IntKind} {t : TypeId} {u : Option TypeDesc}, undOf Tryd.prog t = some .string → idQ Tryd.prog t (.i (.s (.string S))) u (some (.int k ((x1 : Nat) : Int))) = some (.i (.s (.int .u8 (L : Int)))) := fun h => by rw [index_str h hx3, hLL]
        (repeat (first | (simp -implicitDefEqProofs only [ev, mixed, Nat.reduceLT, Nat.reduceAdd, Nat.reduceMul, reduceIte, Nat.reduceEqDiff, reduceCtorEq, Nat.reducePow, Nat.reduceLeDiff, Int.reduceLE, Int.reduceLT, Int.reduceToNat, Int.reduceEq, Nat.reduceBEq, itsOf, gdA, byteI, opid, lenQ, ixQ, ldH, readAt, readCells, asCell, faQ, exQ, fldQ, partA, buildQ, slQ, stH, bslH, appH, dcells, convI, elemsOf, D.one, nilS, fillD, convN, cvH, tyLen640, g0, sh0, g1, g2, oQ_index, hix, wu, wl, wr, wn1, wn2, wn3, wn4, wn5, wn6]) | (with_reducible refine ⟨?_, ?_⟩; (· first | (obtain ⟨rfl⟩ := ‹Hq _ _›; with_reducible refine chk_ok ?_; kernel_rfl) | kernel_rfl)) | (with_reducible intro ops hops)))
        refine fin_ret [] rfl ?_
        simp [cv, cv1, cv0, upd]
  · have g0 : decide ((4294967296 : Int) ≤ (x : Int)) = false := by simp; omega
    by_cases h1 : 65536 ≤ x
    · have g1 : decide ((65536 : Int) ≤ (x : Int)) = true := by simp; omega
      have sh1 := shr_u64 x 16 (by decide)
      have hb1 : 0 < x / 2 ^ 16 ∧ x / 2 ^ 16 < 65536 := by rw [c16]; omega
      generalize he1 : x / 2 ^ 16 = x2 at sh1 hb1
      by_cases h2 : 256 ≤ x2
      · have g2 : decide ((256 : Int) ≤ (x2 : Int)) = true := by simp; omega
        have sh2 := shr_u64 x2 8 (by decide)
        have hb2 : 0 < x2 / 2 ^ 8 ∧ x2 / 2 ^ 8 < 256 := by rw [c8]; omega
        generalize he2 : x2 / 2 ^ 8 = x3 at sh2 hb2
        have hdiv : x3 = x / 2 ^ 24 := by simp [← he2, ← he1, Nat.div_div_eq_div_mul]
        have hx3 : x3 < S.size := by rw [hSz]; omega
        have h30 : 0 < x3 := by omega
        obtain ⟨t1, t2, t3, t4⟩ := hT x3 (by omega) h30
        have hr := len_of (x := x) (x3 := x3) (k := 24) hdiv t1 t3 t4
        have wu : IntKind.u8.wrap (x3 : Int) = (x3 : Int) := by rw [IntKind.wrap_u8]; omega
        generalize hLL : (S.data.toList.getD x3 0).toNat = L at t1 t2 t3 t4 hr
        have wl : IntKind.i64.wrap (L : Int) = (L : Int) := by rw [wrap64 (by omega) (by omega)]
        have wr : IntKind.i64.wrap (24 + (L : Int)) = ((Nat.log2 x + 1 : Nat) : Int) := by rw [hr, wrap64 (by omega) (by omega)]; omega
        have hix : ∀ {k : IntKind} {t : TypeId} {u : Option TypeDesc}, undOf Tryd.prog t = some .string → idQ Tryd.prog t (.i (.s (.string S))) u (some (.int k ((x3 : Nat) : Int))) = some (.i (.s (.int .u8 (L : Int)))) := fun h => by rw [index_str h hx3, hLL]
        (repeat (first | (simp -implicitDefEqProofs only [ev, mixed, Nat.reduceLT, Nat.reduceAdd, Nat.reduceMul, reduceIte, Nat.reduceEqDiff, reduceCtorEq, Nat.reducePow, Nat.reduceLeDiff, Int.reduceLE, Int.reduceLT, Int.reduceToNat, Int.reduceEq, Nat.reduceBEq, itsOf, gdA, byteI, opid, lenQ, ixQ, ldH, readAt, readCells, asCell, faQ, exQ, fldQ, partA, buildQ, slQ, stH, bslH, appH, dcells, convI, elemsOf, D.one, nilS, fillD, convN, cvH, tyLen640, g0, g1, sh1, g2, sh2, oQ_index, hix, wu, wl, wr, wn1, wn2, wn3, wn4, wn5, wn6]) | (with_reducible refine ⟨?_, ?_⟩; (· first | (obtain ⟨rfl⟩ := ‹Hq _ _›; with_reducible refine chk_ok ?_; kernel_rfl) | kernel_rfl)) | (with_reducible intro ops hops)))
        refine fin_ret [] rfl ?_
        simp [cv, cv1, cv0, upd]
      · have g2 : decide ((256 : Int) ≤ (x2 : Int)) = false := by simp; omega
        have hdiv : x2 = x / 2 ^ 16 := by simp [← he1, Nat.div_div_eq_div_mul]
        have hx3 : x2 < S.size := by rw [hSz]; omega
        have h30 : 0 < x2 := by omega
        obtain ⟨t1, t2, t3, t4⟩ := hT x2 (by omega) h30
        have hr := len_of (x := x) (x3 := x2) (k := 16) hdiv t1 t3 t4
        have wu : IntKind.u8.wrap (x2 : Int) = (x2 : Int) := by rw [IntKind.wrap_u8]; omega
        generalize hLL : (S.data.toList.getD x2 0).toNat = L at t1 t2 t3 t4 hr
        have wl : IntKind.i64.wrap (L : Int) = (L : Int) := by rw [wrap64 (by omega) (by omega)]
        have wr : IntKind.i64.wrap (16 + (L : Int)) = ((Nat.log2 x + 1 : Nat) : Int) := by rw [hr, wrap64 (by omega) (by omega)]; omega
        have hix : ∀ {k : IntKind} {t : TypeId} {u : Option TypeDesc}, undOf Tryd.prog t = some .string → idQ Tryd.prog t (.i (.s (.string S))) u (some (.int k ((x2 : Nat) : Int))) = some (.i (.s (.int .u8 (L : Int)))) := fun h => by rw [index_str h hx3, hLL]
        (repeat (first | (simp -implicitDefEqProofs only [ev, mixed, Nat.reduceLT, Nat.reduceAdd, Nat.reduceMul, reduceIte, Nat.reduceEqDiff, reduceCtorEq, Nat.reducePow, Nat.reduceLeDiff, Int.reduceLE, Int.reduceLT, Int.reduceToNat, Int.reduceEq, Nat.reduceBEq, itsOf, gdA, byteI, opid, lenQ, ixQ, ldH, readAt, readCells, asCell, faQ, exQ, fldQ, partA, buildQ, slQ, stH, bslH, appH, dcells, convI, elemsOf, D.one, nilS, fillD, convN, cvH, tyLen640, g0, g1, sh1, g2, oQ_index, hix, wu, wl, wr, wn1, wn2, wn3, wn4, wn5, wn6]) | (with_reducible refine ⟨?_, ?_⟩; (· first | (obtain ⟨rfl⟩ := ‹Hq _ _›; with_reducible refine chk_ok ?_; kernel_rfl) | kernel_rfl)) | (with_reducible intro ops hops)))
        refine fin_ret [] rfl ?_
        simp [cv, cv1, cv0, upd]
    · have g1 : decide ((65536 : Int) ≤ (x : Int)) = false := by simp; omega
      by_cases h2 : 256 ≤ x
      · have g2 : decide ((256 : Int) ≤ (x : Int)) = true := by simp; omega
        have sh2 := shr_u64 x 8 (by decide)
        have hb2 : 0 < x / 2 ^ 8 ∧ x / 2 ^ 8 < 256 := by rw [c8]; omega
        generalize he2 : x / 2 ^ 8 = x3 at sh2 hb2
        have hdiv : x3 = x / 2 ^ 8 := by simp [← he2, Nat.div_div_eq_div_mul]
        have hx3 : x3 < S.size := by rw [hSz]; omega
        have h30 : 0 < x3 := by omega
        obtain ⟨t1, t2, t3, t4⟩ := hT x3 (by omega) h30
        have hr := len_of (x := x) (x3 := x3) (k := 8) hdiv t1 t3 t4
        have wu : IntKind.u8.wrap (x3 : Int) = (x3 : Int) := by rw [IntKind.wrap_u8]; omega
        generalize hLL : (S.data.toList.getD x3 0).toNat = L at t1 t2 t3 t4 hr
        have wl : IntKind.i64.wrap (L : Int) = (L : Int) := by rw [wrap64 (by omega) (by omega)]
        have wr : IntKind.i64.wrap (8 + (L : Int)) = ((Nat.log2 x + 1 : Nat) : Int) := by rw [hr, wrap64 (by omega) (by omega)]; omega
        have hix : ∀ {k : IntKind} {t : TypeId} {u : Option TypeDesc}, undOf Tryd.prog t = some .string → idQ Tryd.prog t (.i (.s (.string S))) u (some (.int k ((x3 : Nat) : Int))) = some (.i (.s (.int .u8 (L : Int)))) := fun h => by rw [index_str h hx3, hLL]
        (repeat (first | (simp -implicitDefEqProofs only [ev, mixed, Nat.reduceLT, Nat.reduceAdd, Nat.reduceMul, reduceIte, Nat.reduceEqDiff, reduceCtorEq, Nat.reducePow, Nat.reduceLeDiff, Int.reduceLE, Int.reduceLT, Int.reduceToNat, Int.reduceEq, Nat.reduceBEq, itsOf, gdA, byteI, opid, lenQ, ixQ, ldH, readAt, readCells, asCell, faQ, exQ, fldQ, partA, buildQ, slQ, stH, bslH, appH, dcells, convI, elemsOf, D.one, nilS, fillD, convN, cvH, tyLen640, g0, g1, g2, sh2, oQ_index, hix, wu, wl, wr, wn1, wn2, wn3, wn4, wn5, wn6]) | (with_reducible refine ⟨?_, ?_⟩; (· first | (obtain ⟨rfl⟩ := ‹Hq _ _›; with_reducible refine chk_ok ?_; kernel_rfl) | kernel_rfl)) | (with_reducible intro ops hops)))
        refine fin_ret [] rfl ?_
        simp [cv, cv1, cv0, upd]
      · have g2 : decide ((256 : Int) ≤ (x : Int)) = false := by simp; omega
        have hdiv : x = x / 2 ^ 0 := by simp [Nat.div_div_eq_div_mul]
        have hx3 : x < S.size := by rw [hSz]; omega
        have h30 : 0 < x := by omega
        obtain ⟨t1, t2, t3, t4⟩ := hT x (by omega) h30
        have hr := len_of (x := x) (x3 := x) (k := 0) hdiv t1 t3 t4
        have wu : IntKind.u8.wrap (x : Int) = (x : Int) := by rw [IntKind.wrap_u8]; omega
        generalize hLL : (S.data.toList.getD x 0).toNat = L at t1 t2 t3 t4 hr
        have wl : IntKind.i64.wrap (L : Int) = (L : Int) := by rw [wrap64 (by omega) (by omega)]
        have wr : IntKind.i64.wrap (0 + (L : Int)) = ((Nat.log2 x + 1 : Nat) : Int) := by rw [hr, wrap64 (by omega) (by omega)]; omega
        have hix : ∀ {k : IntKind} {t : TypeId} {u : Option TypeDesc}, undOf Tryd.prog t = some .string → idQ Tryd.prog t (.i (.s (.string S))) u (some (.int k ((x : Nat) : Int))) = some (.i (.s (.int .u8 (L : Int)))) := fun h => by rw [index_str h hx3, hLL]
        (repeat (first | (simp -implicitDefEqProofs only [ev, mixed, Nat.reduceLT, Nat.reduceAdd, Nat.reduceMul, reduceIte, Nat.reduceEqDiff, reduceCtorEq, Nat.reducePow, Nat.reduceLeDiff, Int.reduceLE, Int.reduceLT, Int.reduceToNat, Int.reduceEq, Nat.reduceBEq, itsOf, gdA, byteI, opid, lenQ, ixQ, ldH, readAt, readCells, asCell, faQ, exQ, fldQ, partA, buildQ, slQ, stH, bslH, appH, dcells, convI, elemsOf, D.one, nilS, fillD, convN, cvH, tyLen640, g0, g1, g2, oQ_index, hix, wu, wl, wr, wn1, wn2, wn3, wn4, wn5, wn6]) | (with_reducible refine ⟨?_, ?_⟩; (· first | (obtain ⟨rfl⟩ := ‹Hq _ _›; with_reducible refine chk_ok ?_; kernel_rfl) | kernel_rfl)) | (with_reducible intro ops hops)))
        refine fin_ret [] rfl ?_
        simp [cv, cv1, cv0, upd]

end Go.Proofs.YtmclpbcipkdmcaaDoor
