/- Walk of wire.number: a number's bytes are appended. -/
import Derived.Test.YtmclpbcipkdmcaaDoorAbs4
import Derived.Test.YtmclpbcipkdmcaaDoorTy
import Derived.Test.YtmclpbcipkdmcaaDoorWireS
set_option linter.all false
namespace Go.Proofs.YtmclpbcipkdmcaaDoor
open Go Go.Abs Go.RowKit Go.Proofs.YtmclpbcipkdmcaaDoor.Ty
theorem tyWNum0 : (type_of% @Ty.T1) ∧ (type_of% @Ty.T5) ∧ (type_of% @Ty.T29) ∧ (type_of% @Ty.T107) := ⟨@Ty.T1, @Ty.T5, @Ty.T29, @Ty.T107⟩

def arrB (acc : List UInt8) : Ob := .arr 1 (acc.map byteI)

theorem or128 : ∀ x, x < 256 → x ||| 128 = x % 128 + 128 := by decide +kernel
theorem byte_or (n : Nat) : bits .or .u8 ((n : Int) % 256) 128 = ((UInt8.ofNat (n % 128 + 128)).toNat : Int) := by
  have h : ((n : Int) % 256) = ((n % 256 : Nat) : Int) := by omega
  rw [h]
  have := (bits_nat .u8 8 (by decide) wraps_u8 (n % 256) 128 (Nat.mod_lt _ (by decide)) (by decide)).2
  rw [show ((128 : Nat) : Int) = 128 from rfl] at this
  rw [this, or128 _ (Nat.mod_lt _ (by decide)), UInt8.toNat_ofNat']
  omega
theorem byte_of (n : Nat) (h : n < 128) : (n : Int) % 256 = ((UInt8.ofNat n).toNat : Int) := by
  rw [UInt8.toNat_ofNat']; omega

set_option maxHeartbeats 1000000
theorem number_A (acc : List UInt8) (n : Nat) (hn : n < 18446744073709551616) (hl : acc.length ≤ 140737488355000) :
    CallD Tryd.prog 131 [.os 0 1 0 acc.length, .i (.s (.int .u64 n))] (hF [(0, arrB acc)]) (.os 1 1 0 (acc ++ vnum n).length) (hOf (hF [(0, arrB acc)]) [(1, arrB (acc ++ vnum n))]) := by
  generalize hr : acc ++ vnum n = res
  refine callD_W 20 Tryd.func131 rfl rfl rfl (fun o ho => by simp [hF, lk, show o ≠ 0 by omega]) ?_
  have hn2 : n < 2 * 128 ^ 9 := by have : (2:Nat) * 128 ^ 9 = 18446744073709551616 := by decide
                                   omega
  (repeat (first | (simp -implicitDefEqProofs only [ev, mixed, Nat.reduceLT, Nat.reduceAdd, Nat.reduceMul, reduceIte, Nat.reduceEqDiff, reduceCtorEq, Nat.reducePow, Nat.reduceLeDiff, Int.reduceLE, Int.reduceLT, Int.reduceToNat, Int.reduceEq, Nat.reduceBEq, itsOf, gdA, byteI, opid, lenQ, ixQ, ldH, readAt, readCells, asCell, faQ, exQ, fldQ, partA, buildQ, slQ, stH, bslH, appH, dcells, convI, elemsOf, D.one, nilS, fillD, convN, cvH, tyWNum0, arrB]) | (with_reducible refine ⟨?_, ?_⟩; (· first | (obtain ⟨rfl⟩ := ‹Hq _ _›; with_reducible refine chk_ok ?_; kernel_rfl) | kernel_rfl)) | (with_reducible intro ops hops)))
  refine W_loop (ι := { p : List UInt8 × Nat × Nat // p.2.1 < 2 * 128 ^ p.2.2 ∧ p.1 ++ vnumF p.2.2 p.2.1 = res ∧ p.1.length + p.2.2 ≤ acc.length + 9 ∧ p.2.2 ≤ 9 })
    (fun p => stOf [(0, .os 100 1 0 p.1.1.length), (1, .i (.s (.int .u64 (p.1.2.1 : Nat))))] [(100, arrB p.1.1)]) (fun p => p.1.2.2) ⟨(acc, n, 9), hn2, hr, by simp, by simp⟩ ?_ ?_
  · refine le_stOf _ _ [] [(100, 0)] ?_ ?_ rfl rfl
    · simp [cv, cv1, cv0, upd, lk, srcOf]
    · simp [objOk, srcOf, lk, cvO, frz, hF, arrB]
  · rintro ⟨⟨acc', n', f⟩, h1, h2, h3, h4⟩
    simp only at h1 h2 h3 h4
    rw [stOf_eq]
    (repeat (first | (simp -implicitDefEqProofs only [ev, mixed, Nat.reduceLT, Nat.reduceAdd, Nat.reduceMul, reduceIte, Nat.reduceEqDiff, reduceCtorEq, Nat.reducePow, Nat.reduceLeDiff, Int.reduceLE, Int.reduceLT, Int.reduceToNat, Int.reduceEq, Nat.reduceBEq, itsOf, gdA, byteI, opid, lenQ, ixQ, ldH, readAt, readCells, asCell, faQ, exQ, fldQ, partA, buildQ, slQ, stH, bslH, appH, dcells, convI, elemsOf, D.one, nilS, fillD, convN, cvH, tyWNum0, arrB]) | (with_reducible refine ⟨?_, ?_⟩; (· first | (obtain ⟨rfl⟩ := ‹Hq _ _›; with_reducible refine chk_ok ?_; kernel_rfl) | kernel_rfl)) | (with_reducible intro ops hops)))
    refine Wc_split (fun h => ?_) (fun h => ?_)
    · have h5 : 128 ≤ n' := by simp at h; omega
      clear h
      have e1 : IntKind.u8.wrap (n' : Int) = (n' : Int) % 256 := by rw [IntKind.wrap_u8]
      have e2 : bits .or .u8 ((n' : Int) % 256) 128 = ((UInt8.ofNat (n' % 128 + 128)).toNat : Int) := byte_or n'
      have e3 : acc'.length + 1 ≤ 140737488355328 := by omega
      have e4 : (n' : Int).fdiv (2 ^ min 7 (IntKind.bits .u64)) = ((n' / 128 : Nat) : Int) := by
        rw [show min 7 (IntKind.bits .u64) = 7 from rfl, Int.fdiv_eq_ediv_of_nonneg _ (by decide)]; rfl
      (repeat (first | (simp -implicitDefEqProofs only [ev, mixed, Nat.reduceLT, Nat.reduceAdd, Nat.reduceMul, reduceIte, Nat.reduceEqDiff, reduceCtorEq, Nat.reducePow, Nat.reduceLeDiff, Int.reduceLE, Int.reduceLT, Int.reduceToNat, Int.reduceEq, Nat.reduceBEq, itsOf, gdA, byteI, opid, lenQ, ixQ, ldH, readAt, readCells, asCell, faQ, exQ, fldQ, partA, buildQ, slQ, stH, bslH, appH, dcells, convI, elemsOf, D.one, nilS, fillD, convN, cvH, tyWNum0, arrB, e1, e2, e3, e4]) | (with_reducible refine ⟨?_, ?_⟩; (· first | (obtain ⟨rfl⟩ := ‹Hq _ _›; with_reducible refine chk_ok ?_; kernel_rfl) | kernel_rfl)) | (with_reducible intro ops hops)))
      cases f with
      | zero => simp at h1; omega
      | succ f =>
      refine ⟨⟨(acc' ++ [UInt8.ofNat (n' % 128 + 128)], n' / 128, f), ?_, ?_, ?_, ?_⟩, le_stOf _ _ [] [(100, 1517)] ?_ ?_ rfl rfl, ?_⟩
      · simp only [Nat.pow_succ] at h1 ⊢; omega
      · rw [← h2, vnumF, if_neg (by omega)]; simp
      · simp at h3 ⊢; omega
      · simp at h4 ⊢; omega
      · simp [cv, cv1, cv0, upd, lk, srcOf]
      · simp [objOk, srcOf, lk, cvO, frz, upd, byteI]
      · simp
    · have h5 : n' < 128 := by simp at h; omega
      clear h
      have e1 : IntKind.u8.wrap (n' : Int) = ((UInt8.ofNat n').toNat : Int) := by rw [IntKind.wrap_u8]; exact byte_of n' h5
      have e3 : acc'.length + 1 ≤ 140737488355328 := by omega
      (repeat (first | (simp -implicitDefEqProofs only [ev, mixed, Nat.reduceLT, Nat.reduceAdd, Nat.reduceMul, reduceIte, Nat.reduceEqDiff, reduceCtorEq, Nat.reducePow, Nat.reduceLeDiff, Int.reduceLE, Int.reduceLT, Int.reduceToNat, Int.reduceEq, Nat.reduceBEq, itsOf, gdA, byteI, opid, lenQ, ixQ, ldH, readAt, readCells, asCell, faQ, exQ, fldQ, partA, buildQ, slQ, stH, bslH, appH, dcells, convI, elemsOf, D.one, nilS, fillD, convN, cvH, tyWNum0, arrB, e1, e3]) | (with_reducible refine ⟨?_, ?_⟩; (· first | (obtain ⟨rfl⟩ := ‹Hq _ _›; with_reducible refine chk_ok ?_; kernel_rfl) | kernel_rfl)) | (with_reducible intro ops hops)))
      have hres : res = acc' ++ [UInt8.ofNat n'] := by
        rw [← h2]; cases f with
        | zero => rfl
        | succ f => rw [vnumF, if_pos h5]
      subst hres
      refine fin_retD _ [] [(1, 2028)] rfl ?_ ?_ rfl ?_ rfl
      · simp [cv, cv1, cv0, upd, srcR, hF, lk]
      · simp [objOk, srcR, lk, cvO, frz, upd, byteI, hF]
      · simp [hF, lk]

/-- .. with lengths as they come. -/
theorem number_B (acc : List UInt8) (n len len' : Nat) (es' : List (List I)) (hn : n < 18446744073709551616) (hl : acc.length ≤ 140737488355000) (h1 : len = acc.length) (h2 : len' = acc.length + (vnum n).length) (h3 : es' = acc.map byteI ++ (vnum n).map byteI) :
    CallD Tryd.prog 131 [.os 0 1 0 len, .i (.s (.int .u64 n))] (hF [(0, .arr 1 (acc.map byteI))]) (.os 1 1 0 len') (hOf (hF [(0, .arr 1 (acc.map byteI))]) [(1, .arr 1 es')]) := by
  have := number_A acc n hn hl
  subst h1 h2 h3
  simpa [arrB] using this
/-- .. with cells as they come. -/
theorem number_C (acc : List UInt8) (n len len' : Nat) (es es' : List (List I)) (hn : n < 18446744073709551616) (hl : acc.length ≤ 140737488355000) (h1 : len = acc.length) (h0 : es = acc.map byteI) (h2 : len' = acc.length + (vnum n).length) (h3 : es' = (acc ++ vnum n).map byteI) :
    CallD Tryd.prog 131 [.os 0 1 0 len, .i (.s (.int .u64 n))] (hF [(0, .arr 1 es)]) (.os 1 1 0 len') (hOf (hF [(0, .arr 1 es)]) [(1, .arr 1 es')]) := by
  subst h0
  exact number_B acc n len len' es' hn hl h1 h2 (by rw [h3]; simp)
end Go.Proofs.YtmclpbcipkdmcaaDoor
