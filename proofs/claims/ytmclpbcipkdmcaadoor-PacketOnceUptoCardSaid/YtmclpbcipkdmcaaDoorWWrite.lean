/- Walk of wire.Write. -/
import Derived.Test.YtmclpbcipkdmcaaDoorWNum
import Derived.Test.YtmclpbcipkdmcaaDoorWireL
set_option linter.all false
namespace Go.Proofs.YtmclpbcipkdmcaaDoor
open Go Go.Abs Go.RowKit Go.Proofs.YtmclpbcipkdmcaaDoor.Ty
theorem tyWWrite0 : (type_of% @Ty.T1) ∧ (type_of% @Ty.T3) ∧ (type_of% @Ty.T5) ∧ (type_of% @Ty.T29) ∧ (type_of% @Ty.T39) ∧ (type_of% @Ty.T65) ∧ (type_of% @Ty.T107) ∧ (type_of% @Ty.T151) ∧ (type_of% @Ty.T168) := ⟨@Ty.T1, @Ty.T3, @Ty.T5, @Ty.T29, @Ty.T39, @Ty.T65, @Ty.T107, @Ty.T151, @Ty.T168⟩

def encP (p : PieceD) : List I := [.s (.int .i64 p.kind), .s (.int .u64 (p.n : Int)), bI p.b]
def faultD (e i : Nat) : D := .agg [.i (.s (.int .i64 (e : Int))), .i (.s (.int .i64 (i : Int)))]

set_option maxHeartbeats 2000000
theorem write_A (l : List PieceD) (hl : l.length ≤ 1048576) (hb : ∀ p ∈ l, p.b.length ≤ 1048576) (hn : n64s l) :
    PureD Tryd.prog 107 [.i (.sl (l.map encP))] (.tup [.i (bI (writeF l).1), faultD (writeF l).2.1 (writeF l).2.2]) := by
  refine callD_W 55 Tryd.func107 rfl rfl rfl (fun _ _ => rfl) ?_
  (repeat (first | (simp -implicitDefEqProofs only [ev, mixed, Nat.reduceLT, Nat.reduceAdd, Nat.reduceMul, reduceIte, Nat.reduceEqDiff, reduceCtorEq, Nat.reducePow, Nat.reduceLeDiff, Int.reduceLE, Int.reduceLT, Int.reduceToNat, Int.reduceEq, Nat.reduceBEq, itsOf, gdA, byteI, opid, lenQ, ixQ, ldH, readAt, readCells, asCell, faQ, exQ, fldQ, partA, buildQ, slQ, stH, bslH, appH, dcells, convI, elemsOf, D.one, nilS, fillD, convN, cvH, tyWWrite0]) | (with_reducible refine ⟨?_, ?_⟩; (· first | (obtain ⟨rfl⟩ := ‹Hq _ _›; with_reducible refine chk_ok ?_; kernel_rfl) | kernel_rfl)) | (with_reducible intro ops hops)))
  refine Wc_split (fun h => ?_) (fun h => ?_)
  · have h1 : 200 < l.length := by simp at h; omega
    clear h
    (repeat (first | (simp -implicitDefEqProofs only [ev, mixed, Nat.reduceLT, Nat.reduceAdd, Nat.reduceMul, reduceIte, Nat.reduceEqDiff, reduceCtorEq, Nat.reducePow, Nat.reduceLeDiff, Int.reduceLE, Int.reduceLT, Int.reduceToNat, Int.reduceEq, Nat.reduceBEq, itsOf, gdA, byteI, opid, lenQ, ixQ, ldH, readAt, readCells, asCell, faQ, exQ, fldQ, partA, buildQ, slQ, stH, bslH, appH, dcells, convI, elemsOf, D.one, nilS, fillD, convN, cvH, tyWWrite0]) | (with_reducible refine ⟨?_, ?_⟩; (· first | (obtain ⟨rfl⟩ := ‹Hq _ _›; with_reducible refine chk_ok ?_; kernel_rfl) | kernel_rfl)) | (with_reducible intro ops hops)))
    refine fin_2 [] rfl ag65 sz65 (by simp [upd, readAt, readCells]; rfl) ?_
    simp [cv, cvT, cv1, cvL, cv0, upd, writeF, h1, faultD, bI]
  · have h1 : l.length ≤ 200 := by simp at h; omega
    clear h
    have e1 : IntKind.u64.wrap (l.length : Int) = (l.length : Int) := by rw [IntKind.wrap_u64]; omega
    (repeat (first | (simp -implicitDefEqProofs only [ev, mixed, Nat.reduceLT, Nat.reduceAdd, Nat.reduceMul, reduceIte, Nat.reduceEqDiff, reduceCtorEq, Nat.reducePow, Nat.reduceLeDiff, Int.reduceLE, Int.reduceLT, Int.reduceToNat, Int.reduceEq, Nat.reduceBEq, itsOf, gdA, byteI, opid, lenQ, ixQ, ldH, readAt, readCells, asCell, faQ, exQ, fldQ, partA, buildQ, slQ, stH, bslH, appH, dcells, convI, elemsOf, D.one, nilS, fillD, convN, cvH, tyWWrite0, e1]) | (with_reducible refine ⟨?_, ?_⟩; (· first | (obtain ⟨rfl⟩ := ‹Hq _ _›; with_reducible refine chk_ok ?_; kernel_rfl) | kernel_rfl)) | (with_reducible intro ops hops)))
    refine Call_nil 1771 (number_B [] l.length 0 _ _ (by omega) (by simp) rfl rfl rfl) (by decide) (by simp [upd, noH]) rfl ?_
    (repeat (first | (simp -implicitDefEqProofs only [ev, mixed, Nat.reduceLT, Nat.reduceAdd, Nat.reduceMul, reduceIte, Nat.reduceEqDiff, reduceCtorEq, Nat.reducePow, Nat.reduceLeDiff, Int.reduceLE, Int.reduceLT, Int.reduceToNat, Int.reduceEq, Nat.reduceBEq, itsOf, gdA, byteI, opid, lenQ, ixQ, ldH, readAt, readCells, asCell, faQ, exQ, fldQ, partA, buildQ, slQ, stH, bslH, appH, dcells, convI, elemsOf, D.one, nilS, fillD, convN, cvH, tyWWrite0]) | (with_reducible refine ⟨?_, ?_⟩; (· first | (obtain ⟨rfl⟩ := ‹Hq _ _›; with_reducible refine chk_ok ?_; kernel_rfl) | kernel_rfl)) | (with_reducible intro ops hops)))
    refine W_loop (ι := { p : List UInt8 × Nat // p.2 ≤ l.length ∧ writeF l = writeGo p.1 p.2 (l.drop p.2) ∧ p.1.length ≤ 20000 })
      (fun p => stOf [(3, .pt 101 0 0 0), (4, .os 100 1 0 p.1.1.length), (15, .i (.sl (l.map encP))), (16, .i (.s (.int .i64 l.length))), (17, .i (.s (.int .i64 (p.1.2 : Nat))))]
        [(100, .arr 1 (p.1.1.map byteI)), (101, .box [.i (.s (.int .i64 0)), .i (.s (.int .i64 0))])]) (fun p => l.length - p.1.2) ⟨(vnum l.length, 0), by simp, by simp [writeF, show ¬ 200 < l.length by omega], by have := vnum_len_le l.length; simp; omega⟩ ?_ ?_
    · refine le_stOf _ _ [] [(100, 1771), (101, 1001)] ?_ ?_ rfl rfl
      · simp [cv, cv1, cv0, upd, lk, srcOf]
      · simp [objOk, srcOf, lk, cvO, cvL, cv0, frz, upd, D.one]
    · rintro ⟨⟨acc, k⟩, hk, hw, ha⟩
      simp only at hk hw ha
      rw [stOf_eq]
      (repeat (first | (simp -implicitDefEqProofs only [ev, mixed, Nat.reduceLT, Nat.reduceAdd, Nat.reduceMul, reduceIte, Nat.reduceEqDiff, reduceCtorEq, Nat.reducePow, Nat.reduceLeDiff, Int.reduceLE, Int.reduceLT, Int.reduceToNat, Int.reduceEq, Nat.reduceBEq, itsOf, gdA, byteI, opid, lenQ, ixQ, ldH, readAt, readCells, asCell, faQ, exQ, fldQ, partA, buildQ, slQ, stH, bslH, appH, dcells, convI, elemsOf, D.one, nilS, fillD, convN, cvH, tyWWrite0]) | (with_reducible refine ⟨?_, ?_⟩; (· first | (obtain ⟨rfl⟩ := ‹Hq _ _›; with_reducible refine chk_ok ?_; kernel_rfl) | kernel_rfl)) | (with_reducible intro ops hops)))
      refine Wc_split (fun h => ?_) (fun h => ?_)
      · have h2 : k < l.length := by simp at h; omega
        clear h
        have hd : l.drop k = l[k] :: l.drop (k + 1) := (List.drop_eq_getElem_cons h2)
        rw [hd] at hw
        have hmem : l[k] ∈ l := List.getElem_mem h2
        have hpb := hb _ hmem
        have hpn := hn _ hmem
        generalize hp : l[k] = p at hw hpb hpn
        have e2 : (l.map encP)[k]? = some [.s (.int .i64 p.kind), .s (.int .u64 (p.n : Int)), bI p.b] := by simp [h2, encP, hp]
        (repeat (first | (simp -implicitDefEqProofs only [ev, mixed, Nat.reduceLT, Nat.reduceAdd, Nat.reduceMul, reduceIte, Nat.reduceEqDiff, reduceCtorEq, Nat.reducePow, Nat.reduceLeDiff, Int.reduceLE, Int.reduceLT, Int.reduceToNat, Int.reduceEq, Nat.reduceBEq, itsOf, gdA, byteI, opid, lenQ, ixQ, ldH, readAt, readCells, asCell, faQ, exQ, fldQ, partA, buildQ, slQ, stH, bslH, appH, dcells, convI, elemsOf, D.one, nilS, fillD, convN, cvH, tyWWrite0, e2]) | (with_reducible refine ⟨?_, ?_⟩; (· first | (obtain ⟨rfl⟩ := ‹Hq _ _›; with_reducible refine chk_ok ?_; kernel_rfl) | kernel_rfl)) | (with_reducible intro ops hops)))
        have e3 : acc.length + 1 ≤ 140737488355328 := by omega
        have hw1 : IntKind.i64.wrap ((k : Int) + 1) = ((k + 1 : Nat) : Int) := by rw [wrap64 (by omega) (by omega)]; omega
        refine Wc_split (fun h => ?_) (fun h => ?_)
        · have hk1 : p.kind = 1 := by simpa using h
          clear h
          (repeat (first | (simp -implicitDefEqProofs only [ev, mixed, Nat.reduceLT, Nat.reduceAdd, Nat.reduceMul, reduceIte, Nat.reduceEqDiff, reduceCtorEq, Nat.reducePow, Nat.reduceLeDiff, Int.reduceLE, Int.reduceLT, Int.reduceToNat, Int.reduceEq, Nat.reduceBEq, itsOf, gdA, byteI, opid, lenQ, ixQ, ldH, readAt, readCells, asCell, faQ, exQ, fldQ, partA, buildQ, slQ, stH, bslH, appH, dcells, convI, elemsOf, D.one, nilS, fillD, convN, cvH, tyWWrite0, e3]) | (with_reducible refine ⟨?_, ?_⟩; (· first | (obtain ⟨rfl⟩ := ‹Hq _ _›; with_reducible refine chk_ok ?_; kernel_rfl) | kernel_rfl)) | (with_reducible intro ops hops)))
          (refine CallF_arr (es := ?es1) (es' := ?eb1) (sz' := ?sz1) (len' := ?len1) 3565 ?hL1 ?ho1 ?hf1 rfl ?k1; (case ho1 => (simp [upd, hO, lk, hF, noH, hOf, frz]; try rfl)); (case hf1 => (simp [upd, hO, lk, hF, noH, hOf, frz])); (case hL1 => (refine number_C (acc ++ [0]) p.n _ _ _ _ hpn ?_ ?_ ?_ ?_ ?_ <;> first | rfl | (simp [byteI]; done) | omega | (simp; omega) | (simp at *; omega))))
          (repeat (first | (simp -implicitDefEqProofs only [ev, mixed, Nat.reduceLT, Nat.reduceAdd, Nat.reduceMul, reduceIte, Nat.reduceEqDiff, reduceCtorEq, Nat.reducePow, Nat.reduceLeDiff, Int.reduceLE, Int.reduceLT, Int.reduceToNat, Int.reduceEq, Nat.reduceBEq, itsOf, gdA, byteI, opid, lenQ, ixQ, ldH, readAt, readCells, asCell, faQ, exQ, fldQ, partA, buildQ, slQ, stH, bslH, appH, dcells, convI, elemsOf, D.one, nilS, fillD, convN, cvH, tyWWrite0]) | (with_reducible refine ⟨?_, ?_⟩; (· first | (obtain ⟨rfl⟩ := ‹Hq _ _›; with_reducible refine chk_ok ?_; kernel_rfl) | kernel_rfl)) | (with_reducible intro ops hops)))
          have hwp : wpiece p = some (0 :: vnum p.n) := by simp [wpiece, hk1]
          rw [writeGo, hwp] at hw
          have hvl := vnum_len_le p.n
          refine Wc_split (fun h => ?_) (fun h => ?_)
          · (repeat (first | (simp -implicitDefEqProofs only [ev, mixed, Nat.reduceLT, Nat.reduceAdd, Nat.reduceMul, reduceIte, Nat.reduceEqDiff, reduceCtorEq, Nat.reducePow, Nat.reduceLeDiff, Int.reduceLE, Int.reduceLT, Int.reduceToNat, Int.reduceEq, Nat.reduceBEq, itsOf, gdA, byteI, opid, lenQ, ixQ, ldH, readAt, readCells, asCell, faQ, exQ, fldQ, partA, buildQ, slQ, stH, bslH, appH, dcells, convI, elemsOf, D.one, nilS, fillD, convN, cvH, tyWWrite0]) | (with_reducible refine ⟨?_, ?_⟩; (· first | (obtain ⟨rfl⟩ := ‹Hq _ _›; with_reducible refine chk_ok ?_; kernel_rfl) | kernel_rfl)) | (with_reducible intro ops hops)))
            have h3 : 20000 < (acc ++ 0 :: vnum p.n).length := by simp at h ⊢; omega
            simp only [h3, if_true] at hw
            refine fin_2 [] rfl ag65 sz65 (by simp [upd, readAt, readCells]; rfl) ?_
            simp [cv, cvT, cv1, cvL, cv0, upd, hw, faultD, bI]
          · (repeat (first | (simp -implicitDefEqProofs only [ev, mixed, Nat.reduceLT, Nat.reduceAdd, Nat.reduceMul, reduceIte, Nat.reduceEqDiff, reduceCtorEq, Nat.reducePow, Nat.reduceLeDiff, Int.reduceLE, Int.reduceLT, Int.reduceToNat, Int.reduceEq, Nat.reduceBEq, itsOf, gdA, byteI, opid, lenQ, ixQ, ldH, readAt, readCells, asCell, faQ, exQ, fldQ, partA, buildQ, slQ, stH, bslH, appH, dcells, convI, elemsOf, D.one, nilS, fillD, convN, cvH, tyWWrite0, hw1]) | (with_reducible refine ⟨?_, ?_⟩; (· first | (obtain ⟨rfl⟩ := ‹Hq _ _›; with_reducible refine chk_ok ?_; kernel_rfl) | kernel_rfl)) | (with_reducible intro ops hops)))
            have h3 : ¬ 20000 < (acc ++ 0 :: vnum p.n).length := by simp at h ⊢; omega
            simp only [h3, if_false] at hw
            refine ⟨⟨(acc ++ 0 :: vnum p.n, k + 1), h2, hw, Nat.not_lt.1 h3⟩, le_stOf _ _ [] [(100, 3565), (101, 101)] ?_ ?_ rfl rfl, ?_⟩
            · simp [cv, cv1, cv0, upd, lk, srcOf]; omega
            · simp [objOk, srcOf, lk, cvO, cvL, cv0, frz, upd, D.one, hO]
            · simp; omega
        · (repeat (first | (simp -implicitDefEqProofs only [ev, mixed, Nat.reduceLT, Nat.reduceAdd, Nat.reduceMul, reduceIte, Nat.reduceEqDiff, reduceCtorEq, Nat.reducePow, Nat.reduceLeDiff, Int.reduceLE, Int.reduceLT, Int.reduceToNat, Int.reduceEq, Nat.reduceBEq, itsOf, gdA, byteI, opid, lenQ, ixQ, ldH, readAt, readCells, asCell, faQ, exQ, fldQ, partA, buildQ, slQ, stH, bslH, appH, dcells, convI, elemsOf, D.one, nilS, fillD, convN, cvH, tyWWrite0]) | (with_reducible refine ⟨?_, ?_⟩; (· first | (obtain ⟨rfl⟩ := ‹Hq _ _›; with_reducible refine chk_ok ?_; kernel_rfl) | kernel_rfl)) | (with_reducible intro ops hops)))
          refine Wc_split (fun h => ?_) (fun h => ?_)
          · have hk2 : p.kind = 2 := by simpa using h
            clear h
            have e4 : IntKind.u64.wrap (p.b.length : Int) = (p.b.length : Int) := by rw [IntKind.wrap_u64]; omega
            have e5 : acc.length + 1 + (vnum p.b.length).length + p.b.length ≤ 140737488355328 := by have := vnum_len_le p.b.length; omega
            (repeat (first | (simp -implicitDefEqProofs only [ev, mixed, Nat.reduceLT, Nat.reduceAdd, Nat.reduceMul, reduceIte, Nat.reduceEqDiff, reduceCtorEq, Nat.reducePow, Nat.reduceLeDiff, Int.reduceLE, Int.reduceLT, Int.reduceToNat, Int.reduceEq, Nat.reduceBEq, itsOf, gdA, byteI, opid, lenQ, ixQ, ldH, readAt, readCells, asCell, faQ, exQ, fldQ, partA, buildQ, slQ, stH, bslH, appH, dcells, convI, elemsOf, D.one, nilS, fillD, convN, cvH, tyWWrite0, e3, bI, e4]) | (with_reducible refine ⟨?_, ?_⟩; (· first | (obtain ⟨rfl⟩ := ‹Hq _ _›; with_reducible refine chk_ok ?_; kernel_rfl) | kernel_rfl)) | (with_reducible intro ops hops)))
            (refine CallF_arr (es := ?es2) (es' := ?eb2) (sz' := ?sz2) (len' := ?len2) 4079 ?hL2 ?ho2 ?hf2 rfl ?k2; (case ho2 => (simp [upd, hO, lk, hF, noH, hOf, frz]; try rfl)); (case hf2 => (simp [upd, hO, lk, hF, noH, hOf, frz])); (case hL2 => (refine number_C (acc ++ [1]) p.b.length _ _ _ _ (by omega) ?_ ?_ ?_ ?_ ?_ <;> first | rfl | (simp [byteI]; done) | omega | (simp; omega) | (simp at *; omega))))
            have e6 : acc.length + ((vnum p.b.length).length + 1) = acc.length + 1 + (vnum p.b.length).length := by omega
            (repeat (first | (simp -implicitDefEqProofs only [ev, mixed, Nat.reduceLT, Nat.reduceAdd, Nat.reduceMul, reduceIte, Nat.reduceEqDiff, reduceCtorEq, Nat.reducePow, Nat.reduceLeDiff, Int.reduceLE, Int.reduceLT, Int.reduceToNat, Int.reduceEq, Nat.reduceBEq, itsOf, gdA, byteI, opid, lenQ, ixQ, ldH, readAt, readCells, asCell, faQ, exQ, fldQ, partA, buildQ, slQ, stH, bslH, appH, dcells, convI, elemsOf, D.one, nilS, fillD, convN, cvH, tyWWrite0, e5, e6]) | (with_reducible refine ⟨?_, ?_⟩; (· first | (obtain ⟨rfl⟩ := ‹Hq _ _›; with_reducible refine chk_ok ?_; kernel_rfl) | kernel_rfl)) | (with_reducible intro ops hops)))
            have hwp : wpiece p = some (1 :: (vnum p.b.length ++ p.b)) := by simp [wpiece, hk2]
            rw [writeGo, hwp] at hw
            refine Wc_split (fun h => ?_) (fun h => ?_)
            · (repeat (first | (simp -implicitDefEqProofs only [ev, mixed, Nat.reduceLT, Nat.reduceAdd, Nat.reduceMul, reduceIte, Nat.reduceEqDiff, reduceCtorEq, Nat.reducePow, Nat.reduceLeDiff, Int.reduceLE, Int.reduceLT, Int.reduceToNat, Int.reduceEq, Nat.reduceBEq, itsOf, gdA, byteI, opid, lenQ, ixQ, ldH, readAt, readCells, asCell, faQ, exQ, fldQ, partA, buildQ, slQ, stH, bslH, appH, dcells, convI, elemsOf, D.one, nilS, fillD, convN, cvH, tyWWrite0]) | (with_reducible refine ⟨?_, ?_⟩; (· first | (obtain ⟨rfl⟩ := ‹Hq _ _›; with_reducible refine chk_ok ?_; kernel_rfl) | kernel_rfl)) | (with_reducible intro ops hops)))
              have h3 : 20000 < (acc ++ (1 :: (vnum p.b.length ++ p.b))).length := by simp at h ⊢; omega
              simp only [h3, if_true] at hw
              refine fin_2 [] rfl ag65 sz65 (by simp [upd, readAt, readCells]; rfl) ?_
              simp [cv, cvT, cv1, cvL, cv0, upd, hw, faultD, bI]
            · (repeat (first | (simp -implicitDefEqProofs only [ev, mixed, Nat.reduceLT, Nat.reduceAdd, Nat.reduceMul, reduceIte, Nat.reduceEqDiff, reduceCtorEq, Nat.reducePow, Nat.reduceLeDiff, Int.reduceLE, Int.reduceLT, Int.reduceToNat, Int.reduceEq, Nat.reduceBEq, itsOf, gdA, byteI, opid, lenQ, ixQ, ldH, readAt, readCells, asCell, faQ, exQ, fldQ, partA, buildQ, slQ, stH, bslH, appH, dcells, convI, elemsOf, D.one, nilS, fillD, convN, cvH, tyWWrite0, hw1]) | (with_reducible refine ⟨?_, ?_⟩; (· first | (obtain ⟨rfl⟩ := ‹Hq _ _›; with_reducible refine chk_ok ?_; kernel_rfl) | kernel_rfl)) | (with_reducible intro ops hops)))
              have h3 : ¬ 20000 < (acc ++ (1 :: (vnum p.b.length ++ p.b))).length := by simp at h ⊢; omega
              simp only [h3, if_false] at hw
              refine ⟨⟨(acc ++ (1 :: (vnum p.b.length ++ p.b)), k + 1), h2, hw, Nat.not_lt.1 h3⟩, le_stOf _ _ [] [(100, 4082), (101, 101)] ?_ ?_ rfl rfl, ?_⟩
              · simp [cv, cv1, cv0, upd, lk, srcOf]; omega
              · simp [objOk, srcOf, lk, cvO, cvL, cv0, frz, upd, D.one, hO]
              · simp; omega
          · (repeat (first | (simp -implicitDefEqProofs only [ev, mixed, Nat.reduceLT, Nat.reduceAdd, Nat.reduceMul, reduceIte, Nat.reduceEqDiff, reduceCtorEq, Nat.reducePow, Nat.reduceLeDiff, Int.reduceLE, Int.reduceLT, Int.reduceToNat, Int.reduceEq, Nat.reduceBEq, itsOf, gdA, byteI, opid, lenQ, ixQ, ldH, readAt, readCells, asCell, faQ, exQ, fldQ, partA, buildQ, slQ, stH, bslH, appH, dcells, convI, elemsOf, D.one, nilS, fillD, convN, cvH, tyWWrite0]) | (with_reducible refine ⟨?_, ?_⟩; (· first | (obtain ⟨rfl⟩ := ‹Hq _ _›; with_reducible refine chk_ok ?_; kernel_rfl) | kernel_rfl)) | (with_reducible intro ops hops)))
            have hwp : wpiece p = none := by simp at h; simp [wpiece, h]; simp_all
            rw [writeGo, hwp] at hw
            refine fin_2 [] rfl ag65 sz65 (by simp [upd, readAt, readCells]; rfl) ?_
            simp [cv, cvT, cv1, cvL, cv0, upd, hw, faultD, bI]
      · have h2 : k = l.length := by simp at h; omega
        subst h2
        (repeat (first | (simp -implicitDefEqProofs only [ev, mixed, Nat.reduceLT, Nat.reduceAdd, Nat.reduceMul, reduceIte, Nat.reduceEqDiff, reduceCtorEq, Nat.reducePow, Nat.reduceLeDiff, Int.reduceLE, Int.reduceLT, Int.reduceToNat, Int.reduceEq, Nat.reduceBEq, itsOf, gdA, byteI, opid, lenQ, ixQ, ldH, readAt, readCells, asCell, faQ, exQ, fldQ, partA, buildQ, slQ, stH, bslH, appH, dcells, convI, elemsOf, D.one, nilS, fillD, convN, cvH, tyWWrite0]) | (with_reducible refine ⟨?_, ?_⟩; (· first | (obtain ⟨rfl⟩ := ‹Hq _ _›; with_reducible refine chk_ok ?_; kernel_rfl) | kernel_rfl)) | (with_reducible intro ops hops)))
        rw [List.drop_length, writeGo] at hw
        refine fin_2 [100] rfl ag65 sz65 (by simp [upd, readAt, readCells]; rfl) ?_
        simp [cv, cvT, cv1, cvL, cv0, upd, hw, faultD, bI, hO, lk, elemsOf, List.take_of_length_le]
end Go.Proofs.YtmclpbcipkdmcaaDoor
