/- bytes.Compare, Equal, Clone: by value. -/
import Derived.Test.YtmclpbcipkdmcaaDoorAbs4
import Derived.Test.YtmclpbcipkdmcaaDoorTy
import Derived.Lib.BytesEntry
import Derived.Laws.Externs
set_option linter.all false
namespace Go.Proofs.YtmclpbcipkdmcaaDoor
open Go Go.Abs Go.RowKit Go.Proofs.YtmclpbcipkdmcaaDoor.Ty
theorem tyCmp0 : (type_of% @Ty.T5) ∧ (type_of% @Ty.T29) := ⟨@Ty.T5, @Ty.T29⟩
theorem tyCmp1 : (type_of% @Ty.T5) ∧ (type_of% @Ty.T9) ∧ (type_of% @Ty.T29) := ⟨@Ty.T5, @Ty.T9, @Ty.T29⟩
theorem tyCmp2 : (type_of% @Ty.T0) ∧ (type_of% @Ty.T5) ∧ (type_of% @Ty.T29) := ⟨@Ty.T0, @Ty.T5, @Ty.T29⟩

theorem bytes_run {P : Program} {K : Ctx} {v : Value} {l : List UInt8} (h : VD K v (.i (bI l))) : (Extern.Bytes.bytesOf v).run P K.w = .ok ⟨l.toArray⟩ K.w := by
  cases h with
  | i hx =>
    generalize hy : bI l = y at hx
    cases hx with
    | s v h => simp [bI] at hy
    | e a cap =>
      have : l = [] := by cases l with
        | nil => rfl
        | cons b t => simp [bI] at hy
      subst this
      cases a with
      | none => rfl
      | some a => rfl
    | sl b off cap sz es f hS hc hz hsz hcell hv =>
      have hes : es = l.map byteI := by simpa [bI] using hy.symm
      subst hes
      have hfl : ∀ (l : List UInt8) (j : Nat), (l.map byteI).flatten[j]? = (l[j]?).map fun b => I.s (.int .u8 (b.toNat : Int)) := by
        intro l
        induction l with
        | nil => intro j; simp
        | cons a t ih =>
          intro j
          cases j with
          | zero => simp [byteI]
          | succ j => simpa [byteI] using ih j
      have hl := Lib.run_loadBytesX (P := P) K.w (l.map fun b => (b.toNat : Int)) ⟨b, off, none⟩ .empty (fun j x hj => by
        rw [List.getElem?_map] at hj
        cases hb : l[j]? with
        | none => simp [hb] at hj
        | some c =>
          simp [hb] at hj
          have hf : (l.map byteI).flatten[j]? = some (.s (.int .u8 (c.toNat : Int))) := by rw [hfl, hb]; rfl
          have h1 := hcell j _ hf
          have h2 := hv j _ hf
          have e : (⟨b, off, none⟩ : Addr).add j = ⟨b, off + j, none⟩ := by unfold Addr.add; split <;> simp_all
          rw [e, h1, ← hj]
          generalize f j = u at h2
          cases h2; rfl)
      have hb : Lib.bytesOf (l.map fun b => (b.toNat : Int)) = l := by
        simp only [Lib.bytesOf, List.map_map]
        conv => rhs; rw [← List.map_id l]
        refine List.map_congr_left fun c _ => ?_
        show UInt8.ofNat ((c.toNat : Int)).toNat = c
        rw [Int.toNat_natCast]; simp
      rw [hb, List.length_map] at hl
      show (Extern.Bytes.loadBytes ⟨b, off, none⟩ (l.map byteI).length .empty).run P K.w = _
      rw [List.length_map, hl]
      congr 1
      apply ByteArray.ext
      show (#[] : Array UInt8) ++ l.toArray = l.toArray
      simp

theorem cmpX_D (a b : List UInt8) (G : Nat → Ob) : DirD Tryd.prog 98 [.i (bI a), .i (bI b)] G (.i (.s (.int .i64 (Lib.compareBytes a b)))) G := by
  intro K0 T K vs hr hrd
  obtain ⟨hs, hg⟩ := hrd
  have e : vs = #[vs.getD 0 undef, vs.getD 1 undef] := by
    apply Array.ext
    · simpa using hs
    · intro i h1 h2
      simp at hs
      have : i = 0 ∨ i = 1 := by omega
      rcases this with rfl | rfl <;> simp [Array.getD, hs]
  have h1 := bytes_run (P := Tryd.prog) (hg 0 _ rfl)
  have h2 := bytes_run (P := Tryd.prog) (hg 1 _ rfl)
  rw [e]
  refine ⟨.int .i64 (Lib.compareBytes a b), K, ?_, Ext.refl K, hr, .i (.s _ rfl)⟩
  rw [run_callFunc_extern Tryd.func98 (by kernel_rfl) (by kernel_rfl) (by kernel_rfl) (e := Extern.BytealgCompare.compare) (by kernel_rfl)]
  show ((Sem.run Tryd.prog (do pure (goInt (Extern.BytealgCompare.cmp (← Extern.Bytes.bytesOf (vs.getD 0 undef)) (← Extern.Bytes.bytesOf (vs.getD 1 undef)))) : Sem Value) K.w).andThen fun v w' => Result.ok (Next.value v) w') = _
  simp only [Sem.run_bind, Sem.run_pure, h1, h2, Result.andThen_ok, Lib.cmp_eq]
  rfl

set_option maxHeartbeats 2000000
theorem cmp_A (a b : List UInt8) : PureD Tryd.prog 74 [.i (bI a), .i (bI b)] (.i (.s (.int .i64 (Lib.compareBytes a b)))) := by
  refine callD_W 8 Tryd.func74 rfl rfl rfl (fun _ _ => rfl) ?_
  (repeat (first | (simp -implicitDefEqProofs only [ev, mixed, Nat.reduceLT, Nat.reduceAdd, Nat.reduceMul, reduceIte, Nat.reduceEqDiff, reduceCtorEq, Nat.reducePow, Nat.reduceLeDiff, Int.reduceLE, Int.reduceLT, Int.reduceToNat, Int.reduceEq, Nat.reduceBEq, itsOf, gdA, byteI, opid, lenQ, ixQ, ldH, readAt, readCells, asCell, faQ, exQ, fldQ, partA, buildQ, slQ, stH, bslH, appH, dcells, convI, elemsOf, D.one, nilS, fillD, convN, cvH, tyCmp0]) | (with_reducible refine ⟨?_, ?_⟩; (· first | (obtain ⟨rfl⟩ := ‹Hq _ _›; with_reducible refine chk_ok ?_; kernel_rfl) | kernel_rfl)) | (with_reducible intro ops hops)))
  refine Call_dir (cmpX_D a b) ?_
  (repeat (first | (simp -implicitDefEqProofs only [ev, mixed, Nat.reduceLT, Nat.reduceAdd, Nat.reduceMul, reduceIte, Nat.reduceEqDiff, reduceCtorEq, Nat.reducePow, Nat.reduceLeDiff, Int.reduceLE, Int.reduceLT, Int.reduceToNat, Int.reduceEq, Nat.reduceBEq, itsOf, gdA, byteI, opid, lenQ, ixQ, ldH, readAt, readCells, asCell, faQ, exQ, fldQ, partA, buildQ, slQ, stH, bslH, appH, dcells, convI, elemsOf, D.one, nilS, fillD, convN, cvH, tyCmp0]) | (with_reducible refine ⟨?_, ?_⟩; (· first | (obtain ⟨rfl⟩ := ‹Hq _ _›; with_reducible refine chk_ok ?_; kernel_rfl) | kernel_rfl)) | (with_reducible intro ops hops)))
  refine fin_ret [] rfl ?_
  simp [cv, cv1, cv0, upd]

theorem mk_beq (a b : List UInt8) : ((⟨a.toArray⟩ : ByteArray) == ⟨b.toArray⟩) = decide (a = b) := by
  show ((a.toArray : Array UInt8) == b.toArray) = _
  rw [List.beq_toArray]
  by_cases h : a = b
  · subst h; simp
  · rw [decide_eq_false h]; exact beq_eq_false_iff_ne.2 h
theorem equal_A (a b : List UInt8) : PureD Tryd.prog 113 [.i (bI a), .i (bI b)] (.i (.s (.bool (decide (a = b))))) := by
  refine callD_W 10 Tryd.func113 rfl rfl rfl (fun _ _ => rfl) ?_
  (repeat (first | (simp -implicitDefEqProofs only [ev, mixed, Nat.reduceLT, Nat.reduceAdd, Nat.reduceMul, reduceIte, Nat.reduceEqDiff, reduceCtorEq, Nat.reducePow, Nat.reduceLeDiff, Int.reduceLE, Int.reduceLT, Int.reduceToNat, Int.reduceEq, Nat.reduceBEq, itsOf, gdA, byteI, opid, lenQ, ixQ, ldH, readAt, readCells, asCell, faQ, exQ, fldQ, partA, buildQ, slQ, stH, bslH, appH, dcells, convI, elemsOf, D.one, nilS, fillD, convN, cvH, tyCmp1, bI, mapM_bytes, bq_eql_str, mk_beq, convQ_none]) | (with_reducible refine ⟨?_, ?_⟩; (· first | (obtain ⟨rfl⟩ := ‹Hq _ _›; with_reducible refine chk_ok ?_; kernel_rfl) | kernel_rfl)) | (with_reducible intro ops hops)))
  refine fin_ret [] rfl ?_
  simp [cv, cv1, cv0, upd]
theorem clone_A (l : List UInt8) (hl : l.length ≤ 140737488355328) : PureD Tryd.prog 71 [.i (bI l)] (.i (bI l)) := by
  cases l with
  | cons b t =>
    have hl' : t.length ≤ 140737488355327 := by simp at hl; omega
    refine callD_W 8 Tryd.func71 rfl rfl rfl (fun _ _ => rfl) ?_
    (repeat (first | (simp -implicitDefEqProofs only [ev, mixed, Nat.reduceLT, Nat.reduceAdd, Nat.reduceMul, reduceIte, Nat.reduceEqDiff, reduceCtorEq, Nat.reducePow, Nat.reduceLeDiff, Int.reduceLE, Int.reduceLT, Int.reduceToNat, Int.reduceEq, Nat.reduceBEq, itsOf, gdA, byteI, opid, lenQ, ixQ, ldH, readAt, readCells, asCell, faQ, exQ, fldQ, partA, buildQ, slQ, stH, bslH, appH, dcells, convI, elemsOf, D.one, nilS, fillD, convN, cvH, tyCmp2, bI, List.map_cons, hl']) | (with_reducible refine ⟨?_, ?_⟩; (· first | (obtain ⟨rfl⟩ := ‹Hq _ _›; with_reducible refine chk_ok ?_; kernel_rfl) | kernel_rfl)) | (with_reducible intro ops hops)))
    refine fin_ret [1770] rfl ?_
    simp [cv, cv1, cv0, upd, hO, lk, elemsOf, bI, take_len_map]
  | nil =>
    refine pure_case (Enters_of Tryd.func71 rfl rfl) fun K vs hrd => ?_
    obtain ⟨hs, hg⟩ := hrd
    obtain ⟨a, c, hv⟩ : ∃ a c, vs.getD 0 undef = .slice a 0 c := by
      have := hg 0 _ rfl
      generalize vs.getD 0 undef = v at this
      cases this with
      | i hx =>
        cases hx with
        | e a c => exact ⟨a, c, rfl⟩
        | sl b off cap sz es f h1 h2 => exact ⟨_, _, rfl⟩
    refine ⟨[.i (.s (.slice a 0 c))], ?_, hs, fun j d hd => ?_⟩
    · have hun := un29
      refine callD_W 8 Tryd.func71 rfl rfl rfl (fun _ _ => rfl) ?_
      cases a with
      | none =>
        (repeat (first | (simp -implicitDefEqProofs only [ev, mixed, Nat.reduceLT, Nat.reduceAdd, Nat.reduceMul, reduceIte, Nat.reduceEqDiff, reduceCtorEq, Nat.reducePow, Nat.reduceLeDiff, Int.reduceLE, Int.reduceLT, Int.reduceToNat, Int.reduceEq, Nat.reduceBEq, itsOf, gdA, byteI, opid, lenQ, ixQ, ldH, readAt, readCells, asCell, faQ, exQ, fldQ, partA, buildQ, slQ, stH, bslH, appH, dcells, convI, elemsOf, D.one, nilS, fillD, convN, cvH, tyCmp2, bq_eqnil hun, Option.isNone_none]) | (with_reducible refine ⟨?_, ?_⟩; (· first | (obtain ⟨rfl⟩ := ‹Hq _ _›; with_reducible refine chk_ok ?_; kernel_rfl) | kernel_rfl)) | (with_reducible intro ops hops)))
        refine fin_ret [] rfl ?_
        simp [cv, cv1, cv0, upd, bI]
      | some a =>
        (repeat (first | (simp -implicitDefEqProofs only [ev, mixed, Nat.reduceLT, Nat.reduceAdd, Nat.reduceMul, reduceIte, Nat.reduceEqDiff, reduceCtorEq, Nat.reducePow, Nat.reduceLeDiff, Int.reduceLE, Int.reduceLT, Int.reduceToNat, Int.reduceEq, Nat.reduceBEq, itsOf, gdA, byteI, opid, lenQ, ixQ, ldH, readAt, readCells, asCell, faQ, exQ, fldQ, partA, buildQ, slQ, stH, bslH, appH, dcells, convI, elemsOf, D.one, nilS, fillD, convN, cvH, tyCmp2, bq_eqnil hun, Option.isNone_some]) | (with_reducible refine ⟨?_, ?_⟩; (· first | (obtain ⟨rfl⟩ := ‹Hq _ _›; with_reducible refine chk_ok ?_; kernel_rfl) | kernel_rfl)) | (with_reducible intro ops hops)))
        refine fin_ret [1770] rfl ?_
        simp [cv, cv1, cv0, upd, hO, lk, elemsOf, bI]
    · cases j with
      | zero => simp at hd; subst hd; rw [hv]; exact .i (.s _ rfl)
      | succ j => simp at hd
end Go.Proofs.YtmclpbcipkdmcaaDoor
