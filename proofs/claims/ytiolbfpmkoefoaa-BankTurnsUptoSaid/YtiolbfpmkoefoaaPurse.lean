/- bank.find: by value, of purses that rise. -/
import Derived.Test.YtiolbfpmkoefoaaStrs
set_option linter.all false
namespace Go.Proofs.Ytiolbfpmkoefoaa
open Go Go.Abs Go.RowKit Go.Proofs.Ytiolbfpmkoefoaa.Ty
theorem tyPurse0 : (type_of% @Ty.T3) ∧ (type_of% @Ty.T9) ∧ (type_of% @Ty.T23) ∧ (type_of% @Ty.T48) := ⟨@Ty.T3, @Ty.T9, @Ty.T23, @Ty.T48⟩

structure PurseD where
  o : ByteArray
  d : ByteArray
  n : Nat
def encPu (p : PurseD) : List I := [.s (.string p.o), .s (.string p.d), .s (.int .u64 p.n)]
def puD (p : PurseD) : D := .agg [.i (.s (.string p.o)), .i (.s (.string p.d)), .i (.s (.int .u64 p.n))]
def pusI (l : List PurseD) : I := .sl (l.map encPu)
def intD (n : Int) : D := .i (.s (.int .i64 n))
def boolD (b : Bool) : D := .i (.s (.bool b))
abbrev PKey := ByteArray × ByteArray
def pk (p : PurseD) : PKey := (p.o, p.d)
def cmpP (a b : PKey) : Int := if cmpS a.1 b.1 = 0 then cmpS a.2 b.2 else cmpS a.1 b.1
theorem cmpP_ok : KL.CmpOk cmpP where
  zero := fun a b => by
    unfold cmpP
    by_cases h : cmpS a.1 b.1 = 0
    · rw [if_pos h]
      rw [cmpS_zero] at h
      rw [cmpS_zero]
      constructor
      · intro h2; exact Prod.ext h h2
      · rintro rfl; rfl
    · rw [if_neg h]
      constructor
      · intro h2; exact absurd h2 h
      · rintro rfl; exact absurd (cmpS_zero.2 rfl) h
  neg := fun a b => by
    have h1 := cmpS_ok.neg a.1 b.1
    have h2 := cmpS_ok.neg b.1 a.1
    have h3 := cmpS_ok.neg a.2 b.2
    unfold cmpP
    split <;> split <;> omega
  trans := fun a b d => by
    intro h1 h2
    have t1 := cmpS_ok.trans a.1 b.1 d.1
    have t2 := cmpS_ok.trans a.2 b.2 d.2
    unfold cmpP at *
    by_cases e1 : cmpS a.1 b.1 = 0
    · have e1' := cmpS_zero.1 e1
      rw [if_pos e1] at h1
      rw [e1']
      by_cases e2 : cmpS b.1 d.1 = 0
      · rw [if_pos e2] at h2 ⊢; exact t2 h1 h2
      · rw [if_neg e2] at h2 ⊢; exact h2
    · rw [if_neg e1] at h1
      by_cases e2 : cmpS b.1 d.1 = 0
      · have e2' := cmpS_zero.1 e2
        rw [← e2', if_neg e1]; exact h1
      · rw [if_neg e2] at h2
        have := t1 h1 h2
        rw [if_neg (by omega)]; exact this
abbrev SrtP (l : List PurseD) : Prop := KL.Srt pk cmpP l
abbrev placeP (l : List PurseD) (o d : ByteArray) : Nat := KL.place pk cmpP l (o, d)
abbrev getP (l : List PurseD) (o d : ByteArray) : Option PurseD := KL.get pk cmpP l (o, d)

def amtP (l : List PurseD) (o d : ByteArray) : Nat := match getP l o d with | some p => p.n | none => 0
set_option maxHeartbeats 2000000
theorem findc_A (p : PurseD) (o d : ByteArray) : PureD Try.prog 36 [puD p, sD d, .rp [sI o] 0] (intD (cmpP (pk p) (o, d))) := by
  unfold cmpP pk
  have h1 := scmp_A p.o o
  have h2 := scmp_A p.d d
  simp only
  generalize cmpS p.o o = c1 at *
  generalize cmpS p.d d = c2 at *
  by_cases h : c1 = 0
  · rw [if_pos h]
    have g : decide (c1 = 0) = true := decide_eq_true h
    refine callD_W 18 Try.func36 rfl rfl rfl (fun _ _ => rfl) ?_
    (repeat (first | (simp -implicitDefEqProofs only [ev, mixed, Nat.reduceLT, Nat.reduceAdd, Nat.reduceMul, reduceIte, Nat.reduceEqDiff, reduceCtorEq, Nat.reducePow, Nat.reduceLeDiff, Int.reduceLE, Int.reduceLT, Int.reduceToNat, Int.reduceEq, Nat.reduceBEq, itsOf, gdA, byteI, opid, lenQ, ixQ, ldH, readAt, readCells, asCell, faQ, exQ, fldQ, partA, buildQ, slQ, stH, bslH, appH, dcells, convI, elemsOf, D.one, nilS, fillD, convN, cvH, tyPurse0, puD, sD, sI]) | (with_reducible refine ⟨?_, ?_⟩; (· first | (obtain ⟨rfl⟩ := ‹Hq _ _›; with_reducible refine chk_ok ?_; kernel_rfl) | kernel_rfl)) | (with_reducible intro ops hops)))
    (first | refine Call_flat [] [] (h1) (by simp [cvAs, cvA, cvRL, cvR, cvBox, cv1, cvL, cv0, bI, byteI, intD, boolD, sD, sI, puD, pusI, elemsOf, upd]) rfl ?_ | refine CallF_flat [] [] [] (h1) (fun G _ => by simp [cvAs, cvA, cvRL, cvR, cvBox, cv1, cvL, cv0, bI, byteI, intD, boolD, sD, sI, puD, pusI, elemsOf, upd]) rfl ?_)
    (repeat (first | (simp -implicitDefEqProofs only [ev, mixed, Nat.reduceLT, Nat.reduceAdd, Nat.reduceMul, reduceIte, Nat.reduceEqDiff, reduceCtorEq, Nat.reducePow, Nat.reduceLeDiff, Int.reduceLE, Int.reduceLT, Int.reduceToNat, Int.reduceEq, Nat.reduceBEq, itsOf, gdA, byteI, opid, lenQ, ixQ, ldH, readAt, readCells, asCell, faQ, exQ, fldQ, partA, buildQ, slQ, stH, bslH, appH, dcells, convI, elemsOf, D.one, nilS, fillD, convN, cvH, tyPurse0, g]) | (with_reducible refine ⟨?_, ?_⟩; (· first | (obtain ⟨rfl⟩ := ‹Hq _ _›; with_reducible refine chk_ok ?_; kernel_rfl) | kernel_rfl)) | (with_reducible intro ops hops)))
    (first | refine Call_flat [] [] (h2) (by simp [cvAs, cvA, cvRL, cvR, cvBox, cv1, cvL, cv0, bI, byteI, intD, boolD, sD, sI, puD, pusI, elemsOf, upd]) rfl ?_ | refine CallF_flat [] [] [] (h2) (fun G _ => by simp [cvAs, cvA, cvRL, cvR, cvBox, cv1, cvL, cv0, bI, byteI, intD, boolD, sD, sI, puD, pusI, elemsOf, upd]) rfl ?_)
    (repeat (first | (simp -implicitDefEqProofs only [ev, mixed, Nat.reduceLT, Nat.reduceAdd, Nat.reduceMul, reduceIte, Nat.reduceEqDiff, reduceCtorEq, Nat.reducePow, Nat.reduceLeDiff, Int.reduceLE, Int.reduceLT, Int.reduceToNat, Int.reduceEq, Nat.reduceBEq, itsOf, gdA, byteI, opid, lenQ, ixQ, ldH, readAt, readCells, asCell, faQ, exQ, fldQ, partA, buildQ, slQ, stH, bslH, appH, dcells, convI, elemsOf, D.one, nilS, fillD, convN, cvH, tyPurse0]) | (with_reducible refine ⟨?_, ?_⟩; (· first | (obtain ⟨rfl⟩ := ‹Hq _ _›; with_reducible refine chk_ok ?_; kernel_rfl) | kernel_rfl)) | (with_reducible intro ops hops)))
    refine fin_ret [] rfl ?_
    simp [cv, cv1, cv0, upd, intD]
  · rw [if_neg h]
    have g : decide (c1 = 0) = false := decide_eq_false h
    refine callD_W 18 Try.func36 rfl rfl rfl (fun _ _ => rfl) ?_
    (repeat (first | (simp -implicitDefEqProofs only [ev, mixed, Nat.reduceLT, Nat.reduceAdd, Nat.reduceMul, reduceIte, Nat.reduceEqDiff, reduceCtorEq, Nat.reducePow, Nat.reduceLeDiff, Int.reduceLE, Int.reduceLT, Int.reduceToNat, Int.reduceEq, Nat.reduceBEq, itsOf, gdA, byteI, opid, lenQ, ixQ, ldH, readAt, readCells, asCell, faQ, exQ, fldQ, partA, buildQ, slQ, stH, bslH, appH, dcells, convI, elemsOf, D.one, nilS, fillD, convN, cvH, tyPurse0, puD, sD, sI]) | (with_reducible refine ⟨?_, ?_⟩; (· first | (obtain ⟨rfl⟩ := ‹Hq _ _›; with_reducible refine chk_ok ?_; kernel_rfl) | kernel_rfl)) | (with_reducible intro ops hops)))
    (first | refine Call_flat [] [] (h1) (by simp [cvAs, cvA, cvRL, cvR, cvBox, cv1, cvL, cv0, bI, byteI, intD, boolD, sD, sI, puD, pusI, elemsOf, upd]) rfl ?_ | refine CallF_flat [] [] [] (h1) (fun G _ => by simp [cvAs, cvA, cvRL, cvR, cvBox, cv1, cvL, cv0, bI, byteI, intD, boolD, sD, sI, puD, pusI, elemsOf, upd]) rfl ?_)
    (repeat (first | (simp -implicitDefEqProofs only [ev, mixed, Nat.reduceLT, Nat.reduceAdd, Nat.reduceMul, reduceIte, Nat.reduceEqDiff, reduceCtorEq, Nat.reducePow, Nat.reduceLeDiff, Int.reduceLE, Int.reduceLT, Int.reduceToNat, Int.reduceEq, Nat.reduceBEq, itsOf, gdA, byteI, opid, lenQ, ixQ, ldH, readAt, readCells, asCell, faQ, exQ, fldQ, partA, buildQ, slQ, stH, bslH, appH, dcells, convI, elemsOf, D.one, nilS, fillD, convN, cvH, tyPurse0, g]) | (with_reducible refine ⟨?_, ?_⟩; (· first | (obtain ⟨rfl⟩ := ‹Hq _ _›; with_reducible refine chk_ok ?_; kernel_rfl) | kernel_rfl)) | (with_reducible intro ops hops)))
    refine fin_ret [] rfl ?_
    simp [cv, cv1, cv0, upd, intD]
end Go.Proofs.Ytiolbfpmkoefoaa
