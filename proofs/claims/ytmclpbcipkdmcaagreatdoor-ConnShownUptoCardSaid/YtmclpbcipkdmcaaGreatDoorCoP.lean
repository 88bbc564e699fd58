/- Connections: what a step comes to. No program is in sight. -/
import Derived.Test.YtmclpbcipkdmcaaGreatDoorGMk
import Derived.Test.YtmclpbcipkdmcaaGreatDoorGCl
import Derived.Test.YtmclpbcipkdmcaaGreatDoorStK
set_option linter.all false
namespace Go.Proofs.YtmclpbcipkdmcaaGreatDoor
open Go Go.Abs

structure ShownD where
  h : Int
  p : ProofD
  g : GapD
def shD (w : ShownD) : D := .agg [.i (.s (.int .i64 w.h)), .i (.s (.int .i64 w.p.i)), .i (.s (.int .i64 w.p.n)), .i (bI w.p.k), .i (bI w.p.v), .i (bbI w.p.path), .i (.s (.bool w.g.hl)), .i (.s (.bool w.g.hr)),
  .i (.s (.int .i64 w.g.left.i)), .i (.s (.int .i64 w.g.left.n)), .i (bI w.g.left.k), .i (bI w.g.left.v), .i (bbI w.g.left.path), .i (.s (.int .i64 w.g.right.i)), .i (.s (.int .i64 w.g.right.n)), .i (bI w.g.right.k), .i (bI w.g.right.v), .i (bbI w.g.right.path)]
attribute [simp, go_sem] shD
def clAt (s : StateD) (c : Int) : ClientD := s.cls.getD c.toNat zeroC
def overE (s : StateD) (c : Int) : Int := if c < 0 ∨ (s.cls.length : Int) ≤ c then 6 else if activeC (clAt s c) s.t = true then 0 else 12
def zeroCn : ConnD := ⟨0, 0, 0, 0⟩
attribute [simp, go_sem] zeroCn
def cnAt (s : StateD) (i : Int) : ConnD := s.cns.getD i.toNat zeroCn
def shownE (s : StateD) (c pos : Int) (en : ConnD) (w : ShownD) : Int := memberE (clAt s c) s.t w.h (keyC pos) (valCn en) w.p
abbrev StR := StateD × Int × Int
def addCn (s : StateD) (c : ConnD) : StR := if (s.cns.length : Int) = 8 then (zeroSt, 0, 5) else ({ s with cns := s.cns ++ [c] }, s.cns.length, 0)
def initCn (s : StateD) (c other : Int) : StR :=
  if wrongS s = 0 then (if overE s c = 0 then (if other < 0 ∨ 1000000000000 < other then (zeroSt, 0, 3) else addCn s ⟨1, c, other, -1⟩) else (zeroSt, 0, overE s c)) else (zeroSt, 0, wrongS s)
def tryCn (s : StateD) (c other oc : Int) (w : ShownD) : StR :=
  if wrongS s = 0 then (if overE s c = 0 then (if other < 0 ∨ 1000000000000 < other ∨ oc < 0 ∨ 1000000000000 < oc then (zeroSt, 0, 3) else
    if shownE s c oc ⟨1, other, c, -1⟩ w = 0 then addCn s ⟨2, c, other, oc⟩ else (zeroSt, 0, shownE s c oc ⟨1, other, c, -1⟩ w)) else (zeroSt, 0, overE s c)) else (zeroSt, 0, wrongS s)
def endCn (s : StateD) (i want : Int) : ConnD × Int :=
  if wrongS s = 0 then (if i < 0 ∨ (s.cns.length : Int) ≤ i then (zeroCn, 6) else if (cnAt s i).st = want then (cnAt s i, overE s (cnAt s i).cl) else (zeroCn, 12)) else (zeroCn, wrongS s)
def openCn (s : StateD) (i oc : Int) : StateD := { s with cns := s.cns.set i.toNat { cnAt s i with st := 3, on := oc } }
def ackCn (s : StateD) (i oc : Int) (w : ShownD) : StateD × Int :=
  if (endCn s i 1).2 = 0 then (if oc < 0 ∨ 1000000000000 < oc then (zeroSt, 3) else
    if shownE s (cnAt s i).cl oc ⟨2, (cnAt s i).oc, (cnAt s i).cl, i⟩ w = 0 then (openCn s i oc, 0) else (zeroSt, shownE s (cnAt s i).cl oc ⟨2, (cnAt s i).oc, (cnAt s i).cl, i⟩ w)) else (zeroSt, (endCn s i 1).2)
def confCn (s : StateD) (i : Int) (w : ShownD) : StateD × Int :=
  if (endCn s i 2).2 = 0 then (if (cnAt s i).on < 0 then (zeroSt, 8) else
    if shownE s (cnAt s i).cl (cnAt s i).on ⟨3, (cnAt s i).oc, (cnAt s i).cl, i⟩ w = 0 then (openCn s i (cnAt s i).on, 0) else (zeroSt, shownE s (cnAt s i).cl (cnAt s i).on ⟨3, (cnAt s i).oc, (cnAt s i).cl, i⟩ w)) else (zeroSt, (endCn s i 2).2)
/-- a connection that stands so -/
theorem endCn_zero {s : StateD} {i want : Int} : (endCn s i want).2 = 0 ↔ StOk s ∧ (0 ≤ i ∧ i < (s.cns.length : Int)) ∧ (cnAt s i).st = want ∧ overE s (cnAt s i).cl = 0 := by
  unfold endCn
  rw [← wrongS_zero]
  constructor
  · intro h
    split at h
    · split at h
      · cases h
      · split at h
        · exact ⟨by assumption, by omega, by assumption, h⟩
        · cases h
    · exact absurd h ‹_›
  · rintro ⟨a, b, c, d⟩
    rw [if_pos a, if_neg (by omega), if_pos c]; exact d
theorem endCn_fst {s : StateD} {i want : Int} (h : (endCn s i want).2 = 0) : endCn s i want = (cnAt s i, 0) := by
  obtain ⟨a, b, c, d⟩ := endCn_zero.1 h
  unfold endCn
  rw [if_pos (wrongS_zero.2 a), if_neg (by omega), if_pos c, d]
theorem overE_zero {s : StateD} {c : Int} : overE s c = 0 ↔ (0 ≤ c ∧ c < (s.cls.length : Int)) ∧ activeC (clAt s c) s.t = true := by
  unfold overE
  constructor
  · intro h
    split at h
    · cases h
    · split at h
      · exact ⟨by omega, by assumption⟩
      · cases h
  · rintro ⟨a, b⟩
    rw [if_neg (by omega), if_pos b]
theorem cnAt_mem {s : StateD} {i : Int} (h : 0 ≤ i ∧ i < (s.cns.length : Int)) : cnAt s i = s.cns[i.toNat]'(by omega) ∧ cnAt s i ∈ s.cns := by
  have e : cnAt s i = s.cns[i.toNat]'(by omega) := by
    unfold cnAt
    rw [List.getD_eq_getElem?_getD, List.getElem?_eq_getElem (by omega)]; rfl
  exact ⟨e, by rw [e]; exact List.getElem_mem _⟩
theorem clAt_mem {s : StateD} {i : Int} (h : 0 ≤ i ∧ i < (s.cls.length : Int)) : clAt s i = s.cls[i.toNat]'(by omega) ∧ clAt s i ∈ s.cls := by
  have e : clAt s i = s.cls[i.toNat]'(by omega) := by
    unfold clAt
    rw [List.getD_eq_getElem?_getD, List.getElem?_eq_getElem (by omega)]; rfl
  exact ⟨e, by rw [e]; exact List.getElem_mem _⟩
end Go.Proofs.YtmclpbcipkdmcaaGreatDoor
