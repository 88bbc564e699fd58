/- Clients, as plain data and functions; their values in a walk. No program is in sight. -/
import Derived.Test.YtmclpbcipkdmcaaDoorHdL
set_option linter.all false
namespace Go.Proofs.YtmclpbcipkdmcaaDoor
open Go Go.Abs

structure KnownD where
  h : Int
  t : Int
  root : List UInt8
  next : List UInt8
structure ClientD where
  c : ByteArray
  trust : Int
  frozen : Bool
  known : List KnownD
structure UpdD where
  fr : Int
  sg : SignedD
  tr : List ValD
def encK (k : KnownD) : List I := [.s (.int .i64 k.h), .s (.int .i64 k.t), bI k.root, bI k.next]
def knownI (l : List KnownD) : I := .sl (l.map encK)
def knownD (k : KnownD) : D := .agg [.i (.s (.int .i64 k.h)), .i (.s (.int .i64 k.t)), .i (bI k.root), .i (bI k.next)]
def encC (c : ClientD) : List I := [.s (.string c.c), .s (.int .i64 c.trust), .s (.bool c.frozen), knownI c.known]
def clientD (c : ClientD) : D := .agg [.i (.s (.string c.c)), .i (.s (.int .i64 c.trust)), .i (.s (.bool c.frozen)), .i (knownI c.known)]
def encU (u : UpdD) : List I := .s (.int .i64 u.fr) :: (encS u.sg ++ [valsI u.tr])
def updD (u : UpdD) : D := .agg [.i (.s (.int .i64 u.fr)), .i (.s (.string u.sg.hdr.c)), .i (.s (.int .i64 u.sg.hdr.h)), .i (.s (.int .i64 u.sg.hdr.t)), .i (bI u.sg.hdr.root), .i (bI u.sg.hdr.vals), .i (bI u.sg.hdr.next), .i (valsI u.sg.vals), .i (votesI u.sg.votes), .i (valsI u.tr)]
def zeroK : KnownD := ⟨0, 0, [], []⟩
def zeroC : ClientD := ⟨⟨#[]⟩, 0, false, []⟩

def knE (k : KnownD) : Int :=
  if k.h < 1 ∨ ¬ numB k.h = true ∨ ¬ numB k.t = true then 3
  else if ¬ (k.root.length : Int) = 32 ∨ ¬ (k.next.length : Int) = 32 then 2 else 0
def knsE : Option KnownD → List KnownD → Int
  | _, [] => 0
  | o, k :: t => if knE k = 0 then (if (o.any fun q => decide (k.h ≤ q.h)) = true then 2 else knsE (some k) t) else knE k
def wrongC (c : ClientD) : Int :=
  if nameOk c.c = true then
    (if c.trust < 1 ∨ ¬ numB c.trust = true then 3
    else if (c.known.length : Int) < 1 ∨ (30 : Int) < c.known.length then 5 else knsE none c.known)
  else 7
/-- the first place, from one on; -1: none -/
def ixFrom (l : List KnownD) (h : Int) (i : Nat) : Int := match (l.drop i).findIdx? (fun k => decide (k.h = h)) with | some j => ((i + j : Nat) : Int) | none => -1
def ixK (l : List KnownD) (h : Int) : Int := ixFrom l h 0
theorem ixFrom_lt {l : List KnownD} {h : Int} {i : Nat} (hi : i < l.length) : ixFrom l h i = if l[i].h = h then (i : Int) else ixFrom l h (i + 1) := by
  unfold ixFrom
  rw [List.drop_eq_getElem_cons hi, List.findIdx?_cons]
  by_cases e : l[i].h = h
  · simp [e]
  · simp only [e, decide_false, Bool.false_eq_true, if_false]
    cases (l.drop (i + 1)).findIdx? (fun k => decide (k.h = h)) with
    | none => rfl
    | some j => simp; omega
theorem ixFrom_ge {l : List KnownD} {h : Int} {i : Nat} (hi : ¬ i < l.length) : ixFrom l h i = -1 := by
  unfold ixFrom
  rw [List.drop_eq_nil_of_le (by omega)]; rfl
def atC (c : ClientD) (h : Int) : Option KnownD := c.known.find? fun k => decide (k.h = h)
theorem at_case (c : ClientD) (h : Int) : (atC c h = none ∧ ixK c.known h = -1) ∨ ∃ i, ∃ hi : i < c.known.length, ixK c.known h = i ∧ atC c h = some c.known[i] := by
  unfold atC ixK ixFrom
  rw [List.drop_zero]
  cases e : c.known.findIdx? (fun k => decide (k.h = h)) with
  | none =>
    left
    rw [List.findIdx?_eq_none_iff] at e
    exact ⟨List.find?_eq_none.2 fun x hx => by simpa using e x hx, rfl⟩
  | some i =>
    right
    obtain ⟨hi, h1, h2⟩ := List.findIdx?_eq_some_iff_getElem.1 e
    refine ⟨i, hi, by simp, ?_⟩
    rw [List.find?_eq_some_iff_getElem]
    exact ⟨h1, i, hi, rfl, fun j hj => by simpa using h2 j hj⟩
def atR (c : ClientD) (h : Int) : KnownD × Bool := match atC c h with | some k => (k, true) | none => (zeroK, false)
def lastC (c : ClientD) : KnownD := c.known.getLastD zeroK
def activeC (c : ClientD) (now : Int) : Bool := !c.frozen && decide (now - (lastC c).t < c.trust)
def newC (c : ByteArray) (trust : Int) (k : KnownD) : ClientD × Int := if wrongC ⟨c, trust, false, [k]⟩ = 0 then (⟨c, trust, false, [k]⟩, 0) else (zeroC, wrongC ⟨c, trust, false, [k]⟩)
def beE2 (u : UpdD) (k : KnownD) : Int :=
  if u.sg.hdr.h = k.h + 1 then (if u.sg.hdr.vals = k.next then 0 else 8)
  else if valsW u.tr = 0 then (if digestV u.tr = k.next then (if overF u.tr u.sg = true then 0 else 10) else 8) else valsW u.tr
def beE1 (c : ClientD) (u : UpdD) (now : Int) (k : KnownD) : Int :=
  if u.sg.hdr.c = c.c then
    (if c.trust ≤ now - k.t then 11
    else if u.sg.hdr.h ≤ k.h then 3
    else if u.sg.hdr.t ≤ k.t ∨ now + 10 < u.sg.hdr.t then 11
    else beE2 u k)
  else 7
def beE (c : ClientD) (u : UpdD) (now : Int) : Int :=
  if checkS u.sg = 0 then (match atC c u.fr with | none => 6 | some k => beE1 c u now k) else checkS u.sg
def askedE (c : ClientD) (now : Int) : Int :=
  if wrongC c = 0 then (if numB now = true then (if c.frozen = true then 12 else 0) else 3) else wrongC c
def ofH (h : HdrD) : KnownD := ⟨h.h, h.t, h.root, h.next⟩
/-- how many are lower -/
def lowK (l : List KnownD) (h : Int) : Nat := (l.takeWhile fun k => decide (k.h < h)).length
def cutK (l : List KnownD) : List KnownD := if (30 : Int) < l.length then l.drop 1 else l
def samK (o k : KnownD) : Bool := decide (o.t = k.t) && (decide (o.root = k.root) && decide (o.next = k.next))
def badK (l : List KnownD) (i : Nat) (k : KnownD) : Bool := (decide (0 < i) && (l[i - 1]?).any fun p => decide (k.t ≤ p.t)) || (l[i]?).any fun p => decide (p.t ≤ k.t)
def putK (c : ClientD) (k : KnownD) : ClientD :=
  match atC c k.h with
  | some o => if samK o k = true then c else { c with frozen := true }
  | none => if badK c.known (lowK c.known k.h) k = true then { c with frozen := true }
    else { c with known := cutK (c.known.take (lowK c.known k.h) ++ k :: c.known.drop (lowK c.known k.h)) }
def followC (c : ClientD) (u : UpdD) (now : Int) : ClientD × Int :=
  if askedE c now = 0 then (if beE c u now = 0 then (putK c (ofH u.sg.hdr), 0) else (zeroC, beE c u now)) else (zeroC, askedE c now)
def catchC (c : ClientD) (a b : UpdD) (now : Int) : ClientD × Int :=
  if askedE c now = 0 then (if beE c a now = 0 then (if beE c b now = 0 then (if a.sg.hdr.h = b.sg.hdr.h ∧ ¬ bytesH a.sg.hdr = bytesH b.sg.hdr then ({ c with frozen := true }, 0) else (zeroC, 8)) else (zeroC, beE c b now)) else (zeroC, beE c a now)) else (zeroC, askedE c now)
end Go.Proofs.YtmclpbcipkdmcaaDoor
