/- Headers, validators, votes, as plain data and functions; their values in a walk. No program is in sight. -/
import Derived.Test.YtmclpbcipkdmcaaDoorSealC
import Derived.Test.YtmclpbcipkdmcaaDoorWWrite
import Derived.Test.YtmclpbcipkdmcaaDoorNameP
import Derived.Test.YtmclpbcipkdmcaaDoorByt
set_option linter.all false
namespace Go.Proofs.YtmclpbcipkdmcaaDoor
open Go Go.Abs

structure ValD where
  k : Nat
  p : Nat
structure HdrD where
  c : ByteArray
  h : Int
  t : Int
  root : List UInt8
  vals : List UInt8
  next : List UInt8
structure VoteD where
  is : Bool
  r : Nat
  s : Nat
structure SignedD where
  hdr : HdrD
  vals : List ValD
  votes : List VoteD
def encV (v : ValD) : List I := [.s (.int .u64 v.k), .s (.int .u64 v.p)]
def encX (v : VoteD) : List I := [.s (.bool v.is), .s (.int .u64 v.r), .s (.int .u64 v.s)]
def valsI (l : List ValD) : I := .sl (l.map encV)
def votesI (l : List VoteD) : I := .sl (l.map encX)
def encH (h : HdrD) : List I := [.s (.string h.c), .s (.int .i64 h.h), .s (.int .i64 h.t), bI h.root, bI h.vals, bI h.next]
def hdrD (h : HdrD) : D := .agg [.i (.s (.string h.c)), .i (.s (.int .i64 h.h)), .i (.s (.int .i64 h.t)), .i (bI h.root), .i (bI h.vals), .i (bI h.next)]
def encS (s : SignedD) : List I := [.s (.string s.hdr.c), .s (.int .i64 s.hdr.h), .s (.int .i64 s.hdr.t), bI s.hdr.root, bI s.hdr.vals, bI s.hdr.next, valsI s.vals, votesI s.votes]
def signedD (s : SignedD) : D := .agg [.i (.s (.string s.hdr.c)), .i (.s (.int .i64 s.hdr.h)), .i (.s (.int .i64 s.hdr.t)), .i (bI s.hdr.root), .i (bI s.hdr.vals), .i (bI s.hdr.next), .i (valsI s.vals), .i (votesI s.votes)]
def valD (v : ValD) : D := .agg [.i (.s (.int .u64 v.k)), .i (.s (.int .u64 v.p))]
def zeroH : HdrD := ⟨⟨#[]⟩, 0, 0, [], [], []⟩
def zeroS : SignedD := ⟨zeroH, [], []⟩

def numB (n : Int) : Bool := decide (0 ≤ n ∧ n ≤ 1000000000000)
/-- what is wrong with validators, behind one -/
def valsE : Option ValD → List ValD → Int
  | _, [] => 0
  | o, v :: t => if (v.p : Int) < 1 ∨ (1000000 : Int) < v.p then 3 else if (o.any fun q => decide ((v.k : Int) ≤ q.k)) = true then 2 else valsE (some v) t
def valsW (l : List ValD) : Int := if (l.length : Int) < 1 ∨ (10 : Int) < l.length then 5 else valsE none l
def numP (n : Nat) : PieceD := ⟨1, n, []⟩
def rawB (b : List UInt8) : PieceD := ⟨2, 0, b⟩
def pcsV (l : List ValD) : List PieceD := l.flatMap fun v => [numP v.k, numP v.p]
def digestV (l : List ValD) : List UInt8 := sha (writeF (pcsV l)).1
def u64 (n : Int) : Nat := (n % 18446744073709551616).toNat
theorem u64_lt (n : Int) : u64 n < 18446744073709551616 := by unfold u64; omega
theorem wrap_u (n : Int) : IntKind.u64.wrap n = (u64 n : Int) := by rw [IntKind.wrap_u64]; unfold u64; omega
def pcsH (h : HdrD) : List PieceD := [rawB (unB h.c), numP (u64 h.h), numP (u64 h.t), rawB h.root, rawB h.vals, rawB h.next]
def bytesH (h : HdrD) : List UInt8 := (writeF (pcsH h)).1
def wrongH (h : HdrD) : Int :=
  if nameOk h.c = true then
    (if h.h < 1 ∨ ¬ numB h.h = true ∨ ¬ numB h.t = true then 3
    else if ¬ (h.root.length : Int) = 32 ∨ ¬ (h.vals.length : Int) = 32 ∨ ¬ (h.next.length : Int) = 32 then 2 else 0)
  else 7
/-- a validator's vote, by the last seed that is its own -/
def voteF (h : HdrD) (seeds : List (List UInt8)) (v : ValD) : VoteD :=
  seeds.foldl (fun x s => if v.k = keyF s then ⟨true, sigR s (bytesH h), sigS s (bytesH h)⟩ else x) ⟨false, 0, 0⟩
def signF (h : HdrD) (vals : List ValD) (seeds : List (List UInt8)) : SignedD × Int :=
  if wrongH h = 0 then (if valsW vals = 0 then (if digestV vals = h.vals then (⟨h, vals, vals.map (voteF h seeds)⟩, 0) else (zeroS, 8)) else (zeroS, valsW vals)) else (zeroS, wrongH h)
def sumP (l : List ValD) : Nat := (l.map (·.p)).sum
def yesOf (q : ValD × VoteD) : Nat := if q.2.is = true then q.1.p else 0
def yesF (l : List (ValD × VoteD)) : Nat := (l.map yesOf).sum
def badOf (b : List UInt8) (q : ValD × VoteD) : Bool := q.2.is && !goodF q.1.k b q.2.r q.2.s
def badF (b : List UInt8) (l : List (ValD × VoteD)) : Bool := l.any (badOf b)
def checkS (s : SignedD) : Int :=
  if wrongH s.hdr = 0 then (if valsW s.vals = 0 then (if (s.votes.length : Int) = s.vals.length then (if digestV s.vals = s.hdr.vals then
    (if badF (bytesH s.hdr) (s.vals.zip s.votes) = true then 10 else if 3 * (yesF (s.vals.zip s.votes) : Int) ≤ 2 * (sumP s.vals : Int) then 10 else 0) else 8) else 8) else valsW s.vals) else wrongH s.hdr
/-- what of a trusted one's power voted -/
def hitOf (t : ValD) (q : ValD × VoteD) : Nat := if q.1.k = t.k ∧ q.2.is = true then t.p else 0
def hitF (l : List (ValD × VoteD)) (t : ValD) : Nat := (l.map (hitOf t)).sum
def hitsF (l : List (ValD × VoteD)) (tr : List ValD) : Nat := (tr.map (hitF l)).sum
def overF (tr : List ValD) (s : SignedD) : Bool := decide (sumP tr < 3 * hitsF (s.vals.zip s.votes) tr)

theorem sum_take {α : Type} {l : List α} {f : α → Nat} {i : Nat} (h : i < l.length) : ((l.take (i + 1)).map f).sum = ((l.take i).map f).sum + f l[i] := by
  rw [List.take_succ_eq_append_getElem h, List.map_append, List.sum_append]; simp
theorem any_take {α : Type} {l : List α} {f : α → Bool} {i : Nat} (h : i < l.length) : (l.take (i + 1)).any f = ((l.take i).any f || f l[i]) := by
  rw [List.take_succ_eq_append_getElem h, List.any_append]; simp
theorem sum_le {α : Type} {f : α → Nat} {k : Nat} : ∀ {l : List α}, (∀ x ∈ l, f x ≤ k) → (l.map f).sum ≤ l.length * k
  | [], _ => by simp
  | a :: t, h => by
    have := sum_le (l := t) (fun x hx => h x (List.mem_cons_of_mem _ hx))
    have := h a (List.mem_cons_self ..)
    simp only [List.map_cons, List.sum_cons, List.length_cons, Nat.add_mul]; omega
theorem take_mem {α : Type} {l : List α} {P : α → Prop} {i : Nat} (h : ∀ x ∈ l, P x) : ∀ x ∈ l.take i, P x := fun x hx => h x (List.mem_of_mem_take hx)

/-- validators that may be -/
structure ValsOk (l : List ValD) : Prop where
  len : 1 ≤ l.length ∧ l.length ≤ 10
  pow : ∀ v ∈ l, 1 ≤ v.p ∧ v.p ≤ 1000000
  rise : l.Pairwise fun a b => a.k < b.k
theorem valsE_zero : ∀ {o : Option ValD} {l : List ValD}, valsE o l = 0 ↔ (∀ v ∈ l, 1 ≤ v.p ∧ v.p ≤ 1000000) ∧ l.Pairwise (fun a b => a.k < b.k) ∧ (∀ q, o = some q → ∀ v ∈ l, q.k < v.k)
  | o, [] => by simp [valsE]
  | o, v :: t => by
    rw [valsE]
    have ih := valsE_zero (o := some v) (l := t)
    by_cases h1 : (v.p : Int) < 1 ∨ (1000000 : Int) < v.p
    · rw [if_pos h1]
      constructor
      · intro h; cases h
      · rintro ⟨h, _⟩; have := h v (List.mem_cons_self ..); omega
    · rw [if_neg h1]
      by_cases h2 : (o.any fun q => decide ((v.k : Int) ≤ q.k)) = true
      · rw [if_pos h2]
        constructor
        · intro h; cases h
        · rintro ⟨_, _, h⟩
          cases o with
          | none => simp at h2
          | some q => have := h q rfl v (List.mem_cons_self ..); simp at h2; omega
      · rw [if_neg h2, ih]
        constructor
        · rintro ⟨a, b, c⟩
          refine ⟨fun x hx => ?_, List.pairwise_cons.2 ⟨c v rfl, b⟩, fun q hq x hx => ?_⟩
          · rcases List.mem_cons.1 hx with rfl | hx
            · omega
            · exact a x hx
          · subst hq
            simp at h2
            rcases List.mem_cons.1 hx with rfl | hx
            · omega
            · have := c v rfl x hx; omega
        · rintro ⟨a, b, c⟩
          have hb := List.pairwise_cons.1 b
          exact ⟨fun x hx => a x (List.mem_cons_of_mem _ hx), hb.2, fun q hq => by injection hq with hq; subst hq; exact hb.1⟩
theorem valsW_zero {l : List ValD} : valsW l = 0 ↔ ValsOk l := by
  unfold valsW
  by_cases h : (l.length : Int) < 1 ∨ (10 : Int) < l.length
  · rw [if_pos h]
    constructor
    · intro h; cases h
    · intro r; have := r.len; omega
  · rw [if_neg h, valsE_zero]
    constructor
    · rintro ⟨a, b, _⟩; exact ⟨by omega, a, b⟩
    · intro r; exact ⟨r.pow, r.rise, fun q hq => by cases hq⟩
theorem sumP_le {l : List ValD} (h : ValsOk l) (i : Nat) : sumP (l.take i) ≤ 10000000 := by
  have h1 := sum_le (f := fun v : ValD => v.p) (k := 1000000) (l := l.take i) (take_mem fun v hv => (h.pow v hv).2)
  have h2 := h.len
  have h3 : (l.take i).length ≤ 10 := by rw [List.length_take]; omega
  unfold sumP
  have : (l.take i).length * 1000000 ≤ 10 * 1000000 := Nat.mul_le_mul_right _ h3
  omega
end Go.Proofs.YtmclpbcipkdmcaaDoor
