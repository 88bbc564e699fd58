/- The digest (SHA-256) as plain functions on numbers and lists of bytes, and how 32-bit words are spelled by the walk. No program is in sight. -/
import Derived.Test.YtmclpbcipkdmcaaDoorLib
set_option linter.all false
namespace Go.Proofs.YtmclpbcipkdmcaaDoor
open Go.RowKit

/-! ### words of 32 bits, as natural numbers -/
def wadd (a b : Nat) : Nat := (a + b) % 4294967296
def wxor (a b : Nat) : Nat := (a % 4294967296) ^^^ (b % 4294967296)
def wand (a b : Nat) : Nat := (a % 4294967296) &&& (b % 4294967296)
def wor (a b : Nat) : Nat := (a % 4294967296) ||| (b % 4294967296)
def wnot (a : Nat) : Nat := 4294967295 ^^^ (a % 4294967296)
def wshl (a d : Nat) : Nat := a * d % 4294967296
def wshr (a d : Nat) : Nat := a / d
def wrot (a n : Nat) : Nat := wor (wshl a (2 ^ (32 - n))) (wshr a (2 ^ n))

theorem wadd_lt (a b : Nat) : wadd a b < 4294967296 := Nat.mod_lt _ (by decide)
theorem wxor_lt (a b : Nat) : wxor a b < 4294967296 := Nat.xor_lt_two_pow (n := 32) (Nat.mod_lt _ (by decide)) (Nat.mod_lt _ (by decide))
theorem wor_lt (a b : Nat) : wor a b < 4294967296 := Nat.or_lt_two_pow (n := 32) (Nat.mod_lt _ (by decide)) (Nat.mod_lt _ (by decide))
theorem wand_lt (a b : Nat) : wand a b < 4294967296 := Nat.and_lt_two_pow _ (n := 32) (Nat.mod_lt _ (by decide))
theorem wrot_lt (a n : Nat) : wrot a n < 4294967296 := wor_lt _ _

theorem bits_u32 (a b : Nat) : bits .xor .u32 a b = ((wxor a b : Nat) : Int) ∧ bits .and .u32 a b = ((wand a b : Nat) : Int) ∧ bits .or .u32 a b = ((wor a b : Nat) : Int) := by
  have e : IntKind.u32.bits = 32 := rfl
  refine ⟨?_, ?_, ?_⟩
  · simp only [bits, BitVec.ofInt_natCast, BitVec.toNat_xor, BitVec.toNat_ofNat, e, IntKind.wrap_u32]
    have := wxor_lt a b
    unfold wxor at *
    simp only [show (2:Nat)^32 = 4294967296 from rfl]
    omega
  · simp only [bits, BitVec.ofInt_natCast, BitVec.toNat_and, BitVec.toNat_ofNat, e, IntKind.wrap_u32]
    have := wand_lt a b
    unfold wand at *
    simp only [show (2:Nat)^32 = 4294967296 from rfl]
    omega
  · simp only [bits, BitVec.ofInt_natCast, BitVec.toNat_or, BitVec.toNat_ofNat, e, IntKind.wrap_u32]
    have := wor_lt a b
    unfold wor at *
    simp only [show (2:Nat)^32 = 4294967296 from rfl]
    omega
theorem rx (a b : Nat) : bits .xor .u32 a b = ((wxor a b : Nat) : Int) := (bits_u32 a b).1
theorem ra (a b : Nat) : bits .and .u32 a b = ((wand a b : Nat) : Int) := (bits_u32 a b).2.1
theorem ro (a b : Nat) : bits .or .u32 a b = ((wor a b : Nat) : Int) := (bits_u32 a b).2.2
theorem rn (a : Nat) : bits .xor .u32 4294967295 a = ((wnot a : Nat) : Int) := (rx 4294967295 a).trans rfl
theorem rs (a b : Nat) : ((a : Int) + (b : Int)) % 4294967296 = ((wadd a b : Nat) : Int) := by unfold wadd; omega
theorem rmod (a : Nat) (h : a < 4294967296) : (a : Int) % 4294967296 = a := by omega

/-! ### the digest -/
structure V8 where
  a : Nat
  b : Nat
  c : Nat
  d : Nat
  e : Nat
  f : Nat
  g : Nat
  h : Nat
def V8.cells (v : V8) : List Value := [.int .u32 v.a, .int .u32 v.b, .int .u32 v.c, .int .u32 v.d, .int .u32 v.e, .int .u32 v.f, .int .u32 v.g, .int .u32 v.h]
def V8.list (v : V8) : List Nat := [v.a, v.b, v.c, v.d, v.e, v.f, v.g, v.h]

def KS : List Nat := [1116352408, 1899447441, 3049323471, 3921009573, 961987163, 1508970993, 2453635748, 2870763221, 3624381080, 310598401, 607225278, 1426881987, 1925078388, 2162078206, 2614888103, 3248222580, 3835390401, 4022224774, 264347078, 604807628, 770255983, 1249150122, 1555081692, 1996064986, 2554220882, 2821834349, 2952996808, 3210313671, 3336571891, 3584528711, 113926993, 338241895, 666307205, 773529912, 1294757372, 1396182291, 1695183700, 1986661051, 2177026350, 2456956037, 2730485921, 2820302411, 3259730800, 3345764771, 3516065817, 3600352804, 4094571909, 275423344, 430227734, 506948616, 659060556, 883997877, 958139571, 1322822218, 1537002063, 1747873779, 1955562222, 2024104815, 2227730452, 2361852424, 2428436474, 2756734187, 3204031479, 3329325298]
def V0 : V8 := ⟨1779033703, 3144134277, 1013904242, 2773480762, 1359893119, 2600822924, 528734635, 1541459225⟩

/-- the word of four bytes, from place i on -/
def wordAt (l : List UInt8) (i : Nat) : Nat := wor (wor (wor (wshl (bnth l i) 16777216) (wshl (bnth l (i + 1)) 65536)) (wshl (bnth l (i + 2)) 256)) (bnth l (i + 3))
def sgA (x : Nat) : Nat := wxor (wxor (wrot x 7) (wrot x 18)) (wshr x 8)
def sgB (x : Nat) : Nat := wxor (wxor (wrot x 17) (wrot x 19)) (wshr x 1024)
def nextW (l : List Nat) (t : Nat) : Nat := wadd (wadd (wadd (l.getD (t - 16) 0) (l.getD (t - 7) 0)) (sgA (l.getD (t - 15) 0))) (sgB (l.getD (t - 2) 0))
/-- the first t words of a block's 64 -/
def sched (blk : List UInt8) : Nat → List Nat
  | 0 => []
  | t + 1 => let l := sched blk t; l ++ [if t < 16 then wordAt blk (4 * t) else nextW l t]
theorem sched_length (blk : List UInt8) (t : Nat) : (sched blk t).length = t := by
  induction t with
  | zero => rfl
  | succ t ih => simp [sched, ih]

def roundW (v : V8) (k w : Nat) : V8 :=
  let one := wadd (wadd (wadd (wadd v.h (wxor (wxor (wrot v.e 6) (wrot v.e 11)) (wrot v.e 25))) (wxor (wand v.e v.f) (wand (wnot v.e) v.g))) k) w
  let two := wadd (wxor (wxor (wrot v.a 2) (wrot v.a 13)) (wrot v.a 22)) (wxor (wxor (wand v.a v.b) (wand v.a v.c)) (wand v.b v.c))
  ⟨wadd one two, v.a, v.b, v.c, wadd v.d one, v.e, v.f, v.g⟩
def roundsTo (v : V8) (W : List Nat) : Nat → V8
  | 0 => v
  | t + 1 => roundW (roundsTo v W t) (KS.getD t 0) (W.getD t 0)
def blockW (v : V8) (blk : List UInt8) : V8 :=
  let u := roundsTo v (sched blk 64) 64
  ⟨wadd v.a u.a, wadd v.b u.b, wadd v.c u.c, wadd v.d u.d, wadd v.e u.e, wadd v.f u.f, wadd v.g u.g, wadd v.h u.h⟩
/-- so many blocks of 64 bytes -/
def blocksW (v : V8) : Nat → List UInt8 → V8
  | 0, _ => v
  | k + 1, l => blocksW (blockW v (l.take 64)) k (l.drop 64)
theorem blocksW_succ (k : Nat) : ∀ (v : V8) (l : List UInt8), blocksW v (k + 1) l = blockW (blocksW v k l) ((l.drop (64 * k)).take 64) := by
  induction k with
  | zero => intro v l; simp [blocksW]
  | succ k ih =>
    intro v l
    rw [blocksW, ih, blocksW]
    congr 2
    rw [List.drop_drop]
    congr 1
    omega
theorem blocksW_append (k : Nat) : ∀ (v : V8) (l m : List UInt8), 64 * k ≤ l.length → blocksW v k (l ++ m) = blocksW v k l := by
  induction k with
  | zero => intro v l m _; rfl
  | succ k ih =>
    intro v l m h
    rw [blocksW, blocksW, List.take_append_of_le_length (by omega), List.drop_append_of_le_length (by omega)]
    exact ih _ _ _ (by rw [List.length_drop]; omega)

def byteOf (n d : Nat) : UInt8 := UInt8.ofNat (n / d % 256)
def be64 (n : Nat) : List UInt8 := [byteOf n 72057594037927936, byteOf n 281474976710656, byteOf n 1099511627776, byteOf n 4294967296, byteOf n 16777216, byteOf n 65536, byteOf n 256, byteOf n 1]
def be32 (n : Nat) : List UInt8 := [byteOf n 16777216, byteOf n 65536, byteOf n 256, byteOf n 1]
def padOf (n : Nat) : List UInt8 := 128 :: (List.replicate ((119 - n % 64) % 64) 0 ++ be64 (n * 8 % 18446744073709551616))
def outW (v : V8) : List UInt8 := be32 v.a ++ be32 v.b ++ be32 v.c ++ be32 v.d ++ be32 v.e ++ be32 v.f ++ be32 v.g ++ be32 v.h
/-- THE DIGEST. -/
def sha (m : List UInt8) : List UInt8 := outW (blocksW V0 ((m.length + (padOf m.length).length) / 64) (m ++ padOf m.length))
theorem sha_length (m : List UInt8) : (sha m).length = 32 := by simp [sha, outW, be32]
theorem padOf_length (n : Nat) : (padOf n).length = 9 + (119 - n % 64) % 64 := by simp [padOf, be64]; omega
end Go.Proofs.YtmclpbcipkdmcaaDoor
