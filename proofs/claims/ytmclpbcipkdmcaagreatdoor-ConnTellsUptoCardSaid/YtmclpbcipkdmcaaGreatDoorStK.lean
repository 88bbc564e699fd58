/- state.ConnKey, ChanKey, NextKey, MarkKey, ConnBytes, ChanBytes, NextBytes: by value. -/
import Derived.Test.YtmclpbcipkdmcaaGreatDoorGSt
import Derived.Test.YtmclpbcipkdmcaaGreatDoorIto
import Derived.Lib.ItoaLen
import Derived.Test.YtmclpbcipkdmcaaGreatDoorGWire
set_option linter.all false
namespace Go.Proofs.YtmclpbcipkdmcaaGreatDoor
open Go Go.Abs Go.RowKit Go.Proofs.YtmclpbcipkdmcaaGreatDoor.Ty

theorem add_strB {P : Program} {t : TypeId} {x y : Operand} (a b : List UInt8) (h : a.length ≤ 100 ∧ b.length ≤ 100) : binQ P .add t x y (some (.string ⟨a.toArray⟩)) (some (.string ⟨b.toArray⟩)) = some (.i (.s (.string ⟨(a ++ b).toArray⟩))) := by
  rw [bq_add_str (by simp only [ByteArray.size, List.size_toArray]; omega)]
  congr 5
theorem strI_mk (l : List UInt8) : strI ⟨l.toArray⟩ = bI l := rfl
def keyC (i : Int) : List UInt8 := [99, 111, 110, 110, 47] ++ Lib.itoa i
def Num6 (n : Int) : Prop := -9223372036854775808 ≤ n ∧ n ≤ 9223372036854775807
theorem ito_len {n : Int} (h : Num6 n) : (Lib.itoa n).length ≤ 21 := Lib.itoa_length_le n h.1 h.2
set_option maxHeartbeats 4000000
theorem ckey_A (i : Int) (h : Num6 i) : PureD Tryz.prog 83 [intD i] (.i (bI (keyC i))) := by
  refine hide_r fun R hR => ?_
  have c1 := itoa_A i h.1 h.2
  have hl := ito_len h
  unfold keyC at hR
  generalize Lib.itoa i = L at *
  have s1 := fun P t x y => @add_strB P t x y [99, 111, 110, 110, 47] L (by simp; omega)
  have s2 : ([99, 111, 110, 110, 47] ++ L).length ≤ 140737488355328 := by simp; omega
  have s3 := strI_mk ([99, 111, 110, 110, 47] ++ L)
  generalize [99, 111, 110, 110, 47] ++ L = K at *
  refine callD_W 7 Tryz.func83 rfl rfl rfl (fun _ _ => rfl) ?_
  exact wkl trivial
theorem sn_A (x : Int) : PureD Tryz.prog 129 [intD x] (.agg [.i (.s (.int .i64 1)), .i (.s (.int .u64 (u64 x))), .i (.sl [])]) := by
  refine hide_r fun R hR => ?_
  have w1 := wrap_u x
  refine callD_W 6 Tryz.func129 rfl rfl rfl (fun _ _ => rfl) ?_
  exact wkl trivial
theorem spieces_A (l : List PieceD) (hl : l.length ≤ 1048576) (hb : ∀ p ∈ l, p.b.length ≤ 1048576) (hn : n64s l) : PureD Tryz.prog 128 [.i (.sl (l.map encP))] (.i (bI (writeF l).1)) := by
  refine hide_r fun R hR => ?_
  have c1 := write_A l hl hb hn
  simp only [faultD] at c1
  generalize writeF l = W at *
  refine callD_W 11 Tryz.func128 rfl rfl rfl (fun _ _ => rfl) ?_
  exact wkl trivial
def valCn (c : ConnD) : List UInt8 := (writeF [numP (u64 c.st), numP (u64 c.cl), numP (u64 c.oc), numP (u64 (c.on + 1))]).1
theorem nums_64 {l : List Nat} (h : ∀ n ∈ l, n < 18446744073709551616) : n64s (l.map numP) := fun p hp => by
  obtain ⟨n, hn, rfl⟩ := List.mem_map.1 hp
  exact h n hn
theorem nums_b (l : List Nat) : ∀ p ∈ l.map numP, p.b.length ≤ 1048576 := fun p hp => by
  obtain ⟨n, hn, rfl⟩ := List.mem_map.1 hp
  simp [numP]
theorem connb_A (c : ConnD) (h : -1 ≤ c.on ∧ c.on ≤ 1000000000000) : PureD Tryz.prog 84 [connD c] (.i (bI (valCn c))) := by
  refine hide_r fun R hR => ?_
  have c1 := sn_A c.st
  have c2 := sn_A c.cl
  have c3 := sn_A c.oc
  have c4 := sn_A (c.on + 1)
  have w1 : IntKind.i64.wrap (c.on + 1) = c.on + 1 := wrap64 (by omega) (by omega)
  have c5 := spieces_A ([u64 c.st, u64 c.cl, u64 c.oc, u64 (c.on + 1)].map numP) (by simp) (nums_b _) (nums_64 (by simp [u64_lt]))
  unfold valCn at hR
  simp only [List.map_cons, List.map_nil] at c5
  generalize writeF [numP (u64 c.st), numP (u64 c.cl), numP (u64 c.oc), numP (u64 (c.on + 1))] = W at *
  generalize u64 c.st = a1 at *
  generalize u64 c.cl = a2 at *
  generalize u64 c.oc = a3 at *
  generalize u64 (c.on + 1) = a4 at *
  simp only [encP, numP, bI, List.map_nil] at c5
  refine callD_W 18 Tryz.func84 rfl rfl rfl (fun _ _ => rfl) ?_
  exact wkl trivial
end Go.Proofs.YtmclpbcipkdmcaaGreatDoor
