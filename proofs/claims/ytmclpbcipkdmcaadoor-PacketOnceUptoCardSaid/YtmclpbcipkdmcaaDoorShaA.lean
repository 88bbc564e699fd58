/- Walks of the digest's leaves: turning a word, and reading one. -/
import Derived.Test.YtmclpbcipkdmcaaDoorShaS
set_option linter.all false
namespace Go.Proofs.YtmclpbcipkdmcaaDoor
open Go.RowKit
theorem rot7 (x : Nat) (w : World) :
    Calls Tryd.prog 160 #[.int .u32 (x : Int), .int .i64 (-7)] w fun e w' => e = .returned (.int .u32 (wrot x 7 : Nat)) ∧ w = w' := by
  have h1 : bits BinOp.and IntKind.u64 (IntKind.u64.wrap (-7)) 31 = 25 := by decide
  have h2 : (x : Int) * 33554432 % 4294967296 = ((wshl x 33554432 : Nat) : Int) := by unfold wshl; omega
  have h3 : (x : Int) / 128 = ((wshr x 128 : Nat) : Int) := by unfold wshr; omega
  have H := Lib.hid (show wrot x 7 = wor (wshl x 33554432) (wshr x 128) from rfl)
  have h4 := ro (wshl x 33554432) (wshr x 128)
  go_enter Tryd.func160, Tryd.ntmps160
  go_wp2
  go_ret
  exact ⟨ret_int (by rw [H.out]), rfl⟩

theorem rot18 (x : Nat) (w : World) :
    Calls Tryd.prog 160 #[.int .u32 (x : Int), .int .i64 (-18)] w fun e w' => e = .returned (.int .u32 (wrot x 18 : Nat)) ∧ w = w' := by
  have h1 : bits BinOp.and IntKind.u64 (IntKind.u64.wrap (-18)) 31 = 14 := by decide
  have h2 : (x : Int) * 16384 % 4294967296 = ((wshl x 16384 : Nat) : Int) := by unfold wshl; omega
  have h3 : (x : Int) / 262144 = ((wshr x 262144 : Nat) : Int) := by unfold wshr; omega
  have H := Lib.hid (show wrot x 18 = wor (wshl x 16384) (wshr x 262144) from rfl)
  have h4 := ro (wshl x 16384) (wshr x 262144)
  go_enter Tryd.func160, Tryd.ntmps160
  go_wp2
  go_ret
  exact ⟨ret_int (by rw [H.out]), rfl⟩

theorem rot17 (x : Nat) (w : World) :
    Calls Tryd.prog 160 #[.int .u32 (x : Int), .int .i64 (-17)] w fun e w' => e = .returned (.int .u32 (wrot x 17 : Nat)) ∧ w = w' := by
  have h1 : bits BinOp.and IntKind.u64 (IntKind.u64.wrap (-17)) 31 = 15 := by decide
  have h2 : (x : Int) * 32768 % 4294967296 = ((wshl x 32768 : Nat) : Int) := by unfold wshl; omega
  have h3 : (x : Int) / 131072 = ((wshr x 131072 : Nat) : Int) := by unfold wshr; omega
  have H := Lib.hid (show wrot x 17 = wor (wshl x 32768) (wshr x 131072) from rfl)
  have h4 := ro (wshl x 32768) (wshr x 131072)
  go_enter Tryd.func160, Tryd.ntmps160
  go_wp2
  go_ret
  exact ⟨ret_int (by rw [H.out]), rfl⟩

theorem rot19 (x : Nat) (w : World) :
    Calls Tryd.prog 160 #[.int .u32 (x : Int), .int .i64 (-19)] w fun e w' => e = .returned (.int .u32 (wrot x 19 : Nat)) ∧ w = w' := by
  have h1 : bits BinOp.and IntKind.u64 (IntKind.u64.wrap (-19)) 31 = 13 := by decide
  have h2 : (x : Int) * 8192 % 4294967296 = ((wshl x 8192 : Nat) : Int) := by unfold wshl; omega
  have h3 : (x : Int) / 524288 = ((wshr x 524288 : Nat) : Int) := by unfold wshr; omega
  have H := Lib.hid (show wrot x 19 = wor (wshl x 8192) (wshr x 524288) from rfl)
  have h4 := ro (wshl x 8192) (wshr x 524288)
  go_enter Tryd.func160, Tryd.ntmps160
  go_wp2
  go_ret
  exact ⟨ret_int (by rw [H.out]), rfl⟩

theorem rot6 (x : Nat) (w : World) :
    Calls Tryd.prog 160 #[.int .u32 (x : Int), .int .i64 (-6)] w fun e w' => e = .returned (.int .u32 (wrot x 6 : Nat)) ∧ w = w' := by
  have h1 : bits BinOp.and IntKind.u64 (IntKind.u64.wrap (-6)) 31 = 26 := by decide
  have h2 : (x : Int) * 67108864 % 4294967296 = ((wshl x 67108864 : Nat) : Int) := by unfold wshl; omega
  have h3 : (x : Int) / 64 = ((wshr x 64 : Nat) : Int) := by unfold wshr; omega
  have H := Lib.hid (show wrot x 6 = wor (wshl x 67108864) (wshr x 64) from rfl)
  have h4 := ro (wshl x 67108864) (wshr x 64)
  go_enter Tryd.func160, Tryd.ntmps160
  go_wp2
  go_ret
  exact ⟨ret_int (by rw [H.out]), rfl⟩

theorem rot11 (x : Nat) (w : World) :
    Calls Tryd.prog 160 #[.int .u32 (x : Int), .int .i64 (-11)] w fun e w' => e = .returned (.int .u32 (wrot x 11 : Nat)) ∧ w = w' := by
  have h1 : bits BinOp.and IntKind.u64 (IntKind.u64.wrap (-11)) 31 = 21 := by decide
  have h2 : (x : Int) * 2097152 % 4294967296 = ((wshl x 2097152 : Nat) : Int) := by unfold wshl; omega
  have h3 : (x : Int) / 2048 = ((wshr x 2048 : Nat) : Int) := by unfold wshr; omega
  have H := Lib.hid (show wrot x 11 = wor (wshl x 2097152) (wshr x 2048) from rfl)
  have h4 := ro (wshl x 2097152) (wshr x 2048)
  go_enter Tryd.func160, Tryd.ntmps160
  go_wp2
  go_ret
  exact ⟨ret_int (by rw [H.out]), rfl⟩

theorem rot25 (x : Nat) (w : World) :
    Calls Tryd.prog 160 #[.int .u32 (x : Int), .int .i64 (-25)] w fun e w' => e = .returned (.int .u32 (wrot x 25 : Nat)) ∧ w = w' := by
  have h1 : bits BinOp.and IntKind.u64 (IntKind.u64.wrap (-25)) 31 = 7 := by decide
  have h2 : (x : Int) * 128 % 4294967296 = ((wshl x 128 : Nat) : Int) := by unfold wshl; omega
  have h3 : (x : Int) / 33554432 = ((wshr x 33554432 : Nat) : Int) := by unfold wshr; omega
  have H := Lib.hid (show wrot x 25 = wor (wshl x 128) (wshr x 33554432) from rfl)
  have h4 := ro (wshl x 128) (wshr x 33554432)
  go_enter Tryd.func160, Tryd.ntmps160
  go_wp2
  go_ret
  exact ⟨ret_int (by rw [H.out]), rfl⟩

theorem rot2 (x : Nat) (w : World) :
    Calls Tryd.prog 160 #[.int .u32 (x : Int), .int .i64 (-2)] w fun e w' => e = .returned (.int .u32 (wrot x 2 : Nat)) ∧ w = w' := by
  have h1 : bits BinOp.and IntKind.u64 (IntKind.u64.wrap (-2)) 31 = 30 := by decide
  have h2 : (x : Int) * 1073741824 % 4294967296 = ((wshl x 1073741824 : Nat) : Int) := by unfold wshl; omega
  have h3 : (x : Int) / 4 = ((wshr x 4 : Nat) : Int) := by unfold wshr; omega
  have H := Lib.hid (show wrot x 2 = wor (wshl x 1073741824) (wshr x 4) from rfl)
  have h4 := ro (wshl x 1073741824) (wshr x 4)
  go_enter Tryd.func160, Tryd.ntmps160
  go_wp2
  go_ret
  exact ⟨ret_int (by rw [H.out]), rfl⟩

theorem rot13 (x : Nat) (w : World) :
    Calls Tryd.prog 160 #[.int .u32 (x : Int), .int .i64 (-13)] w fun e w' => e = .returned (.int .u32 (wrot x 13 : Nat)) ∧ w = w' := by
  have h1 : bits BinOp.and IntKind.u64 (IntKind.u64.wrap (-13)) 31 = 19 := by decide
  have h2 : (x : Int) * 524288 % 4294967296 = ((wshl x 524288 : Nat) : Int) := by unfold wshl; omega
  have h3 : (x : Int) / 8192 = ((wshr x 8192 : Nat) : Int) := by unfold wshr; omega
  have H := Lib.hid (show wrot x 13 = wor (wshl x 524288) (wshr x 8192) from rfl)
  have h4 := ro (wshl x 524288) (wshr x 8192)
  go_enter Tryd.func160, Tryd.ntmps160
  go_wp2
  go_ret
  exact ⟨ret_int (by rw [H.out]), rfl⟩

theorem rot22 (x : Nat) (w : World) :
    Calls Tryd.prog 160 #[.int .u32 (x : Int), .int .i64 (-22)] w fun e w' => e = .returned (.int .u32 (wrot x 22 : Nat)) ∧ w = w' := by
  have h1 : bits BinOp.and IntKind.u64 (IntKind.u64.wrap (-22)) 31 = 10 := by decide
  have h2 : (x : Int) * 1024 % 4294967296 = ((wshl x 1024 : Nat) : Int) := by unfold wshl; omega
  have h3 : (x : Int) / 4194304 = ((wshr x 4194304 : Nat) : Int) := by unfold wshr; omega
  have H := Lib.hid (show wrot x 22 = wor (wshl x 1024) (wshr x 4194304) from rfl)
  have h4 := ro (wshl x 1024) (wshr x 4194304)
  go_enter Tryd.func160, Tryd.ntmps160
  go_wp2
  go_ret
  exact ⟨ret_int (by rw [H.out]), rfl⟩

theorem word_any (l : List UInt8) (b o n c : Nat) (w : World) (hl : 4 ≤ l.length) (hn : n = l.length) (hm : n ≤ 9223372036854775807) (hr : w.rangeAt b o (bcs l)) :
    Calls Tryd.prog 159 #[.slice (some ⟨b, o, none⟩) n c] w fun e w' => e = .returned (.int .u32 (wordAt l 0 : Nat)) ∧ ∃ k, w' = w.drewN k := by
  have i0 : (0 : Int) < (n : Int) := by omega
  have i1 : (1 : Int) < (n : Int) := by omega
  have i2 : (2 : Int) < (n : Int) := by omega
  have i3 : (3 : Int) < (n : Int) := by omega
  have h0 : w.cell? ⟨b, o, none⟩ = some (.int .u8 (bnth l 0 : Int)) := by simpa using bytes_cell hr (i := 0) (by omega)
  have h1 : w.cell? ⟨b, o + 1, none⟩ = some (.int .u8 (bnth l 1 : Int)) := bytes_cell hr (i := 1) (by omega)
  have h2 : w.cell? ⟨b, o + 2, none⟩ = some (.int .u8 (bnth l 2 : Int)) := bytes_cell hr (i := 2) (by omega)
  have h3 : w.cell? ⟨b, o + 3, none⟩ = some (.int .u8 (bnth l 3 : Int)) := bytes_cell hr (i := 3) (by omega)
  have m0 := rmod (bnth l 0) (by have := bnth_lt l 0; omega)
  have m1 := rmod (bnth l 1) (by have := bnth_lt l 1; omega)
  have m2 := rmod (bnth l 2) (by have := bnth_lt l 2; omega)
  have m3 := rmod (bnth l 3) (by have := bnth_lt l 3; omega)
  have s0 : (bnth l 0 : Int) * 16777216 % 4294967296 = ((wshl (bnth l 0) 16777216 : Nat) : Int) := by unfold wshl; omega
  have s1 : (bnth l 1 : Int) * 65536 % 4294967296 = ((wshl (bnth l 1) 65536 : Nat) : Int) := by unfold wshl; omega
  have s2 : (bnth l 2 : Int) * 256 % 4294967296 = ((wshl (bnth l 2) 256 : Nat) : Int) := by unfold wshl; omega
  have ro := ro
  have H := Lib.hid (show wordAt l 0 = wor (wor (wor (wshl (bnth l 0) 16777216) (wshl (bnth l 1) 65536)) (wshl (bnth l 2) 256)) (bnth l 3) from rfl)
  clear hr hl hn
  go_enter Tryd.func159, Tryd.ntmps159
  go_wp2
  go_quiet (fail)
  go_wp2
  go_ret
  exact ⟨ret_int (by rw [H.out]), nq, rfl⟩

/-- the round constants, as cells -/
def kcells : List Value := KS.map fun x : Nat => Value.int .u32 (x : Int)
theorem kcells_get (j : Nat) (h : j < 64) : kcells[j]? = some (.int .u32 (KS.getD j 0 : Nat)) := by
  have : j < KS.length := h
  simp [kcells, List.getElem?_map, List.getD_eq_getElem?_getD, this]
set_option maxRecDepth 100000 in
theorem rounds_any (w : World) : Calls Tryd.prog 161 #[] w fun e w' => e = .returned (.agg kcells.toArray) ∧ w' = w.alloc (.cells kcells.toArray 221) := by
  go_enter Tryd.func161, Tryd.ntmps161
  go_wp2_with (first | (refine wpl_build rfl 221 _ rfl (.agg kcells.toArray) (by kernel_rfl) ?_) | (refine wpl_store_new (t := 221) kcells.toArray rfl _ _ rfl rfl rfl rfl (by kernel_rfl) rfl (by decide +kernel) ?_))
  refine bodyPost_ret (results_cell_row rfl _ _ w.heap.size _ _ (0, 0) _ rfl (heap_alloc_new w _) rfl rfl (by kernel_rfl)) rfl ⟨rfl, rfl⟩
end Go.Proofs.YtmclpbcipkdmcaaDoor
