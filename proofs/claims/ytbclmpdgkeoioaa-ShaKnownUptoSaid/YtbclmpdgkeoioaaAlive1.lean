/- landlaw1.alive answers true. -/
import Derived.Test.YtbclmpdgkeoioaaHex
import Derived.Test.YtbclmpdgkeoioaaSame
namespace Go.Proofs.Ytbclmpdgkeoioaa
open Go.RowKit

/-- a call that answers true, and turns nothing that was there -/
def RetTrue (w : World) (e : Ending) (w' : World) : Prop := e = .returned (.bool true) ∧ Below w.heap.size w w'

theorem isB_marked (w : World) (t : TypeId) (l : List UInt8) (fr : Nat × Nat) (n c : Nat) (hn : n = l.length) (hc : n ≤ c) (hm : c ≤ maxLen) (C : Array Value) (hC : C = (bcs l).toArray) :
    IsB (w.heap.size + 1) (w.alloc (.cells C t fr)) (.slice (some ⟨w.heap.size, 0, none⟩) n c) l := by
  subst hC
  refine IsB.mk (by omega) hn hc hm (fun j u hu => ?_)
  rw [Nat.zero_add, cell_of_row _ _ _ _ _ _ (heap_alloc_new w _)]
  exact List.getElem?_toArray.trans hu

theorem alive1_fact : sameB (sha [97, 98, 99]) (hexF [98, 97, 55, 56, 49, 54, 98, 102, 56, 102, 48, 49, 99, 102, 101, 97, 52, 49, 52, 49, 52, 48, 100, 101, 53, 100, 97, 101, 50, 50, 50, 51, 98, 48, 48, 51, 54, 49, 97, 51, 57, 54, 49, 55, 55, 97, 57, 99, 98, 52, 49, 48, 102, 102, 54, 49, 102, 50, 48, 48, 49, 53, 97, 100]) = true := by decide +kernel

theorem alive1_any (w : World) : Calls Try.prog 14 #[] w (RetTrue w) := by
  have kc := fun (W : World) (C : Array Value) (n c : Nat) => Lib.run_convert_bytes_const (P := Try.prog) W 24 5 C n c rfl rfl
  have HI := Lib.hid (isB_marked w 5 [97, 98, 99] (3, 4) 3 3 rfl (by omega) (by simp [maxLen]) _ rfl)
  have HF := Lib.hid alive1_fact
  go_enter Try.func14, Try.ntmps14
  go_wp2_with fail
  refine (sum_any _ _ [97, 98, 99] _ HI.out (by simp) (by simp)).mono ?_
  rintro e w1 ⟨v1, rfl, ho1, hb1⟩
  have HO1 := Lib.hid ho1.toIsB; have HB1 := Lib.hid (((Below.refl w.heap.size w).alloc (Nat.le_refl _) _).trans (hb1.mono (by simp)))
  clear ho1 hb1 kc
  go_wp2_with fail
  refine (hex_any _ _ (by decide)).mono ?_
  rintro e w2 ⟨v2, rfl, ho2, hb2⟩
  have HO2 := Lib.hid ho2.toIsB; have HB2 := Lib.hid (HB1.out.trans (hb2.mono HB1.out.size)); have HO1' := Lib.hid (HO1.out.below hb2 (Nat.le_refl _))
  clear ho2 hb2
  go_wp2_with fail
  refine (same_any _ _ _ _ _ _ _ HO1'.out HO2.out).mono ?_
  rintro e w3 ⟨rfl, k, rfl⟩
  go_wp2
  go_ret
  exact ⟨ret_bool HF.out, HB2.out.trans (below_drewN _ _ _)⟩
end Go.Proofs.Ytbclmpdgkeoioaa
