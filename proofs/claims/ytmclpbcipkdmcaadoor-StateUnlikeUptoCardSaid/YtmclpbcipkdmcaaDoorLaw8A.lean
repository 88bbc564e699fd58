/- landlaw8.alive; the law StateBook: the walk. -/
import Derived.Test.YtmclpbcipkdmcaaDoorStB
import Derived.Test.YtmclpbcipkdmcaaDoorGBook
import Derived.Test.YtmclpbcipkdmcaaDoorDecSt
set_option linter.all false
namespace Go.Proofs.YtmclpbcipkdmcaaDoor
open Go Go.Abs Go.RowKit Go.Proofs.YtmclpbcipkdmcaaDoor.Ty

def stA : StateD := ⟨⟨#[97]⟩, 0, 0, [], [⟨1, 0, 0, -1⟩], [], [], [], [], []⟩
theorem stA_sm : StSm stA := ⟨by decide, by intro c hc; simp [stA] at hc, by decide, by decide, by decide, by decide, by decide, by intro m hm; simp [stA] at hm, by decide⟩
theorem stZ_sm : StSm zeroSt := ⟨by decide, by intro c hc; simp [zeroSt] at hc, by decide, by decide, by decide, by decide, by decide, by intro m hm; simp [zeroSt] at hm, by decide⟩
theorem bookA_eq : ∃ K V : List UInt8, (V.length : Int) = 9 ∧ (⟨K.toArray⟩ : ByteArray) = ⟨#[99, 111, 110, 110, 47, 48]⟩ ∧ bookS stA = ([⟨K, V⟩], 0) := by
  refine ⟨keyC 0, valCn ⟨1, 0, 0, -1⟩, by kernel_rfl, ?_, ?_⟩
  · have h : Lib.itoa 0 = [48] := by rw [show (0 : Int) = ((0 : Nat) : Int) from rfl, ito_nn (by decide)]; exact Lib.decDigits_one (by decide)
    unfold keyC; rw [h]; rfl
  · unfold bookS
    rw [if_pos (show wrongS stA = 0 by kernel_rfl)]
    show (sortP [⟨keyC ((0 : Nat) : Int), valCn ⟨1, 0, 0, -1⟩⟩], (0 : Int)) = _
    rw [sortP, List.mergeSort]; rfl
set_option maxHeartbeats 8000000
set_option maxRecDepth 20000
theorem alive8_A : PureD Tryd.prog 30 [] (boolD true) := by
  refine hide_r fun R hR => ?_
  have c1 := book_A stA stA_sm
  have c2 := swrong_A zeroSt stZ_sm
  rw [show wrongS zeroSt = 7 by kernel_rfl] at c2
  obtain ⟨K, V, h1, h2, h3⟩ := bookA_eq
  rw [h3] at c1
  unfold stA at c1
  clear h3
  refine callD_W 40 Tryd.func30 rfl rfl rfl (fun _ _ => rfl) ?_
  exact wkl trivial
theorem walk_StateBook (y0 : List I) (s : StateD) (e0 : y0 = encSt s ∧ ∀ p ∈ s.pus, p.n < 18446744073709551616) (hb : bkL y0 ≤ 1048576) :
    ∃ Ds, PureD Tryd.prog 6 Ds (.i (.s (.bool true))) ∧ Ds = [.agg (y0.map .i)] := by
  obtain ⟨rfl, _⟩ := e0
  refine ⟨_, ?_, rfl⟩
  rw [st_agg]
  have hs := st_sm (s := s) (n := 1048576) (by omega) (by omega)
  clear hb
  refine hide_r fun R hR => ?_
  have c1 := alive8_A
  have c2 := book_A s hs
  have c3 := swrong_A s hs
  unfold bookS at c2
  by_cases h : wrongS s = 0
  · have ok := wrongS_zero.1 h
    rw [if_pos h] at c2
    rw [h] at c3
    have l1 := ok.lcn
    have l2 := ok.lch
    have l3 := ok.lsent
    have l4 := ok.lgot
    have l5 := ok.lacks
    have hr := book_right ok
    have hl : (sortP (rawS s)).length = s.cns.length + 2 * s.chs.length + s.sent.length + s.got.length + s.acks.length := by rw [sortP_len, rawS_len]
    have c4 := wrong_A (sortP (rawS s)) (by omega)
    rw [wrong_right hr] at c4
    simp only [psI, fltD, Int.natCast_zero] at c4
    generalize sortP (rawS s) = S at *
    clear hr ok h hs
    refine callD_W 52 Tryd.func6 rfl rfl rfl (fun _ _ => rfl) ?_
    exact wkl trivial
  · rw [if_neg h] at c2
    generalize wrongS s = W at *
    clear hs
    refine callD_W 52 Tryd.func6 rfl rfl rfl (fun _ _ => rfl) ?_
    exact wkl trivial
end Go.Proofs.YtmclpbcipkdmcaaDoor
