/- The statement on landlaw6.HeaderUnlike: for every input of bounded bulk it answers true and leaves its arguments as they were. -/
import Derived.Test.YtdpfjmkilbepgaaRow2
import Derived.Test.YtdpfjmkilbepgaaLaw6U
set_option linter.all false
namespace Go.Proofs.Ytdpfjmkilbepgaa.headerUnlike
open Go.ChangeShapes Go.WideShapes Go.ChangeAt Go.RowKit Go.Abs
set_option linter.unusedVariables false
set_option maxRecDepth 100000 in
theorem contract (H : Type) (enc : TypeId × Value → H) (W : World) (base : Nat) (args : Array Value) (ds gs : List (DataW H)) (before : List MemPlace)
    (hval : ∀ (j : Nat) t v, Try.f7.params[j]? = some t → args[j]? = some v → Value.okWide Try.prog W .any base t v)
    (hW : DataW.Whole enc Try.prog Try.f7.params.toList Rows.headerUnlikeSpec.vars false W args.toList ds gs before) (hk : Rows.uptoSmall H (ds ++ gs) = true) :
    Calls Try.prog 7 args W fun e W' => ∃ v, e = .returned v ∧ Rows.headerUnlikeSpec.post enc Try.prog Try.f7 false true false false W args v W' := by
  have hW' := hW
  obtain ⟨p, q, hA0, hV, rfl, hfz, hnd⟩ := hW'
  have hA : DataW.TrodAll enc Try.prog W 0 (fun _ => true) true Try.f7.params.toList args.toList ds p := hA0
  have hA1 := hA
  rw [Try.params7] at hA hval
  obtain ⟨v0, vs0, d0, ds0, p0, q0, hargs, rfl, rfl, h0, r0⟩ := trodAll_cons hA
  obtain ⟨v1, vs1, d1, ds1, p1, q1, rfl, rfl, rfl, h1, r1⟩ := trodAll_cons r0
  obtain ⟨rfl, rfl, rfl⟩ := trodAll_nil r1
  obtain rfl : args = #[v0, v1] := by cases args; simp_all
  obtain ⟨rfl, rfl⟩ := trodVars_none hV
  have hb : Rows.uptoBulkAll (H := H) [d0, d1] ≤ 1048576 := by have := of_decide_eq_true hk; simpa using this
  simp only [Rows.uptoBulkAll] at hb
  obtain ⟨y0, c0, w0, b0⟩ := open_ag R2.bulk Ty.sh37 Try.underlying37 (hval 0 37 v0 rfl rfl) h0
  obtain ⟨x0, e0⟩ := dec_Hdr c0
  obtain ⟨y1, c1, w1, b1⟩ := open_ag R2.bulk Ty.sh37 Try.underlying37 (hval 1 37 v1 rfl rfl) h1
  obtain ⟨x1, e1⟩ := dec_Hdr c1
  have hy0 := e0
  have hy1 := e1
  simp only [List.append_nil] at hW
  obtain ⟨Ds, hp, hs⟩ := walk_HeaderUnlike y0 x0 e0 y1 x1 e1 (by omega)
  subst hs
  refine (pure_calls hp rfl (fun j d hd => ?_)).mono fun e W' ⟨he, bel⟩ => ?_
  · rcases j with _ | _ | j <;> simp at hd <;> subst hd <;> assumption
  · subst he
    exact ⟨_, rfl, _, _, _, [], _, [], hW, trodAll_mk1 (shut_bool Try.underlying4 _), R2.trodAll_below hA1 bel (by rw [Try.params7]; decide +kernel), rfl, bel.frame _, fun h => by cases h⟩

set_option maxRecDepth 100000 in
theorem lifted (os : Os) (started : os.Started) (H : Type) (enc : TypeId × Value → H) (F : Stop.Interp) :
    ReturnsInHanded {} Try.checked os 7 .any ((Rows.OpenSpec.upto Rows.headerUnlikeSpec).pre6 enc Try.prog Try.f7 Rows.headerUnlikeUptoRow.domain false) (((Rows.OpenSpec.upto Rows.headerUnlikeSpec).at F).post enc Try.prog Try.f7 false true false false) := by
  refine returnsInHanded_of_cond (C := Try.checked) (s := Rows.OpenSpec.upto Rows.headerUnlikeSpec) (k := Rows.uptoSmall) rfl R2.own started (by kernel_rfl) Try.func7
    (OpenSpec.witness (enc := enc) (C := Try.checked) (s := Rows.OpenSpec.upto Rows.headerUnlikeSpec) (k := Rows.uptoSmall) rfl false ⟨#[], #[.agg #[.string ⟨#[]⟩, .int .i64 0, .int .i64 0, .slice none 0 0, .slice none 0 0, .slice none 0 0], .agg #[.string ⟨#[]⟩, .int .i64 0, .int .i64 0, .slice none 0 0, .slice none 0 0, .slice none 0 0]], []⟩ 20 (by kernel_rfl) (by kernel_rfl) (by kernel_rfl)
      (x := ([.agg [.lit (.string []), .lit (.int .i64 0), .lit (.int .i64 0), .nil, .nil, .nil], .agg [.lit (.string []), .lit (.int .i64 0), .lit (.int .i64 0), .nil, .nil, .nil]], [], [])) (by kernel_rfl) rfl (by kernel_rfl)) ?_
  intro W base args ds gs before hval hW _ hk _
  exact contract H enc W base args ds gs before hval hW hk

theorem over : Rows.headerUnlikeUptoRow.holds Try.pinned (Rows.OpenSpec.upto Rows.headerUnlikeSpec) :=
  OpenClaim.holds_of_cond 7 Try.f7 rfl rfl rfl rfl rfl rfl rfl ⟨rfl, rfl, rfl, rfl, rfl⟩ rfl rfl rfl rfl rfl (by kernel_rfl) Try.func7 (by kernel_rfl)
    (of_decide_eq_true (by kernel_rfl)) (by unfold Func.isWrapper; first | (rw [if_pos (by decide +kernel)]; kernel_rfl) | (rw [if_neg (by decide +kernel)]; exact ⟨rfl, rfl⟩))
    (fun os started H enc _ F => lifted os started H enc F)

/-- THE STATEMENT. -/
theorem proved : Rows.HeaderUnlikeUptoSaid := over
end Go.Proofs.Ytdpfjmkilbepgaa.headerUnlike
