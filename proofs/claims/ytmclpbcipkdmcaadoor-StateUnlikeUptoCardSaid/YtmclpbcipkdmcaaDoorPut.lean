/- Closures that append to a captured slice; a row that is lent, and comes back turned. -/
import Derived.Test.YtmclpbcipkdmcaaDoorGWk
set_option linter.all false
namespace Go.Abs
open Go Go.RowKit
section
variable {P : Program} {n : Nat} {σ : St} {ks : List Fr} {Q : Ex → St → Prop} {rid k : Nat} {ops : Array Oper} {rest : List It} {acc : Acc} {H : Nat → Ob} {g g2 : FuncId} {sz len len' c o f : Nat} {es es' : List (List I)} {x y : I} {dst : Option Nat}

theorem call_put (hL : CallD P g [.i x, .i y, .pt 0 0 0 0] (hF [(0, .box [.os 1 sz 0 len]), (1, .arr sz es)]) (.tup []) (hOf (hF [(0, .box [.os 1 sz 0 len]), (1, .arr sz es)]) [(0, .box [.os 2 sz 0 len']), (1, .dead), (2, .arr sz es')]))
    (hb : H c = .box [.os o sz 0 len]) (ho : H o = .arr sz es) (hf : H f = .fresh) :
    CallD P g [.i x, .i y, .pt c 0 0 0] H (.tup []) (upd (upd (upd H o .dead) f (.arr sz es')) c (.box [.os f sz 0 len'])) := by
  have n1 : c ≠ o := fun e => by subst e; rw [hb] at ho; cases ho
  have n2 : c ≠ f := fun e => by subst e; rw [hb] at hf; cases hf
  have n3 : o ≠ f := fun e => by subst e; rw [ho] at hf; cases hf
  have h := call_frame (H := H) (gs := [.i x, .i y, .pt c 0 0 0]) (L2 := fun a => if a = f then .arr sz es' else if a = c then .box [.os f sz 0 len'] else .dead) (r' := .tup []) [] (fun l => if l = 0 then some c else if l = 1 then some o else none) (fun a => if a = c then some 0 else if a = o then some 1 else if a = f then some 2 else none) hL
    ⟨by simp [cv1, cv0], by simp [cv1, cv0], by simp [cv1, cv0], trivial⟩
    (fun a => by
      by_cases h0 : a = 0
      · subst h0; right; right; right; exact ⟨c, by simp, by simp [hF, lk, cvO, cvL, cv0, frz, hb, D.one]⟩
      · by_cases h1 : a = 1
        · subst h1; right; right; right; exact ⟨o, by simp, by simp [hF, lk, cvO, frz, ho]⟩
        · left; simp [hF, lk, h0, h1])
    (fun a b d h1 h2 h3 h4 => by
      by_cases a0 : a = 0 <;> by_cases b0 : b = 0
      · rw [a0, b0]
      · simp [a0, b0] at h3 h4; exact absurd (h3.trans h4.2.symm) n1
      · simp [a0, b0] at h3 h4; exact absurd (h4.trans h3.2.symm) n1
      · simp [a0, b0] at h3 h4; rw [h3.1, h4.1])
    (fun a => by
      by_cases h1 : a = f
      · subst h1; right; right; right; exact ⟨2, by simp [n2.symm, n3.symm], by simp [hOf, lk, cvO, frz]⟩
      · by_cases h2 : a = c
        · subst h2; right; right; right; exact ⟨0, by simp, by simp [hOf, lk, cvO, cvL, cv0, frz, n2, n2.symm, n3.symm, D.one]⟩
        · right; left; simp [h1, h2])
    (fun a b d h1 h2 h3 h4 => by
      have key : ∀ {z : Nat}, Ob.own (if z = f then .arr sz es' else if z = c then .box [.os f sz 0 len'] else .dead) → z = f ∨ z = c := fun {z} hz => by
        by_cases e1 : z = f
        · exact .inl e1
        · by_cases e2 : z = c
          · exact .inr e2
          · simp [e1, e2, Ob.own] at hz
      rcases key h1 with rfl | rfl <;> rcases key h2 with rfl | rfl
      · rfl
      · simp [n2.symm, n3.symm] at h3 h4; omega
      · simp [n2.symm, n3.symm] at h3 h4; omega
      · rfl)
    (by simp [cv, cvT])
    (fun l a h => by
      by_cases h0 : l = 0
      · subst h0; simp at h; subst h; simp
      · by_cases h1 : l = 1
        · subst h1; simp at h; subst h; simp [n1.symm]
        · simp [h0, h1] at h)
    (fun a l h => by
      by_cases h0 : a = c
      · subst h0; simp at h; subst h; left; simp
      · by_cases h1 : a = o
        · subst h1; simp [h0] at h; subst h; left; simp
        · simp [h0, h1] at h; right; rw [h.1]; exact ⟨hf, by simp⟩)
  have e : (fun a => if ((if a = c then some 0 else if a = o then some 1 else if a = f then some 2 else none : Option Nat)).isSome then (if a = f then Ob.arr sz es' else if a = c then .box [.os f sz 0 len'] else .dead) else frz [] H a) = upd (upd (upd H o .dead) f (.arr sz es')) c (.box [.os f sz 0 len']) := by
    funext a
    by_cases h1 : a = c
    · subst h1; simp [upd, n2]
    · by_cases h2 : a = f
      · subst h2; simp [upd, h1, n3.symm]
      · by_cases h3 : a = o
        · subst h3; simp [upd, h1, h2]
        · simp [upd, h1, h2, h3, frz]
  rw [e] at h
  exact h
def own1 : Ob → Nat
  | .box [.os o _ _ _] => o
  | _ => 0
@[simp, go_sem] theorem own1_b {o a b d : Nat} : own1 (.box [.os o a b d]) = o := rfl
theorem Call_put (hL : CallD P g [.i x, .i y, .pt 0 0 0 0] (hF [(0, .box [.os 1 sz 0 len]), (1, .arr sz es)]) (.tup []) (hOf (hF [(0, .box [.os 1 sz 0 len]), (1, .arr sz es)]) [(0, .box [.os 2 sz 0 len']), (1, .dead), (2, .arr sz es')]))
    (hb : σ.H c = .box [.os (own1 (σ.H c)) sz 0 len]) (ho : σ.H (own1 (σ.H c)) = .arr sz es) (hf : isFr (σ.H (frs σ.H)) = true)
    (h : Ro P n rid rest (St.put ⟨σ.sl, upd (upd (upd σ.H (own1 (σ.H c)) .dead) (frs σ.H) (.arr sz es')) c (.box [.os (frs σ.H) sz 0 len'])⟩ dst (.tup [])) ks Q) : Call P n rid g [.i x, .i y, .pt c 0 0 0] dst rest σ ks Q :=
  ⟨_, _, .inl (call_put hL hb ho (isFr_eq hf)), h⟩
theorem CallF_put (hL : CallD P g [.i x, .i y, .pt 0 0 0 0] (hF [(0, .box [.os 1 sz 0 len]), (1, .arr sz es)]) (.tup []) (hOf (hF [(0, .box [.os 1 sz 0 len]), (1, .arr sz es)]) [(0, .box [.os 2 sz 0 len']), (1, .dead), (2, .arr sz es')]))
    (hb : σ.H c = .box [.os (own1 (σ.H c)) sz 0 len]) (ho : σ.H (own1 (σ.H c)) = .arr sz es) (hf : isFr (σ.H (frs σ.H)) = true)
    (h : Rd P n rid ops rest ((k, [c, own1 (σ.H c), frs σ.H], [c, own1 (σ.H c), frs σ.H]) :: acc) (St.put ⟨σ.sl, upd (upd (upd σ.H (own1 (σ.H c)) .dead) (frs σ.H) (.arr sz es')) c (.box [.os (frs σ.H) sz 0 len'])⟩ dst (.tup [])) ks Q) : CallF P n rid ops g [.i x, .i y, .pt c 0 0 0] k dst rest acc σ ks Q := by
  revert hb ho h
  generalize own1 (σ.H c) = o
  intro hb ho h
  refine ⟨⟨.tup [], [c, o, frs σ.H], [c, o, frs σ.H], fun G => upd (upd (upd G o .dead) (frs σ.H) (.arr sz es')) c (.box [.os (frs σ.H) sz 0 len'])⟩, ⟨⟨fun _ h => h, fun G k hk => ?_, fun G G' _ k hk => ?_⟩, fun G hG => .inl (call_put hL ((hG c (by simp)).trans hb) ((hG o (by simp)).trans ho) ((hG (frs σ.H) (by simp)).trans (isFr_eq hf)))⟩, h⟩
  · simp at hk; simp [upd, hk.1, hk.2.1, hk.2.2]
  · simp at hk
    by_cases e1 : k = c
    · simp [upd, e1]
    · by_cases e2 : k = frs σ.H
      · simp [upd, e1, e2]
      · have e3 : k = o := by rcases hk with h | h | h <;> first | exact absurd h e1 | exact h | exact absurd h e2
        simp [upd, e1, e2, e3]
theorem call_lent (hL : CallD P g [.os 0 sz 0 len, .fn g2 []] (hF [(0, .arr sz es)]) (.tup []) (hOf (hF [(0, .arr sz es)]) [(0, .arr sz es')])) (ho : H o = .arr sz es) :
    CallD P g [.os o sz 0 len, .fn g2 []] H (.tup []) (upd H o (.arr sz es')) := by
  have h := call_frame (H := H) (gs := [.os o sz 0 len, .fn g2 []]) (L2 := fun a => if a = o then .arr sz es' else .dead) (r' := .tup []) [] (fun l => if l = 0 then some o else none) (fun a => if a = o then some 0 else none) hL
    ⟨by simp [cv1, cv0], by simp [cv1, cvL], trivial⟩
    (fun a => by
      by_cases h0 : a = 0
      · subst h0; right; right; right; exact ⟨o, by simp, by simp [hF, lk, cvO, frz, ho]⟩
      · left; simp [hF, lk, h0])
    (fun a b d h1 h2 h3 h4 => by simp at h3 h4; omega)
    (fun a => by
      by_cases h1 : a = o
      · subst h1; right; right; right; exact ⟨0, by simp, by simp [hOf, lk, cvO, frz]⟩
      · right; left; simp [h1])
    (fun a b d h1 h2 h3 h4 => by
      by_cases ha : a = o <;> by_cases hb : b = o
      · rw [ha, hb]
      · simp [hb, Ob.own] at h2
      · simp [ha, Ob.own] at h1
      · simp [ha, Ob.own] at h1)
    (by simp [cv, cvT])
    (fun l a h => by
      by_cases h0 : l = 0
      · subst h0; simp at h; subst h; simp
      · simp [h0] at h)
    (fun a l h => by
      by_cases h0 : a = o
      · subst h0; simp at h; subst h; left; simp
      · simp [h0] at h)
  have e : (fun a => if ((if a = o then some 0 else none : Option Nat)).isSome then (if a = o then Ob.arr sz es' else .dead) else frz [] H a) = upd H o (.arr sz es') := by
    funext a
    by_cases h1 : a = o
    · subst h1; simp [upd]
    · simp [upd, h1, frz]
  rw [e] at h
  exact h
theorem Call_lent (hL : CallD P g [.os 0 sz 0 len, .fn g2 []] (hF [(0, .arr sz es)]) (.tup []) (hOf (hF [(0, .arr sz es)]) [(0, .arr sz es')])) (ho : σ.H o = .arr sz es)
    (h : Ro P n rid rest (St.put ⟨σ.sl, upd σ.H o (.arr sz es')⟩ dst (.tup [])) ks Q) : Call P n rid g [.os o sz 0 len, .fn g2 []] dst rest σ ks Q :=
  ⟨_, _, .inl (call_lent hL ho), h⟩
end
end Go.Abs
