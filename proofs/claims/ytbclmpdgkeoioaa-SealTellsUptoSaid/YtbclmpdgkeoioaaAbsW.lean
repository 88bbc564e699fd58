/- Calls, as a walk meets them: contracts over few objects, and by-value contracts, also where the order is drawn. -/
import Derived.Test.YtbclmpdgkeoioaaAbsV
set_option linter.all false
namespace Go.Abs
open Go Go.RowKit

/-- Told by value, as it stands. -/
def D.val : D → Bool
  | .i _ => true
  | .un => true
  | .rp _ _ => true
  | _ => false

section
variable {P : Program} {n : Nat} {σ : St} {ks : List Fr} {Q : Ex → St → Prop} {rid k : Nat} {ops : Array Oper} {rest : List It} {acc : Acc} {H : Nat → Ob} {g : FuncId}

theorem cvs_val {H : Nat → Ob} {F : List Nat} {s : Nat → Option Nat} : ∀ {xs : List D}, xs.all D.val = true → cvs H F s xs xs
  | [], _ => trivial
  | d :: t, h => by
    simp only [List.all_cons, Bool.and_eq_true] at h
    refine ⟨?_, cvs_val h.2⟩
    cases d <;> simp [D.val] at h <;> simp [cv1, cv0]

/-- One slice goes over, one comes back. -/
theorem call_arr {sz sz' len len' : Nat} {es es' : List (List I)} {xs : List D} (hL : CallD P g (.os 0 sz 0 len :: xs) (hF [(0, .arr sz es)]) (.os 1 sz' 0 len') (hOf (hF [(0, .arr sz es)]) [(1, .arr sz' es')]))
    (hx : xs.all D.val = true) {o o' : Nat} (ho : H o = .arr sz es) (hf : H o' = .fresh) : CallD P g (.os o sz 0 len :: xs) H (.os o' sz' 0 len') (upd (upd H o .dead) o' (.arr sz' es')) := by
  have hne : o ≠ o' := fun e => by subst e; rw [ho] at hf; cases hf
  have h := call_frame (H := H) (gs := .os o sz 0 len :: xs) (L2 := fun a => if a = o' then .arr sz' es' else .dead) (r' := .os o' sz' 0 len') [] (fun l => if l = 0 then some o else none) (fun a => if a = o then some 0 else if a = o' then some 1 else none) hL
    ⟨by simp [cv1, cv0], cvs_val hx⟩
    (fun a => by
      by_cases h0 : a = 0
      · subst h0; right; right; right; exact ⟨o, by simp, by simp [hF, lk, cvO, frz, ho]⟩
      · left; simp [hF, lk, h0])
    (fun a b c h1 h2 h3 h4 => by
      simp at h3 h4; omega)
    (fun a => by
      by_cases h1 : a = o'
      · subst h1; right; right; right; exact ⟨1, by simp [hne.symm], by simp [hOf, lk, cvO, frz]⟩
      · right; left; simp [h1])
    (fun a b c h1 h2 h3 h4 => by
      by_cases ha : a = o' <;> by_cases hb : b = o'
      · rw [ha, hb]
      · simp [hb, Ob.own] at h2
      · simp [ha, Ob.own] at h1
      · simp [ha, Ob.own] at h1)
    (by simp [cv, cv1, cv0, hne.symm])
    (fun l a h => by
      by_cases h0 : l = 0
      · subst h0; simp at h; subst h; simp
      · simp [h0] at h)
    (fun a l h => by
      by_cases h0 : a = o
      · subst h0; simp at h; subst h; left; simp
      · simp [h0] at h; right; rw [h.1]; exact ⟨hf, by simp⟩)
  have e : (fun a => if ((if a = o then some 0 else if a = o' then some 1 else none : Option Nat)).isSome then (if a = o' then Ob.arr sz' es' else .dead) else frz [] H a) = upd (upd H o .dead) o' (.arr sz' es') := by
    funext a
    by_cases h1 : a = o'
    · subst h1; simp [upd, hne.symm]
    · by_cases h2 : a = o
      · subst h2; simp [upd, h1]
      · simp [upd, h1, h2, frz]
  rw [e] at h
  exact h

/-- .. nothing goes over. -/
theorem call_nil {sz sz' len' : Nat} {es' : List (List I)} {xs : List D} (hz : 0 < sz) (hL : CallD P g (.os 0 sz 0 0 :: xs) (hF [(0, .arr sz [])]) (.os 1 sz' 0 len') (hOf (hF [(0, .arr sz [])]) [(1, .arr sz' es')]))
    (hx : xs.all D.val = true) {o' : Nat} (hf : H o' = .fresh) : CallD P g (.i (.s (.slice none 0 0)) :: xs) H (.os o' sz' 0 len') (upd H o' (.arr sz' es')) := by
  have h := call_frame (H := H) (gs := .i (.s (.slice none 0 0)) :: xs) (L2 := fun a => if a = o' then .arr sz' es' else .dead) (r' := .os o' sz' 0 len') [] (fun _ => none) (fun a => if a = o' then some 1 else none) hL
    ⟨by simp [cv1, cv0], cvs_val hx⟩
    (fun a => by
      by_cases h0 : a = 0
      · subst h0; right; right; left; exact ⟨rfl, sz, hz, by simp [hF, lk]⟩
      · left; simp [hF, lk, h0])
    (fun a b c h1 h2 h3 h4 => by simp at h3)
    (fun a => by
      by_cases h1 : a = o'
      · subst h1; right; right; right; exact ⟨1, by simp, by simp [hOf, lk, cvO, frz]⟩
      · right; left; simp [h1])
    (fun a b c h1 h2 h3 h4 => by
      by_cases ha : a = o' <;> by_cases hb : b = o'
      · rw [ha, hb]
      · simp [hb] at h4
      · simp [ha] at h3
      · simp [ha] at h3)
    (by simp [cv, cv1, cv0])
    (fun l a h => by simp at h)
    (fun a l h => by
      by_cases h0 : a = o'
      · subst h0; right; exact ⟨hf, by simp⟩
      · simp [h0] at h)
  have e : (fun a => if ((if a = o' then some 1 else none : Option Nat)).isSome then (if a = o' then Ob.arr sz' es' else .dead) else frz [] H a) = upd H o' (.arr sz' es') := by
    funext a
    by_cases h1 : a = o'
    · subst h1; simp [upd]
    · simp [upd, h1, frz]
  rw [e] at h
  exact h

/-- In the text's order. -/
theorem Call_arr {sz sz' len len' : Nat} {es es' : List (List I)} {xs : List D} {dst : Option Nat} (o' : Nat) (hL : CallD P g (.os 0 sz 0 len :: xs) (hF [(0, .arr sz es)]) (.os 1 sz' 0 len') (hOf (hF [(0, .arr sz es)]) [(1, .arr sz' es')]))
    {o : Nat} (ho : σ.H o = .arr sz es) (hf : σ.H o' = .fresh) (hx : xs.all D.val = true) (h : Ro P n rid rest (St.put ⟨σ.sl, upd (upd σ.H o .dead) o' (.arr sz' es')⟩ dst (.os o' sz' 0 len')) ks Q) : Call P n rid g (.os o sz 0 len :: xs) dst rest σ ks Q :=
  ⟨_, _, .inl (call_arr hL hx ho hf), h⟩
theorem Call_nil {sz sz' len' : Nat} {es' : List (List I)} {xs : List D} {dst : Option Nat} (o' : Nat) (hL : CallD P g (.os 0 sz 0 0 :: xs) (hF [(0, .arr sz [])]) (.os 1 sz' 0 len') (hOf (hF [(0, .arr sz [])]) [(1, .arr sz' es')]))
    (hz : 0 < sz) (hf : σ.H o' = .fresh) (hx : xs.all D.val = true) (h : Ro P n rid rest (St.put ⟨σ.sl, upd σ.H o' (.arr sz' es')⟩ dst (.os o' sz' 0 len')) ks Q) : Call P n rid g (.i (.s (.slice none 0 0)) :: xs) dst rest σ ks Q :=
  ⟨_, _, .inl (call_nil hz hL hx hf), h⟩
/-- Where the order is drawn. -/
theorem CallF_arr {sz sz' len len' : Nat} {es es' : List (List I)} {xs : List D} {dst : Option Nat} (o' : Nat) (hL : CallD P g (.os 0 sz 0 len :: xs) (hF [(0, .arr sz es)]) (.os 1 sz' 0 len') (hOf (hF [(0, .arr sz es)]) [(1, .arr sz' es')]))
    {o : Nat} (ho : σ.H o = .arr sz es) (hf : σ.H o' = .fresh) (hx : xs.all D.val = true) (h : Rd P n rid ops rest ((k, [o, o'], [o, o']) :: acc) (St.put ⟨σ.sl, upd (upd σ.H o .dead) o' (.arr sz' es')⟩ dst (.os o' sz' 0 len')) ks Q) : CallF P n rid ops g (.os o sz 0 len :: xs) k dst rest acc σ ks Q := by
  refine ⟨⟨.os o' sz' 0 len', [o, o'], [o, o'], fun G => upd (upd G o .dead) o' (.arr sz' es')⟩, ⟨⟨fun _ h => h, fun G k hk => ?_, fun G G' _ k hk => ?_⟩, fun G hG => .inl (call_arr hL hx ((hG o (by simp)).trans ho) ((hG o' (by simp)).trans hf))⟩, h⟩
  · simp at hk; simp [upd, hk.1, hk.2]
  · simp at hk; rcases hk with rfl | rfl <;> simp [upd]
/-- By value. -/
theorem CallF_flat {args ds' : List D} {dst : Option Nat} (F B fp : List Nat) {r : D} (hp : PureD P g ds' r) (hc : ∀ G, agree fp G σ.H → cvAs G F B args ds') (hflat : r.flat = true) (h : Rd P n rid ops rest ((k, fp, []) :: acc) (σ.put dst r) ks Q) : CallF P n rid ops g args k dst rest acc σ ks Q :=
  ⟨⟨r, fp, [], fun G => G⟩, ⟨⟨by simp, fun _ _ _ => rfl, fun _ _ _ k hk => by simp at hk⟩, fun G hG => .inl (pure_flat F B hp (hc G hG) hflat)⟩, h⟩
theorem CallF_frz {args ds' : List D} {dst : Option Nat} (F fp : List Nat) {r : D} (hp : PureD P g ds' r) (hc : ∀ G, agree fp G σ.H → cvAs G F [] args ds') (hF : ∀ k ∈ F, k ∈ fp) (h : Rd P n rid ops rest ((k, fp, F) :: acc) (St.put ⟨σ.sl, frz F σ.H⟩ dst r) ks Q) : CallF P n rid ops g args k dst rest acc σ ks Q :=
  ⟨⟨r, fp, F, fun G => frz F G⟩, ⟨⟨hF, fun G k hk => frz_out hk, fun G G' hg k hk => frz_local (hg k (hF k hk))⟩, fun G hG => .inl (pure_frz F hp (hc G hG))⟩, h⟩
end
end Go.Abs
