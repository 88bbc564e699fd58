/- Calls with a box that is lent and turned. -/
import Derived.Test.YtbclmpdgkeoioaaAbsW
set_option linter.all false
namespace Go.Abs
open Go Go.RowKit

section
variable {P : Program} {n : Nat} {σ : St} {ks : List Fr} {Q : Ex → St → Prop} {rid k : Nat} {ops : Array Oper} {rest : List It} {acc : Acc} {H : Nat → Ob} {g : FuncId}

theorem cvL_val {H : Nat → Ob} {F : List Nat} {s : Nat → Option Nat} : ∀ {xs : List D}, xs.all D.val = true → cvL H F s xs xs
  | [], _ => trivial
  | d :: t, h => by
    simp only [List.all_cons, Bool.and_eq_true] at h
    refine ⟨?_, cvL_val h.2⟩
    cases d <;> simp [D.val] at h <;> simp [cv0]
theorem one_val : ∀ {cs : List D}, cs.all D.val = true → cs.all D.one = true → cs.all D.one = true := fun _ h => h

/-- One box goes over, and is turned. -/
theorem call_box {cs cs' : List D} {xs : List D} {r : D} (hL : CallD P g (.pt 0 0 0 0 :: xs) (hF [(0, .box cs)]) r (hOf (hF [(0, .box cs)]) [(0, .box cs')]))
    (hx : xs.all D.val = true) (hc : cs.all D.val = true) (hc1 : cs.all D.one = true) (hc' : cs'.all D.val = true) (hc1' : cs'.all D.one = true) (hr : r.val = true) {o : Nat} (ho : H o = .box cs) : CallD P g (.pt o 0 0 0 :: xs) H r (upd H o (.box cs')) := by
  have h := call_frame (H := H) (gs := .pt o 0 0 0 :: xs) (L2 := fun a => if a = o then .box cs' else .dead) (r' := r) [] (fun l => if l = 0 then some o else none) (fun a => if a = o then some 0 else none) hL
    ⟨by simp [cv1, cv0], cvs_val hx⟩
    (fun a => by
      by_cases h0 : a = 0
      · subst h0; right; right; right; refine ⟨o, by simp, ?_⟩; simp [hF, lk, cvO, frz, ho]; exact ⟨cvL_val hc, fun x hx => List.all_eq_true.1 hc1 x hx⟩
      · left; simp [hF, lk, h0])
    (fun a b c h1 h2 h3 h4 => by
      simp at h3 h4; omega)
    (fun a => by
      by_cases h1 : a = o
      · subst h1; right; right; right; refine ⟨0, by simp, ?_⟩; simp [hOf, lk, cvO, frz]; exact ⟨cvL_val hc', fun x hx => List.all_eq_true.1 hc1' x hx⟩
      · right; left; simp [h1])
    (fun a b c h1 h2 h3 h4 => by
      simp at h3 h4; omega)
    (by cases r <;> simp [D.val] at hr <;> simp [cv, cv1, cv0])
    (fun l a h => by
      by_cases h0 : l = 0
      · subst h0; simp at h; subst h; simp
      · simp [h0] at h)
    (fun a l h => by
      by_cases h0 : a = o
      · subst h0; simp at h; subst h; left; simp
      · simp [h0] at h)
  have e : (fun a => if ((if a = o then some 0 else none : Option Nat)).isSome then (if a = o then Ob.box cs' else .dead) else frz [] H a) = upd H o (.box cs') := by
    funext a
    by_cases h1 : a = o
    · subst h1; simp [upd]
    · simp [upd, h1, frz]
  rw [e] at h
  exact h

theorem Call_box {cs cs' : List D} {xs : List D} {r : D} {dst : Option Nat} {o : Nat} (hL : CallD P g (.pt 0 0 0 0 :: xs) (hF [(0, .box cs)]) r (hOf (hF [(0, .box cs)]) [(0, .box cs')]))
    (ho : σ.H o = .box cs) (hx : (xs.all D.val && cs.all D.val && cs.all D.one && cs'.all D.val && cs'.all D.one && r.val) = true) (h : Ro P n rid rest (St.put ⟨σ.sl, upd σ.H o (.box cs')⟩ dst r) ks Q) : Call P n rid g (.pt o 0 0 0 :: xs) dst rest σ ks Q := by
  simp only [Bool.and_eq_true] at hx
  obtain ⟨⟨⟨⟨⟨h1, h2⟩, h3⟩, h4⟩, h5⟩, h6⟩ := hx
  exact ⟨_, _, .inl (call_box hL h1 h2 h3 h4 h5 h6 ho), h⟩
theorem CallF_box {cs cs' : List D} {xs : List D} {r : D} {dst : Option Nat} {o : Nat} (hL : CallD P g (.pt 0 0 0 0 :: xs) (hF [(0, .box cs)]) r (hOf (hF [(0, .box cs)]) [(0, .box cs')]))
    (ho : σ.H o = .box cs) (hx : (xs.all D.val && cs.all D.val && cs.all D.one && cs'.all D.val && cs'.all D.one && r.val) = true) (h : Rd P n rid ops rest ((k, [o], [o]) :: acc) (St.put ⟨σ.sl, upd σ.H o (.box cs')⟩ dst r) ks Q) : CallF P n rid ops g (.pt o 0 0 0 :: xs) k dst rest acc σ ks Q := by
  simp only [Bool.and_eq_true] at hx
  obtain ⟨⟨⟨⟨⟨h1, h2⟩, h3⟩, h4⟩, h5⟩, h6⟩ := hx
  refine ⟨⟨r, [o], [o], fun G => upd G o (.box cs')⟩, ⟨⟨fun _ h => h, fun G k hk => ?_, fun G G' _ k hk => ?_⟩, fun G hG => .inl (call_box hL h1 h2 h3 h4 h5 h6 ((hG o (by simp)).trans ho))⟩, h⟩
  · simp at hk; simp [upd, hk]
  · simp at hk; subst hk; simp [upd]

/-- A new slice comes back, that is the caller's. -/
theorem call_new {sz' len' : Nat} {es' : List (List I)} {xs ds : List D} (F : List Nat) (hL : CallD P g ds noH (.os 1 sz' 0 len') (hOf noH [(1, .arr sz' es')]))
    (hx : cvs H F (fun _ => none) xs ds) {o' : Nat} (hf : H o' = .fresh) (hF : o' ∉ F) : CallD P g xs H (.os o' sz' 0 len') (upd (frz F H) o' (.arr sz' es')) := by
  have h := call_frame (H := H) (gs := xs) (L2 := fun a => if a = o' then .arr sz' es' else .dead) (r' := .os o' sz' 0 len') F (fun _ => none) (fun a => if a = o' then some 1 else none) hL
    hx
    (fun a => .inl ⟨rfl, rfl⟩)
    (fun a b c h1 h2 h3 h4 => by simp at h3)
    (fun a => by
      by_cases h1 : a = o'
      · subst h1; right; right; right; exact ⟨1, by simp, by simp [hOf, lk, cvO, frz]⟩
      · right; left; simp [h1])
    (fun a b c h1 h2 h3 h4 => by
      by_cases ha : a = o' <;> by_cases hb : b = o'
      · rw [ha, hb]
      · simp [hb] at h4
      · simp [ha] at h3
      · simp [ha] at h3)
    (by simp [cv, cv1, cv0])
    (fun l a h => by simp at h)
    (fun a l h => by
      by_cases h0 : a = o'
      · subst h0; right; exact ⟨hf, hF⟩
      · simp [h0] at h)
  have e : (fun a => if ((if a = o' then some 1 else none : Option Nat)).isSome then (if a = o' then Ob.arr sz' es' else .dead) else frz F H a) = upd (frz F H) o' (.arr sz' es') := by
    funext a
    by_cases h1 : a = o'
    · subst h1; simp [upd]
    · simp [upd, h1]
  rw [e] at h
  exact h
theorem Call_new {sz' len' : Nat} {es' : List (List I)} {xs : List D} {dst : Option Nat} (o' : Nat) (hL : CallD P g xs noH (.os 1 sz' 0 len') (hOf noH [(1, .arr sz' es')]))
    (hf : σ.H o' = .fresh) (hx : xs.all D.val = true) (h : Ro P n rid rest (St.put ⟨σ.sl, upd σ.H o' (.arr sz' es')⟩ dst (.os o' sz' 0 len')) ks Q) : Call P n rid g xs dst rest σ ks Q :=
  ⟨_, _, .inl (call_new [] hL (cvs_val hx) hf (by simp)), by rw [frz_nil]; exact h⟩
theorem CallF_new {sz' len' : Nat} {es' : List (List I)} {xs : List D} {dst : Option Nat} (o' : Nat) (hL : CallD P g xs noH (.os 1 sz' 0 len') (hOf noH [(1, .arr sz' es')]))
    (hf : σ.H o' = .fresh) (hx : xs.all D.val = true) (h : Rd P n rid ops rest ((k, [o'], [o']) :: acc) (St.put ⟨σ.sl, upd σ.H o' (.arr sz' es')⟩ dst (.os o' sz' 0 len')) ks Q) : CallF P n rid ops g xs k dst rest acc σ ks Q := by
  refine ⟨⟨.os o' sz' 0 len', [o'], [o'], fun G => upd G o' (.arr sz' es')⟩, ⟨⟨fun _ h => h, fun G k hk => ?_, fun G G' _ k hk => ?_⟩, fun G hG => ?_⟩, h⟩
  · simp at hk; simp [upd, hk]
  · simp at hk; subst hk; simp [upd]
  · have := call_new [] hL (cvs_val (H := G) (F := []) (s := fun _ => none) hx) ((hG o' (by simp)).trans hf) (by simp)
    rw [frz_nil] at this; exact .inl this

/-- Back at a loop's head, with what stands there. -/
def LpI (n : Nat) {ι : Type} (Inv : ι → Prop) (S : ι → St) (m : ι → Nat) (i : ι) (σ' : St) : Prop := ∃ j, Inv j ∧ LE n σ' (S j) ∧ m j < m i
theorem W_loopI {body : Code} {ι : Type} (Inv : ι → Prop) (S : ι → St) (m : ι → Nat) (i : ι) (hi : Inv i) (h0 : LE n σ (S i)) (h : ∀ i, Inv i → W P n body (S i) (.lp (LpI n Inv S m i) :: ks) Q) : W P n (.loop body) σ ks Q := by
  refine W_loop (ι := { i : ι // Inv i }) (fun j => S j.1) (fun j => m j.1) ⟨i, hi⟩ h0 (fun j => ?_)
  have e : Lp n (fun j : { i : ι // Inv i } => S j.1) (fun j => m j.1) j = LpI n Inv S m j.1 := by
    funext σ'
    refine propext ⟨fun ⟨k, h1, h2⟩ => ⟨k.1, k.2, h1, h2⟩, fun ⟨k, h0, h1, h2⟩ => ⟨⟨k, h0⟩, h1, h2⟩⟩
  rw [e]; exact h j.1 j.2

/-- A function without a text, of values that bear no memory. -/
theorem dir_flat {ds : List D} {H : Nat → Ob} {vs : List Value} {v : Value} {r : D} (hc : ds.mapM conc = some vs) (hr : ∀ w, (callFunc g vs.toArray).run P w = .ok (.value v) w) (hv : ∀ K : Ctx, VD K v r) : DirD P g ds H r H := by
  intro K0 T K us hH hrd
  have : us = vs.toArray := by
    obtain ⟨m1, m2⟩ := mapM_get hc
    apply Array.ext
    · rw [hrd.1]; simpa using m1.symm
    · intro j hj1 hj2
      have hj : j < ds.length := by rw [← hrd.1]; exact hj1
      obtain ⟨b, hb1, hb2⟩ := m2 j ds[j] (by simp [hj])
      have := conc_ok (hrd.2 j ds[j] (by simp [hj])) hb2
      rw [getD_lt hj1] at this
      rw [this]
      simp only [List.getElem_toArray]
      simp at hj2
      rw [List.getElem?_eq_getElem hj2] at hb1
      simpa using hb1.symm
  subst this
  exact ⟨v, K, hr K.w, Ext.refl K, hH, hv K⟩
theorem Call_dir {args : List D} {dst : Option Nat} {r : D} (hd : ∀ G, DirD P g args G r G) (h : Ro P n rid rest (σ.put dst r) ks Q) : Call P n rid g args dst rest σ ks Q :=
  ⟨r, σ.H, .inr (hd σ.H), h⟩
theorem CallF_dir {args : List D} {dst : Option Nat} {r : D} (hd : ∀ G, DirD P g args G r G) (h : Rd P n rid ops rest ((k, [], []) :: acc) (σ.put dst r) ks Q) : CallF P n rid ops g args k dst rest acc σ ks Q :=
  ⟨⟨r, [], [], fun G => G⟩, ⟨⟨by simp, fun _ _ _ => rfl, fun _ _ _ k hk => by simp at hk⟩, fun G _ => .inr (hd G)⟩, h⟩
end
end Go.Abs
