/- A call that yields own objects: they get numbers of the caller's, all from one base on. -/
import Derived.Test.YtmclpbcipkdmcaaDoorRow2
set_option linter.all false
namespace Go.Abs
open Go Go.RowKit

def renC (b : Nat) : D → D
  | .os o sz off len => .os (b + o) sz off len
  | .pt o sz i c => .pt (b + o) sz i c
  | d => d
def renA (b : Nat) : D → D
  | .agg cs => .agg (cs.map (renC b))
  | d => renC b d
def renT (b : Nat) : D → D
  | .tup ds => .tup (ds.map (renA b))
  | d => renA b d
def renO (b : Nat) : Ob → Ob
  | .box cs => .box (cs.map (renC b))
  | x => x
def okC (ks : List Nat) : D → Bool
  | .i _ | .un | .any | .rp _ _ => true
  | .os o _ _ _ | .pt o _ _ _ => ks.contains o
  | _ => false
def okA (ks : List Nat) : D → Bool
  | .agg cs => cs.all (okC ks)
  | d => okC ks d
def okT (ks : List Nat) : D → Bool
  | .tup ds => ds.all (okA ks)
  | d => okA ks d
def okO (ks : List Nat) : Ob → Bool
  | .arr _ _ | .fz _ _ => true
  | .box cs => cs.all (okC ks) && cs.all D.one
  | _ => false
def updL (b : Nat) : List (Nat × Ob) → (Nat → Ob) → Nat → Ob
  | [], H => H
  | p :: t, H => upd (updL b t H) (b + p.1) (renO b p.2)
def frL (b : Nat) (H : Nat → Ob) : List (Nat × Ob) → Bool
  | [] => true
  | p :: t => (match H (b + p.1) with | .fresh => true | _ => false) && frL b H t

def fnd {α : Type} : List (Nat × α) → Nat → Option α
  | [], _ => none
  | (j, x) :: t, i => if i = j then some x else fnd t i
theorem lk_fnd {α : Type} {l : List (Nat × α)} {d : α} {i : Nat} : lk l d i = (fnd l i).getD d := by
  induction l with
  | nil => rfl
  | cons p t ih =>
    obtain ⟨j, x⟩ := p
    simp only [lk, fnd]
    by_cases h : i = j
    · simp [h]
    · simp [h, ih]
theorem fnd_map {α β : Type} {l : List (Nat × α)} {f : Nat → α → β} {b k : Nat} : fnd (l.map fun p => (b + p.1, f p.1 p.2)) (b + k) = (fnd l k).map (f k) := by
  induction l with
  | nil => rfl
  | cons p t ih =>
    obtain ⟨j, x⟩ := p
    simp only [List.map_cons, fnd, ih]
    by_cases h : k = j
    · subst h; simp
    · rw [if_neg (by omega), if_neg h]
theorem fnd_lt {α β : Type} {l : List (Nat × α)} {f : Nat → α → β} {b a : Nat} (h : a < b) : fnd (l.map fun p => (b + p.1, f p.1 p.2)) a = none := by
  induction l with
  | nil => rfl
  | cons p t ih =>
    obtain ⟨j, x⟩ := p
    simp only [List.map_cons, fnd, ih]
    rw [if_neg (by omega)]
theorem fnd_mem {α : Type} {l : List (Nat × α)} {k : Nat} {x : α} (h : fnd l k = some x) : (k, x) ∈ l := by
  induction l with
  | nil => cases h
  | cons p t ih =>
    obtain ⟨j, y⟩ := p
    simp only [fnd] at h
    split at h
    · rename_i e; subst e; cases h; simp
    · exact List.mem_cons_of_mem _ (ih h)
theorem fnd_key {α : Type} {l : List (Nat × α)} {k : Nat} (h : (l.map (·.1)).contains k = true) : ∃ x, fnd l k = some x := by
  induction l with
  | nil => simp at h
  | cons p t ih =>
    obtain ⟨j, y⟩ := p
    simp only [fnd]
    by_cases e : k = j
    · exact ⟨y, by simp [e]⟩
    · rw [if_neg e]
      refine ih ?_
      simp only [List.map_cons, List.contains_cons, Bool.or_eq_true, beq_iff_eq] at h
      exact h.resolve_left e
theorem updL_eq (b : Nat) (H : Nat → Ob) : ∀ (l : List (Nat × Ob)), updL b l H = fun a => (fnd (l.map fun p => (b + p.1, renO b p.2)) a).getD (H a)
  | [] => rfl
  | p :: t => by
    funext a
    simp only [updL, updL_eq b H t, List.map_cons, fnd]
    by_cases h : a = b + p.1
    · subst h; simp [upd]
    · simp [upd, h]
theorem frL_mem {b : Nat} {H : Nat → Ob} : ∀ {l : List (Nat × Ob)}, frL b H l = true → ∀ {k : Nat} {x : Ob}, fnd l k = some x → H (b + k) = .fresh
  | (j, y) :: t, h, k, x, hx => by
    simp only [frL, Bool.and_eq_true] at h
    simp only [fnd] at hx
    split at hx
    · rename_i e; subst e
      revert h; cases H (b + k) <;> simp
    · exact frL_mem h.2 hx

section
variable {P : Program} {n : Nat} {σ : St} {ks : List Fr} {Q : Ex → St → Prop} {rid k : Nat} {ops : Array Oper} {rest : List It} {acc : Acc} {H : Nat → Ob} {g : FuncId}

def srcB (b : Nat) (objs : List (Nat × Ob)) (a : Nat) : Option Nat := fnd (objs.map fun p => (b + p.1, p.1)) a
theorem srcB_at {b k : Nat} {objs : List (Nat × Ob)} : srcB b objs (b + k) = (fnd objs k).map fun _ => k := fnd_map (f := fun j _ => j)
theorem cv0_ren {b : Nat} {objs : List (Nat × Ob)} {L : Nat → Ob} {d : D} (h : okC (objs.map (·.1)) d = true) : cv0 L [] (srcB b objs) d (renC b d) := by
  cases d with
  | i x => exact .inl rfl
  | un => exact rfl
  | any => exact trivial
  | rp xs c => exact rfl
  | os o sz off len =>
    obtain ⟨x, hx⟩ := fnd_key h
    exact .inl ⟨o, by rw [srcB_at, hx]; rfl, rfl⟩
  | pt o sz i c =>
    obtain ⟨x, hx⟩ := fnd_key h
    exact ⟨o, by rw [srcB_at, hx]; rfl, rfl⟩
  | _ => simp [okC] at h
theorem cvL_ren {b : Nat} {objs : List (Nat × Ob)} {L : Nat → Ob} : ∀ {cs : List D}, cs.all (okC (objs.map (·.1))) = true → cvL L [] (srcB b objs) cs (cs.map (renC b))
  | [], _ => trivial
  | d :: t, h => by
    simp only [List.all_cons, Bool.and_eq_true] at h
    exact ⟨cv0_ren h.1, cvL_ren h.2⟩
theorem cv1_ren {b : Nat} {objs : List (Nat × Ob)} {L : Nat → Ob} {d : D} (h : okA (objs.map (·.1)) d = true) : cv1 L [] (srcB b objs) d (renA b d) := by
  cases d with
  | agg cs => exact ⟨cs, rfl, cvL_ren h⟩
  | i x => exact cv0_ren (b := b) (objs := objs) (L := L) (d := .i x) h
  | un => exact cv0_ren (b := b) (objs := objs) (L := L) (d := .un) h
  | any => exact cv0_ren (b := b) (objs := objs) (L := L) (d := .any) h
  | rp xs c => exact cv0_ren (b := b) (objs := objs) (L := L) (d := .rp xs c) h
  | os o sz off len => exact cv0_ren (b := b) (objs := objs) (L := L) (d := .os o sz off len) h
  | pt o sz i c => exact cv0_ren (b := b) (objs := objs) (L := L) (d := .pt o sz i c) h
  | _ => simp [okA, okC] at h
theorem cvT_ren {b : Nat} {objs : List (Nat × Ob)} {L : Nat → Ob} : ∀ {cs : List D}, cs.all (okA (objs.map (·.1))) = true → cvT L [] (srcB b objs) cs (cs.map (renA b))
  | [], _ => trivial
  | d :: t, h => by
    simp only [List.all_cons, Bool.and_eq_true] at h
    exact ⟨cv1_ren h.1, cvT_ren h.2⟩
theorem cv_ren {b : Nat} {objs : List (Nat × Ob)} {L : Nat → Ob} {d : D} (h : okT (objs.map (·.1)) d = true) : cv L [] (srcB b objs) d (renT b d) := by
  cases d with
  | tup cs => exact ⟨cs, rfl, cvT_ren h⟩
  | agg cs => exact cv1_ren (b := b) (objs := objs) (L := L) (d := .agg cs) h
  | i x => exact cv1_ren (b := b) (objs := objs) (L := L) (d := .i x) h
  | un => exact cv1_ren (b := b) (objs := objs) (L := L) (d := .un) h
  | any => exact cv1_ren (b := b) (objs := objs) (L := L) (d := .any) h
  | rp xs c => exact cv1_ren (b := b) (objs := objs) (L := L) (d := .rp xs c) h
  | os o sz off len => exact cv1_ren (b := b) (objs := objs) (L := L) (d := .os o sz off len) h
  | pt o sz i c => exact cv1_ren (b := b) (objs := objs) (L := L) (d := .pt o sz i c) h
  | _ => simp [okT, okA, okC] at h
theorem one_ren {b : Nat} {d : D} (h : d.one = true) : (renC b d).one = true := by cases d <;> first | exact h | rfl
theorem call_newL {b : Nat} {objs : List (Nat × Ob)} {xs ds : List D} {r : D} (F : List Nat) (hL : CallD P g ds noH r (hOf noH objs)) (hx : cvs H F (fun _ => none) xs ds)
    (hf : frL b H objs = true) (hF : objs.all (fun p => !F.contains (b + p.1)) = true) (ho : objs.all (fun p => okO (objs.map (·.1)) p.2) = true) (hr : okT (objs.map (·.1)) r = true) :
    CallD P g xs H (renT b r) (updL b objs (frz F H)) := by
  have hL' : ∀ {k x}, fnd objs k = some x → hOf noH objs k = x := fun h => by simp only [hOf]; rw [lk_fnd, h]; rfl
  have h := call_frame (H := H) (gs := xs) (L2 := fun a => (fnd (objs.map fun p => (b + p.1, renO b p.2)) a).getD .dead) (r' := renT b r) F (fun _ => none) (srcB b objs) hL
    hx
    (fun a => .inl ⟨rfl, rfl⟩)
    (fun a b c h1 h2 h3 h4 => by simp at h3)
    (fun a => by
      by_cases hb : a < b
      · right; left; rw [fnd_lt (f := fun _ x => renO b x) hb]; rfl
      · obtain ⟨k, rfl⟩ : ∃ k, a = b + k := ⟨a - b, by omega⟩
        rw [fnd_map (f := fun _ x => renO b x)]
        cases e : fnd objs k with
        | none => right; left; rfl
        | some x =>
          right; right; right
          refine ⟨k, by rw [srcB_at, e]; rfl, ?_⟩
          rw [show frz [] (hOf noH objs) = hOf noH objs from frz_nil _, hL' e]
          have hk := List.all_eq_true.1 ho _ (fnd_mem e)
          cases x <;> simp [okO] at hk
          · rename_i cs
            simp only [Option.map_some, Option.getD_some, renO, cvO]
            refine ⟨cs, rfl, .inl (cvL_ren (List.all_eq_true.2 hk.1)), ?_⟩
            refine List.all_eq_true.2 fun d hd => ?_
            obtain ⟨d0, hd0, rfl⟩ := List.mem_map.1 hd
            exact one_ren (hk.2 d0 hd0)
          · exact .inl rfl
          · rfl)
    (fun a1 a2 c h1 h2 h3 h4 => by
      have key : ∀ {a : Nat}, srcB b objs a = some c → a = b + c := by
        intro a ha
        by_cases hb : a < b
        · unfold srcB at ha; rw [fnd_lt (f := fun j _ => j) hb] at ha; cases ha
        · obtain ⟨k, rfl⟩ : ∃ k, a = b + k := ⟨a - b, by omega⟩
          rw [srcB_at] at ha
          cases e : fnd objs k with
          | none => rw [e] at ha; cases ha
          | some x => rw [e] at ha; cases ha; rfl
      rw [key h3, key h4])
    (cv_ren hr)
    (fun l a h => by simp at h)
    (fun a l h => by
      right
      by_cases hb : a < b
      · unfold srcB at h; rw [fnd_lt (f := fun j _ => j) hb] at h; cases h
      · obtain ⟨k, rfl⟩ : ∃ k, a = b + k := ⟨a - b, by omega⟩
        rw [srcB_at] at h
        cases e : fnd objs k with
        | none => rw [e] at h; cases h
        | some x =>
          refine ⟨frL_mem hf e, ?_⟩
          have := List.all_eq_true.1 hF _ (fnd_mem e)
          simpa using this)
  have e : (fun a => if (srcB b objs a).isSome then (fnd (objs.map fun p => (b + p.1, renO b p.2)) a).getD .dead else frz F H a) = updL b objs (frz F H) := by
    rw [updL_eq]
    funext a
    by_cases hb : a < b
    · have h1 : srcB b objs a = none := fnd_lt (f := fun j _ => j) hb
      rw [h1, fnd_lt (f := fun _ x => renO b x) hb]; rfl
    · obtain ⟨k, rfl⟩ : ∃ k, a = b + k := ⟨a - b, by omega⟩
      rw [srcB_at, fnd_map (f := fun _ x => renO b x)]
      cases fnd objs k <;> rfl
  rw [e] at h
  exact h
/-- The first base that is free. -/
def frB (H : Nat → Ob) (objs : List (Nat × Ob)) : Nat := if frL 900 H objs then 900 else if frL 910 H objs then 910 else if frL 920 H objs then 920 else if frL 930 H objs then 930 else if frL 940 H objs then 940 else if frL 950 H objs then 950 else if frL 960 H objs then 960 else 970
def okN (σ : St) (objs : List (Nat × Ob)) (r : D) : Bool := frL (frB σ.H objs) σ.H objs && objs.all (fun p => okO (objs.map (·.1)) p.2) && okT (objs.map (·.1)) r
theorem Call_newL {objs : List (Nat × Ob)} {xs ds : List D} {r : D} {dst : Option Nat} (hL : CallD P g ds noH r (hOf noH objs)) (hc : cvs σ.H [] (fun _ => none) xs ds) (hx : okN σ objs r = true)
    (h : Ro P n rid rest (St.put ⟨σ.sl, updL (frB σ.H objs) objs σ.H⟩ dst (renT (frB σ.H objs) r)) ks Q) : Call P n rid g xs dst rest σ ks Q := by
  simp only [okN, Bool.and_eq_true] at hx
  have := call_newL (H := σ.H) [] hL hc hx.1.1 (by simp) hx.1.2 hx.2
  rw [frz_nil] at this
  exact ⟨_, _, .inl this, h⟩
theorem updL_out {b j : Nat} {G : Nat → Ob} : ∀ {objs : List (Nat × Ob)}, j ∉ objs.map (fun p => b + p.1) → updL b objs G j = G j
  | [], _ => rfl
  | p :: t, h => by
    simp only [List.map_cons, List.mem_cons, not_or] at h
    simp only [updL]; rw [upd_ne _ _ h.1]; exact updL_out h.2
theorem updL_in {b j : Nat} {G G' : Nat → Ob} : ∀ {objs : List (Nat × Ob)}, j ∈ objs.map (fun p => b + p.1) → updL b objs G j = updL b objs G' j
  | p :: t, h => by
    simp only [updL]
    by_cases e : j = b + p.1
    · subst e; rw [upd_same, upd_same]
    · rw [upd_ne _ _ e, upd_ne _ _ e]
      simp only [List.map_cons, List.mem_cons] at h
      exact updL_in (h.resolve_left e)
theorem frL_agree {b : Nat} {G G' : Nat → Ob} : ∀ {objs : List (Nat × Ob)}, agree (objs.map fun p => b + p.1) G G' → frL b G objs = frL b G' objs
  | [], _ => rfl
  | p :: t, h => by
    simp only [frL]
    rw [h (b + p.1) (by simp), frL_agree fun k hk => h k (by simp at hk ⊢; exact .inr hk)]
theorem CallF_newL {objs : List (Nat × Ob)} {xs ds : List D} {r : D} {dst : Option Nat} (hL : CallD P g ds noH r (hOf noH objs)) (hc : ∀ G, cvs G [] (fun _ => none) xs ds) (hx : okN σ objs r = true)
    (h : Rd P n rid ops rest ((k, objs.map (fun p => frB σ.H objs + p.1), objs.map (fun p => frB σ.H objs + p.1)) :: acc) (St.put ⟨σ.sl, updL (frB σ.H objs) objs σ.H⟩ dst (renT (frB σ.H objs) r)) ks Q) : CallF P n rid ops g xs k dst rest acc σ ks Q := by
  simp only [okN, Bool.and_eq_true] at hx
  refine ⟨⟨renT (frB σ.H objs) r, _, _, fun G => updL (frB σ.H objs) objs G⟩, ⟨⟨fun _ h => h, fun G j hj => updL_out hj, fun G G' _ j hj => updL_in hj⟩, fun G hG => ?_⟩, h⟩
  have := call_newL (H := G) [] hL (hc G) (by rw [frL_agree hG]; exact hx.1.1) (by simp) hx.1.2 hx.2
  rw [frz_nil] at this; exact .inl this
def D.valA : D → Bool
  | .agg cs => cs.all D.val
  | d => d.val
theorem cvs_valA {H : Nat → Ob} {F : List Nat} {s : Nat → Option Nat} : ∀ {xs : List D}, xs.all D.valA = true → cvs H F s xs xs
  | [], _ => trivial
  | d :: t, h => by
    simp only [List.all_cons, Bool.and_eq_true] at h
    refine ⟨?_, cvs_valA h.2⟩
    have h1 := h.1
    cases d <;> simp only [D.valA, D.val, Bool.false_eq_true] at h1 <;> first | exact ⟨_, rfl, cvL_val h1⟩ | simp [cv1, cv0]
theorem call_arrA {sz sz' len len' : Nat} {es es' : List (List I)} {xs : List D} (hL : CallD P g (.os 0 sz 0 len :: xs) (hF [(0, .arr sz es)]) (.os 1 sz' 0 len') (hOf (hF [(0, .arr sz es)]) [(1, .arr sz' es')]))
    (hx : xs.all D.valA = true) {o o' : Nat} (ho : H o = .arr sz es) (hf : H o' = .fresh) : CallD P g (.os o sz 0 len :: xs) H (.os o' sz' 0 len') (upd (upd H o .dead) o' (.arr sz' es')) := by
  have hne : o ≠ o' := fun e => by subst e; rw [ho] at hf; cases hf
  have h := call_frame (H := H) (gs := .os o sz 0 len :: xs) (L2 := fun a => if a = o' then .arr sz' es' else .dead) (r' := .os o' sz' 0 len') [] (fun l => if l = 0 then some o else none) (fun a => if a = o then some 0 else if a = o' then some 1 else none) hL
    ⟨by simp [cv1, cv0], cvs_valA hx⟩
    (fun a => by
      by_cases h0 : a = 0
      · subst h0; right; right; right; exact ⟨o, by simp, by simp [hF, lk, cvO, frz, ho]⟩
      · left; simp [hF, lk, h0])
    (fun a b c h1 h2 h3 h4 => by
      simp at h3 h4; omega)
    (fun a => by
      by_cases h1 : a = o'
      · subst h1; right; right; right; exact ⟨1, by simp [hne.symm], by simp [hOf, lk, cvO, frz]⟩
      · right; left; simp [h1])
    (fun a b c h1 h2 h3 h4 => by
      by_cases ha : a = o' <;> by_cases hb : b = o'
      · rw [ha, hb]
      · simp [hb, Ob.own] at h2
      · simp [ha, Ob.own] at h1
      · simp [ha, Ob.own] at h1)
    (by simp [cv, cv1, cv0, hne.symm])
    (fun l a h => by
      by_cases h0 : l = 0
      · subst h0; simp at h; subst h; simp
      · simp [h0] at h)
    (fun a l h => by
      by_cases h0 : a = o
      · subst h0; simp at h; subst h; left; simp
      · simp [h0] at h; right; rw [h.1]; exact ⟨hf, by simp⟩)
  have e : (fun a => if ((if a = o then some 0 else if a = o' then some 1 else none : Option Nat)).isSome then (if a = o' then Ob.arr sz' es' else .dead) else frz [] H a) = upd (upd H o .dead) o' (.arr sz' es') := by
    funext a
    by_cases h1 : a = o'
    · subst h1; simp [upd, hne.symm]
    · by_cases h2 : a = o
      · subst h2; simp [upd, h1]
      · simp [upd, h1, h2, frz]
  rw [e] at h
  exact h

end
attribute [simp] cvs renC renA renT renO okC okA okT okO updL frL frB okN D.val D.valA
attribute [go_sem] renC renA renT renO updL frL frB
end Go.Abs
