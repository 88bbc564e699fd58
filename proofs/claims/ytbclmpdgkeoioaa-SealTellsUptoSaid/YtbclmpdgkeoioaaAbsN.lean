/- Saying less: states and results, renumbered, frozen, forgotten. -/
import Derived.Test.YtbclmpdgkeoioaaAbsM
set_option linter.all false
namespace Go.Abs
open Go Go.RowKit

def lk {α : Type} : List (Nat × α) → α → Nat → α
  | [], d, _ => d
  | (j, x) :: t, d, i => if i = j then x else lk t d i

/-- A state: slots, objects; of all other slots nothing is known. -/
def noH : Nat → Ob := fun _ => .fresh

def hO (objs : List (Nat × Ob)) : Nat → Ob := fun o => lk objs (if o < 100 then .dead else .fresh) o
def stOf (slots : List (Nat × D)) (objs : List (Nat × Ob)) : St := ⟨lk slots .any, hO objs⟩
theorem stOf_eq (slots : List (Nat × D)) (objs : List (Nat × Ob)) : stOf slots objs = ⟨lk slots .any, hO objs⟩ := rfl
/-- Objects that are passed; all other numbers are free. -/
def hF (objs : List (Nat × Ob)) : Nat → Ob := fun o => lk objs .fresh o
theorem hF_same {i : Nat} {x : Ob} {t : List (Nat × Ob)} : hF ((i, x) :: t) i = x := by simp [hF, lk]
theorem hF_ne {i j : Nat} {x : Ob} {t : List (Nat × Ob)} (h : i ≠ j) : hF ((j, x) :: t) i = hF t i := by simp [hF, lk, h]
theorem hF_nil {i : Nat} : hF [] i = .fresh := rfl
theorem hO_same {i : Nat} {x : Ob} {t : List (Nat × Ob)} : hO ((i, x) :: t) i = x := by simp [hO, lk]
theorem hO_ne {i j : Nat} {x : Ob} {t : List (Nat × Ob)} (h : i ≠ j) : hO ((j, x) :: t) i = hO t i := by simp [hO, lk, h]
theorem hO_nil {i : Nat} : hO [] i = if i < 100 then .dead else .fresh := rfl
theorem noH_at {i : Nat} : noH i = .fresh := rfl

/-- From what is known to what is told: F is frozen, s says where a number comes from. -/
def cv0 (H : Nat → Ob) (F : List Nat) (s : Nat → Option Nat) (d d' : D) : Prop :=
  match d' with
  | .any => True
  | .un => d = .un
  | .rp cs c => d = .rp cs c
  | .pt o' sz i c => ∃ o, s o' = some o ∧ d = .pt o sz i c
  | .os o' sz off len => (∃ o, s o' = some o ∧ d = .os o sz off len) ∨ (d = .i (.s (.slice none 0 0)) ∧ off = 0 ∧ len = 0)
  | .i x => d = .i x ∨ (d = .i (.s (.slice none 0 0)) ∧ x = .sl []) ∨ ∃ o sz off len es, d = .os o sz off len ∧ o ∈ F ∧ elemsOf H d = some es ∧ x = .sl es
  | _ => False

def cvL (H : Nat → Ob) (F : List Nat) (s : Nat → Option Nat) : List D → List D → Prop
  | [], [] => True
  | d :: t, d' :: t' => cv0 H F s d d' ∧ cvL H F s t t'
  | _, _ => False

def cv1 (H : Nat → Ob) (F : List Nat) (s : Nat → Option Nat) (d d' : D) : Prop :=
  match d' with
  | .agg cs' => ∃ cs, d = .agg cs ∧ cvL H F s cs cs'
  | .fn f cs' => ∃ cs, d = .fn f cs ∧ cvL H F s cs cs'
  | d' => cv0 H F s d d'

def cvT (H : Nat → Ob) (F : List Nat) (s : Nat → Option Nat) : List D → List D → Prop
  | [], [] => True
  | d :: t, d' :: t' => cv1 H F s d d' ∧ cvT H F s t t'
  | _, _ => False

def cv (H : Nat → Ob) (F : List Nat) (s : Nat → Option Nat) (d d' : D) : Prop :=
  match d' with
  | .tup cs' => ∃ cs, d = .tup cs ∧ cvT H F s cs cs'
  | d' => cv1 H F s d d'

/-- Objects. -/
def cvO (H : Nat → Ob) (F : List Nat) (s : Nat → Option Nat) (x x' : Ob) : Prop :=
  match x' with
  | .dead => True
  | .box cs' => ∃ cs, x = .box cs ∧ cvL H F s cs cs' ∧ cs'.all D.one = true
  | .arr sz es => x = .arr sz es
  | .fz sz es => x = .fz sz es
  | .fresh => False

section
variable {K0 E0 : Ctx} {T : Nat → Prop} {K : Ctx} {H : Nat → Ob} {F : List Nat} {s : Nat → Option Nat}

/-- What is known behind the change. -/
def Ctx.ren (K : Ctx) (H : Nat → Ob) (F : List Nat) (s : Nat → Option Nat) : Ctx := ⟨K.w, fun b => K.S b ∨ frzS K H F b, fun o => (s o).bind K.μ⟩

theorem VI.ren {v : Value} {x : I} (h : VI K.w K.S v x) : VI (K.ren H F s).w (K.ren H F s).S v x := h.mono (fun _ h => .inl h) (fun _ _ _ => rfl)

theorem cv0_ok (hr : HR K0 T K H) {v : Value} {d d' : D} (hv : VD K v d) (h : cv0 H F s d d') : VD (K.ren H F s) v d' := by
  cases d' with
  | any => exact .any v
  | un => simp only [cv0] at h; subst h; cases hv; exact .un
  | rp cs c =>
    simp only [cv0] at h; subst h
    cases hv with
    | rp b off _ _ f h1 h2 h3 => exact .rp b off c cs f (.inl h1) h2 (fun j x hx => (h3 j x hx).ren)
  | pt o' sz i c =>
    obtain ⟨o, ho, rfl⟩ := h
    cases hv with
    | pt _ _ _ _ b hμ => exact .pt o' sz i c b (by simp [Ctx.ren, ho, hμ])
  | os o' sz off len =>
    rcases h with ⟨o, ho, rfl⟩ | ⟨rfl, rfl, rfl⟩
    · cases hv with
      | os _ _ _ _ b off' cap h1 h2 h3 h4 h5 => exact .os o' sz off len b off' cap (by simp [Ctx.ren, ho, h1]) h2 h3 h4 h5
      | os0 => exact .os0 o' sz
    · have := conc_ok hv (v' := .slice none 0 0) rfl
      subst this; exact .os0 o' sz
  | i x =>
    rcases h with rfl | ⟨rfl, rfl⟩ | ⟨o, sz, off, len, es, rfl, hm, he, rfl⟩
    · exact .i hv.inv_i.ren
    · have := conc_ok hv (v' := .slice none 0 0) rfl
      subst this; exact .i (.e _ _)
    · exact .i ((elems_frozen hr hv he F hm).mono (fun _ h => h) (fun _ _ _ => rfl))
  | _ => exact h.elim

theorem cvL_ok (hr : HR K0 T K H) : ∀ {cs cs' : List D} {f : Nat → Value}, cvL H F s cs cs' → (∀ (j : Nat) (d : D), cs[j]? = some d → VD K (f j) d) → cs.length = cs'.length ∧ ∀ (j : Nat) (d : D), cs'[j]? = some d → VD (K.ren H F s) (f j) d
  | [], [], f, _, _ => ⟨rfl, fun j d hd => by simp at hd⟩
  | d :: t, d' :: t', f, h, hv => by
    obtain ⟨h1, h2⟩ := h
    obtain ⟨g1, g2⟩ := cvL_ok hr (f := fun j => f (j + 1)) h2 (fun j d hd => hv (j + 1) d (by simpa using hd))
    refine ⟨by simp [g1], fun j d hd => ?_⟩
    cases j with
    | zero => simp at hd; subst hd; exact cv0_ok hr (hv 0 d (by simp)) h1
    | succ j => exact g2 j d (by simpa using hd)
  | [], _ :: _, _, h, _ => h.elim
  | _ :: _, [], _, h, _ => h.elim

theorem cv1_ok (hr : HR K0 T K H) {v : Value} {d d' : D} (hv : VD K v d) (h : cv1 H F s d d') : VD (K.ren H F s) v d' := by
  cases d' with
  | agg cs' =>
    obtain ⟨cs, rfl, h⟩ := h
    cases hv with
    | agg vs _ hl hc => obtain ⟨g1, g2⟩ := cvL_ok hr h hc; exact .agg vs cs' (by omega) g2
  | fn f cs' =>
    obtain ⟨cs, rfl, h⟩ := h
    cases hv with
    | fn _ vs _ hl hc => obtain ⟨g1, g2⟩ := cvL_ok hr h hc; exact .fn f vs cs' (by omega) g2
  | _ => exact cv0_ok hr hv h

theorem cvT_ok (hr : HR K0 T K H) : ∀ {cs cs' : List D} {f : Nat → Value}, cvT H F s cs cs' → (∀ (j : Nat) (d : D), cs[j]? = some d → VD K (f j) d) → cs.length = cs'.length ∧ ∀ (j : Nat) (d : D), cs'[j]? = some d → VD (K.ren H F s) (f j) d
  | [], [], f, _, _ => ⟨rfl, fun j d hd => by simp at hd⟩
  | d :: t, d' :: t', f, h, hv => by
    obtain ⟨h1, h2⟩ := h
    obtain ⟨g1, g2⟩ := cvT_ok hr (f := fun j => f (j + 1)) h2 (fun j d hd => hv (j + 1) d (by simpa using hd))
    refine ⟨by simp [g1], fun j d hd => ?_⟩
    cases j with
    | zero => simp at hd; subst hd; exact cv1_ok hr (hv 0 d (by simp)) h1
    | succ j => exact g2 j d (by simpa using hd)
  | [], _ :: _, _, h, _ => h.elim
  | _ :: _, [], _, h, _ => h.elim

theorem cv_ok (hr : HR K0 T K H) {v : Value} {d d' : D} (hv : VD K v d) (h : cv H F s d d') : VD (K.ren H F s) v d' := by
  cases d' with
  | tup cs' =>
    obtain ⟨cs, rfl, h⟩ := h
    cases hv with
    | tup vs _ hl hc => obtain ⟨g1, g2⟩ := cvT_ok hr h hc; exact .tup vs cs' (by omega) g2
  | _ => exact cv1_ok hr hv h

/-- THE CHANGE KEEPS HOW OBJECTS LIE. -/
theorem HR.ren (hr : HR K0 T K H) {H' : Nat → Ob}
    (hob : ∀ o', (H' o' = .fresh ∧ s o' = none) ∨ H' o' = .dead ∨ (s o' = none ∧ ∃ sz, 0 < sz ∧ H' o' = .arr sz []) ∨ ∃ o, s o' = some o ∧ cvO H F s (Abs.frz F H o) (H' o'))
    (hinj : ∀ o1 o2 o, (H' o1).own → (H' o2).own → s o1 = some o → s o2 = some o → o1 = o2) : HR K0 T (K.ren H F s) H' := by
  have h1 := hr.frz F
  have hμ : ∀ {o' b}, (K.ren H F s).μ o' = some b → ∃ o, s o' = some o ∧ K.μ o = some b := by
    intro o' b h; simpa [Ctx.ren, Option.bind_eq_some_iff] using h
  have hown : ∀ {o' o}, (H' o').own → s o' = some o → (Abs.frz F H o).own := by
    intro o' o h hs
    rcases hob o' with ⟨e, _⟩ | e | ⟨hn, _⟩ | ⟨o2, ho2, hc⟩
    · rw [e] at h; exact h.elim
    · rw [e] at h; exact h.elim
    · rw [hn] at hs; cases hs
    · rw [hs] at ho2; cases ho2
      cases hx : H' o' with
      | box cs' => rw [hx] at hc; obtain ⟨cs, e, _⟩ := hc; rw [e]; trivial
      | arr sz es => rw [hx] at hc; rw [show Abs.frz F H o = .arr sz es from hc]; trivial
      | _ => rw [hx] at h; exact h.elim
  refine ⟨h1.os, h1.tape, h1.output, h1.size, h1.block, h1.sB, h1.sN, fun o' b hb => by obtain ⟨o, _, h⟩ := hμ hb; exact hr.mB o b h, fun o' => ?_, fun o1 o2 b g1 g2 k1 k2 => ?_⟩
  · rcases hob o' with ⟨e, hn⟩ | e | ⟨hn, sz, hz, e⟩ | ⟨o, ho, hc⟩
    · rw [e]; simp [ObR, Ctx.ren, hn]
    · rw [e]; trivial
    · rw [e]; exact ⟨hz, by simp, .inl ⟨by simp [Ctx.ren, hn], rfl⟩⟩
    · have hsrc := h1.ob o
      cases hx : H' o' with
      | fresh => rw [hx] at hc; exact hc.elim
      | dead => trivial
      | box cs' =>
        rw [hx] at hc
        obtain ⟨cs, e, hl, hone⟩ := hc
        rw [e] at hsrc
        obtain ⟨b, row, ty, a1, a2, a3, a4, a5, a6, a7⟩ := hsrc
        -- the cells, under the context ahead of the freeze
        have hH : H o = .box cs := by
          simp only [Abs.frz] at e
          split at e
          · split at e
            · cases e
            · exact e
          · exact e
        obtain ⟨b', row', ty', c1, c2, c3, c4, c5, c6, c7⟩ := hr.get hH
        have hbb : b' = b := by have : K.μ o = some b := a1; rw [c1] at this; simpa using this
        subst hbb
        have hrr : row' = row := by have : K.w.heap[b']? = some (.cells row ty (0, 0)) := a2; rw [c2] at this; simp at this; exact this.1
        subst hrr
        obtain ⟨q1, q2⟩ := cvL_ok (f := fun j => row'.getD j undef) hr hl c4
        exact ⟨b', row', ty, by simp [Ctx.ren, ho, c1], a2, by omega, q2, fun d hd => List.all_eq_true.1 hone d hd, a6, a7⟩
      | arr sz es =>
        rw [hx] at hc
        rw [show Abs.frz F H o = .arr sz es from hc] at hsrc
        obtain ⟨a1, a2, a3⟩ := hsrc
        refine ⟨a1, a2, ?_⟩
        rcases a3 with ⟨a3, a4⟩ | ⟨b, row, ty, c1, c2, c3, c4, c5, c6⟩
        · exact .inl ⟨by simp only [Ctx.ren, ho, Option.bind_some]; exact a3, a4⟩
        · exact .inr ⟨b, row, ty, by simp only [Ctx.ren, ho, Option.bind_some]; exact c1, c2, c3, c4, c5, c6⟩
      | fz sz es =>
        rw [hx] at hc
        rw [show Abs.frz F H o = .fz sz es from hc] at hsrc
        obtain ⟨a1, a2, a3⟩ := hsrc
        refine ⟨a1, a2, ?_⟩
        rcases a3 with ⟨a3, a4⟩ | ⟨b, f, c1, c2, c3⟩
        · exact .inl ⟨by simp only [Ctx.ren, ho, Option.bind_some]; exact a3, a4⟩
        · exact .inr ⟨b, f, by simp only [Ctx.ren, ho, Option.bind_some]; exact c1, c2, c3⟩
  · obtain ⟨p1, e1, m1⟩ := hμ k1
    obtain ⟨p2, e2, m2⟩ := hμ k2
    have : p1 = p2 := h1.inj p1 p2 b (hown g1 e1) (hown g2 e2) m1 m2
    subst this
    exact hinj o1 o2 p1 g1 g2 e1 e2

theorem Ext.ren (hE : Ext E0 K) (hs : ∀ o b, E0.μ o = some b → s o = some o) : Ext E0 (K.ren H F s) :=
  ⟨fun b h => .inl (hE.S b h), hE.cell, fun o b h => by simp [Ctx.ren, hs o b h, hE.μ o b h], hE.row⟩

theorem lk_mem {α : Type} {l : List (Nat × α)} {d : α} {i : Nat} : (∃ p ∈ l, p.1 = i ∧ lk l d i = p.2) ∨ ((∀ p ∈ l, p.1 ≠ i) ∧ lk l d i = d) := by
  induction l with
  | nil => exact .inr ⟨by simp, rfl⟩
  | cons p t ih =>
    obtain ⟨j, x⟩ := p
    by_cases h : i = j
    · subst h; exact .inl ⟨(i, x), by simp, rfl, by simp [lk]⟩
    · simp only [lk, if_neg h]
      rcases ih with ⟨p, hp, h1, h2⟩ | ⟨h1, h2⟩
      · exact .inl ⟨p, by simp [hp], h1, h2⟩
      · refine .inr ⟨fun p hp => ?_, h2⟩
        rcases List.mem_cons.1 hp with rfl | hp
        · exact fun e => h e.symm
        · exact h1 p hp

/-- Where a number comes from. -/
def srcOf (src : List (Nat × Nat)) (o : Nat) : Option Nat := if o < 100 then some o else lk (src.map fun p => (p.1, some p.2)) none o

/-- What must hold of the objects that are told. -/
def objOk (H : Nat → Ob) (F : List Nat) (s : Nat → Option Nat) (p : Nat × Ob) : Prop :=
  match s p.1 with
  | some o => cvO H F s (Abs.frz F H o) p.2
  | none => ∃ sz, 0 < sz ∧ p.2 = .arr sz []

theorem le_stOf {n : Nat} {σ : St} (slots : List (Nat × D)) (objs : List (Nat × Ob)) (F : List Nat) (src : List (Nat × Nat))
    (hs : ∀ p ∈ slots, cv σ.H F (srcOf src) (σ.sl p.1) p.2) (ho : ∀ p ∈ objs, objOk σ.H F (srcOf src) p)
    (hk : (src.all fun p => objs.any fun q => q.1 == p.1) = true) (hinj : (src.all fun p => (decide (100 ≤ p.2) || objs.all fun q => q.1 != p.2) && src.all fun q => p.2 != q.2 || p.1 == q.1) = true) : LE n σ (stOf slots objs) := by
  rintro K0 E0 T a w ⟨K, rfl, hE, h100, hr, hsl, hd, hn⟩
  refine ⟨K.ren σ.H F (srcOf src), rfl, Ext.ren hE (fun o b hb => ?_), h100, hr.ren (fun o' => ?_) (fun o1 o2 o g1 g2 k1 k2 => ?_), fun i => ?_, hd, hn⟩
  · by_cases h : o < 100
    · simp [srcOf, h]
    · rw [h100 o (by omega)] at hb; cases hb
  · show _ ∨ _ ∨ _ ∨ _
    simp only [stOf, hO]
    rcases lk_mem (l := objs) (d := if o' < 100 then Ob.dead else Ob.fresh) (i := o') with ⟨p, hp, rfl, h2⟩ | ⟨h1, h2⟩
    · rw [h2]
      have := ho p hp
      simp only [objOk] at this
      split at this
      · rename_i o hso; exact .inr (.inr (.inr ⟨o, hso, this⟩))
      · rename_i hso; exact .inr (.inr (.inl ⟨hso, this⟩))
    · rw [h2]
      by_cases h : o' < 100
      · rw [if_pos h]; exact .inr (.inl rfl)
      · rw [if_neg h]
        refine .inl ⟨rfl, ?_⟩
        simp only [srcOf, if_neg h]
        rcases lk_mem (l := src.map fun p => (p.1, some p.2)) (d := none) (i := o') with ⟨p, hp, e1, e2⟩ | ⟨_, e2⟩
        · obtain ⟨q, hq, rfl⟩ := List.mem_map.1 hp
          have := List.all_eq_true.1 hk q hq
          obtain ⟨r, hr1, hr2⟩ := List.any_eq_true.1 this
          exact absurd ((by simpa using hr2 : r.1 = q.1).trans e1) (h1 r hr1)
        · exact e2
  · have key : ∀ {o1}, srcOf src o1 = some o → (o1 < 100 ∧ o = o1) ∨ (¬ o1 < 100 ∧ ∃ p ∈ src, p.1 = o1 ∧ p.2 = o) := by
      intro o1 h
      simp only [srcOf] at h
      split at h
      · rename_i hl; exact .inl ⟨hl, by simpa using h.symm⟩
      · rename_i hl
        rcases lk_mem (l := src.map fun p => (p.1, some p.2)) (d := none) (i := o1) with ⟨p, hp, e1, e2⟩ | ⟨_, e2⟩
        · obtain ⟨q, hq, rfl⟩ := List.mem_map.1 hp
          rw [e2] at h
          exact .inr ⟨hl, q, hq, e1, by simpa using h⟩
        · rw [e2] at h; cases h
    have low : ∀ {o1 : Nat} {p : Nat × Nat}, p ∈ src → o1 < 100 → p.2 = o1 → ¬ (hO objs o1).own := by
      intro o1 p hp hlt he hown
      have := List.all_eq_true.1 hinj p hp
      simp only [Bool.and_eq_true, Bool.or_eq_true, decide_eq_true_eq] at this
      rcases this.1 with h | h
      · omega
      · simp only [hO] at hown
        rcases lk_mem (l := objs) (d := if o1 < 100 then Ob.dead else Ob.fresh) (i := o1) with ⟨q, hq, e1, e2⟩ | ⟨_, e2⟩
        · have := List.all_eq_true.1 h q hq
          rw [he] at this
          simp at this; exact this e1
        · rw [e2, if_pos hlt] at hown; exact hown.elim
    rcases key k1 with ⟨a1, rfl⟩ | ⟨a1, p, hp, rfl, rfl⟩ <;> rcases key k2 with ⟨a2, e2⟩ | ⟨a2, q, hq, rfl, e2⟩
    · omega
    · exact absurd g1 (low hq a1 e2)
    · exact absurd g2 (low hp a2 e2)
    · have := List.all_eq_true.1 hinj p hp
      simp only [Bool.and_eq_true] at this
      have := List.all_eq_true.1 this.2 q hq
      simp only [Bool.or_eq_true, bne_iff_ne, beq_iff_eq] at this
      rcases this with h | h
      · exact absurd e2.symm h
      · exact h
  · simp only [stOf]
    rcases lk_mem (l := slots) (d := D.any) (i := i) with ⟨p, hp, rfl, h2⟩ | ⟨_, h2⟩
    · rw [h2]; exact cv_ok hr (hsl p.1) (hs p hp)
    · rw [h2]; exact .any _

/-- The caller's objects behind a call: those that are told; of the others that were there nothing. -/
def hOf (H0 : Nat → Ob) (objs : List (Nat × Ob)) : Nat → Ob := fun o => lk objs (match H0 o with | .fresh => .fresh | _ => .dead) o
theorem hOf_noH : hOf noH [] = noH := rfl
def srcR (H0 : Nat → Ob) (src : List (Nat × Nat)) (o : Nat) : Option Nat := match H0 o with | .fresh => lk (src.map fun p => (p.1, some p.2)) none o | _ => some o

theorem ler_of {H0 : Nat → Ob} {d r : D} (objs : List (Nat × Ob)) (F : List Nat) (src : List (Nat × Nat)) (hv : cv H F (srcR H0 src) d r) (ho : ∀ p ∈ objs, objOk H F (srcR H0 src) p)
    (hk : (src.all fun p => objs.any fun q => q.1 == p.1) = true) (hf : ∀ p ∈ src, H0 p.2 = .fresh) (hinj : (src.all fun p => src.all fun q => p.2 != q.2 || p.1 == q.1) = true) : LER H0 d H r (hOf H0 objs) := by
  intro K0 E0 T K v hE h0 hr hvd
  have hid : ∀ o, H0 o ≠ .fresh → srcR H0 src o = some o := by
    intro o h
    cases e : H0 o <;> simp [srcR, e]
    exact absurd e h
  have hlk : ∀ o, H0 o = .fresh → srcR H0 src o = lk (src.map fun p => (p.1, some p.2)) none o := by
    intro o h; simp [srcR, h]
  refine ⟨K.ren H F (srcR H0 src), rfl, Ext.ren hE (fun o b hb => ?_), hr.ren (fun o' => ?_) (fun o1 o2 o g1 g2 k1 k2 => ?_), cv_ok hr hvd hv⟩
  · refine hid o (fun e => ?_)
    rw [h0 o e] at hb; cases hb
  · simp only [hOf]
    rcases lk_mem (l := objs) (d := match H0 o' with | .fresh => Ob.fresh | _ => .dead) (i := o') with ⟨p, hp, rfl, h2⟩ | ⟨h1, h2⟩
    · rw [h2]
      have := ho p hp
      simp only [objOk] at this
      split at this
      · rename_i o hso; exact .inr (.inr (.inr ⟨o, hso, this⟩))
      · rename_i hso; exact .inr (.inr (.inl ⟨hso, this⟩))
    · rw [h2]
      by_cases h : H0 o' = .fresh
      · refine .inl ⟨by simp [h], ?_⟩
        rw [hlk o' h]
        rcases lk_mem (l := src.map fun p => (p.1, some p.2)) (d := none) (i := o') with ⟨p, hp, e1, e2⟩ | ⟨_, e2⟩
        · obtain ⟨q, hq, rfl⟩ := List.mem_map.1 hp
          have := List.all_eq_true.1 hk q hq
          obtain ⟨r, hr1, hr2⟩ := List.any_eq_true.1 this
          exact absurd ((by simpa using hr2 : r.1 = q.1).trans e1) (h1 r hr1)
        · exact e2
      · refine .inr (.inl ?_)
        split
        · rename_i e; exact absurd e h
        · rfl
  · have key : ∀ {o1}, srcR H0 src o1 = some o → (H0 o1 ≠ .fresh ∧ o = o1) ∨ (H0 o = .fresh ∧ ∃ p ∈ src, p.1 = o1 ∧ p.2 = o) := by
      intro o1 h
      by_cases hf1 : H0 o1 = .fresh
      · rw [hlk o1 hf1] at h
        rcases lk_mem (l := src.map fun p => (p.1, some p.2)) (d := none) (i := o1) with ⟨p, hp, e1, e2⟩ | ⟨_, e2⟩
        · obtain ⟨q, hq, rfl⟩ := List.mem_map.1 hp
          rw [e2] at h
          have : q.2 = o := by simpa using h
          exact .inr ⟨by rw [← this]; exact hf q hq, q, hq, e1, this⟩
        · rw [e2] at h; cases h
      · rw [hid o1 hf1] at h; exact .inl ⟨hf1, by simpa using h.symm⟩
    rcases key k1 with ⟨a1, rfl⟩ | ⟨a1, p, hp, rfl, rfl⟩ <;> rcases key k2 with ⟨a2, e2⟩ | ⟨a2, q, hq, rfl, e2⟩
    · exact e2
    · exact absurd a2 a1
    · exact absurd a1 (by rw [e2]; exact a2)
    · have := List.all_eq_true.1 hinj p hp
      have := List.all_eq_true.1 this q hq
      simp only [Bool.or_eq_true, bne_iff_ne, beq_iff_eq] at this
      rcases this with h | h
      · exact absurd e2.symm h
      · exact h

/-- A result without objects. -/
theorem ler_pure {d r : D} (F : List Nat) (hv : cv H F (fun _ => none) d r) : LER noH d H r noH := by
  have := ler_of (H0 := noH) (H := H) (d := d) (r := r) [] F [] hv (by simp) rfl (by simp) rfl
  exact this
end
end Go.Abs
