/- Regions that draw their order, walked in the text's order. -/
import Derived.Test.YtbclmpdgkeoioaaAbsQ
set_option linter.all false
namespace Go.Abs
open Go Go.RowKit

def agree (fp : List Nat) (G H : Nat → Ob) : Prop := ∀ k ∈ fp, G k = H k

/-- What an operation did: its value, the numbers it touched, those it changed, and how. -/
structure Eff where
  d : D
  fp : List Nat
  wr : List Nat
  u : (Nat → Ob) → (Nat → Ob)

structure Eff.Loc (x : Eff) : Prop where
  sub : ∀ k ∈ x.wr, k ∈ x.fp
  out : ∀ G k, k ∉ x.wr → x.u G k = G k
  same : ∀ G G', agree x.fp G G' → agree x.wr (x.u G) (x.u G')

def Does (P : Program) (rid k : Nat) (o : Oper) (sl : Nat → D) (G : Nat → Ob) (d : D) (G' : Nat → Ob) : Prop :=
  match callOf o.op with
  | some (f, args) => ∃ g caps, evA sl f = .fn g caps ∧ CallX P g (args.toList.map (evA sl) ++ caps) G d G'
  | none => opA P sl G (opid rid k) o.op = some (d, G')

def dstOf (ops : Array Oper) (k : Nat) : Option Nat := (ops[k]?).bind (·.dst)

def StepL (P : Program) (n rid : Nat) (ops : Array Oper) (k : Nat) (σ : St) (x : Eff) : Prop :=
  ∃ o, ops[k]? = some o ∧ dstOk n o.dst = true ∧ x.Loc ∧ ((wantA ops σ.sl o.guard = some false ∧ x.d = .un ∧ x.wr = []) ∨ (wantA ops σ.sl o.guard = some true ∧ ∀ G, agree x.fp G σ.H → Does P rid k o σ.sl G x.d (x.u G)))

def applyE (ops : Array Oper) (k : Nat) (x : Eff) (σ : St) : St := St.put ⟨σ.sl, x.u σ.H⟩ (dstOf ops k) x.d

def ChainE (P : Program) (n rid : Nat) (ops : Array Oper) : List (Nat × Eff) → St → St → Prop
  | [], σ, σ' => σ = σ'
  | (k, x) :: t, σ, σ' => StepL P n rid ops k σ x ∧ ChainE P n rid ops t (applyE ops k x σ) σ'

/-- May two operations change places? By their slots. -/
def slotsApart (ops : Array Oper) (i j : Nat) : Bool :=
  match ops[i]?, ops[j]? with
  | some a, some b =>
    (match a.dst with | some t => !(Oper.looksAt ops b).contains t | none => true) && (match b.dst with | some t => !(Oper.looksAt ops a).contains t | none => true) &&
    (match a.dst, b.dst with | some s, some t => s != t | _, _ => true)
  | _, _ => false

/-- .. and by what they touch. -/
def apart (fi wi fj wj : List Nat) : Bool := (wi.all fun k => !fj.contains k) && (wj.all fun k => !fi.contains k)

def ancF (ops : Array Oper) : Nat → Nat → List Nat
  | 0, _ => []
  | f + 1, i => match ops[i]? with
    | some o => (o.after.toList.filter (Region.binds .any)).flatMap fun e => e.on :: ancF ops f e.on
    | none => []

/-- The edges lead back. -/
def edgesOk (ops : Array Oper) : Bool := (List.range ops.size).all fun i => match ops[i]? with
  | some o => o.after.all fun e => !Region.binds .any e || decide (e.on < i)
  | none => true

/-- What was touched allows any order. 'acc': the last operation first. -/
def freeOk (ops : Array Oper) : List (Nat × List Nat × List Nat) → Bool
  | [] => true
  | (j, fj, wj) :: t => (t.all fun (i, fi, wi) => (ancF ops ops.size j).contains i || (slotsApart ops i j && apart fi wi fj wj)) && freeOk ops t

/-- A call, told by what it touches. -/
def CallE (P : Program) (g : FuncId) (ds : List D) (H : Nat → Ob) (x : Eff) : Prop := x.Loc ∧ ∀ G, agree x.fp G H → CallX P g ds G x.d (x.u G)

def awD (P : Program) (n rid : Nat) (ops : Array Oper) : List Nat → St → List (Nat × List Nat × List Nat) → (St → Prop) → Prop
  | [], σ, acc, Q => (edgesOk ops && freeOk ops acc) = true ∧ Q σ
  | k :: rest, σ, acc, Q => match ops[k]? with
    | none => False
    | some o => match wantA ops σ.sl o.guard with
      | none => False
      | some b => dstOk n o.dst = true ∧ (b = false → awD P n rid ops rest (σ.put o.dst .un) ((k, [], []) :: acc) Q) ∧ (b = true →
        match callOf o.op with
        | some (f, args) => match evA σ.sl f with
          | .fn g caps => ∃ x, CallE P g (args.toList.map (evA σ.sl) ++ caps) σ.H x ∧ awD P n rid ops rest (St.put ⟨σ.sl, x.u σ.H⟩ o.dst x.d) ((k, x.fp, x.wr) :: acc) Q
          | _ => False
        | none => ∃ d H', opA P σ.sl σ.H (opid rid k) o.op = some (d, H') ∧ awD P n rid ops rest (St.put ⟨σ.sl, H'⟩ o.dst d) ((k, (match opQ P σ.sl σ.H o.op with | some _ => ([], []) | none => fpA σ.sl (opid rid k) o.op)) :: acc) Q)

def drA (P : Program) (n : Nat) (id : Nat) (ops : Array Oper) (σ : St) (Q : St → Prop) : Prop := P.follows .mixedOrders = true ∧ awD P n id ops (List.range ops.size) σ [] Q

section
variable {P : Program} {n rid : Nat} {ops : Array Oper}

theorem fpA_sub (sl : Nat → D) (id : Nat) (op : Op) : ∀ k ∈ (fpA sl id op).2, k ∈ (fpA sl id op).1 := by
  intro k hk
  have key : ∀ (p : List Nat × List Nat), fpA sl id op = p → ((p.1 = p.2) ∨ p.2 = [] ∨ ∃ s x : D, p = (id :: s.ids1 ++ x.ids1, id :: s.ids1)) := by
    intro p hp
    by_cases hc : ∃ s d x, op = .convert s d x
    · obtain ⟨s, d, x, rfl⟩ := hc
      subst hp
      by_cases e : s = d
      · exact .inl (by simp [fpA, e])
      · exact .inr (.inl (by simp [fpA, e]))
    unfold fpA at hp
    split at hp <;> (try (subst hp; first | exact .inl rfl | exact .inr (.inl rfl) | exact absurd ⟨_, _, _, rfl⟩ hc))
    split at hp
    · subst hp; exact .inr (.inr ⟨_, _, rfl⟩)
    · subst hp; exact .inl rfl
  rcases key _ rfl with h | h | ⟨s, x, h⟩
  · rw [h]; exact hk
  · rw [h] at hk; simp at hk
  · rw [h] at hk ⊢
    simp only [List.mem_cons, List.mem_append, List.cons_append] at hk ⊢
    rcases hk with h | h
    · exact .inl h
    · exact .inr (.inl h)

/-- An operation's effect. -/
theorem opA_eff {sl : Nat → D} {H H' : Nat → Ob} {id : Nat} {op : Op} {d : D} (h : opA P sl H id op = some (d, H')) :
    ∃ x : Eff, x.Loc ∧ x.d = d ∧ x.u H = H' ∧ (x.fp, x.wr) = (match opQ P sl H op with | some _ => ([], []) | none => fpA sl id op) ∧ ∀ G, agree x.fp G H → opA P sl G id op = some (d, x.u G) := by
  cases hq : opQ P sl H op with
  | some d' =>
    simp only [opA, hq, Option.some.injEq, Prod.mk.injEq] at h
    obtain ⟨rfl, rfl⟩ := h
    refine ⟨⟨d', [], [], fun G => G⟩, ⟨by simp, fun _ _ _ => rfl, fun _ _ _ k hk => by simp at hk⟩, rfl, rfl, rfl, fun G _ => ?_⟩
    have : opQ P sl G op = some d' := hq
    simp [opA, this]
  | none =>
    have h' : opH P sl H id op = some (d, H') := by simpa [opA, hq] using h
    have hqG : ∀ G, opQ P sl G op = none := fun G => hq
    have hval : ∀ G, agree (fpA sl id op).1 G H → Loc (fpA sl id op).1 (fpA sl id op).2 H G H' (opH P sl G id op) d := fun G hg => opH_local hg h'
    let u : (Nat → Ob) → (Nat → Ob) := fun G => fun k => if (fpA sl id op).2.contains k then H' k else G k
    have hu : ∀ G, agree (fpA sl id op).1 G H → opH P sl G id op = some (d, u G) := by
      intro G hg
      obtain ⟨G', h1, h2, h3, h4⟩ := hval G hg
      rw [h1]
      congr 2
      funext k
      by_cases hk : k ∈ (fpA sl id op).2
      · simp [u, hk, h2 k hk]
      · simp [u, hk, h3 k hk]
    have hsub : ∀ k ∈ (fpA sl id op).2, k ∈ (fpA sl id op).1 := by
      exact fpA_sub sl id op
    have hself : u H = H' := by
      have h1 := hu H (fun _ _ => rfl)
      rw [h'] at h1
      simp at h1; exact h1.symm
    refine ⟨⟨d, (fpA sl id op).1, (fpA sl id op).2, u⟩, ⟨hsub, fun G k hk => by simp [u, hk], fun G G' _ k hk => by simp [u, hk]⟩, rfl, hself, rfl, fun G hg => ?_⟩
    simp [opA, hqG, hu G hg]

theorem looks_op {o : Oper} {t : Nat} {x : Operand} (hx : x ∈ o.op.operands) (ht : x = .tmp t) : t ∈ Oper.looksAt ops o := by
  subst ht
  simp only [Oper.looksAt, List.mem_append, List.mem_filterMap]
  exact .inl ⟨.tmp t, by simpa using hx, rfl⟩
theorem looks_guard {o : Oper} {j t : Nat} {w : Bool} (hg : o.guard = some (j, w)) (ht : (ops[j]?).bind (·.dst) = some t) : t ∈ Oper.looksAt ops o := by
  simp only [Oper.looksAt, List.mem_append]
  exact .inr (by simp [hg, ht])

theorem evA_put {σ : St} {H' : Nat → Ob} {o : Oper} {dst : Option Nat} {d : D} (hn : ∀ t, dst = some t → t ∉ Oper.looksAt ops o) {x : Operand} (hx : x ∈ o.op.operands) : evA (St.put ⟨σ.sl, H'⟩ dst d).sl x = evA σ.sl x := by
  cases x with
  | tmp t =>
    cases dst with
    | none => rfl
    | some s =>
      simp only [St.put, evA]
      exact upd_ne _ _ (fun e => hn s rfl (by rw [← e]; exact looks_op hx rfl))
  | _ => rfl

theorem wantA_put {σ : St} {H' : Nat → Ob} {o : Oper} {dst : Option Nat} {d : D} (hn : ∀ t, dst = some t → t ∉ Oper.looksAt ops o) : wantA ops (St.put ⟨σ.sl, H'⟩ dst d).sl o.guard = wantA ops σ.sl o.guard := by
  cases hg : o.guard with
  | none => rfl
  | some p =>
    obtain ⟨j, w⟩ := p
    simp only [wantA]
    cases ht : (ops[j]?).bind (·.dst) with
    | none => rfl
    | some t =>
      cases dst with
      | none => rfl
      | some s =>
        simp only [St.put]
        rw [upd_ne _ _ (fun e => hn s rfl (by rw [← e]; exact looks_guard hg ht))]

theorem Does_congr {k : Nat} {o : Oper} {sl sl' : Nat → D} {G G' : Nat → Ob} {d : D} (h : ∀ x ∈ o.op.operands, evA sl x = evA sl' x) (hd : Does P rid k o sl G d G') : Does P rid k o sl' G d G' := by
  simp only [Does] at hd ⊢
  split at hd
  · rename_i f args hc
    obtain ⟨tys, hop⟩ := callOf_some hc
    obtain ⟨g, caps, h1, h2⟩ := hd
    have hf := h f (by simp [hop, Op.operands, Call.operands])
    have ha : args.toList.map (evA sl) = args.toList.map (evA sl') := args_congr fun x hx => h x (by simp [hop, Op.operands, Call.operands, hx])
    exact ⟨g, caps, by rw [← hf]; exact h1, by rw [← ha]; exact h2⟩
  · rw [← opA_congr (P := P) (H := G) (opid rid k) h]; exact hd

theorem St.ext' {a b : St} (h1 : a.sl = b.sl) (h2 : a.H = b.H) : a = b := by cases a; cases b; simp at *; exact ⟨h1, h2⟩
theorem put_sl (sl : Nat → D) (H H' : Nat → Ob) (dst : Option Nat) (d : D) : (St.put ⟨sl, H⟩ dst d).sl = (St.put ⟨sl, H'⟩ dst d).sl := by cases dst <;> rfl
theorem put_H (sl : Nat → D) (H : Nat → Ob) (dst : Option Nat) (d : D) : (St.put ⟨sl, H⟩ dst d).H = H := by cases dst <;> rfl

/-- TWO THAT DO NOT TOUCH CHANGE PLACES. -/
theorem swap {i j : Nat} {x y : Eff} {σ : St} (h1 : StepL P n rid ops i σ x) (h2 : StepL P n rid ops j (applyE ops i x σ) y) (hs : slotsApart ops i j = true) (ha : apart x.fp x.wr y.fp y.wr = true) :
    StepL P n rid ops j σ y ∧ StepL P n rid ops i (applyE ops j y σ) x ∧ applyE ops i x (applyE ops j y σ) = applyE ops j y (applyE ops i x σ) := by
  obtain ⟨a, ha1, ha2, hlx, ha3⟩ := h1
  obtain ⟨b, hb1, hb2, hly, hb3⟩ := h2
  have hda : dstOf ops i = a.dst := by simp [dstOf, ha1]
  have hdb : dstOf ops j = b.dst := by simp [dstOf, hb1]
  simp only [slotsApart, ha1, hb1, Bool.and_eq_true] at hs
  obtain ⟨⟨s1, s2⟩, s3⟩ := hs
  have n1 : ∀ t, a.dst = some t → t ∉ Oper.looksAt ops b := fun t ht => by rw [ht] at s1; simpa using s1
  have n2 : ∀ t, b.dst = some t → t ∉ Oper.looksAt ops a := fun t ht => by rw [ht] at s2; simpa using s2
  simp only [apart, Bool.and_eq_true, List.all_eq_true] at ha
  obtain ⟨p1, p2⟩ := ha
  have q1 : ∀ k ∈ x.wr, k ∉ y.fp := fun k hk => by simpa using p1 k hk
  have q2 : ∀ k ∈ y.wr, k ∉ x.fp := fun k hk => by simpa using p2 k hk
  have g1 : agree y.fp σ.H (x.u σ.H) := fun k hk => (hlx.out σ.H k (fun hw => q1 k hw hk)).symm
  have g2 : agree x.fp σ.H (y.u σ.H) := fun k hk => (hly.out σ.H k (fun hw => q2 k hw hk)).symm
  simp only [applyE, hda] at hb3
  refine ⟨⟨b, hb1, hb2, hly, ?_⟩, ⟨a, ha1, ha2, hlx, ?_⟩, ?_⟩
  · rcases hb3 with ⟨w, e1, e2⟩ | ⟨w, hd⟩
    · exact .inl ⟨by rw [wantA_put n1] at w; exact w, e1, e2⟩
    · refine .inr ⟨by rw [wantA_put n1] at w; exact w, fun G hG => ?_⟩
      refine Does_congr (fun z hz => evA_put n1 hz) (hd G fun k hk => ?_)
      rw [put_H, hG k hk]; exact g1 k hk
  · rcases ha3 with ⟨w, e1, e2⟩ | ⟨w, hd⟩
    · exact .inl ⟨by simp only [applyE, hdb]; rw [wantA_put n2]; exact w, e1, e2⟩
    · refine .inr ⟨by simp only [applyE, hdb]; rw [wantA_put n2]; exact w, fun G hG => ?_⟩
      refine Does_congr (fun z hz => by simp only [applyE, hdb]; exact (evA_put n2 hz).symm) (hd G fun k hk => ?_)
      rw [hG k hk]; simp only [applyE, hdb, put_H]; exact (g2 k hk).symm
  · have hH : x.u (y.u σ.H) = y.u (x.u σ.H) := by
      funext k
      by_cases hx : k ∈ x.wr
      · rw [hly.out _ k (fun hy => q1 k hx (hly.sub k hy))]
        exact (hlx.same _ _ g2 k hx).symm
      · rw [hlx.out _ k hx]
        by_cases hy : k ∈ y.wr
        · exact hly.same _ _ g1 k hy
        · rw [hly.out _ k hy, hly.out _ k hy, hlx.out _ k hx]
    refine St.ext' ?_ ?_
    · simp only [applyE, hda, hdb]
      cases ea : a.dst with
      | none =>
        cases eb : b.dst with
        | none => rfl
        | some t => simp only [St.put]
      | some s =>
        cases eb : b.dst with
        | none => simp only [St.put]
        | some t =>
          rw [ea, eb] at s3
          have hst : s ≠ t := by simpa using s3
          simp only [St.put]
          funext k
          by_cases e1 : k = s
          · subst e1; rw [upd_same, upd_ne _ _ hst, upd_same]
          · by_cases e2 : k = t
            · subst e2; rw [upd_ne _ _ e1, upd_same, upd_same]
            · rw [upd_ne _ _ e1, upd_ne _ _ e2, upd_ne _ _ e2, upd_ne _ _ e1]
    · simp only [applyE, put_H]; exact hH

theorem front {i : Nat} {x : Eff} {post : List (Nat × Eff)} {σ' : St} : ∀ {pre : List (Nat × Eff)} {σ : St}, ChainE P n rid ops (pre ++ (i, x) :: post) σ σ' → (∀ p ∈ pre, slotsApart ops p.1 i = true ∧ apart p.2.fp p.2.wr x.fp x.wr = true) →
    ChainE P n rid ops ((i, x) :: (pre ++ post)) σ σ'
  | [], σ, h, _ => h
  | (k, y) :: pre, σ, h, hp => by
    obtain ⟨h1, h2⟩ := h
    obtain ⟨h3, h4⟩ := front h2 (fun p hp' => hp p (by simp [hp']))
    obtain ⟨e1, e2⟩ := hp (k, y) (by simp)
    obtain ⟨g1, g2, g3⟩ := swap h1 h3 e1 e2
    exact ⟨g1, g2, by rw [g3]; exact h4⟩

/-- In the text's order all was walked: a chain. -/
theorem awD_chain {Q : St → Prop} : ∀ (l : List Nat) (σ : St) (acc : List (Nat × List Nat × List Nat)), awD P n rid ops l σ acc Q →
    ∃ (c : List (Nat × Eff)) (σ' : St), c.map (·.1) = l ∧ ChainE P n rid ops c σ σ' ∧ Q σ' ∧ edgesOk ops = true ∧ freeOk ops ((c.map fun p => (p.1, p.2.fp, p.2.wr)).reverse ++ acc) = true
  | [], σ, acc, h => by
    simp only [awD, Bool.and_eq_true] at h
    exact ⟨[], σ, rfl, rfl, h.2, h.1.1, by simpa using h.1.2⟩
  | k :: rest, σ, acc, h => by
    simp only [awD] at h
    have fin : ∀ (x : Eff) (o : Oper), ops[k]? = some o → StepL P n rid ops k σ x → awD P n rid ops rest (applyE ops k x σ) ((k, x.fp, x.wr) :: acc) Q → ∃ (c : List (Nat × Eff)) (σ' : St), c.map (·.1) = k :: rest ∧ ChainE P n rid ops c σ σ' ∧ Q σ' ∧ edgesOk ops = true ∧ freeOk ops ((c.map fun p => (p.1, p.2.fp, p.2.wr)).reverse ++ acc) = true := by
      intro x o ho hs hw
      obtain ⟨c, σ', c1, c2, c3, c4, c5⟩ := awD_chain rest _ _ hw
      exact ⟨(k, x) :: c, σ', by simp [c1], ⟨hs, c2⟩, c3, c4, by simpa using c5⟩
    split at h
    · exact h.elim
    · rename_i o ho
      have hdst : dstOf ops k = o.dst := by simp [dstOf, ho]
      split at h
      · exact h.elim
      · rename_i b hb
        obtain ⟨hd, hf, ht⟩ := h
        cases b with
        | false =>
          refine fin ⟨.un, [], [], fun G => G⟩ o ho ⟨o, ho, hd, ⟨by simp, fun _ _ _ => rfl, fun _ _ _ k hk => by simp at hk⟩, .inl ⟨hb, rfl, rfl⟩⟩ ?_
          have := hf rfl
          simp only [applyE, hdst]; exact this
        | true =>
          have ht := ht rfl
          split at ht
          · rename_i f args hc
            split at ht
            · rename_i g caps hfn
              obtain ⟨x, ⟨hl, hx⟩, hw⟩ := ht
              refine fin x o ho ⟨o, ho, hd, hl, .inr ⟨hb, fun G hG => ?_⟩⟩ (by simp only [applyE, hdst]; exact hw)
              simp only [Does, hc]
              exact ⟨g, caps, hfn, hx G hG⟩
            · exact ht.elim
          · rename_i hc
            obtain ⟨d, H', hop, hw⟩ := ht
            obtain ⟨x, x1, rfl, rfl, x4, x5⟩ := opA_eff hop
            refine fin x o ho ⟨o, ho, hd, x1, .inr ⟨hb, fun G hG => ?_⟩⟩ (by simp only [applyE, hdst]; rw [x4]; exact hw)
            simp only [Does, hc]
            exact x5 G hG

theorem freeOk_pair : ∀ {c : List (Nat × Eff)}, freeOk ops ((c.map fun p => (p.1, p.2.fp, p.2.wr)).reverse) = true → ∀ (pre : List (Nat × Eff)) (i : Nat) (x : Eff) (post : List (Nat × Eff)), c = pre ++ (i, x) :: post →
    ∀ p ∈ pre, p.1 ∈ ancF ops ops.size i ∨ (slotsApart ops p.1 i = true ∧ apart p.2.fp p.2.wr x.fp x.wr = true) := by
  intro c h pre i x post hc p hp
  subst hc
  rw [List.map_append, List.map_cons, List.reverse_append, List.reverse_cons, List.append_assoc] at h
  have key : ∀ (l : List (Nat × List Nat × List Nat)) (j : Nat) (fj wj : List Nat) (t : List (Nat × List Nat × List Nat)), freeOk ops (l ++ (j, fj, wj) :: t) = true → ∀ q ∈ t, q.1 ∈ ancF ops ops.size j ∨ (slotsApart ops q.1 j = true ∧ apart q.2.1 q.2.2 fj wj = true) := by
    intro l
    induction l with
    | nil =>
      intro j fj wj t h q hq
      simp only [List.nil_append, freeOk, Bool.and_eq_true, List.all_eq_true] at h
      have := h.1 q hq
      simpa using this
    | cons a l ih =>
      intro j fj wj t h q hq
      obtain ⟨a1, a2, a3⟩ := a
      simp only [List.cons_append, freeOk, Bool.and_eq_true] at h
      exact ih j fj wj t h.2 q hq
  exact key _ i x.fp x.wr _ h (p.1, p.2.fp, p.2.wr) (by simp; exact ⟨p.1, p.2, hp, rfl, rfl, rfl⟩)

theorem step_ok {K0 E0 : Ctx} {T : Nat → Prop} {k : Nat} {x : Eff} {σ : St} {a : Act} {w : World} {next : Act → World → Prop} {Q' : Exit → Act → World → Prop} (hall : ∀ (o : Oper), o ∈ ops → dstOk n o.dst = true)
    (hs : StepL P n rid ops k σ x) (hA : AR K0 E0 T n σ a w) (hK : ∀ a' w', AR K0 E0 T n (applyE ops k x σ) a' w' → next a' w') : wpOp P ops Q' k next a w := by
  obtain ⟨o, ho, hd, hl, hs⟩ := hs
  have hdst : dstOf ops k = o.dst := by simp [dstOf, ho]
  have hA' := hA
  obtain ⟨K, rfl, hE, h100, hr, hsl, hdf, hn⟩ := hA'
  unfold wpOp
  simp only [ho]
  rcases hs with ⟨hw, hdu, hwr⟩ | ⟨hw, hdo⟩
  · rw [wantA_ok hsl (by rw [hn]; exact hall) hw]
    simp only [Bool.false_eq_true, if_false]
    refine hK _ _ ?_
    have hu : x.u σ.H = σ.H := by funext k; exact hl.out σ.H k (by simp [hwr])
    simp only [applyE, hdst, hu, hdu]
    exact AR.put (σ := σ) hE h100 hr hsl hdf hn .un hd
  · rw [wantA_ok hsl (by rw [hn]; exact hall) hw]
    simp only [if_true]
    refine .inl (awOp_ok (P := P) (rid := rid) (k := k) (σ := σ) (Q := fun σ' => σ' = applyE ops k x σ) ?_ hA (fun σ' a' w' e hA' => hK a' w' (by rw [← e]; exact hA')))
    refine ⟨hd, ?_⟩
    have := hdo σ.H (fun _ _ => rfl)
    simp only [Does] at this
    split at this
    · rename_i f args hc
      obtain ⟨g, caps, h1, h2⟩ := this
      simp only [hc, h1]
      exact ⟨_, _, h2, by simp only [applyE, hdst]⟩
    · rename_i hc
      simp only [hc]
      exact ⟨_, _, this, by simp only [applyE, hdst]⟩

theorem anc_step {listed : Array Bool} (hcl : ∀ f i, listed.getD i false = true → ∀ k ∈ ancF ops f i, listed.getD k false = true) {i : Nat} (hready : ∀ (o : Oper), ops[i]? = some o → ∀ e ∈ o.after.toList, Region.binds .any e = true → listed.getD e.on false = true) :
    ∀ f, ∀ k ∈ ancF ops f i, listed.getD k false = true := by
  intro f k hk
  cases f with
  | zero => simp [ancF] at hk
  | succ f =>
    simp only [ancF] at hk
    split at hk
    · rename_i o ho
      obtain ⟨e, he, hk⟩ := List.mem_flatMap.1 hk
      simp only [List.mem_filter] at he
      have hl := hready o ho e he.1 he.2
      rcases List.mem_cons.1 hk with rfl | hk
      · exact hl
      · exact hcl f e.on hl k hk
    · simp at hk

theorem ready_mem {listed : Array Bool} {i : Nat} : i ∈ Region.ready .any ops listed ↔ i < ops.size ∧ listed.getD i true = false ∧ ∀ (o : Oper), ops[i]? = some o → ∀ e ∈ o.after.toList, Region.binds .any e = true → listed.getD e.on false = true := by
  simp only [Region.ready, List.mem_filter, List.mem_range, Bool.and_eq_true, Bool.not_eq_true']
  constructor
  · rintro ⟨h1, h2, h3⟩
    refine ⟨h1, h2, fun o ho e he hb => ?_⟩
    simp only [ho, Option.map_some, Option.getD_some] at h3
    rw [← Array.all_toList, List.all_eq_true] at h3
    have := h3 e he
    simpa [hb] using this
  · rintro ⟨h1, h2, h3⟩
    refine ⟨h1, h2, ?_⟩
    simp only [h1, getElem?_pos, Option.map_some, Option.getD_some]
    rw [← Array.all_toList, List.all_eq_true]
    intro e he
    by_cases hb : Region.binds .any e = true
    · simp [hb, h3 ops[i] (by simp [h1]) e he hb]
    · simp [hb]

theorem getD_set_ne (l : Array Bool) {i k : Nat} (h : k ≠ i) {b d : Bool} : (l.setIfInBounds i b).getD k d = l.getD k d := by
  rw [Array.getD_eq_getD_getElem?, Array.getElem?_setIfInBounds_ne (by omega), Array.getD_eq_getD_getElem?]
theorem getD_set_same (l : Array Bool) {i : Nat} (h : i < l.size) {b d : Bool} : (l.setIfInBounds i b).getD i d = b := by
  rw [Array.getD_eq_getD_getElem?, Array.getElem?_setIfInBounds_self_of_lt h]; rfl

/-- WHATEVER ORDER IS DRAWN. -/
theorem any_ok {K0 E0 : Ctx} {T : Nat → Prop} {Q' : Exit → Act → World → Prop} {σ' : St} (hall : ∀ (o : Oper), o ∈ ops → dstOk n o.dst = true) (hed : edgesOk ops = true) (hfin : ∀ a w, AR K0 E0 T n σ' a w → Q' .normal a w) :
    ∀ (fuel : Nat) (listed : Array Bool) (c : List (Nat × Eff)) (σ : St) (a : Act) (w : World), listed.size = ops.size → c.length ≤ fuel → (∀ i, i < ops.size → (listed.getD i true = false ↔ i ∈ c.map (·.1))) →
      (∀ f i, listed.getD i false = true → ∀ k ∈ ancF ops f i, listed.getD k false = true) → (c.map (·.1)).Pairwise (· < ·) → (∀ i ∈ c.map (·.1), i < ops.size) →
      freeOk ops ((c.map fun p => (p.1, p.2.fp, p.2.wr)).reverse) = true → ChainE P n rid ops c σ σ' → AR K0 E0 T n σ a w → wpAny P .any ops Q' fuel listed a w := by
  intro fuel
  induction fuel with
  | zero =>
    intro listed c σ a w hsz hlen hc hcl hsort hin hfree hch hA
    have : c = [] := List.eq_nil_of_length_eq_zero (by omega)
    subst this
    refine ⟨?_, hfin a w (by have : σ = σ' := hch; rw [← this]; exact hA)⟩
    rw [List.eq_nil_iff_forall_not_mem]
    intro i hi
    obtain ⟨h1, h2, _⟩ := ready_mem.1 hi
    have := (hc i h1).1 h2
    simp at this
  | succ fuel ih =>
    intro listed c σ a w hsz hlen hc hcl hsort hin hfree hch hA
    refine ⟨fun hre => ?_, fun i hi => ?_⟩
    · -- nothing is ready: all is done
      cases c with
      | nil => exact hfin a w (by have : σ = σ' := hch; rw [← this]; exact hA)
      | cons p t =>
        exfalso
        have hpl : p.1 < ops.size := hin p.1 (by simp)
        have : p.1 ∈ Region.ready .any ops listed := by
          refine ready_mem.2 ⟨hpl, (hc p.1 hpl).2 (by simp), fun o ho e he hb => ?_⟩
          have hE := List.all_eq_true.1 hed p.1 (List.mem_range.2 hpl)
          simp only [ho] at hE
          rw [← Array.all_toList, List.all_eq_true] at hE
          have hlt : e.on < p.1 := by have := hE e he; simpa [hb] using this
          have hnot : e.on ∉ (p :: t).map (·.1) := by
            intro hm
            simp only [List.map_cons, List.mem_cons] at hm
            rcases hm with hm | hm
            · omega
            · have h9 : p.1 < e.on := (List.pairwise_cons.1 hsort).1 e.on hm
              omega
          have h5 := (not_congr (hc e.on (by omega))).2 hnot
          have h6 : e.on < listed.size := by omega
          simp only [Array.getD, h6, dif_pos] at h5 ⊢
          simpa using h5
        rw [hre] at this
        simp at this
    · obtain ⟨h1, h2, h3⟩ := ready_mem.1 hi
      have him := (hc i h1).1 h2
      obtain ⟨⟨i', x⟩, hxm, rfl⟩ := List.mem_map.1 him
      obtain ⟨pre, post, rfl⟩ := List.append_of_mem hxm
      simp only at h1 h2 h3 hi him
      have hpair := freeOk_pair hfree pre i' x post rfl
      have hpre : ∀ p ∈ pre, slotsApart ops p.1 i' = true ∧ apart p.2.fp p.2.wr x.fp x.wr = true := by
        intro p hp
        rcases hpair p hp with hanc | h
        · exfalso
          have hl := anc_step hcl h3 _ _ hanc
          have hps : p.1 < ops.size := hin p.1 (by simp; exact .inl ⟨p.2, hp⟩)
          have := (hc p.1 hps).2 (by simp; exact .inl ⟨p.2, hp⟩)
          have h6 : p.1 < listed.size := by omega
          simp only [Array.getD, h6, dif_pos] at this hl
          rw [this] at hl; cases hl
        · exact h
      obtain ⟨hstep, hrest⟩ := front hch hpre
      refine step_ok hall hstep hA fun a' w' hA' => ?_
      have hsort' : ((pre ++ post).map (·.1)).Pairwise (· < ·) := by
        refine hsort.sublist ?_
        simp only [List.map_append, List.map_cons]
        exact List.Sublist.append (List.Sublist.refl _) (List.sublist_cons_self _ _)
      have hnd : i' ∉ (pre ++ post).map (·.1) := by
        simp only [List.map_append, List.map_cons] at hsort
        rw [List.pairwise_append] at hsort
        obtain ⟨_, s2, s3⟩ := hsort
        simp only [List.map_append, List.mem_append, not_or]
        refine ⟨fun hm => ?_, fun hm => ?_⟩
        · have := s3 i' hm i' (by simp); omega
        · have := (List.pairwise_cons.1 s2).1 i' hm; omega
      refine ih _ (pre ++ post) _ a' w' (by simp [hsz]) (by simp at hlen ⊢; omega) (fun k hk => ?_) (fun f k hk q hq => ?_) hsort' (fun k hk => hin k ?_) ?_ hrest hA'
      · have hkl : k < listed.size := by omega
        by_cases e : k = i'
        · subst e
          rw [getD_set_same _ hkl]
          constructor
          · intro hcon; simp at hcon
          · intro hm; exact absurd hm hnd
        · have := hc k hk
          rw [getD_set_ne _ e]
          rw [this]
          simp only [List.map_append, List.map_cons, List.mem_append, List.mem_cons]
          constructor
          · rintro (h | h | h)
            · exact .inl h
            · exact absurd h e
            · exact .inr h
          · rintro (h | h)
            · exact .inl h
            · exact .inr (.inr h)
      · have mono : ∀ {q}, listed.getD q false = true → (listed.setIfInBounds i' true).getD q false = true := by
          intro q hq
          rw [Array.getD_eq_getD_getElem?] at hq ⊢
          rw [Array.getElem?_setIfInBounds]
          split
          · split <;> simp
            rename_i h1 h2; omega
          · exact hq
        by_cases e : k = i'
        · subst e; exact mono (anc_step hcl h3 f q hq)
        · have : listed.getD k false = true := by
            rw [Array.getD_eq_getD_getElem?] at hk ⊢
            rw [Array.getElem?_setIfInBounds_ne (by omega)] at hk
            exact hk
          exact mono (hcl f k this q hq)
      · simp only [List.map_append, List.map_cons, List.mem_append, List.mem_cons] at hk ⊢
        rcases hk with h | h
        · exact .inl h
        · exact .inr (.inr h)
      · have sub : ∀ (l : List (Nat × List Nat × List Nat)) (y : Nat × List Nat × List Nat) (t : List (Nat × List Nat × List Nat)), freeOk ops (l ++ y :: t) = true → freeOk ops (l ++ t) = true := by
          intro l
          induction l with
          | nil => intro y t h; simp only [List.nil_append, freeOk, Bool.and_eq_true] at h ⊢; exact h.2
          | cons b l ih2 =>
            intro y t h
            simp only [List.cons_append, freeOk, Bool.and_eq_true, List.all_append, List.all_cons] at h ⊢
            exact ⟨⟨h.1.1, h.1.2.2⟩, ih2 y t h.2⟩
        simp only [List.map_append, List.map_cons, List.reverse_append, List.reverse_cons, List.append_assoc, List.singleton_append] at hfree ⊢
        exact sub _ _ _ hfree

theorem drA_ok (P : Program) (n : Nat) : DrOk P n (drA P n) := by
  intro K0 E0 T id ops σ Q a w Q' hall h hA hK
  obtain ⟨hm, h⟩ := h
  obtain ⟨c, σ', c1, c2, c3, c4, c5⟩ := awD_chain _ _ _ h
  have hA' : AR K0 E0 T n σ a { w with drawn := w.drawn + 1 } := by
    obtain ⟨K, rfl, hE, h100, hr, hsl, hdf, hn⟩ := hA
    have he : Ext K (K.world { K.w with drawn := K.w.drawn + 1 }) := Ext.world rfl
    exact ⟨K.world { K.w with drawn := K.w.drawn + 1 }, rfl, hE.trans he, h100, hr.world rfl rfl rfl rfl, fun i => (hsl i).ext he, hdf, hn⟩
  refine wp_region_any hm (any_ok hall c4 (fun a w hA => hK σ' a w c3 hA) ops.size _ c σ a _ (by simp) ?_ (fun i hi => ?_) (fun f i hi => ?_) ?_ (fun i hi => ?_) (by simpa using c5) c2 hA')
  · have := congrArg List.length c1; simp at this; omega
  · rw [c1]; simp [hi]
  · simp [Array.getD] at hi
  · rw [c1]; exact List.pairwise_lt_range
  · rw [c1] at hi; simpa using hi
end
end Go.Abs
