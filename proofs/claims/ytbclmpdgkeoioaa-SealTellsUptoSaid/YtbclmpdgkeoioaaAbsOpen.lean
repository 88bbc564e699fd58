/- How a law's arguments read, in the abstract memory; and what a by-value contract says of the law's call. -/
import Derived.Test.YtbclmpdgkeoioaaAbsEq
import Derived.ProofKit
import Derived.OpenShut
import Derived.ShutString
import Derived.ChangeOld
import Derived.ChangeArms
import Derived.Carry
import Derived.Deep.Slices
import Derived.JoinedCond
set_option linter.all false
namespace Go.Abs
open Go Go.RowKit

inductive Cl where
  | int (k : IntKind)
  | bool
  | str
  | sl (cs : List Cl)

mutual
def bkI : I → Nat
  | .s (.string b) => b.size
  | .s _ => 0
  | .sl es => bkLL es
def bkL : List I → Nat
  | [] => 0
  | x :: t => bkI x + bkL t
def bkLL : List (List I) → Nat
  | [] => 0
  | e :: t => 1 + bkL e + bkLL t
end

mutual
def HasC : Cl → I → Prop
  | .int k, x => ∃ n, x = .s (.int k n) ∧ (Lit.int k n).wf = true
  | .bool, x => ∃ b, x = .s (.bool b)
  | .str, x => ∃ b : ByteArray, x = .s (.string b) ∧ b.size ≤ maxLen
  | .sl cs, x => ∃ es, x = .sl es ∧ ∀ e ∈ es, HasCs cs e
def HasCs : List Cl → List I → Prop
  | [], [] => True
  | c :: cs, x :: xs => HasC c x ∧ HasCs cs xs
  | _, _ => False
end

/-- How a type's cells are. -/
inductive TySh (P : Program) : TypeId → List Cl → Prop
  | int {t : TypeId} {k : IntKind} (h : P.underlying t = some (.int k)) : TySh P t [.int k]
  | bool {t : TypeId} (h : P.underlying t = some .bool) : TySh P t [.bool]
  | str {t : TypeId} (h : P.underlying t = some .string) : TySh P t [.str]
  | sl {t e : TypeId} {cs : List Cl} (h : P.underlying t = some (.slice e)) (he : TySh P e cs) (hn : P.cellsOf e = cs.length) (h0 : 0 < cs.length) : TySh P t [.sl cs]
  | struct {t : TypeId} {fs : Array Field} (css : List (List Cl)) (h : P.underlying t = some (.struct fs)) (hn : P.cellsOf t = css.flatten.length) (hl : css.length = fs.size)
      (hf : ∀ (i : Nat) (f : Field) (cs : List Cl), fs[i]? = some f → css[i]? = some cs → TySh P f.type cs)
      (ho : ∀ (i : Nat) (f : Field) (cs : List Cl), fs[i]? = some f → css[i]? = some cs → P.cellsOf f.type = cs.length ∧ f.offset = (css.take i).flatten.length) : TySh P t css.flatten

theorem bkL_append : ∀ (a b : List I), bkL (a ++ b) = bkL a + bkL b
  | [], b => by simp [bkL]
  | x :: a, b => by simp only [List.cons_append, bkL, bkL_append a b]; omega
theorem hasCs_append : ∀ {a b : List Cl} {x y : List I}, HasCs a x → HasCs b y → HasCs (a ++ b) (x ++ y)
  | [], _, [], _, _, h => h
  | _ :: a, _, _ :: x, _, h, h' => by
    simp only [HasCs] at h
    simp only [List.cons_append, HasCs]
    exact ⟨h.1, hasCs_append h.2 h'⟩
  | [], _, _ :: _, _, h, _ => by simp [HasCs] at h
  | _ :: _, _, [], _, h, _ => by simp [HasCs] at h
theorem hasCs_len : ∀ {a : List Cl} {x : List I}, HasCs a x → x.length = a.length
  | [], [], _ => rfl
  | _ :: a, _ :: x, h => by simp only [HasCs] at h; simp [hasCs_len h.2]
  | [], _ :: _, h => by simp [HasCs] at h
  | _ :: _, [], h => by simp [HasCs] at h

section
variable {H : Type} {enc : TypeId × Value → H} {P : Program} {w : World}

/-- What cells read as. -/
def Op' (P : Program) (w : World) (sh : List Cl) (cs : List Value) (bulk : Nat) : Prop :=
  ∃ xs : List I, xs.length = cs.length ∧ HasCs sh xs ∧ (∀ (j : Nat) (v : Value) (x : I), cs[j]? = some v → xs[j]? = some x → VI w (fun b => b < w.heap.size) v x) ∧ 1 + bkL xs ≤ bulk

theorem bulk_pos {up : DataW H → Nat} {upA : List (DataW H) → Nat} : True := trivial

theorem bkLL_sum : ∀ (es : List (List I)), bkLL es = (es.map fun e => 1 + bkL e).sum
  | [] => rfl
  | e :: t => by simp [bkLL, bkLL_sum t]

theorem list_choose {α β : Type} {n : Nat} {p : Nat → β → Prop} (h : ∀ i, i < n → ∃ b, p i b) : ∃ l : List β, l.length = n ∧ ∀ i b, l[i]? = some b → p i b := by
  induction n with
  | zero => exact ⟨[], rfl, by simp⟩
  | succ n ih =>
    obtain ⟨l, h1, h2⟩ := ih (fun i hi => h i (by omega))
    obtain ⟨b, hb⟩ := h n (by omega)
    refine ⟨l ++ [b], by simp [h1], fun i c hc => ?_⟩
    rw [List.getElem?_append] at hc
    split at hc
    · exact h2 i c hc
    · have : i = n := by
        have := (List.getElem?_eq_some_iff.1 hc).1
        simp at this; omega
      subst this
      simp [h1] at hc; subst hc; exact hb

variable {up : DataW H → Nat} {upA : List (DataW H) → Nat}
structure Bulk (up : DataW H → Nat) (upA : List (DataW H) → Nat) : Prop where
  str : ∀ b, up (.lit (.string b)) = b.length + 1
  int : ∀ k n, up (.lit (.int k n)) = 1
  bool : ∀ b, up (.lit (.bool b)) = 1
  nil : up .nil = 1
  slice : ∀ e s, up (.slice e s) = upA e + upA s + 1
  agg : ∀ e, up (.agg e) = upA e + 1
  anil : upA [] = 0
  acons : ∀ d r, upA (d :: r) = up d + upA r

theorem bulk_sum (hb : Bulk up upA) : ∀ (l : List (DataW H)), upA l = (l.map up).sum
  | [] => by simp [hb.anil]
  | d :: r => by simp [hb.acons, bulk_sum hb r]

theorem sum_le : ∀ (a b : List Nat), a.length = b.length → (∀ (i x y : Nat), a[i]? = some x → b[i]? = some y → x ≤ y) → a.sum ≤ b.sum
  | [], [], _, _ => by simp
  | x :: a, y :: b, hl, h => by
    simp only [List.sum_cons]
    have h0 := h 0 x y (by simp) (by simp)
    have := sum_le a b (by simpa using hl) (fun i p q hp hq => h (i + 1) p q (by simpa using hp) (by simpa using hq))
    omega
  | [], _ :: _, h, _ => by simp at h
  | _ :: _, [], h, _ => by simp at h

theorem open_any (hb : Bulk up upA) {t : TypeId} {sh : List Cl} (hs : TySh P t sh) : ∀ {fuel : Nat} {cs : List Value} {x : DataW H × List MemPlace}, DataW.trod enc P w 0 (fun _ => true) true fuel t cs = some x → cs.length = sh.length ∧ Op' P w sh cs (up x.1) := by
  induction hs with
  | int h =>
    intro fuel cs x hx
    obtain ⟨n, rfl, rfl, hw⟩ := DataW.trod_int h hx
    refine ⟨rfl, [.s (.int _ n)], rfl, ⟨⟨n, rfl, hw⟩, trivial⟩, fun j v x hv hx => ?_, by simp [bkL, bkI, hb.int]⟩
    cases j with
    | zero => simp at hv hx; subst hv; subst hx; exact .s _ rfl
    | succ j => simp at hv
  | bool h =>
    intro fuel cs x hx
    obtain ⟨b, rfl, rfl⟩ := DataW.trod_bool h hx
    refine ⟨rfl, [.s (.bool b)], rfl, ⟨⟨b, rfl⟩, trivial⟩, fun j v x hv hx => ?_, by simp [bkL, bkI, hb.bool]⟩
    cases j with
    | zero => simp at hv hx; subst hv; subst hx; exact .s _ rfl
    | succ j => simp at hv
  | str h =>
    intro fuel cs x hx
    obtain ⟨b, rfl, rfl, hm⟩ := DataW.trod_string h hx
    refine ⟨rfl, [.s (.string b)], rfl, ⟨⟨b, rfl, hm⟩, trivial⟩, fun j v x hv hx => ?_, by simp only [bkL, bkI, hb.str, Array.length_toList]; show 1 + (b.size + 0) ≤ b.size + 1; omega⟩
    cases j with
    | zero => simp at hv hx; subst hv; subst hx; exact .s _ rfl
    | succ j => simp at hv
  | @sl t e ecs h he hn h0 ih =>
    intro fuel cs x hx
    rcases DataW.trod_slice h hx with ⟨rfl, rfl⟩ | ⟨a, len, cap, elems, rest, n, rfl, rfl, rfl, hba, hl, hm, hel, hget, hsp, _⟩
    · refine ⟨rfl, [.sl []], rfl, ⟨⟨[], rfl, by simp⟩, trivial⟩, fun j v x hv hx => ?_, by simp [bkL, bkI, bkLL, hb.nil]⟩
      cases j with
      | zero => simp at hv hx; subst hv; subst hx; exact .e _ _
      | succ j => simp at hv
    · have hch : ∀ i, i < len → ∃ ys : List I, ∃ (cs' : List Value) (y : DataW H × List MemPlace), w.cells? 0 (a.add (i * P.cellsOf e)) (P.cellsOf e) = some cs' ∧ elems[i]? = some y ∧
          ys.length = cs'.length ∧ HasCs ecs ys ∧ (∀ (j : Nat) (v : Value) (x : I), cs'[j]? = some v → ys[j]? = some x → VI w (fun b => b < w.heap.size) v x) ∧ 1 + bkL ys ≤ up y.1 := by
        intro i hi
        have := hget i hi
        have he : elems[i]? = some (elems[i]'(by omega)) := by simp [show i < elems.length by omega]
        rw [he, Option.bind_eq_some_iff] at this
        obtain ⟨cs', h1, h2⟩ := this
        obtain ⟨_, ys, y1, y2, y3, y4⟩ := ih h2
        exact ⟨ys, cs', _, h1, he, y1, y2, y3, y4⟩
      obtain ⟨es, hesl, hes⟩ := list_choose (α := Unit) hch
      have hlen : ∀ e ∈ es, e.length = ecs.length := fun e he => by
        obtain ⟨i, hi⟩ := List.mem_iff_getElem?.1 he
        obtain ⟨cs', y, _, _, _, h2, _⟩ := hes i e hi
        exact hasCs_len h2
      refine ⟨rfl, [.sl es], rfl, ⟨⟨es, rfl, fun e he => ?_⟩, trivial⟩, fun j v x hv hx => ?_, ?_⟩
      · obtain ⟨i, hi⟩ := List.mem_iff_getElem?.1 he
        obtain ⟨cs', y, _, _, _, h2, _⟩ := hes i e hi
        exact h2
      · cases j with
        | succ j => simp at hv
        | zero =>
          simp at hv hx; subst hv; subst hx
          by_cases hz : len = 0
          · subst hz
            have : es = [] := List.eq_nil_of_length_eq_zero hesl
            subst this; exact .e _ _
          · obtain ⟨b, off, spot⟩ := a
            have hcell : ∀ i j x, es[i]? = some (x : List I) → j < ecs.length → ∃ v, w.cell? ((⟨b, off, spot⟩ : Addr).add (i * ecs.length + j)) = some v ∧ ∀ y, x[j]? = some y → VI w (fun b => b < w.heap.size) v y := by
              intro i j x hi hj
              obtain ⟨cs', y, h1, _, h3, h2, h4, _⟩ := hes i x hi
              rw [hn] at h1
              obtain ⟨_, k2, k3⟩ := World.cells?_some h1
              have hl' : cs'.length = ecs.length := by rw [← h3]; exact hasCs_len h2
              have hk := k3 j hj
              have hcj : cs'[j]? = some (cs'[j]'(by omega)) := by simp [show j < cs'.length by omega]
              refine ⟨cs'[j]'(by omega), ?_, fun y hy => h4 j _ y hcj hy⟩
              rw [hcj, Addr.add_add] at hk
              exact hk
            have hpos : 0 < len := Nat.pos_of_ne_zero hz
            have h00 : es[0]? = some (es[0]'(by omega)) := by simp [show 0 < es.length by omega]
            obtain ⟨v0, hv0, _⟩ := hcell 0 0 _ h00 h0
            have hspot : spot = none := by simpa [Addr.add] using World.cell?_spot hv0
            subst hspot
            have hlt := World.block_lt_of_cell? _ _ hv0
            have hf : ∀ j : Nat, ∃ v, ∀ x, es.flatten[j]? = some x → w.cell? ⟨b, off + j, none⟩ = some v ∧ VI w (fun b => b < w.heap.size) v x := by
              intro j
              cases hx : es.flatten[j]? with
              | none => exact ⟨undef, fun x h => by cases h⟩
              | some x =>
                obtain ⟨e', he1, he2⟩ := flatten_get' h0 hlen hx
                have hm := Nat.mod_lt j h0
                obtain ⟨v, g1, g2⟩ := hcell _ _ e' he1 hm
                refine ⟨v, fun y hy => ?_⟩
                cases hy
                refine ⟨?_, g2 _ he2⟩
                rw [Nat.mul_comm, Nat.div_add_mod] at g1
                rw [Go.Addr.add_mid] at g1
                exact g1
            have hch2 : ∃ f : Nat → Value, ∀ j x, es.flatten[j]? = some x → w.cell? ⟨b, off + j, none⟩ = some (f j) ∧ VI w (fun b => b < w.heap.size) (f j) x :=
              ⟨fun j => Classical.choose (hf j), fun j x hx => Classical.choose_spec (hf j) x hx⟩
            obtain ⟨f, hf⟩ := hch2
            rw [← hesl]
            exact .sl b off cap ecs.length es f (by simpa [Addr.add] using hlt) (by omega) h0 hlen (fun j x hx => (hf j x hx).1) (fun j x hx => (hf j x hx).2)
      · simp only [bkL, bkI, hb.slice]
        rw [bkLL_sum, bulk_sum hb]
        have : (es.map fun e => 1 + bkL e).sum ≤ ((elems.map (·.1)).map up).sum := sum_le _ _ (by simp; omega) (fun i x y hx hy => by
          simp only [List.getElem?_map, Option.map_eq_some_iff] at hx hy
          obtain ⟨e', he', rfl⟩ := hx
          obtain ⟨d', ⟨y', hy', rfl⟩, rfl⟩ := hy
          obtain ⟨_, y'', _, h2, _, _, _, h5⟩ := hes i e' he'
          rw [hy'] at h2; cases h2; exact h5)
        omega
  | @struct t fs css h hn hl hf ho ih =>
    intro fuel cs x hx
    obtain ⟨xs, n, rfl, rfl, hcs, hxl, hfield⟩ := DataW.trod_struct h hx
    rw [hn] at hcs
    have key : ∀ m, m ≤ css.length → Op' P w (css.take m).flatten (cs.take (css.take m).flatten.length) (1 + ((xs.take m).map fun y => up y.1).sum) := by
      intro m
      induction m with
      | zero => intro _; exact ⟨[], by simp, by simp [HasCs], by simp, by simp [bkL]⟩
      | succ m ihm =>
        intro hm
        obtain ⟨ys, y1, y2, y3, y4⟩ := ihm (by omega)
        have hfm : fs[m]? = some (fs[m]'(by omega)) := by simp [show m < fs.size by omega]
        have hcm : css[m]? = some (css[m]'(by omega)) := by simp [show m < css.length by omega]
        obtain ⟨o1, o2⟩ := ho m _ _ hfm hcm
        have ht := hfield m _ hfm
        have hxm : xs[m]? = some (xs[m]'(by omega)) := by simp [show m < xs.length by omega]
        rw [hxm] at ht
        obtain ⟨z0, zs, z1, z2, z3, z4⟩ := ih m _ _ hfm hcm ht
        have hfl : (css.take (m + 1)).flatten = (css.take m).flatten ++ css[m]'(by omega) := by
          rw [List.take_succ_eq_append_getElem (show m < css.length by omega), List.flatten_append]; simp only [List.flatten_cons, List.flatten_nil, List.append_nil]
        have hle : (css.take m).flatten.length + (css[m]'(by omega)).length ≤ cs.length := by
          rw [hcs]
          have := congrArg (fun l => l.flatten.length) (List.take_append_drop (m + 1) css)
          simp only [List.flatten_append, List.length_append] at this
          rw [hfl, List.length_append] at this
          omega
        have hcut : cs.take (css.take (m + 1)).flatten.length = cs.take (css.take m).flatten.length ++ (cs.drop (css.take m).flatten.length).take (css[m]'(by omega)).length := by
          rw [hfl, List.length_append, List.take_add]
        rw [o1, o2] at z1 z3 z0
        refine ⟨ys ++ zs, by rw [hcut]; simp only [List.length_append]; omega, by rw [hfl]; exact hasCs_append y2 z2, fun j v x hv hx => ?_, ?_⟩
        · rw [hcut] at hv
          by_cases hj : j < ys.length
          · rw [List.getElem?_append_left hj] at hx
            rw [List.getElem?_append_left (by omega)] at hv
            exact y3 j v x hv hx
          · rw [List.getElem?_append_right (by omega)] at hx
            rw [List.getElem?_append_right (by omega), ← y1] at hv
            exact z3 _ v x hv hx
        · rw [bkL_append, List.take_succ_eq_append_getElem (by omega)]
          simp only [List.map_append, List.sum_append, List.map_cons, List.map_nil, List.sum_cons, List.sum_nil]
          omega
    have hk := key css.length (Nat.le_refl _)
    rw [List.take_of_length_le (Nat.le_refl _), List.take_of_length_le (l := cs) (by omega)] at hk
    refine ⟨hcs, ?_⟩
    obtain ⟨ys, y1, y2, y3, y4⟩ := hk
    refine ⟨ys, y1, y2, y3, ?_⟩
    rw [hb.agg, bulk_sum hb]
    have : ((xs.take css.length).map fun y => up y.1).sum = ((xs.map (·.1)).map up).sum := by
      rw [List.take_of_length_le (by omega), List.map_map]; rfl
    omega

/-- A value of one cell. -/
theorem open_one (hb : Bulk up upA) {t : TypeId} {c : Cl} (hs : TySh P t [c]) {v : Value} {d : DataW H} {ps : List MemPlace} (h : DataW.Trod enc P w 0 (fun _ => true) true t v d ps) (h1 : v.cells = #[v]) :
    ∃ x, HasC c x ∧ VI w (fun b => b < w.heap.size) v x ∧ 1 + bkI x ≤ up d := by
  obtain ⟨fuel, hf⟩ := h
  obtain ⟨_, xs, y1, y2, y3, y4⟩ := open_any hb hs hf
  rw [h1] at y1 y3
  match xs, y1 with
  | [x], _ =>
    simp only [HasCs] at y2
    exact ⟨x, y2.1, y3 0 v x (by simp) (by simp), by simpa [bkL] using y4⟩
/-- A struct. -/
theorem open_agg (hb : Bulk up upA) {t : TypeId} {sh : List Cl} (hs : TySh P t sh) {v : Value} {d : DataW H} {ps : List MemPlace} (h : DataW.Trod enc P w 0 (fun _ => true) true t v d ps) {vs : Array Value} (h1 : v = .agg vs) :
    ∃ xs, HasCs sh xs ∧ VD ⟨w, fun b => b < w.heap.size, fun _ => none⟩ v (.agg (xs.map .i)) ∧ 1 + bkL xs ≤ up d := by
  subst h1
  obtain ⟨fuel, hf⟩ := h
  obtain ⟨_, xs, y1, y2, y3, y4⟩ := open_any hb hs hf
  refine ⟨xs, y2, .agg vs _ (by simpa [Value.cells] using y1.symm) (fun j d hd => ?_), y4⟩
  simp only [List.getElem?_map, Option.map_eq_some_iff] at hd
  obtain ⟨x, hx, rfl⟩ := hd
  have hj : j < vs.size := by have := (List.getElem?_eq_some_iff.1 hx).1; simp [Value.cells] at y1; omega
  have : vs.getD j undef = vs[j] := getD_lt hj
  rw [this]
  exact .i (y3 j _ x (by simp [Value.cells, hj]) hx)

/-- What a by-value contract says of a call: old memory stays. -/
theorem pure_calls {f : FuncId} {ds : List D} {r : Value} {vs : Array Value} (hp : PureD P f ds (.i (.s r))) (hs : vs.size = ds.length) (hv : ∀ (j : Nat) (d : D), ds[j]? = some d → VD ⟨w, fun b => b < w.heap.size, fun _ => none⟩ (vs.getD j undef) d) :
    Calls P f vs w fun e w' => e = .returned r ∧ Below w.heap.size w w' := by
  let K : Ctx := ⟨w, fun b => b < w.heap.size, fun _ => none⟩
  have hr : HR K (fun _ => False) K noH := ⟨rfl, rfl, rfl, Nat.le_refl _, fun _ _ _ => rfl, fun b hb => hb, fun b hb => .inl hb, fun o b hb => by simp [K] at hb, fun o => rfl, fun o1 o2 b h => by exact h.elim⟩
  refine (hp.2 K (fun _ => False) K vs hr ⟨hs, hv⟩).mono ?_
  rintro e w' ⟨v, K', rfl, rfl, he, hr', hv⟩
  refine ⟨?_, hr'.os, hr'.tape, hr'.output, hr'.size, fun k hk => hr'.block k hk (fun h => h)⟩
  have := conc_ok hv (v' := r) rfl
  rw [this]

/-- A struct's fields, one behind the other. -/
def TyFs (P : Program) : List Field → List (List Cl) → Nat → Prop
  | [], [], _ => True
  | f :: fs, c :: cs, off => TySh P f.type c ∧ P.cellsOf f.type = c.length ∧ f.offset = off ∧ TyFs P fs cs (off + c.length)
  | _, _, _ => False
theorem tyFs_get : ∀ {fs : List Field} {css : List (List Cl)} {off : Nat}, TyFs P fs css off → css.length = fs.length ∧ ∀ (i : Nat) (f : Field) (cs : List Cl), fs[i]? = some f → css[i]? = some cs → TySh P f.type cs ∧ P.cellsOf f.type = cs.length ∧ f.offset = off + (css.take i).flatten.length
  | [], [], _, _ => ⟨rfl, by simp⟩
  | f :: fs, c :: cs, off, h => by
    obtain ⟨h1, h2, h3, h4⟩ := h
    obtain ⟨g1, g2⟩ := tyFs_get h4
    refine ⟨by simp [g1], fun i f' c' hf hc => ?_⟩
    cases i with
    | zero => simp at hf hc; subst hf; subst hc; exact ⟨h1, h2, by simp [h3]⟩
    | succ i =>
      obtain ⟨k1, k2, k3⟩ := g2 i f' c' (by simpa using hf) (by simpa using hc)
      exact ⟨k1, k2, by rw [k3]; simp; omega⟩
  | [], _ :: _, _, h => h.elim
  | _ :: _, [], _, h => h.elim
theorem struct_of {t : TypeId} {fs : Array Field} (css : List (List Cl)) (sh : List Cl) (h : P.underlying t = some (.struct fs)) (hsh : sh = css.flatten) (hn : P.cellsOf t = sh.length) (hf : TyFs P fs.toList css 0) : TySh P t sh := by
  subst hsh
  obtain ⟨g1, g2⟩ := tyFs_get hf
  refine .struct css h hn (by simpa using g1) (fun i f cs a b => (g2 i f cs (by simpa using a) b).1) (fun i f cs a b => ?_)
  obtain ⟨_, k2, k3⟩ := g2 i f cs (by simpa using a) b
  exact ⟨k2, by simpa using k3⟩

section
variable {t e : TypeId} {v : Value} {d : DataW H} {ps : List MemPlace} {c : Cl} {b0 : Nat} {W : World}
theorem open_sl (hb : Bulk up upA) (hs : TySh P t [c]) (hu : P.underlying t = some (.slice e)) (hval : Value.okWide P w .any b0 t v) (h : DataW.Trod enc P w 0 (fun _ => true) true t v d ps) : ∃ x, HasC c x ∧ VD ⟨w, fun b => b < w.heap.size, fun _ => none⟩ v (.i x) ∧ 1 + bkI x ≤ up d := by
  obtain ⟨a, l, c', rfl⟩ := Go.WideShapes.okWide_slice hu hval
  obtain ⟨x, h1, h2, h3⟩ := open_one hb hs h rfl
  exact ⟨x, h1, .i h2, h3⟩
theorem open_in (hb : Bulk up upA) {k : IntKind} (hs : TySh P t [c]) (hu : P.underlying t = some (.int k)) (hval : Value.okWide P w .any b0 t v) (h : DataW.Trod enc P w 0 (fun _ => true) true t v d ps) : ∃ x, HasC c x ∧ VD ⟨w, fun b => b < w.heap.size, fun _ => none⟩ v (.i x) ∧ 1 + bkI x ≤ up d := by
  obtain ⟨n, rfl⟩ := Go.WideShapes.okWide_int hu hval
  obtain ⟨x, h1, h2, h3⟩ := open_one hb hs h rfl
  exact ⟨x, h1, .i h2, h3⟩
theorem open_st (hb : Bulk up upA) (hs : TySh P t [c]) (hu : P.underlying t = some .string) (hval : Value.okWide P w .any b0 t v) (h : DataW.Trod enc P w 0 (fun _ => true) true t v d ps) : ∃ x, HasC c x ∧ VD ⟨w, fun b => b < w.heap.size, fun _ => none⟩ v (.i x) ∧ 1 + bkI x ≤ up d := by
  obtain ⟨n, rfl⟩ := Go.WideShapes.okWide_string hu hval
  obtain ⟨x, h1, h2, h3⟩ := open_one hb hs h rfl
  exact ⟨x, h1, .i h2, h3⟩
theorem open_bo (hb : Bulk up upA) (hs : TySh P t [c]) (hu : P.underlying t = some .bool) (hval : Value.okWide P w .any b0 t v) (h : DataW.Trod enc P w 0 (fun _ => true) true t v d ps) : ∃ x, HasC c x ∧ VD ⟨w, fun b => b < w.heap.size, fun _ => none⟩ v (.i x) ∧ 1 + bkI x ≤ up d := by
  obtain ⟨n, rfl, _⟩ := Go.RowKit.open_bool hu hval h
  obtain ⟨x, h1, h2, h3⟩ := open_one hb hs h rfl
  exact ⟨x, h1, .i h2, h3⟩
theorem open_ag (hb : Bulk up upA) {sh : List Cl} {fs : Array Field} (hs : TySh P t sh) (hu : P.underlying t = some (.struct fs)) (hval : Value.okWide P w .any b0 t v) (h : DataW.Trod enc P w 0 (fun _ => true) true t v d ps) : ∃ xs, HasCs sh xs ∧ VD ⟨w, fun b => b < w.heap.size, fun _ => none⟩ v (.agg (xs.map .i)) ∧ 1 + bkL xs ≤ up d := by
  unfold Value.okWide at hval
  rw [hu] at hval
  obtain ⟨cs, rfl, _⟩ := hval
  exact open_agg hb hs h rfl
end
end

theorem dec_list {α : Type} {cs : List Cl} {enc : α → List I} {p : α → Prop} (h : ∀ e, HasCs cs e → ∃ a : α, e = enc a ∧ p a) {x : I} (hx : HasC (.sl cs) x) : ∃ l : List α, x = .sl (l.map enc) ∧ ∀ a ∈ l, p a := by
  simp only [HasC] at hx
  obtain ⟨es, rfl, he⟩ := hx
  have : ∃ l : List α, es = l.map enc ∧ ∀ a ∈ l, p a := by
    induction es with
    | nil => exact ⟨[], rfl, by simp⟩
    | cons e t ih =>
      obtain ⟨l, h1, h2⟩ := ih (fun e' he' => he e' (by simp [he']))
      obtain ⟨a, h3, h4⟩ := h e (he e (by simp))
      exact ⟨a :: l, by simp [h1, h3], by simpa using ⟨h4, h2⟩⟩
  obtain ⟨l, h1, h2⟩ := this
  exact ⟨l, by rw [h1], h2⟩
theorem hasCs_cons {c : Cl} {cs : List Cl} {e : List I} (h : HasCs (c :: cs) e) : ∃ x t, e = x :: t ∧ HasC c x ∧ HasCs cs t := by
  cases e with
  | nil => simp [HasCs] at h
  | cons x t => simp only [HasCs] at h; exact ⟨x, t, rfl, h⟩
theorem hasCs_nil {e : List I} (h : HasCs [] e) : e = [] := by
  cases e with
  | nil => rfl
  | cons x t => simp [HasCs] at h
theorem dec_int {k : IntKind} {x : I} (h : HasC (.int k) x) : ∃ n, x = .s (.int k n) ∧ (Lit.int k n).wf = true := by simpa only [HasC] using h
theorem dec_bool {x : I} (h : HasC .bool x) : ∃ b, x = .s (.bool b) := by simpa only [HasC] using h
theorem dec_str {x : I} (h : HasC .str x) : ∃ b : ByteArray, x = .s (.string b) ∧ b.size ≤ maxLen := by simpa only [HasC] using h
theorem dec_u64 {x : I} (h : HasC (.int .u64) x) : ∃ n : Nat, x = .s (.int .u64 (n : Int)) ∧ n < 18446744073709551616 := by
  obtain ⟨n, rfl, hw⟩ := dec_int h
  simp [Lit.wf, IntKind.min, IntKind.max, IntKind.signed, IntKind.bits] at hw
  exact ⟨n.toNat, by rw [Int.toNat_of_nonneg (by omega)], by omega⟩
theorem dec_byte {e : List I} (h : HasCs [.int .u8] e) : ∃ b : UInt8, e = byteI b ∧ True := by
  match e, h with
  | [x], h =>
    simp only [HasCs] at h
    obtain ⟨n, rfl, hw⟩ := dec_int h.1
    simp [Lit.wf, IntKind.min, IntKind.max, IntKind.signed, IntKind.bits] at hw
    refine ⟨UInt8.ofNat n.toNat, ?_, trivial⟩
    simp [byteI]; omega
theorem dec_B {x : I} (h : HasC (.sl [.int .u8]) x) : ∃ l : List UInt8, x = bI l := by
  obtain ⟨l, h1, _⟩ := dec_list (fun e he => dec_byte he) h
  exact ⟨l, h1⟩
theorem bk_B (l : List UInt8) : bkI (bI l) = l.length := by
  simp only [bI, bkI]
  induction l with
  | nil => rfl
  | cons a t ih => simp only [List.map_cons, bkLL, byteI, bkL, bkI, ih, List.length_cons] at *; omega
theorem bk_map {α : Type} (enc : α → List I) (l : List α) : bkI (.sl (l.map enc)) = (l.map fun a => 1 + bkL (enc a)).sum := by
  simp only [bkI, bkLL_sum, List.map_map]; rfl
theorem bk_len {α : Type} (enc : α → List I) (l : List α) : l.length ≤ bkI (.sl (l.map enc)) := by
  rw [bk_map]
  induction l with
  | nil => simp
  | cons a t ih => simp only [List.map_cons, List.sum_cons, List.length_cons]; omega
theorem bk_mem {α : Type} (enc : α → List I) {l : List α} {a : α} (h : a ∈ l) : 1 + bkL (enc a) ≤ bkI (.sl (l.map enc)) := by
  rw [bk_map]
  induction l with
  | nil => simp at h
  | cons b t ih =>
    simp only [List.map_cons, List.sum_cons]
    rcases List.mem_cons.1 h with rfl | h
    · omega
    · have := ih h; omega
end Go.Abs
