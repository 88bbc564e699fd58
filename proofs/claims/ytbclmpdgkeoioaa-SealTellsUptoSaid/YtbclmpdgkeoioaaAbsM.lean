/- Code on the abstract memory, and the contract of a function from its text. -/
import Derived.Test.YtbclmpdgkeoioaaAbsL
set_option linter.all false
namespace Go.Abs
open Go Go.RowKit

inductive Ex where
  | normal
  | exit (id : Nat)
  | ret

/-- The second state says no more than the first. -/
def LE (n : Nat) (σ σ' : St) : Prop := ∀ (K0 E0 : Ctx) (T : Nat → Prop) (a : Act) (w : World), AR K0 E0 T n σ a w → AR K0 E0 T n σ' a w
theorem LE.refl (n : Nat) (σ : St) : LE n σ σ := fun _ _ _ _ _ h => h
theorem LE.trans {n : Nat} {a b c : St} (h : LE n a b) (h' : LE n b c) : LE n a c := fun _ _ _ _ _ x => h' _ _ _ _ _ (h _ _ _ _ _ x)

def Ex.seq (k : St → Prop) (Q : Ex → St → Prop) : Ex → St → Prop
  | .normal, σ => k σ
  | e, σ => Q e σ
def Ex.blk (id : Nat) (Q : Ex → St → Prop) : Ex → St → Prop
  | .exit id', σ => if id' = id then Q .normal σ else Q (.exit id') σ
  | e, σ => Q e σ

def awCond (P : Program) (n : Nat) (d : D) (t e : Prop) : Prop :=
  match d with
  | .i (.s (.bool b)) => (b = true → t) ∧ (b = false → e)
  | _ => False

/-- A region that draws its order: 'dr' tells how it is walked. -/
def aw (P : Program) (n : Nat) (dr : Nat → Array Oper → St → (St → Prop) → Prop) : Code → St → (Ex → St → Prop) → Prop
  | .skip, σ, Q => Q .normal σ
  | .label _, σ, Q => Q .normal σ
  | .region id ops false, σ, Q => ops.all (fun o => dstOk n o.dst) = true ∧ awOps P n id ops (List.range ops.size) σ (Q .normal)
  | .region id ops true, σ, Q => ops.all (fun o => dstOk n o.dst) = true ∧ dr id ops σ (Q .normal)
  | .seq x y, σ, Q => aw P n dr x σ (Ex.seq (fun σ' => aw P n dr y σ' Q) Q)
  | .cond c x y, σ, Q => awCond P n (evA σ.sl c) (aw P n dr x σ Q) (aw P n dr y σ Q)
  | .block id c, σ, Q => aw P n dr c σ (Ex.blk id Q)
  | .exit id, σ, Q => Q (.exit id) σ
  | .ret, σ, Q => Q .ret σ
  | .loop body, σ, Q => ∃ (ι : Type) (S : ι → St) (m : ι → Nat) (i : ι), LE n σ (S i) ∧ ∀ i, aw P n dr body (S i) (Ex.seq (fun σ' => ∃ j, LE n σ' (S j) ∧ m j < m i) Q)
  | _, _, _ => False

/-- That a way to walk regions that draw is sound. -/
def DrOk (P : Program) (n : Nat) (dr : Nat → Array Oper → St → (St → Prop) → Prop) : Prop :=
  ∀ (K0 E0 : Ctx) (T : Nat → Prop) (id : Nat) (ops : Array Oper) (σ : St) (Q : St → Prop) (a : Act) (w : World) (Q' : Exit → Act → World → Prop), (∀ (o : Oper), o ∈ ops → dstOk n o.dst = true) → dr id ops σ Q → AR K0 E0 T n σ a w →
    (∀ σ' a' w', Q σ' → AR K0 E0 T n σ' a' w' → Q' .normal a' w') → (Code.region id ops true).wp P Q' a w

/-- The machine's way out of a piece of code, told by the abstract one. -/
def Out (K0 E0 : Ctx) (T : Nat → Prop) (n : Nat) (Q : Ex → St → Prop) : Exit → Act → World → Prop
  | .normal, a, w => ∃ σ, Q .normal σ ∧ AR K0 E0 T n σ a w
  | .exit id, a, w => ∃ σ, Q (.exit id) σ ∧ AR K0 E0 T n σ a w
  | .ret, a, w => ∃ σ, Q .ret σ ∧ AR K0 E0 T n σ a w
  | _, _, _ => False

section
variable {P : Program} {K0 E0 : Ctx} {T : Nat → Prop} {n : Nat} {dr : Nat → Array Oper → St → (St → Prop) → Prop}

theorem all_dst {ops : Array Oper} (h : ops.all (fun o => dstOk n o.dst) = true) : ∀ (o : Oper), o ∈ ops → dstOk n o.dst = true :=
  fun o ho => (Array.all_eq_true_iff_forall_mem.1 h) o ho

theorem aw_ok (hdr : DrOk P n dr) : ∀ (c : Code) (σ : St) (Q : Ex → St → Prop) (a : Act) (w : World), aw P n dr c σ Q → AR K0 E0 T n σ a w → c.wp P (Out K0 E0 T n Q) a w := by
  intro c
  induction c with
  | skip => intro σ Q a w h hA; exact wp_skip ⟨σ, h, hA⟩
  | label l => intro σ Q a w h hA; exact wp_label ⟨σ, h, hA⟩
  | region id ops draw =>
    intro σ Q a w h hA
    cases draw with
    | false =>
      obtain ⟨h1, h2⟩ := h
      exact wp_region (awOps_ok (all_dst h1) (fun σ' a' w' hq hA => ⟨σ', hq, hA⟩) _ _ _ _ h2 hA)
    | true =>
      obtain ⟨h1, h2⟩ := h
      exact hdr K0 E0 T id ops σ _ a w _ (all_dst h1) h2 hA (fun σ' a' w' hq hA => ⟨σ', hq, hA⟩)
  | seq x y ihx ihy =>
    intro σ Q a w h hA
    refine wp_seq (wp_mono (ihx σ _ a w h hA) fun e a' w' he => ?_)
    cases e with
    | normal => obtain ⟨σ', h1, h2⟩ := he; exact ihy σ' Q a' w' h1 h2
    | exit id => obtain ⟨σ', h1, h2⟩ := he; exact ⟨σ', h1, h2⟩
    | ret => obtain ⟨σ', h1, h2⟩ := he; exact ⟨σ', h1, h2⟩
    | _ => exact he.elim
  | cond c x y ihx ihy =>
    intro σ Q a w h hA
    simp only [aw, awCond] at h
    have hA' := hA
    obtain ⟨K, rfl, hE, h100, hr, hs, hd, hn⟩ := hA'
    split at h
    · rename_i b hb
      have hv := conc_ok (AR.eval hs c) (v' := .bool b) (by rw [hb]; rfl)
      refine wp_cond_split hv (fun e => ihx σ Q _ _ (h.1 e) hA) (fun e => ihy σ Q _ _ (h.2 e) hA)
    · exact h.elim
  | block id c ih =>
    intro σ Q a w h hA
    refine wp_block (wp_mono (ih σ _ a w h hA) fun e a' w' he => ?_)
    cases e with
    | normal => obtain ⟨σ', h1, h2⟩ := he; exact ⟨σ', h1, h2⟩
    | exit id' =>
      obtain ⟨σ', h1, h2⟩ := he
      simp only [Ex.blk] at h1
      simp only [Exit.inBlock]
      by_cases e : id' = id
      · rw [if_pos e] at h1 ⊢; exact ⟨σ', h1, h2⟩
      · rw [if_neg e] at h1 ⊢; exact ⟨σ', h1, h2⟩
    | ret => obtain ⟨σ', h1, h2⟩ := he; exact ⟨σ', h1, h2⟩
    | _ => exact he.elim
  | loop body ih =>
    intro σ Q a w h hA
    obtain ⟨ι, S, m, i0, h0, hround⟩ := h
    intro b k cs
    have key : ∀ (x : Nat) (i : ι) (a : Act) (w : World), m i = x → AR K0 E0 T n (S i) a w →
        ∃ e a' w', Out K0 E0 T n Q e a' w' ∧ Arrives P (lone (b.at a (.code body :: .inLoop body :: k)) cs w) b k cs e a' w' := by
      intro x
      induction x using Nat.strongRecOn with
      | _ x ih' =>
        intro i a w hx hA
        obtain ⟨e, a₁, w₁, hq, harr⟩ := ih (S i) _ a w (hround i) hA b (.inLoop body :: k) cs
        cases e with
        | normal =>
          obtain ⟨σ', ⟨j, h1, h2⟩, h3⟩ := hq
          obtain ⟨e₂, a₂, w₂, hq₂, harr₂⟩ := ih' (m j) (hx ▸ h2) j a₁ w₁ rfl (h1 K0 E0 T a₁ w₁ h3)
          exact ⟨e₂, a₂, w₂, hq₂, .of_steps (Steps.trans harr (.one step_inLoop)) harr₂⟩
        | exit id => exact ⟨.exit id, a₁, w₁, hq, .pass (x := .inLoop body) rfl (fun _ _ => .inl (by simp)) harr⟩
        | ret => exact ⟨.ret, a₁, w₁, hq, .pass (x := .inLoop body) rfl (fun _ _ => .inl (by simp)) harr⟩
        | _ => exact hq.elim
    obtain ⟨e, a', w', hq, harr⟩ := key _ i0 a w rfl (h0 K0 E0 T a w hA)
    exact ⟨e, a', w', hq, .of_steps (.one step_loop) harr⟩
  | exit id => intro σ Q a w h hA; exact wp_exit ⟨σ, h, hA⟩
  | ret => intro σ Q a w h hA; exact wp_ret ⟨σ, h, hA⟩
  | _ => intro σ Q a w h hA; exact h.elim

/-- A function's result. -/
def resOne (P : Program) (σ : St) : ResultVar → Option D
  | .tmp t => some (σ.sl t)
  | .cell a t => match aggOf P t with
    | some true => match szOf P t with
      | some k => (readAt σ.H (σ.sl a) k).map .agg
      | none => none
    | some false => (readAt σ.H (σ.sl a) 1).bind asCell
    | none => none
def resA (P : Program) (fn : Func) (σ : St) : Option D :=
  match fn.results.toList.mapM (resOne P σ) with
  | some [d] => some d
  | some ds => some (.tup ds)
  | none => none

def getRes (tmps : Array Value) : ResultVar → Sem Value
  | .tmp t => pure (tmps.getD t undef)
  | .cell a t => do loadVar t (← asAddr (tmps.getD a undef))
theorem results_eq (fn : Func) (tmps : Array Value) : results fn tmps = (do let vs ← fn.results.mapM (getRes tmps); pure (if h : vs.size = 1 then vs[0] else .tuple vs)) := rfl

theorem resOne_ok {σ : St} {K : Ctx} {a : Act} (hr : HR K0 T K σ.H) (hs : ∀ i, VD K (a.tmps.getD i undef) (σ.sl i)) {x : ResultVar} {d : D} (h : resOne P σ x = some d) :
    ∃ v, (getRes a.tmps x).run P K.w = .ok v K.w ∧ VD K v d := by
  cases x with
  | tmp t => simp [resOne] at h; subst h; exact ⟨_, rfl, hs t⟩
  | cell p t =>
    obtain ⟨u, h1, h2⟩ := load_ok (P := P) hr (hs p) (t := t) (d := d) h
    refine ⟨u, ?_, h2⟩
    have hp : ∃ b off, a.tmps.getD p undef = .pointer (some ⟨b, off, none⟩) := by
      have : ∃ m cs, readAt σ.H (σ.sl p) m = some cs := by
        simp only [resOne] at h
        split at h
        · split at h
          · simp only [Option.map_eq_some_iff] at h; obtain ⟨cs, h, _⟩ := h; exact ⟨_, cs, h⟩
          · cases h
        · simp only [Option.bind_eq_some_iff] at h; obtain ⟨cs, h, _⟩ := h; exact ⟨_, cs, h⟩
        · cases h
      obtain ⟨m, cs, hcs⟩ := this
      obtain ⟨b, off, vs, hb, _⟩ := readAt_ok hr (hs p) hcs
      exact ⟨b, off, hb⟩
    obtain ⟨b, off, hb⟩ := hp
    rw [hb] at h1
    simp only [getRes, hb]
    simp only [Instr.loadAt, Instr.sureAddr, Sem.run_bind, Sem.run_pure, Result.andThen_ok] at h1
    simp only [asAddr, Sem.run_bind, Sem.run_pure, Result.andThen_ok]
    exact h1

theorem mapM_run {α β : Type} {f : α → Sem β} {w : World} : ∀ (l : List α) (r : List β), r.length = l.length → (∀ (j : Nat) (x : α) (y : β), l[j]? = some x → r[j]? = some y → (f x).run P w = .ok y w) → (l.mapM f).run P w = .ok r w
  | [], [], _, _ => by simp
  | [], _ :: _, h, _ => by simp at h
  | _ :: _, [], h, _ => by simp at h
  | x :: l, y :: r, hl, h => by
    rw [List.mapM_cons]
    have h0 := h 0 x y (by simp) (by simp)
    have ih := mapM_run l r (by simpa using hl) (fun j a b ha hb => h (j + 1) a b (by simpa using ha) (by simpa using hb))
    simp [h0, ih]

theorem resA_ok {fn : Func} {σ : St} {K : Ctx} {a : Act} (hr : HR K0 T K σ.H) (hs : ∀ i, VD K (a.tmps.getD i undef) (σ.sl i)) {d : D} (h : resA P fn σ = some d) : ∃ v, (results fn a.tmps).run P K.w = .ok v K.w ∧ VD K v d := by
  simp only [resA] at h
  have main : ∀ {ds : List D}, fn.results.toList.mapM (resOne P σ) = some ds → ∃ vs : List Value, vs.length = ds.length ∧ (∀ (j : Nat) (d : D), ds[j]? = some d → VD K (vs.getD j undef) d) ∧
      (results fn a.tmps).run P K.w = .ok (if h : vs.toArray.size = 1 then vs.toArray[0] else .tuple vs.toArray) K.w := by
    intro ds hm
    obtain ⟨m1, m2⟩ := mapM_get hm
    have hch : ∀ x : ResultVar, ∃ v : Value, ∀ d, resOne P σ x = some d → (getRes a.tmps x).run P K.w = .ok v K.w ∧ VD K v d := by
      intro x
      cases hx : resOne P σ x with
      | none => exact ⟨undef, fun d hd => by cases hd⟩
      | some d0 =>
        obtain ⟨v, h1, h2⟩ := resOne_ok (P := P) (K0 := K0) (T := T) hr hs hx
        exact ⟨v, fun d hd => by cases hd; exact ⟨h1, h2⟩⟩
    let val : ResultVar → Value := fun x => Classical.choose (hch x)
    have hval : ∀ x d, resOne P σ x = some d → (getRes a.tmps x).run P K.w = .ok (val x) K.w ∧ VD K (val x) d := fun x => Classical.choose_spec (hch x)
    have hrun : (fn.results.toList.mapM (getRes a.tmps)).run P K.w = .ok (fn.results.toList.map val) K.w := by
      refine mapM_run _ _ (by simp) (fun j x y hx hy => ?_)
      simp only [List.getElem?_map, hx, Option.map_some, Option.some.injEq] at hy
      subst hy
      obtain ⟨d, _, hd⟩ := m2 j x hx
      exact (hval x d hd).1
    refine ⟨fn.results.toList.map val, by simp [m1], fun j d hd => ?_, ?_⟩
    · have hlt : j < fn.results.toList.length := by have := (List.getElem?_eq_some_iff.1 hd).1; omega
      obtain ⟨d', hd1, hd2⟩ := m2 j fn.results.toList[j] (by simp [hlt])
      rw [hd] at hd1; cases hd1
      rw [List.getD_eq_getElem?_getD, List.getElem?_map, List.getElem?_eq_getElem hlt]
      exact (hval _ d hd2).2
    · have harr : (fn.results.mapM (getRes a.tmps)).run P K.w = .ok (fn.results.toList.map val).toArray K.w := by
        rw [← Array.toArray_toList (xs := fn.results), List.mapM_toArray]
        simp [hrun]
      rw [results_eq]
      simp only [Sem.run_bind, harr, Result.andThen_ok]
      rfl
  split at h
  · rename_i d' hm
    simp at h; subst h
    obtain ⟨vs, h1, h2, h3⟩ := main hm
    match vs, h1 with
    | [v], _ => exact ⟨v, by simpa using h3, by simpa using h2 0 d' (by simp)⟩
  · rename_i ds hne hm
    simp at h; subst h
    obtain ⟨vs, h1, h2, h3⟩ := main hm
    have hsz : ¬ vs.toArray.size = 1 := by
      intro hc
      match ds, vs, h1, hne with
      | [d], [v], _, hne => exact hne d rfl
      | [], [v], h1, _ => simp at h1
      | _ :: _ :: _, [v], h1, _ => simp at h1
      | _, [], _, _ => simp at hc
      | _, _ :: _ :: _, _, _ => simp at hc
    rw [dif_neg hsz] at h3
    refine ⟨_, h3, .tup _ _ (by simpa using h1) fun j d hd => ?_⟩
    have := h2 j d hd
    simpa [Array.getD_eq_getD_getElem?, List.getD_eq_getElem?_getD] using this
  · cases h

/-- The second result says no more than the first. -/
def LER (H0 : Nat → Ob) (r : D) (H : Nat → Ob) (r' : D) (H' : Nat → Ob) : Prop :=
  ∀ (K0 E0 : Ctx) (T : Nat → Prop) (K : Ctx) (v : Value), Ext E0 K → (∀ o, H0 o = .fresh → E0.μ o = none) → HR K0 T K H → VD K v r → ∃ K', K'.w = K.w ∧ Ext E0 K' ∧ HR K0 T K' H' ∧ VD K' v r'
theorem LER.refl (H0 : Nat → Ob) (r : D) (H : Nat → Ob) : LER H0 r H r H := fun _ _ _ K _ h1 _ h2 h3 => ⟨K, rfl, h1, h2, h3⟩

def initSl (ds : List D) : Nat → D := fun i => ds.getD i .any

/-- THE CONTRACT, FROM THE TEXT. -/
theorem callD_of' {f : FuncId} {fn : Func} {c : Code} {ds : List D} {H : Nat → Ob} {r : D} {H' : Nat → Ob} (hf : P.funcs[f]? = some fn) (hname : (fn.name == "runtime.NumGoroutine") = false) (hb : fn.body = some c)
    (hdr : DrOk P (max fn.ntmps ds.length) dr) (hH : ∀ o, 100 ≤ o → H o = .fresh)
    (h : aw P (max fn.ntmps ds.length) dr c ⟨initSl ds, H⟩ (fun e σ => match e with | .normal | .ret => ∃ d, resA P fn σ = some d ∧ LER H d σ.H r H' | .exit _ => False)) : CallD P f ds H r H' := by
  refine ⟨⟨fn, hf, hname, by simp [hb]⟩, fun K0 T K vs hr hrd => ?_⟩
  refine calls_of_wp hf hb ?_
  have hA : AR K0 K T (max fn.ntmps ds.length) ⟨initSl ds, H⟩ { tmps := vs ++ Array.replicate (fn.ntmps - vs.size) undef, defers := [] } K.w := by
    refine ⟨K, rfl, Ext.refl K, fun o ho => hr.get (hH o ho), hr, fun i => ?_, rfl, ?_⟩
    · simp only [initSl]
      by_cases hi : i < ds.length
      · have e : (vs ++ Array.replicate (fn.ntmps - vs.size) undef).getD i undef = vs.getD i undef := by
          rw [Array.getD_eq_getD_getElem?, Array.getElem?_append_left (by rw [hrd.1]; exact hi), Array.getD_eq_getD_getElem?]
        rw [e, List.getD_eq_getElem?_getD]
        simp only [hi, List.getElem?_eq_getElem, Option.getD_some]
        exact hrd.2 i _ (by simp [hi])
      · rw [List.getD_eq_getElem?_getD, List.getElem?_eq_none_iff.2 (by omega)]; exact .any _
    · simp [hrd.1]; omega
  refine wp_mono (aw_ok hdr c _ _ _ _ h hA) fun e a' w' he => ?_
  have fin : ∀ {σ : St}, (∃ d, resA P fn σ = some d ∧ LER H d σ.H r H') → AR K0 K T (max fn.ntmps ds.length) σ a' w' → a'.defers = [] ∧ ∃ v, (results fn a'.tmps).run P w' = .ok v w' ∧ (∃ v' K', Ending.returned v = .returned v' ∧ K'.w = w' ∧ Ext K K' ∧ HR K0 T K' H' ∧ VD K' v' r) := by
    rintro σ ⟨d, hd, hle⟩ ⟨K1, rfl, hE, h100, hr1, hs, hdf, hn⟩
    obtain ⟨v, g1, g2⟩ := resA_ok hr1 hs hd
    obtain ⟨K2, q1, q2, q3, q4⟩ := hle K0 K T K1 v hE (fun o ho => hr.get ho) hr1 g2
    exact ⟨hdf, v, g1, v, K2, rfl, q1, q2, q3, q4⟩
  cases e with
  | normal => obtain ⟨σ, h1, h2⟩ := he; exact fin h1 h2
  | ret => obtain ⟨σ, h1, h2⟩ := he; exact fin h1 h2
  | exit id => obtain ⟨σ, h1, h2⟩ := he; exact h1.elim
  | _ => exact he.elim

/-- .. with the number of slots told. -/
theorem callD_of {f : FuncId} {fn : Func} {c : Code} {ds : List D} {H : Nat → Ob} {r : D} {H' : Nat → Ob} (n : Nat) (hf : P.funcs[f]? = some fn) (hname : (fn.name == "runtime.NumGoroutine") = false) (hb : fn.body = some c)
    (hn : max fn.ntmps ds.length = n) (hdr : DrOk P n dr) (hH : ∀ o, 100 ≤ o → H o = .fresh)
    (h : aw P n dr c ⟨initSl ds, H⟩ (fun e σ => match e with | .normal | .ret => ∃ d, resA P fn σ = some d ∧ LER H d σ.H r H' | .exit _ => False)) : CallD P f ds H r H' := by
  subst hn; exact callD_of' hf hname hb hdr hH h
end
end Go.Abs
