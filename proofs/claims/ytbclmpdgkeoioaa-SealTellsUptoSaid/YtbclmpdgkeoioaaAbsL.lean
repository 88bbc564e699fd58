/- Walks on the abstract memory: contracts of calls, regions, code; and what they say of the machine. -/
import Derived.Test.YtbclmpdgkeoioaaAbsK
set_option linter.all false
namespace Go.Abs
open Go Go.RowKit

/-- The values read as told. -/
def Reads (K : Ctx) (vs : Array Value) (ds : List D) : Prop := vs.size = ds.length ∧ ∀ (j : Nat) (d : D), ds[j]? = some d → VD K (vs.getD j undef) d

/-- A function with a text. -/
def Enters (P : Program) (f : FuncId) : Prop := ∃ fn, P.funcs[f]? = some fn ∧ (fn.name == "runtime.NumGoroutine") = false ∧ fn.body.isNone = false

/-- THE CONTRACT OF A CALL: what it yields, and what becomes of the caller's objects. -/
def CallD (P : Program) (f : FuncId) (ds : List D) (H : Nat → Ob) (r : D) (H' : Nat → Ob) : Prop :=
  Enters P f ∧ ∀ (K0 : Ctx) (T : Nat → Prop) (K : Ctx) (vs : Array Value), HR K0 T K H → Reads K vs ds →
    Calls P f vs K.w fun e w' => ∃ v K', e = .returned v ∧ K'.w = w' ∧ Ext K K' ∧ HR K0 T K' H' ∧ VD K' v r

/-- A function without a text: what it yields at once. -/
def DirD (P : Program) (f : FuncId) (ds : List D) (H : Nat → Ob) (r : D) (H' : Nat → Ob) : Prop :=
  ∀ (K0 : Ctx) (T : Nat → Prop) (K : Ctx) (vs : Array Value), HR K0 T K H → Reads K vs ds →
    ∃ v K', (callFunc f vs).run P K.w = .ok (.value v) K'.w ∧ Ext K K' ∧ HR K0 T K' H' ∧ VD K' v r
def CallX (P : Program) (f : FuncId) (ds : List D) (H : Nat → Ob) (r : D) (H' : Nat → Ob) : Prop := CallD P f ds H r H' ∨ DirD P f ds H r H'

structure St where
  sl : Nat → D
  H : Nat → Ob

def St.put (σ : St) (dst : Option Nat) (d : D) : St :=
  match dst with
  | some i => ⟨upd σ.sl i d, σ.H⟩
  | none => σ

/-- Numbers below 100 are the caller's. -/
def AR (K0 E0 : Ctx) (T : Nat → Prop) (n : Nat) (σ : St) (a : Act) (w : World) : Prop :=
  ∃ K, K.w = w ∧ Ext E0 K ∧ (∀ o, 100 ≤ o → E0.μ o = none) ∧ HR K0 T K σ.H ∧ (∀ i, VD K (a.tmps.getD i undef) (σ.sl i)) ∧ a.defers = [] ∧ a.tmps.size = n

def dstOk (n : Nat) : Option Nat → Bool
  | some i => decide (i < n)
  | none => true

def opid (rid k : Nat) : Nat := 1000 + rid * 256 + k

def wantA (ops : Array Oper) (sl : Nat → D) : Option (Nat × Bool) → Option Bool
  | none => some true
  | some (j, want) => match (ops[j]?).bind (·.dst) with
    | none => none
    | some t => match sl t with
      | .i (.s (.bool b)) => some (b == want)
      | .un => some false
      | _ => none

def callOf : Op → Option (Operand × Array Operand)
  | .call { callee := .value f, args := args, .. } => some (f, args)
  | _ => none

/-- One operation, on the way. -/
def awOp (P : Program) (n rid k : Nat) (o : Oper) (σ : St) (Q : St → Prop) : Prop :=
  dstOk n o.dst = true ∧
  match callOf o.op with
  | some (f, args) => match evA σ.sl f with
    | .fn g caps => ∃ r H', CallX P g (args.toList.map (evA σ.sl) ++ caps) σ.H r H' ∧ Q (St.put ⟨σ.sl, H'⟩ o.dst r)
    | _ => False
  | none => ∃ d H', opA P σ.sl σ.H (opid rid k) o.op = some (d, H') ∧ Q (St.put ⟨σ.sl, H'⟩ o.dst d)

def awOps (P : Program) (n rid : Nat) (ops : Array Oper) : List Nat → St → (St → Prop) → Prop
  | [], σ, Q => Q σ
  | k :: rest, σ, Q => match ops[k]? with
    | none => False
    | some o => match wantA ops σ.sl o.guard with
      | none => False
      | some b => (b = true → awOp P n rid k o σ fun σ' => awOps P n rid ops rest σ' Q) ∧ (b = false → dstOk n o.dst = true ∧ awOps P n rid ops rest (σ.put o.dst .un) Q)

section
variable {P : Program} {K0 E0 : Ctx} {T : Nat → Prop} {n : Nat}

theorem AR.eval {σ : St} {K : Ctx} {a : Act} (h : ∀ i, VD K (a.tmps.getD i undef) (σ.sl i)) (x : Operand) : VD K (a.eval x) (evA σ.sl x) := by
  cases x with
  | tmp t => exact h t
  | const v => exact ofV_ok v
  | global g => exact .any _
  | func f => exact .fn f #[] [] rfl (fun j d hd => by simp at hd)

theorem AR.put {σ : St} {a : Act} {K : Ctx} {d : D} {v : Value} {dst : Option Nat} {H' : Nat → Ob} (hE : Ext E0 K) (h100 : ∀ o, 100 ≤ o → E0.μ o = none) (hr : HR K0 T K H') (hs : ∀ i, VD K (a.tmps.getD i undef) (σ.sl i)) (hd : a.defers = []) (hn : a.tmps.size = n)
    (hv : VD K v d) (hdst : dstOk n dst = true) : AR K0 E0 T n (St.put ⟨σ.sl, H'⟩ dst d) (a.put dst v) K.w := by
  cases dst with
  | none => exact ⟨K, rfl, hE, h100, hr, hs, hd, hn⟩
  | some i =>
    simp only [dstOk, decide_eq_true_eq] at hdst
    refine ⟨K, rfl, hE, h100, hr, fun j => ?_, hd, by simp [Act.put, hn]⟩
    by_cases h : j = i
    · subst h
      simp only [St.put, upd_same, Act.put]
      rw [Array.getD_eq_getD_getElem?, Array.getElem?_setIfInBounds_self_of_lt (by omega)]
      exact hv
    · simp only [St.put, upd_ne _ _ h, Act.put]
      rw [Array.getD_eq_getD_getElem?, Array.getElem?_setIfInBounds_ne (by omega), ← Array.getD_eq_getD_getElem?]
      exact hs j

theorem opA_ok {K : Ctx} {H H' : Nat → Ob} {sl : Nat → D} {ρ : Operand → Value} {id : Nat} {d : D} (hr : HR K0 T K H) (hρ : ∀ x, VD K (ρ x) (evA sl x)) (o : Oper) (h : opA P sl H id o.op = some (d, H')) : Ran P K0 T K (execOp ρ o) d H' := by
  simp only [opA] at h
  split at h
  · rename_i d' hq
    simp only [Option.some.injEq, Prod.mk.injEq] at h
    obtain ⟨rfl, rfl⟩ := h
    obtain ⟨v, h1, h2⟩ := opQ_ok hρ o hq
    exact ⟨v, K, .inl h1, Ext.refl K, hr, h2⟩
  · exact opH_ok hr hρ o h

theorem callOf_some {op : Op} {f : Operand} {args : Array Operand} (h : callOf op = some (f, args)) : ∃ tys, op = .call { callee := .value f, args := args, argTypes := tys } := by
  unfold callOf at h
  split at h
  · simp only [Option.some.injEq, Prod.mk.injEq] at h
    obtain ⟨rfl, rfl⟩ := h
    exact ⟨_, rfl⟩
  · cases h

theorem awOp_ok {rid k : Nat} {o : Oper} {σ : St} {a : Act} {w : World} {Q : St → Prop} {next : Act → World → Prop} {Q' : Exit → Act → World → Prop} (h : awOp P n rid k o σ Q) (hA : AR K0 E0 T n σ a w)
    (hK : ∀ σ' a' w', Q σ' → AR K0 E0 T n σ' a' w' → next a' w') : o.wp P a w next Q' := by
  obtain ⟨hdst, h⟩ := h
  obtain ⟨K, rfl, hE, h100, hr, hs, hd, hn⟩ := hA
  split at h
  · rename_i f args hc
    obtain ⟨tys, hop⟩ := callOf_some hc
    split at h
    · rename_i g caps hf
      obtain ⟨r, H', hx, hQ⟩ := h
      have hfv := AR.eval hs f
      rw [hf] at hfv
      generalize hv : a.eval f = fv at hfv
      cases hfv with
      | fn _ vs _ hl hcv =>
        have hrd : Reads K (args.map a.eval ++ vs) (args.toList.map (evA σ.sl) ++ caps) := by
          refine ⟨by simp [hl], fun j d hd => ?_⟩
          by_cases hj : j < args.size
          · rw [List.getElem?_append_left (by simpa using hj)] at hd
            simp only [List.getElem?_map, Option.map_eq_some_iff] at hd
            obtain ⟨x, hx, rfl⟩ := hd
            have hx' : args[j] = x := by simpa [hj] using hx
            have : (args.map a.eval ++ vs).getD j undef = a.eval x := by
              rw [Array.getD_eq_getD_getElem?, Array.getElem?_append_left (by simpa using hj)]
              simp [hj, hx']
            rw [this]; exact AR.eval hs x
          · rw [List.getElem?_append_right (by simpa using hj)] at hd
            have : (args.map a.eval ++ vs).getD j undef = vs.getD (j - args.size) undef := by
              rw [Array.getD_eq_getD_getElem?, Array.getElem?_append_right (by simpa using hj), Array.getD_eq_getD_getElem?]; simp
            rw [this]
            exact hcv _ _ (by simpa using hd)
        rcases hx with ⟨⟨fn, hfn, hname, hbody⟩, hcall⟩ | hdir
        rotate_left
        · obtain ⟨v, K', h1, he, hr', hv'⟩ := hdir K0 T K _ hr hrd
          have hrun : (execOp a.eval o).run P K.w = .ok (.value v) K'.w := by
            simpa [execOp, hop, resolve, hv, Deferred.ofValue, invoke] using h1
          unfold Oper.wp
          rw [hrun]
          exact hK _ _ _ hQ (AR.put (hE.trans he) h100 hr' (fun i => (hs i).ext he) hd hn hv' hdst)
        have hrun : (execOp a.eval o).run P K.w = .ok (.enter g (args.map a.eval ++ vs)) K.w := by
          have hn' : (fn.name == "runtime.NumGoroutine") = false := hname
          have hb' : fn.body ≠ none := by intro h; simp [h] at hbody
          have hn'' : fn.name ≠ "runtime.NumGoroutine" := by simpa using hn'
          simp [execOp, hop, resolve, hv, Deferred.ofValue, invoke, callFunc, hfn]
          rw [if_neg hn'', if_neg hb']
        unfold Oper.wp
        rw [hrun]
        refine (hcall K0 T K _ hr hrd).mono ?_
        rintro e w' ⟨v, K', rfl, rfl, he, hr', hv'⟩
        exact hK _ _ _ hQ (AR.put (hE.trans he) h100 hr' (fun i => (hs i).ext he) hd hn hv' hdst)
    · exact h.elim
  · obtain ⟨d, H', hop, hQ⟩ := h
    obtain ⟨v, K', hrun, he, hr', hv'⟩ := opA_ok hr (AR.eval hs) o hop
    unfold Oper.wp
    rcases hrun with hrun | ⟨hrun, hvu⟩
    · rw [hrun]
      exact hK _ _ _ hQ (AR.put (hE.trans he) h100 hr' (fun i => (hs i).ext he) hd hn hv' hdst)
    · rw [hrun]
      subst hvu
      exact hK _ _ _ hQ (AR.put (hE.trans he) h100 hr' (fun i => (hs i).ext he) hd hn hv' hdst)

theorem wantA_ok {ops : Array Oper} {σ : St} {K : Ctx} {a : Act} {o : Oper} {b : Bool} (hs : ∀ i, VD K (a.tmps.getD i undef) (σ.sl i)) (hall : ∀ (o : Oper), o ∈ ops → dstOk a.tmps.size o.dst = true) (h : wantA ops σ.sl o.guard = some b) : Region.wanted o (yielded ops a.tmps) = b := by
  unfold wantA at h
  unfold Region.wanted
  cases hg : o.guard with
  | none => simp [hg] at h; simp [h]
  | some p =>
    obtain ⟨j, want⟩ := p
    simp only [hg] at h ⊢
    split at h
    · cases h
    · rename_i t ht
      have htl : t < a.tmps.size := by
        simp only [Option.bind_eq_some_iff] at ht
        obtain ⟨o', ho', hd⟩ := ht
        have := hall o' (Array.mem_of_getElem? ho')
        rw [hd] at this
        simpa [dstOk] using this
      have hst := hs t
      rw [getD_lt htl] at hst
      have hy : yielded ops a.tmps j = match a.tmps[t] with | .bool b => some b | _ => none := by
        unfold yielded
        rw [ht]
        simp [htl]
        cases a.tmps[t] <;> rfl
      rw [hy]
      generalize a.tmps[t] = v at hst
      split at h
      · rename_i b' hb
        rw [hb] at hst
        have := conc_ok hst (v' := .bool b') rfl
        subst this
        simp at h
        rw [← h]
        cases b' <;> cases want <;> rfl
      · rename_i hb
        rw [hb] at hst
        cases hst
        simp at h
        subst h; rfl
      · cases h

theorem awOps_ok {rid : Nat} {ops : Array Oper} (hall : ∀ (o : Oper), o ∈ ops → dstOk n o.dst = true) {Q : St → Prop} {Q' : Exit → Act → World → Prop} (hK : ∀ σ' a' w', Q σ' → AR K0 E0 T n σ' a' w' → Q' .normal a' w') :
    ∀ (l : List Nat) (σ : St) (a : Act) (w : World), awOps P n rid ops l σ Q → AR K0 E0 T n σ a w → wpOps P ops Q' l a w
  | [], σ, a, w, h, hA => hK σ a w h hA
  | k :: rest, σ, a, w, h, hA => by
    simp only [awOps] at h
    simp only [wpOps]
    cases ho : ops[k]? with
    | none => simp [ho] at h
    | some o =>
      simp only [ho] at h ⊢
      have hA' := hA
      obtain ⟨K, rfl, hE, h100, hr, hs, hd, hn⟩ := hA'
      split at h
      · exact h.elim
      · rename_i b hb
        rw [wantA_ok hs (by rw [hn]; exact hall) hb]
        cases b with
        | true => exact .inl (awOp_ok (h.1 rfl) hA (fun σ' a' w' hq hA => awOps_ok hall hK rest σ' a' w' hq hA))
        | false =>
          obtain ⟨h1, h2⟩ := h.2 rfl
          exact awOps_ok hall hK rest _ _ _ h2 (AR.put (σ := σ) hE h100 hr hs hd hn .un h1)
end
end Go.Abs
