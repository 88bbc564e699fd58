/- The abstract walk as a machine of rewriting: what is to be done next is data. -/
import Derived.Test.YtbclmpdgkeoioaaAbsR
set_option linter.all false
namespace Go.Abs
open Go Go.RowKit

inductive Fr where
  | code (c : Code)
  | blk (id : Nat)
  | lp (R : St → Prop)

/-- An operation of a region: its place, itself, the slot and the sign of its guard. -/
abbrev It := Nat × Oper × Option (Option Nat × Bool)
def itsOf (ops : Array Oper) : List It := ops.toList.zipIdx.map fun (o, k) => (k, o, o.guard.map fun (j, w) => ((ops[j]?).bind (·.dst), w))

def gdA (sl : Nat → D) : Option (Option Nat × Bool) → Option Bool
  | none => some true
  | some (none, _) => none
  | some (some t, w) => match sl t with
    | .i (.s (.bool b)) => some (b == w)
    | .un => some false
    | _ => none

section
variable (P : Program) (n : Nat)

def kq : List Fr → (Ex → St → Prop) → Ex → St → Prop
  | [], Q => Q
  | .code y :: ks, Q => Ex.seq (fun σ' => aw P n (drA P n) y σ' (kq ks Q)) (kq ks Q)
  | .blk id :: ks, Q => Ex.blk id (kq ks Q)
  | .lp R :: ks, Q => Ex.seq R (kq ks Q)

/-- Code, with what is behind it. -/
def W (c : Code) (σ : St) (ks : List Fr) (Q : Ex → St → Prop) : Prop := aw P n (drA P n) c σ (kq P n ks Q)
def Kn (ks : List Fr) (σ : St) (Q : Ex → St → Prop) : Prop := kq P n ks Q .normal σ
def Kx (ks : List Fr) (id : Nat) (σ : St) (Q : Ex → St → Prop) : Prop := kq P n ks Q (.exit id) σ
def Kr (ks : List Fr) (σ : St) (Q : Ex → St → Prop) : Prop := kq P n ks Q .ret σ
def Wc (d : D) (x y : Code) (σ : St) (ks : List Fr) (Q : Ex → St → Prop) : Prop := awCond P n d (W P n x σ ks Q) (W P n y σ ks Q)

/-- A region in the text's order. -/
def Ro (rid : Nat) : List It → St → List Fr → (Ex → St → Prop) → Prop
  | [], σ, ks, Q => Kn P n ks σ Q
  | (k, o, g) :: rest, σ, ks, Q => match gdA σ.sl g with
    | none => False
    | some false => dstOk n o.dst = true ∧ Ro rid rest (σ.put o.dst .un) ks Q
    | some true => awOp P n rid k o σ fun σ' => Ro rid rest σ' ks Q
def RoG (rid : Nat) (b : Option Bool) (k : Nat) (o : Oper) (rest : List It) (σ : St) (ks : List Fr) (Q : Ex → St → Prop) : Prop :=
  match b with
  | none => False
  | some false => dstOk n o.dst = true ∧ Ro P n rid rest (σ.put o.dst .un) ks Q
  | some true => awOp P n rid k o σ fun σ' => Ro P n rid rest σ' ks Q
def RoS (rid : Nat) (x : Option (D × (Nat → Ob))) (dst : Option Nat) (rest : List It) (sl : Nat → D) (ks : List Fr) (Q : Ex → St → Prop) : Prop :=
  ∃ d H', x = some (d, H') ∧ Ro P n rid rest (St.put ⟨sl, H'⟩ dst d) ks Q
def RoC (rid : Nat) (f : D) (args : List D) (dst : Option Nat) (rest : List It) (σ : St) (ks : List Fr) (Q : Ex → St → Prop) : Prop :=
  match f with
  | .fn g caps => ∃ r H', CallX P g (args ++ caps) σ.H r H' ∧ Ro P n rid rest (St.put ⟨σ.sl, H'⟩ dst r) ks Q
  | _ => False
/-- A call that waits for its contract. -/
def Call (rid : Nat) (g : FuncId) (args : List D) (dst : Option Nat) (rest : List It) (σ : St) (ks : List Fr) (Q : Ex → St → Prop) : Prop :=
  ∃ r H', CallX P g args σ.H r H' ∧ Ro P n rid rest (St.put ⟨σ.sl, H'⟩ dst r) ks Q

abbrev Acc := List (Nat × List Nat × List Nat)
/-- A region that draws its order. -/
def Rd (rid : Nat) (ops : Array Oper) : List It → Acc → St → List Fr → (Ex → St → Prop) → Prop
  | [], acc, σ, ks, Q => (edgesOk ops && freeOk ops acc) = true ∧ Kn P n ks σ Q
  | (k, o, g) :: rest, acc, σ, ks, Q => match gdA σ.sl g with
    | none => False
    | some false => dstOk n o.dst = true ∧ Rd rid ops rest ((k, [], []) :: acc) (σ.put o.dst .un) ks Q
    | some true => dstOk n o.dst = true ∧ match callOf o.op with
      | some (f, args) => match evA σ.sl f with
        | .fn g caps => ∃ x, CallE P g (args.toList.map (evA σ.sl) ++ caps) σ.H x ∧ Rd rid ops rest ((k, x.fp, x.wr) :: acc) (St.put ⟨σ.sl, x.u σ.H⟩ o.dst x.d) ks Q
        | _ => False
      | none => ∃ d H', opA P σ.sl σ.H (opid rid k) o.op = some (d, H') ∧ Rd rid ops rest ((k, (match opQ P σ.sl σ.H o.op with | some _ => ([], []) | none => fpA σ.sl (opid rid k) o.op)) :: acc) (St.put ⟨σ.sl, H'⟩ o.dst d) ks Q
def RdG (rid : Nat) (ops : Array Oper) (b : Option Bool) (k : Nat) (o : Oper) (rest : List It) (acc : Acc) (σ : St) (ks : List Fr) (Q : Ex → St → Prop) : Prop :=
  match b with
  | none => False
  | some false => dstOk n o.dst = true ∧ Rd P n rid ops rest ((k, [], []) :: acc) (σ.put o.dst .un) ks Q
  | some true => dstOk n o.dst = true ∧ match callOf o.op with
      | some (f, args) => match evA σ.sl f with
        | .fn g caps => ∃ x, CallE P g (args.toList.map (evA σ.sl) ++ caps) σ.H x ∧ Rd P n rid ops rest ((k, x.fp, x.wr) :: acc) (St.put ⟨σ.sl, x.u σ.H⟩ o.dst x.d) ks Q
        | _ => False
      | none => ∃ d H', opA P σ.sl σ.H (opid rid k) o.op = some (d, H') ∧ Rd P n rid ops rest ((k, (match opQ P σ.sl σ.H o.op with | some _ => ([], []) | none => fpA σ.sl (opid rid k) o.op)) :: acc) (St.put ⟨σ.sl, H'⟩ o.dst d) ks Q
def RdS (rid : Nat) (ops : Array Oper) (x : Option (D × (Nat → Ob))) (fp : List Nat × List Nat) (k : Nat) (dst : Option Nat) (rest : List It) (acc : Acc) (sl : Nat → D) (ks : List Fr) (Q : Ex → St → Prop) : Prop :=
  ∃ d H', x = some (d, H') ∧ Rd P n rid ops rest ((k, fp) :: acc) (St.put ⟨sl, H'⟩ dst d) ks Q
def RdQ (rid : Nat) (ops : Array Oper) (q : Option D) (k : Nat) (o : Oper) (rest : List It) (acc : Acc) (σ : St) (ks : List Fr) (Q : Ex → St → Prop) : Prop :=
  match q with
  | some d => Rd P n rid ops rest ((k, [], []) :: acc) (σ.put o.dst d) ks Q
  | none => RdS P n rid ops (opH P σ.sl σ.H (opid rid k) o.op) (fpA σ.sl (opid rid k) o.op) k o.dst rest acc σ.sl ks Q
def CallF (rid : Nat) (ops : Array Oper) (g : FuncId) (args : List D) (k : Nat) (dst : Option Nat) (rest : List It) (acc : Acc) (σ : St) (ks : List Fr) (Q : Ex → St → Prop) : Prop :=
  ∃ x, CallE P g args σ.H x ∧ Rd P n rid ops rest ((k, x.fp, x.wr) :: acc) (St.put ⟨σ.sl, x.u σ.H⟩ dst x.d) ks Q
def RdC (rid : Nat) (ops : Array Oper) (f : D) (args : List D) (k : Nat) (dst : Option Nat) (rest : List It) (acc : Acc) (σ : St) (ks : List Fr) (Q : Ex → St → Prop) : Prop :=
  match f with
  | .fn g caps => CallF P n rid ops g (args ++ caps) k dst rest acc σ ks Q
  | _ => False
def RoQ (rid : Nat) (q : Option D) (k : Nat) (o : Oper) (rest : List It) (σ : St) (ks : List Fr) (Q : Ex → St → Prop) : Prop :=
  match q with
  | some d => Ro P n rid rest (σ.put o.dst d) ks Q
  | none => RoS P n rid (opH P σ.sl σ.H (opid rid k) o.op) o.dst rest σ.sl ks Q
end

section
variable {P : Program} {n : Nat} {σ : St} {ks : List Fr} {Q : Ex → St → Prop} {rid : Nat} {ops : Array Oper} {rest : List It} {acc : Acc} {k : Nat} {o : Oper}

theorem W_seq {x y : Code} : W P n (.seq x y) σ ks Q = W P n x σ (.code y :: ks) Q := rfl
theorem W_skip : W P n .skip σ ks Q = Kn P n ks σ Q := rfl
theorem W_label {l : Nat} : W P n (.label l) σ ks Q = Kn P n ks σ Q := rfl
theorem W_block {id : Nat} {c : Code} : W P n (.block id c) σ ks Q = W P n c σ (.blk id :: ks) Q := rfl
theorem W_exit {id : Nat} : W P n (.exit id) σ ks Q = Kx P n ks id σ Q := rfl
theorem W_ret : W P n .ret σ ks Q = Kr P n ks σ Q := rfl
theorem W_cond {c : Operand} {x y : Code} : W P n (.cond c x y) σ ks Q = Wc P n (evA σ.sl c) x y σ ks Q := rfl
theorem Wc_true {x y : Code} : Wc P n (.i (.s (.bool true))) x y σ ks Q = W P n x σ ks Q := by simp [Wc, awCond]
theorem Wc_false {x y : Code} : Wc P n (.i (.s (.bool false))) x y σ ks Q = W P n y σ ks Q := by simp [Wc, awCond]
theorem Wc_split {b : Bool} {x y : Code} (h1 : b = true → W P n x σ ks Q) (h2 : b = false → W P n y σ ks Q) : Wc P n (.i (.s (.bool b))) x y σ ks Q := ⟨h1, h2⟩
theorem Kn_nil : Kn P n [] σ Q = Q .normal σ := rfl
theorem Kn_code {y : Code} : Kn P n (.code y :: ks) σ Q = W P n y σ ks Q := rfl
theorem Kn_blk {id : Nat} : Kn P n (.blk id :: ks) σ Q = Kn P n ks σ Q := rfl
theorem Kn_lp {R : St → Prop} : Kn P n (.lp R :: ks) σ Q = R σ := rfl
theorem Kx_nil {id : Nat} : Kx P n [] id σ Q = Q (.exit id) σ := rfl
theorem Kx_code {id : Nat} {y : Code} : Kx P n (.code y :: ks) id σ Q = Kx P n ks id σ Q := rfl
theorem Kx_lp {id : Nat} {R : St → Prop} : Kx P n (.lp R :: ks) id σ Q = Kx P n ks id σ Q := rfl
theorem Kx_same {id : Nat} : Kx P n (.blk id :: ks) id σ Q = Kn P n ks σ Q := by simp [Kx, kq, Ex.blk, Kn]
theorem Kx_other {id id' : Nat} (h : id ≠ id') : Kx P n (.blk id' :: ks) id σ Q = Kx P n ks id σ Q := by simp [Kx, kq, Ex.blk, h]
theorem Kr_nil : Kr P n [] σ Q = Q .ret σ := rfl
theorem Kr_code {y : Code} : Kr P n (.code y :: ks) σ Q = Kr P n ks σ Q := rfl
theorem Kr_blk {id : Nat} : Kr P n (.blk id :: ks) σ Q = Kr P n ks σ Q := rfl
theorem Kr_lp {R : St → Prop} : Kr P n (.lp R :: ks) σ Q = Kr P n ks σ Q := rfl

/-- Back at a loop's head. -/
def Lp (n : Nat) {ι : Type} (S : ι → St) (m : ι → Nat) (i : ι) (σ' : St) : Prop := ∃ j, LE n σ' (S j) ∧ m j < m i
theorem W_loop {body : Code} {ι : Type} (S : ι → St) (m : ι → Nat) (i : ι) (h0 : LE n σ (S i)) (h : ∀ i, W P n body (S i) (.lp (Lp n S m i) :: ks) Q) : W P n (.loop body) σ ks Q :=
  ⟨ι, S, m, i, h0, h⟩

theorem gdA_eq {sl : Nat → D} : gdA sl (o.guard.map fun (j, w) => ((ops[j]?).bind (·.dst), w)) = wantA ops sl o.guard := by
  cases hg : o.guard with
  | none => rfl
  | some p =>
    obtain ⟨j, w⟩ := p
    simp only [Option.map_some, wantA, gdA]
    cases h : (ops[j]?).bind (·.dst) <;> rfl

theorem its_eq (ops : Array Oper) : ∀ (l : List (Oper × Nat)), (∀ p ∈ l, ops[p.2]? = some p.1) → ∀ (σ : St),
    awOps P n rid ops (l.map (·.2)) σ (fun σ' => Kn P n ks σ' Q) = Ro P n rid (l.map fun (o, k) => (k, o, o.guard.map fun (j, w) => ((ops[j]?).bind (·.dst), w))) σ ks Q
  | [], _, σ => rfl
  | (o, k) :: l, hl, σ => by
    simp only [List.map_cons, Ro]
    rw [gdA_eq]
    simp only [awOps, hl (o, k) (by simp)]
    have ih := its_eq ops l (fun p hp => hl p (by simp [hp]))
    cases wantA ops σ.sl o.guard with
    | none => rfl
    | some b => cases b <;> simp [ih]

theorem zip_map (ops : Array Oper) : ops.toList.zipIdx.map (·.2) = List.range ops.size := by
  rw [List.zipIdx_eq_zip_range']
  rw [← List.unzip_snd, List.unzip_zip_right (by simp)]
  simp [List.range_eq_range']

theorem zip_get (ops : Array Oper) : ∀ p ∈ ops.toList.zipIdx, ops[p.2]? = some p.1 := by
  intro p hp
  obtain ⟨o, k⟩ := p
  have := List.mem_zipIdx_iff_getElem?.1 hp
  simpa using this

theorem W_reg {id : Nat} : W P n (.region id ops false) σ ks Q = (ops.all (fun o => dstOk n o.dst) = true ∧ Ro P n id (itsOf ops) σ ks Q) := by
  have := its_eq (P := P) (n := n) (rid := id) (ks := ks) (Q := Q) ops ops.toList.zipIdx (zip_get ops) σ
  rw [zip_map] at this
  show (_ ∧ _) = _
  rw [show (kq P n ks Q .normal) = fun σ' => Kn P n ks σ' Q from rfl, this]; rfl

theorem itsD_eq (ops : Array Oper) : ∀ (l : List (Oper × Nat)), (∀ p ∈ l, ops[p.2]? = some p.1) → ∀ (σ : St) (acc : Acc),
    awD P n rid ops (l.map (·.2)) σ acc (fun σ' => Kn P n ks σ' Q) = Rd P n rid ops (l.map fun (o, k) => (k, o, o.guard.map fun (j, w) => ((ops[j]?).bind (·.dst), w))) acc σ ks Q
  | [], _, σ, acc => rfl
  | (o, k) :: l, hl, σ, acc => by
    simp only [List.map_cons, Rd]
    rw [gdA_eq]
    simp only [awD, hl (o, k) (by simp)]
    have ih := itsD_eq ops l (fun p hp => hl p (by simp [hp]))
    cases wantA ops σ.sl o.guard with
    | none => rfl
    | some b =>
      cases b
      · simp [ih]
      · cases hc : callOf o.op with
        | none => simp [ih]; intro _; exact Iff.rfl
        | some p =>
          obtain ⟨f, args⟩ := p
          cases hf : evA σ.sl f <;> simp [ih] <;> (intro _; exact Iff.rfl)

theorem W_regD {id : Nat} : W P n (.region id ops true) σ ks Q = (ops.all (fun o => dstOk n o.dst) = true ∧ P.follows .mixedOrders = true ∧ Rd P n id ops (itsOf ops) [] σ ks Q) := by
  have := itsD_eq (P := P) (n := n) (rid := id) (ks := ks) (Q := Q) ops ops.toList.zipIdx (zip_get ops) σ []
  rw [zip_map] at this
  show (_ ∧ _ ∧ _) = _
  rw [show (kq P n ks Q .normal) = fun σ' => Kn P n ks σ' Q from rfl, this]; rfl

theorem Ro_nil : Ro P n rid [] σ ks Q = Kn P n ks σ Q := rfl
theorem Ro_cons {g : Option (Option Nat × Bool)} : Ro P n rid ((k, o, g) :: rest) σ ks Q = RoG P n rid (gdA σ.sl g) k o rest σ ks Q := rfl
theorem RoG_false : RoG P n rid (some false) k o rest σ ks Q = (dstOk n o.dst = true ∧ Ro P n rid rest (σ.put o.dst .un) ks Q) := rfl
theorem RoG_op (h : callOf o.op = none) : RoG P n rid (some true) k o rest σ ks Q = (dstOk n o.dst = true ∧ RoQ P n rid (opQ P σ.sl σ.H o.op) k o rest σ ks Q) := by
  simp only [RoG, awOp, h]
  refine propext ⟨fun ⟨a, d, H', b, c⟩ => ⟨a, ?_⟩, fun ⟨a, b⟩ => ⟨a, ?_⟩⟩
  · cases hq : opQ P σ.sl σ.H o.op with
    | some d' => simp only [opA, hq, Option.some.injEq, Prod.mk.injEq] at b; obtain ⟨rfl, rfl⟩ := b; exact c
    | none => simp only [opA, hq] at b; exact ⟨d, H', b, c⟩
  · cases hq : opQ P σ.sl σ.H o.op with
    | some d' => rw [hq] at b; exact ⟨d', σ.H, by simp [opA, hq], b⟩
    | none => rw [hq] at b; obtain ⟨d, H', b, c⟩ := b; exact ⟨d, H', by simp only [opA, hq]; exact b, c⟩
theorem RoQ_some {d : D} : RoQ P n rid (some d) k o rest σ ks Q = Ro P n rid rest (σ.put o.dst d) ks Q := rfl
theorem RoQ_none : RoQ P n rid none k o rest σ ks Q = RoS P n rid (opH P σ.sl σ.H (opid rid k) o.op) o.dst rest σ.sl ks Q := rfl
theorem RoS_some {d : D} {H' : Nat → Ob} {dst : Option Nat} {sl : Nat → D} : RoS P n rid (some (d, H')) dst rest sl ks Q = Ro P n rid rest (St.put ⟨sl, H'⟩ dst d) ks Q := by
  simp only [RoS]; exact propext ⟨fun ⟨_, _, e, h⟩ => by cases e; exact h, fun h => ⟨_, _, rfl, h⟩⟩
theorem RoG_call {f : Operand} {args : Array Operand} (h : callOf o.op = some (f, args)) : RoG P n rid (some true) k o rest σ ks Q = (dstOk n o.dst = true ∧ RoC P n rid (evA σ.sl f) (args.toList.map (evA σ.sl)) o.dst rest σ ks Q) := by
  simp only [RoG, awOp, h]; rfl
theorem RoC_fn {g : FuncId} {caps args : List D} {dst : Option Nat} : RoC P n rid (.fn g caps) args dst rest σ ks Q = Call P n rid g (args ++ caps) dst rest σ ks Q := rfl

theorem Rd_nil : Rd P n rid ops [] acc σ ks Q = ((edgesOk ops && freeOk ops acc) = true ∧ Kn P n ks σ Q) := rfl
theorem Rd_cons {g : Option (Option Nat × Bool)} : Rd P n rid ops ((k, o, g) :: rest) acc σ ks Q = RdG P n rid ops (gdA σ.sl g) k o rest acc σ ks Q := rfl
theorem RdG_false : RdG P n rid ops (some false) k o rest acc σ ks Q = (dstOk n o.dst = true ∧ Rd P n rid ops rest ((k, [], []) :: acc) (σ.put o.dst .un) ks Q) := rfl
theorem RdG_op (h : callOf o.op = none) : RdG P n rid ops (some true) k o rest acc σ ks Q = (dstOk n o.dst = true ∧ RdQ P n rid ops (opQ P σ.sl σ.H o.op) k o rest acc σ ks Q) := by
  simp only [RdG, h]
  refine propext ⟨fun ⟨a, d, H', b, c⟩ => ⟨a, ?_⟩, fun ⟨a, b⟩ => ⟨a, ?_⟩⟩
  · cases hq : opQ P σ.sl σ.H o.op with
    | some d' => simp only [opA, hq, Option.some.injEq, Prod.mk.injEq] at b; obtain ⟨rfl, rfl⟩ := b; rw [hq] at c; exact c
    | none => simp only [opA, hq] at b; rw [hq] at c; exact ⟨d, H', b, c⟩
  · cases hq : opQ P σ.sl σ.H o.op with
    | some d' => rw [hq] at b; exact ⟨d', σ.H, by simp [opA, hq], b⟩
    | none => rw [hq] at b; obtain ⟨d, H', b, c⟩ := b; exact ⟨d, H', by simp only [opA, hq]; exact b, c⟩
theorem RdQ_some {d : D} : RdQ P n rid ops (some d) k o rest acc σ ks Q = Rd P n rid ops rest ((k, [], []) :: acc) (σ.put o.dst d) ks Q := rfl
theorem RdQ_none : RdQ P n rid ops none k o rest acc σ ks Q = RdS P n rid ops (opH P σ.sl σ.H (opid rid k) o.op) (fpA σ.sl (opid rid k) o.op) k o.dst rest acc σ.sl ks Q := rfl
theorem RdS_some {d : D} {H' : Nat → Ob} {dst : Option Nat} {sl : Nat → D} {fp : List Nat × List Nat} : RdS P n rid ops (some (d, H')) fp k dst rest acc sl ks Q = Rd P n rid ops rest ((k, fp) :: acc) (St.put ⟨sl, H'⟩ dst d) ks Q := by
  simp only [RdS]; exact propext ⟨fun ⟨_, _, e, h⟩ => by cases e; exact h, fun h => ⟨_, _, rfl, h⟩⟩
theorem RdG_call {f : Operand} {args : Array Operand} (h : callOf o.op = some (f, args)) : RdG P n rid ops (some true) k o rest acc σ ks Q = (dstOk n o.dst = true ∧ RdC P n rid ops (evA σ.sl f) (args.toList.map (evA σ.sl)) k o.dst rest acc σ ks Q) := by
  simp only [RdG, h]; rfl
theorem RdC_fn {g : FuncId} {caps args : List D} {dst : Option Nat} : RdC P n rid ops (.fn g caps) args k dst rest acc σ ks Q = CallF P n rid ops g (args ++ caps) k dst rest acc σ ks Q := rfl

theorem put_some {sl : Nat → D} {H : Nat → Ob} {i : Nat} {d : D} : St.put ⟨sl, H⟩ (some i) d = ⟨upd sl i d, H⟩ := rfl
theorem put_none {d : D} : σ.put none d = σ := rfl

/-- The end of a walk. -/
def Fin (P : Program) (fn : Func) (H : Nat → Ob) (r : D) (H' : Nat → Ob) (e : Ex) (σ : St) : Prop :=
  match e with | .normal | .ret => ∃ d, resA P fn σ = some d ∧ LER H d σ.H r H' | .exit _ => False

/-- The parameters' slots. -/
def inS : List D → Nat → List (Nat × D)
  | [], _ => []
  | d :: t, i => (i, d) :: inS t (i + 1)
theorem lk_inS : ∀ (ds : List D) (i j : Nat), lk (inS ds i) .any (i + j) = ds.getD j .any
  | [], i, j => by simp [inS, lk]
  | d :: t, i, 0 => by simp [inS, lk]
  | d :: t, i, j + 1 => by
    simp only [inS, lk]
    rw [if_neg (by omega)]
    have := lk_inS t (i + 1) j
    rw [show i + 1 + j = i + (j + 1) by omega] at this
    rw [this]; simp
theorem initSl_lk (ds : List D) : initSl ds = lk (inS ds 0) .any := by
  funext j
  have := lk_inS ds 0 j
  rw [Nat.zero_add] at this
  exact this.symm

/-- THE CONTRACT, FROM THE TEXT. -/
theorem callD_W {f : FuncId} {fn : Func} {c : Code} {ds : List D} {H : Nat → Ob} {r : D} {H' : Nat → Ob} (n : Nat) (hf : P.funcs[f]? = some fn) (hname : (fn.name == "runtime.NumGoroutine") = false) (hb : fn.body = some c)
    (hn : max fn.ntmps ds.length = n) (hH : ∀ o, 100 ≤ o → H o = .fresh)
    (h : W P n c ⟨lk (inS ds 0) .any, H⟩ [] (Fin P fn H r H')) : CallD P f ds H r H' :=
  callD_of n hf hname hb hn (drA_ok P n) hH (by rw [initSl_lk]; exact h)

/-- A call that only reads, by its contract: its result bears no memory. -/
theorem Call_flat {g : FuncId} {args ds' : List D} {dst : Option Nat} (F B : List Nat) {r : D} (hp : PureD P g ds' r) (hc : cvAs σ.H F B args ds') (hflat : r.flat = true) (h : Ro P n rid rest (σ.put dst r) ks Q) : Call P n rid g args dst rest σ ks Q :=
  ⟨r, σ.H, .inl (pure_flat F B hp hc hflat), h⟩
/-- .. its result may bear what was lent. -/
theorem Call_frz {g : FuncId} {args ds' : List D} {dst : Option Nat} (F : List Nat) {r : D} (hp : PureD P g ds' r) (hc : cvAs σ.H F [] args ds') (h : Ro P n rid rest (St.put ⟨σ.sl, frz F σ.H⟩ dst r) ks Q) : Call P n rid g args dst rest σ ks Q :=
  ⟨r, frz F σ.H, .inl (pure_frz F hp hc), h⟩
theorem Call_D {g : FuncId} {args : List D} {dst : Option Nat} {r : D} {H' : Nat → Ob} (hp : CallD P g args σ.H r H') (h : Ro P n rid rest (St.put ⟨σ.sl, H'⟩ dst r) ks Q) : Call P n rid g args dst rest σ ks Q :=
  ⟨r, H', .inl hp, h⟩
end
end Go.Abs
