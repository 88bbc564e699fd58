/- The walk's rewriting rules, one a case. -/
import Derived.Test.YtbclmpdgkeoioaaAbsT
set_option linter.all false
namespace Go.Abs
open Go Go.RowKit

section
variable {P : Program} {sl : Nat → D} {H : Nat → Ob} {t s d e ty : TypeId} {x y z l c : Operand} {id : Nat} {n : Nat}

section
variable {dst : Option Tmp} {op : Op} {oty : TypeId} {pos : String} {after : Array Edge} {guard : Option (Nat × Bool)} {rid k n : Nat} {rest : List It} {σ : St} {ks : List Fr} {Q : Ex → St → Prop} {ops : Array Oper} {acc : Acc}
/-- which kind of operation -/
def RoX (P : Program) (n rid : Nat) (c : Option (Operand × Array Operand)) (k : Nat) (dst : Option Tmp) (op : Op) (rest : List It) (σ : St) (ks : List Fr) (Q : Ex → St → Prop) : Prop :=
  match c with
  | none => RoQ P n rid (opQ P σ.sl σ.H op) k ⟨dst, op, 0, "", #[], none⟩ rest σ ks Q
  | some (f, args) => RoC P n rid (evA σ.sl f) (args.toList.map (evA σ.sl)) dst rest σ ks Q
def RdX (P : Program) (n rid : Nat) (ops : Array Oper) (c : Option (Operand × Array Operand)) (k : Nat) (dst : Option Tmp) (op : Op) (rest : List It) (acc : Acc) (σ : St) (ks : List Fr) (Q : Ex → St → Prop) : Prop :=
  match c with
  | none => RdQ P n rid ops (opQ P σ.sl σ.H op) k ⟨dst, op, 0, "", #[], none⟩ rest acc σ ks Q
  | some (f, args) => RdC P n rid ops (evA σ.sl f) (args.toList.map (evA σ.sl)) k dst rest acc σ ks Q
theorem Ro_x : RoG P n rid (some true) k ⟨dst, op, oty, pos, after, guard⟩ rest σ ks Q = (dstOk n dst = true ∧ RoX P n rid (callOf op) k dst op rest σ ks Q) := by
  cases h : callOf op with
  | none => exact RoG_op h
  | some p => obtain ⟨f, args⟩ := p; exact RoG_call h
theorem Rd_x : RdG P n rid ops (some true) k ⟨dst, op, oty, pos, after, guard⟩ rest acc σ ks Q = (dstOk n dst = true ∧ RdX P n rid ops (callOf op) k dst op rest acc σ ks Q) := by
  cases h : callOf op with
  | none => exact RdG_op h
  | some p => obtain ⟨f, args⟩ := p; exact RdG_call h
theorem Ro_q0 : RoX P n rid none k dst op rest σ ks Q = RoQ P n rid (opQ P σ.sl σ.H op) k ⟨dst, op, 0, "", #[], none⟩ rest σ ks Q := rfl
theorem Ro_c0 {f : Operand} {args : Array Operand} : RoX P n rid (some (f, args)) k dst op rest σ ks Q = RoC P n rid (evA σ.sl f) (args.toList.map (evA σ.sl)) dst rest σ ks Q := rfl
theorem Rd_q0 : RdX P n rid ops none k dst op rest acc σ ks Q = RdQ P n rid ops (opQ P σ.sl σ.H op) k ⟨dst, op, 0, "", #[], none⟩ rest acc σ ks Q := rfl
theorem Rd_c0 {f : Operand} {args : Array Operand} : RdX P n rid ops (some (f, args)) k dst op rest acc σ ks Q = RdC P n rid ops (evA σ.sl f) (args.toList.map (evA σ.sl)) k dst rest acc σ ks Q := rfl
theorem Ro_q (h : callOf op = none) : RoG P n rid (some true) k ⟨dst, op, oty, pos, after, guard⟩ rest σ ks Q = (dstOk n dst = true ∧ RoQ P n rid (opQ P σ.sl σ.H op) k ⟨dst, op, oty, pos, after, guard⟩ rest σ ks Q) := RoG_op h
theorem Ro_qs {d : D} : RoQ P n rid (some d) k ⟨dst, op, oty, pos, after, guard⟩ rest σ ks Q = Ro P n rid rest (σ.put dst d) ks Q := rfl
theorem Ro_qn : RoQ P n rid none k ⟨dst, op, oty, pos, after, guard⟩ rest σ ks Q = RoS P n rid (opH P σ.sl σ.H (opid rid k) op) dst rest σ.sl ks Q := rfl
theorem Ro_c {f : Operand} {args : Array Operand} (h : callOf op = some (f, args)) : RoG P n rid (some true) k ⟨dst, op, oty, pos, after, guard⟩ rest σ ks Q = (dstOk n dst = true ∧ RoC P n rid (evA σ.sl f) (args.toList.map (evA σ.sl)) dst rest σ ks Q) := RoG_call h
theorem Ro_f : RoG P n rid (some false) k ⟨dst, op, oty, pos, after, guard⟩ rest σ ks Q = (dstOk n dst = true ∧ Ro P n rid rest (σ.put dst .un) ks Q) := rfl
theorem Rd_q (h : callOf op = none) : RdG P n rid ops (some true) k ⟨dst, op, oty, pos, after, guard⟩ rest acc σ ks Q = (dstOk n dst = true ∧ RdQ P n rid ops (opQ P σ.sl σ.H op) k ⟨dst, op, oty, pos, after, guard⟩ rest acc σ ks Q) := RdG_op h
theorem Rd_qs {d : D} : RdQ P n rid ops (some d) k ⟨dst, op, oty, pos, after, guard⟩ rest acc σ ks Q = Rd P n rid ops rest ((k, [], []) :: acc) (σ.put dst d) ks Q := rfl
theorem Rd_qn : RdQ P n rid ops none k ⟨dst, op, oty, pos, after, guard⟩ rest acc σ ks Q = RdS P n rid ops (opH P σ.sl σ.H (opid rid k) op) (fpA σ.sl (opid rid k) op) k dst rest acc σ.sl ks Q := rfl
theorem Rd_c {f : Operand} {args : Array Operand} (h : callOf op = some (f, args)) : RdG P n rid ops (some true) k ⟨dst, op, oty, pos, after, guard⟩ rest acc σ ks Q = (dstOk n dst = true ∧ RdC P n rid ops (evA σ.sl f) (args.toList.map (evA σ.sl)) k dst rest acc σ ks Q) := RdG_call h
theorem Rd_f : RdG P n rid ops (some false) k ⟨dst, op, oty, pos, after, guard⟩ rest acc σ ks Q = (dstOk n dst = true ∧ Rd P n rid ops rest ((k, [], []) :: acc) (σ.put dst .un) ks Q) := rfl
end
def okAll (n : Nat) (ops : Array Oper) : Bool := ops.all fun o => dstOk n o.dst
def okL (n : Nat) : List Oper → Bool
  | [] => true
  | o :: t => dstOk n o.dst && okL n t
theorem okAll_eq {n : Nat} {l : List Oper} : okAll n l.toArray = okL n l := by
  unfold okAll
  rw [List.all_toArray]
  induction l with
  | nil => rfl
  | cons a t ih => rw [List.all_cons, ih]; rfl
theorem okL_nil {n : Nat} : okL n [] = true := rfl
theorem okL_cons {n : Nat} {dst : Option Tmp} {op : Op} {oty : TypeId} {pos : String} {after : Array Edge} {guard : Option (Nat × Bool)} {t : List Oper} : okL n (⟨dst, op, oty, pos, after, guard⟩ :: t) = (dstOk n dst && okL n t) := rfl
theorem W_r {id n : Nat} {σ : St} {ks : List Fr} {Q : Ex → St → Prop} {ops : Array Oper} : W P n (.region id ops false) σ ks Q = (okAll n ops = true ∧ Ro P n id (itsOf ops) σ ks Q) := W_reg
/-- Ancestors, as bits. -/
def ancStep (ms : List Nat) (o : Oper) : List Nat := ms ++ [(o.after.toList.filter (Region.binds .any)).foldl (fun a e => a ||| (ms.getD e.on 0 ||| 1 <<< e.on)) 0]
def ancM (ops : Array Oper) : List Nat := ops.toList.foldl ancStep []
def freeM (ops : Array Oper) (ms : List Nat) : List (Nat × List Nat × List Nat) → Bool
  | [] => true
  | (j, fj, wj) :: t => (t.all fun (i, fi, wi) => (ms.getD j 0).testBit i || (slotsApart ops i j && apart fi wi fj wj)) && freeM ops ms t
def chk (ops : Array Oper) (acc : List (Nat × List Nat × List Nat)) : Bool := edgesOk ops && freeM ops (ancM ops) acc

theorem ancF_mono {ops : Array Oper} {i : Nat} : ∀ (f j : Nat), i ∈ ancF ops f j → i ∈ ancF ops (f + 1) j
  | 0, j, h => by simp [ancF] at h
  | f + 1, j, h => by
    rw [ancF] at h ⊢
    split at h
    · rename_i o ho
      simp only [ho, List.mem_flatMap, List.mem_cons] at h ⊢
      obtain ⟨e, he, h⟩ := h
      refine ⟨e, he, ?_⟩
      rcases h with h | h
      · exact .inl h
      · exact .inr (ancF_mono f _ h)
    · simp at h
theorem ancF_le {ops : Array Oper} {i j f g : Nat} (h : i ∈ ancF ops f j) (hfg : f ≤ g) : i ∈ ancF ops g j := by
  induction hfg with
  | refl => exact h
  | step _ ih => exact ancF_mono _ _ ih
theorem ancM_ok {ops : Array Oper} (hed : edgesOk ops = true) : ∀ (m : Nat), m ≤ ops.size → ((ops.toList.take m).foldl ancStep []).length = m ∧
    ∀ j, j < m → ∀ i, (((ops.toList.take m).foldl ancStep []).getD j 0).testBit i = true → i ∈ ancF ops (j + 1) j
  | 0, _ => by simp
  | m + 1, hm => by
    obtain ⟨h1, h2⟩ := ancM_ok hed m (by omega)
    have ho : ops.toList.take (m + 1) = ops.toList.take m ++ [ops[m]] := by
      rw [List.take_succ_eq_append_getElem (by simp; omega)]; simp
    rw [ho, List.foldl_append]
    generalize hms : (ops.toList.take m).foldl ancStep [] = ms at h1 h2
    simp only [List.foldl_cons, List.foldl_nil, ancStep]
    refine ⟨by simp [h1], fun j hj i hi => ?_⟩
    by_cases hjm : j < m
    · refine h2 j hjm i ?_
      rw [List.getD_eq_getElem?_getD, List.getElem?_append_left (by omega), ← List.getD_eq_getElem?_getD] at hi
      exact hi
    · have hj' : j = m := by omega
      subst hj'
      rw [List.getD_eq_getElem?_getD, List.getElem?_append_right (by omega)] at hi
      simp only [h1, Nat.sub_self, List.getElem?_cons_zero, Option.getD_some] at hi
      have key : ∀ (l : List Edge) (a : Nat), (l.foldl (fun a e => a ||| (ms.getD e.on 0 ||| 1 <<< e.on)) a).testBit i = true → a.testBit i = true ∨ ∃ e ∈ l, (ms.getD e.on 0).testBit i = true ∨ i = e.on := by
        intro l
        induction l with
        | nil => intro a h; exact .inl h
        | cons e l ih =>
          intro a h
          rcases ih _ h with h | ⟨e', he', h⟩
          · simp only [Nat.testBit_or, Bool.or_eq_true] at h
            rcases h with h | h | h
            · exact .inl h
            · exact .inr ⟨e, by simp, .inl h⟩
            · refine .inr ⟨e, by simp, .inr ?_⟩
              rw [Nat.one_shiftLeft, Nat.testBit_two_pow] at h
              simpa [eq_comm] using h
          · exact .inr ⟨e', by simp [he'], h⟩
      rcases key _ _ hi with h | ⟨e, he, h⟩
      · simp at h
      · rw [ancF]
        have hg : ops[j]? = some ops[j] := by simp [show j < ops.size by omega]
        simp only [hg, List.mem_flatMap, List.mem_cons]
        refine ⟨e, he, ?_⟩
        rcases h with h | h
        · have hlt : e.on < j := by
            have h3 := List.all_eq_true.1 hed j (by simp; omega)
            simp only [hg] at h3
            simp only [List.mem_filter] at he
            have h4 := (Array.all_eq_true_iff_forall_mem.1 h3) e (by simpa using he.1)
            simpa [he.2] using h4
          exact .inr (ancF_le (h2 e.on hlt i h) (by omega))
        · exact .inl h
theorem chk_ok {ops : Array Oper} {acc : List (Nat × List Nat × List Nat)} (h : chk ops acc = true) : (edgesOk ops && freeOk ops acc) = true := by
  simp only [chk, Bool.and_eq_true] at h ⊢
  refine ⟨h.1, ?_⟩
  have hm := ancM_ok h.1 ops.size (Nat.le_refl _)
  have e : ops.toList.take ops.size = ops.toList := List.take_of_length_le (by simp)
  rw [e] at hm
  have := h.2
  clear h
  induction acc with
  | nil => rfl
  | cons p t ih =>
    obtain ⟨j, fj, wj⟩ := p
    simp only [freeM, freeOk, Bool.and_eq_true, List.all_eq_true, Bool.or_eq_true] at this ⊢
    refine ⟨fun q hq => ?_, ih this.2⟩
    rcases this.1 q hq with h | h
    · left
      by_cases hj : j < ops.size
      · have := ancF_le (hm.2 j hj q.1 h) (show j + 1 ≤ ops.size by omega)
        simpa using this
      · rw [List.getD_eq_getElem?_getD, List.getElem?_eq_none_iff.2 (by unfold ancM; rw [hm.1]; omega)] at h
        simp at h
    · exact .inr h
/-- told, and kept out of sight -/
structure Hq {α : Type} (a b : α) : Prop where
  out : a = b
theorem W_rD {id n : Nat} {σ : St} {ks : List Fr} {Q : Ex → St → Prop} {ops : Array Oper} : W P n (.region id ops true) σ ks Q = (okAll n ops = true ∧ P.follows .mixedOrders = true ∧ ∀ ops', Hq ops' ops → Rd P n id ops' (itsOf ops) [] σ ks Q) := by
  rw [W_regD]
  refine propext ⟨fun ⟨a, b, c⟩ => ⟨a, b, fun ops' h => ?_⟩, fun ⟨a, b, c⟩ => ⟨a, b, c ops ⟨rfl⟩⟩⟩
  obtain ⟨rfl⟩ := h; exact c
theorem ok_some {n i : Nat} : dstOk n (some i) = decide (i < n) := rfl
theorem ok_none {n : Nat} : dstOk n none = true := rfl

theorem co_move : callOf (.move x) = none := rfl
theorem co_pick : callOf (.pick x y z) = none := rfl
theorem co_assign : callOf (.assign x) = none := rfl
theorem co_alloc : callOf (.alloc t) = none := rfl
theorem co_box : callOf (.box t x) = none := rfl
theorem co_build {p : Array (Nat × Operand)} : callOf (.build t p) = none := rfl
theorem co_buildSlice {p : Array (Nat × Operand)} : callOf (.buildSlice t n p) = none := rfl
theorem co_load : callOf (.load t x) = none := rfl
theorem co_store : callOf (.store t x y) = none := rfl
theorem co_nilCheck : callOf (.nilCheck x) = none := rfl
theorem co_binOp {op : BinOp} {yt : TypeId} : callOf (.binOp op t x y yt) = none := rfl
theorem co_unOp {op : UnOp} : callOf (.unOp op t x) = none := rfl
theorem co_convert : callOf (.convert s d x) = none := rfl
theorem co_makeFunc {f : Fn} {a b : Array Operand} : callOf (.makeFunc f a b) = none := rfl
theorem co_makeSlice : callOf (.makeSlice t l c) = none := rfl
theorem co_slice {lo hi mx : Option Operand} : callOf (.slice t x lo hi mx) = none := rfl
theorem co_fieldAddr {f : Nat} : callOf (.fieldAddr t x f) = none := rfl
theorem co_field {f : Nat} : callOf (.field t x f) = none := rfl
theorem co_indexAddr : callOf (.indexAddr t x y) = none := rfl
theorem co_index : callOf (.index t x y) = none := rfl
theorem co_extract {i : Nat} : callOf (.extract x i) = none := rfl
theorem co_builtin {b : Builtin} {args : Array Operand} {tys : Array TypeId} : callOf (.call { callee := .builtin b, args := args, argTypes := tys }) = none := rfl
theorem co_call {f : Operand} {args : Array Operand} {tys : Array TypeId} : callOf (.call { callee := .value f, args := args, argTypes := tys }) = some (f, args) := rfl

theorem ofV_int {k : IntKind} {n : Int} : ofV (.int k n) = .i (.s (.int k n)) := rfl
theorem ofV_bool {b : Bool} : ofV (.bool b) = .i (.s (.bool b)) := rfl
theorem ofV_string {b : ByteArray} : ofV (.string b) = .i (.s (.string b)) := rfl
theorem ofV_slice {a : Option Addr} {l c : Nat} : ofV (.slice a l c) = .i (.s (.slice a l c)) := rfl
theorem ofV_pointer {a : Option Addr} : ofV (.pointer a) = .i (.s (.pointer a)) := rfl
theorem evA_tmp {i : Nat} : evA sl (.tmp i) = sl i := rfl
theorem evA_const {v : Value} : evA sl (.const v) = ofV v := rfl
theorem evA_func {f : FuncId} : evA sl (.func f) = .fn f [] := rfl

theorem conc_s {v : Value} : conc (.i (.s v)) = some v := rfl
theorem conc_os {o sz off len : Nat} : conc (.os o sz off len) = none := rfl
theorem conc_sl {es : List (List I)} : conc (.i (.sl es)) = none := rfl

theorem lk_same {α : Type} {i : Nat} {x : α} {t : List (Nat × α)} {d : α} : lk ((i, x) :: t) d i = x := by simp [lk]
theorem lk_ne {α : Type} {i j : Nat} {x : α} {t : List (Nat × α)} {d : α} (h : i ≠ j) : lk ((j, x) :: t) d i = lk t d i := by simp [lk, h]
theorem lk_nil {α : Type} {i : Nat} {d : α} : lk ([] : List (Nat × α)) d i = d := rfl
theorem inS_nil {i : Nat} : inS [] i = [] := rfl
theorem inS_cons {d : D} {ds : List D} {i : Nat} : inS (d :: ds) i = (i, d) :: inS ds (i + 1) := rfl

theorem oQ_move : opQ P sl H (.move x) = some (evA sl x) := rfl
theorem oQ_assign : opQ P sl H (.assign x) = some (evA sl x) := rfl
theorem oQ_alloc : opQ P sl H (.alloc t) = none := rfl
theorem oQ_box : opQ P sl H (.box t x) = none := rfl
theorem oQ_load : opQ P sl H (.load t x) = none := rfl
theorem oQ_store : opQ P sl H (.store t x y) = none := rfl
theorem oQ_makeSlice : opQ P sl H (.makeSlice t l c) = none := rfl
theorem oQ_buildSlice {p : Array (Nat × Operand)} : opQ P sl H (.buildSlice t n p) = none := rfl
theorem oQ_append {args : Array Operand} {tys : Array TypeId} : opQ P sl H (.call { callee := .builtin .append, args := args, argTypes := tys }) = none := by
  simp [opQ]

def pickQ (c : Option Value) (a b : D) : Option D :=
  match c with
  | some (.bool v) => some (if v = true then a else b)
  | _ => none
def nilQ (d : D) : Option D :=
  match d with
  | .pt o sz i c => some (.pt o sz i c)
  | .rp cs c => some (.rp cs c)
  | .fn f cs => some (.fn f cs)
  | _ => none
def unQ (P : Program) (op : UnOp) (a : Option Value) : Option D :=
  match a with
  | some a => (pv P (Op.unary op a)).map ofV
  | none => none
def convQ (P : Program) (s d : TypeId) (a : Option Value) : Option D :=
  match a with
  | some a => (pv P (Go.convert s d a)).map ofV
  | none => none
/-- an integer of another kind -/
def convN (P : Program) (s d : TypeId) (a : Option Value) : Option D :=
  match a with
  | some (.int _ n) => match undOf P s, undOf P d with
    | some _, some (.int k') => some (.i (.s (.int k' (k'.wrap n))))
    | _, _ => convQ P s d a
  | _ => convQ P s d a
theorem conv_N {a : Option Value} : convQ P s d a = convN P s d a := by
  unfold convN
  split
  · split
    · rename_i h1 h2
      simp only [convQ, conv_int h2 h1, Option.map_some, ofV_int]
    · rfl
  · rfl
def faQ (P : Program) (fl : Option (Nat × TypeId)) (d : D) : Option D :=
  match fl with
    | some (off, ty) => match szOf P ty with
      | some (_ + 1) => match d with
        | .pt o sz i c => some (.pt o sz i (c + off))
        | .rp cs c => some (.rp cs (c + off))
        | _ => none
      | _ => none
    | _ => none
def exQ (d : D) (i : Nat) : Option D :=
  match d with
    | .tup ds => ds[i]?
    | _ => none
def fldQ (P : Program) (d : D) (fl : Option (Nat × TypeId)) : Option D :=
  match d, fl with
    | .agg cs, some (off, ty) => partA P ty cs off
    | _, _ => none
def buildQ (P : Program) (t : TypeId) (ps : Option (List (Nat × List D))) (z : Option (List D)) (pl : Option (Array (Nat × Nat))) : Option D :=
  match ps, z with
    | some ps, some z => match pl with
      | some pl => (fillD (pl[·]?) z ps).map .agg
      | none => match undOf P t with
        | some (.array _ e) => match szOf P e with
          | some s => (fillD (fun i => some (i * s, s)) z ps).map .agg
          | none => none
        | _ => none
    | _, _ => none
def slQ (P : Program) (t : TypeId) (d : D) (lo' hi' : Option (Option Value)) (lv hv : Option (Option Value)) : Option D :=
  match undOf P t with
    | some (.slice e) => match szOf P e with
      | some s =>
        match d with
        | .os o sz off len =>
          match lo', hi' with
          | none, none => if s = sz then some (.os o sz off len) else none
          | some (some (.int _ l)), none => if s = sz ∧ 0 ≤ l ∧ l ≤ len then some (.os o sz (off + l.toNat) (len - l.toNat)) else none
          | none, some (some (.int _ h)) => if s = sz ∧ 0 ≤ h ∧ h ≤ len then some (.os o sz off h.toNat) else none
          | some (some (.int _ l)), some (some (.int _ h)) => if s = sz ∧ 0 ≤ l ∧ l ≤ h ∧ h ≤ len then some (.os o sz (off + l.toNat) (h.toNat - l.toNat)) else none
          | _, _ => none
        | .i (.sl es) => if uni s es = false then none else
          match lo', hi' with
          | none, none => some (.i (.sl es))
          | some (some (.int _ l)), none => if 0 ≤ l ∧ l ≤ es.length then some (.i (.sl (es.drop l.toNat))) else none
          | none, some (some (.int _ h)) => if 0 ≤ h ∧ h ≤ es.length then some (.i (.sl (es.take h.toNat))) else none
          | some (some (.int _ l)), some (some (.int _ h)) => if 0 ≤ l ∧ l ≤ h ∧ h ≤ es.length then some (.i (.sl ((es.take h.toNat).drop l.toNat))) else none
          | _, _ => none
        | _ => none
      | none => none
    | some .string => match conc d, lv, hv with
      | some a, some l, some h => (pv P (Instr.sliceAt t a l h none)).map ofV
      | _, _, _ => none
    | _ => none

/-- What an operation on plain values yields. -/
def binQ (P : Program) (op : BinOp) (t : TypeId) (x y : Operand) (a b : Option Value) : Option D :=
  match a, b with
  | some a, some b => (pv P (do eqGuard op t x y a b; Go.binOp op t a b)).map ofV
  | _, _ => none
theorem oQ_binOp {op : BinOp} {yt : TypeId} : opQ P sl H (.binOp op t x y yt) = binQ P op t x y (conc (evA sl x)) (conc (evA sl y)) := rfl
section
variable {k : IntKind} {a b : Int}
theorem bq_add : binQ P .add t x y (some (.int k a)) (some (.int k b)) = some (.i (.s (.int k (k.wrap (a + b))))) := by simp only [binQ, pv_add, Option.map_some, ofV_int]
theorem bq_sub : binQ P .sub t x y (some (.int k a)) (some (.int k b)) = some (.i (.s (.int k (k.wrap (a - b))))) := by simp only [binQ, pv_sub, Option.map_some, ofV_int]
theorem bq_mul : binQ P .mul t x y (some (.int k a)) (some (.int k b)) = some (.i (.s (.int k (k.wrap (a * b))))) := by simp only [binQ, pv_mul, Option.map_some, ofV_int]
theorem bq_quo (h : b ≠ 0) : binQ P .quo t x y (some (.int k a)) (some (.int k b)) = some (.i (.s (.int k (k.wrap (a.tdiv b))))) := by simp only [binQ, pv_quo h, Option.map_some, ofV_int]
theorem bq_rem (h : b ≠ 0) : binQ P .rem t x y (some (.int k a)) (some (.int k b)) = some (.i (.s (.int k (a.tmod b)))) := by simp only [binQ, pv_rem h, Option.map_some, ofV_int]
theorem bq_or : binQ P .or t x y (some (.int k a)) (some (.int k b)) = some (.i (.s (.int k (bits .or k a b)))) := by simp only [binQ, pv_or, Option.map_some, ofV_int]
theorem bq_and : binQ P .and t x y (some (.int k a)) (some (.int k b)) = some (.i (.s (.int k (bits .and k a b)))) := by simp only [binQ, pv_and, Option.map_some, ofV_int]
theorem bq_xor : binQ P .xor t x y (some (.int k a)) (some (.int k b)) = some (.i (.s (.int k (bits .xor k a b)))) := by simp only [binQ, pv_xor, Option.map_some, ofV_int]
theorem bq_shl {k' : IntKind} (h : 0 ≤ b) : binQ P .shl t x y (some (.int k a)) (some (.int k' b)) = some (.i (.s (.int k (k.wrap (a * 2 ^ (min b.toNat k.bits)))))) := by simp only [binQ, pv_shl h, Option.map_some, ofV_int]
theorem bq_shr {k' : IntKind} (h : 0 ≤ b) : binQ P .shr t x y (some (.int k a)) (some (.int k' b)) = some (.i (.s (.int k (a.fdiv (2 ^ (min b.toNat k.bits)))))) := by simp only [binQ, pv_shr h, Option.map_some, ofV_int]
theorem bq_lss : binQ P .lss t x y (some (.int k a)) (some (.int k b)) = some (.i (.s (.bool (decide (a < b))))) := by simp only [binQ, pv_lss, Option.map_some, ofV_bool]
theorem bq_leq : binQ P .leq t x y (some (.int k a)) (some (.int k b)) = some (.i (.s (.bool (decide (a ≤ b))))) := by simp only [binQ, pv_leq, Option.map_some, ofV_bool]
theorem bq_gtr : binQ P .gtr t x y (some (.int k a)) (some (.int k b)) = some (.i (.s (.bool (decide (b < a))))) := by simp only [binQ, pv_gtr, Option.map_some, ofV_bool]
theorem bq_geq : binQ P .geq t x y (some (.int k a)) (some (.int k b)) = some (.i (.s (.bool (decide (b ≤ a))))) := by simp only [binQ, pv_geq, Option.map_some, ofV_bool]
theorem bq_eql : binQ P .eql t x y (some (.int k a)) (some (.int k b)) = some (.i (.s (.bool (decide (a = b))))) := by simp only [binQ, pv_eql, Option.map_some, ofV_bool]
theorem bq_neq : binQ P .neq t x y (some (.int k a)) (some (.int k b)) = some (.i (.s (.bool (!decide (a = b))))) := by simp only [binQ, pv_neq, Option.map_some, ofV_bool]
end

theorem oQ_pick : opQ P sl H (.pick c x y) = pickQ (conc (evA sl c)) (evA sl x) (evA sl y) := by
  simp only [opQ, pickQ]
  split <;> first | rfl | simp_all
theorem pick_b {v : Bool} {d1 d2 : D} : pickQ (some (.bool v)) d1 d2 = some (if v = true then d1 else d2) := rfl
theorem ite_b {v p q : Bool} : (if v = true then D.i (.s (.bool p)) else D.i (.s (.bool q))) = D.i (.s (.bool (if v = true then p else q))) := by cases v <;> rfl
theorem oQ_nil : opQ P sl H (.nilCheck x) = nilQ (evA sl x) := rfl
theorem nil_pt {o sz i c : Nat} : nilQ (.pt o sz i c) = some (.pt o sz i c) := rfl
theorem nil_rp {cs : List I} {c : Nat} : nilQ (.rp cs c) = some (.rp cs c) := rfl
theorem nil_fn {f : FuncId} {cs : List D} : nilQ (.fn f cs) = some (.fn f cs) := rfl
theorem oQ_unOp {op : UnOp} : opQ P sl H (.unOp op t x) = unQ P op (conc (evA sl x)) := rfl
theorem un_not {v : Bool} : unQ P .not (some (.bool v)) = some (.i (.s (.bool !v))) := rfl
theorem oQ_conv : opQ P sl H (.convert s d x) = convN P s d (conc (evA sl x)) := by rw [← conv_N]; rfl
def cvH (P : Program) (src dst : TypeId) (H : Nat → Ob) (c : Option Value) (d : D) : Option (D × (Nat → Ob)) :=
  match undOf P dst, undOf P src with
    | some (.slice e), some .string => match undOf P e, c with
      | some (.int .u8), some (.string s) => if s.size ≤ 140737488355328 then some (.i (strI s), H) else none
      | _, _ => none
    | some .string, some (.slice e) => match undOf P e, elemsOf H d with
      | some (.int .u8), some es => (es.mapM byteOfI).map fun bs => (.i (.s (.string ⟨bs.toArray⟩)), H)
      | _, _ => none
    | some (.slice e), some (.slice _) => if src = dst then match undOf P e, d with
      | some (.int .u8), .os o 1 off (len + 1) => match H o with
        | .arr 1 _ => (elemsOf H (.os o 1 off (len + 1))).map fun es => (.i (.sl es), frz [o] H)
        | _ => none
      | _, _ => none
      else none
    | _, _ => none
theorem oH_conv : opH P sl H id (.convert s d x) = cvH P s d H (conc (evA sl x)) (evA sl x) := rfl
theorem convN_none : convN P s d none = none := rfl
theorem oQ_fa {f : Nat} : opQ P sl H (.fieldAddr t x f) = faQ P (fldOf P t f) (evA sl x) := rfl
theorem oQ_ex {i : Nat} : opQ P sl H (.extract x i) = exQ (evA sl x) i := rfl
theorem ex_tup {ds : List D} {i : Nat} : exQ (.tup ds) i = ds[i]? := rfl
theorem oQ_fld {f : Nat} : opQ P sl H (.field t x f) = fldQ P (evA sl x) (fldOf P t f) := rfl
theorem oQ_mkf {f : FuncId} {cap : Array Operand} : opQ P sl H (.makeFunc (.func f) #[] cap) = some (.fn f (cap.toList.map (evA sl))) := rfl
theorem oQ_build {p : Array (Nat × Operand)} : opQ P sl H (.build t p) = buildQ P t (p.toList.mapM fun p => (dcells (evA sl p.2)).map fun cs => (p.1, cs)) (zeroCellsD P t) (placesOf P t) := rfl
theorem oQ_sl {lo hi : Option Operand} : opQ P sl H (.slice t x lo hi none) = slQ P t (evA sl x) (lo.map fun x => conc (evA sl x)) (hi.map fun x => conc (evA sl x)) (optV sl lo) (optV sl hi) := rfl

/-- len -/
def lenQ (P : Program) (tys : Array TypeId) (d : D) : Option D :=
  match d with
  | .os _ _ _ len => match (tys[0]?).bind (undOf P) with
      | some (.slice _) => some (.i (.s (.int .i64 (len : Int))))
      | _ => none
  | .i (.sl es) => match (tys[0]?).bind (undOf P) with
      | some (.slice _) => some (.i (.s (.int .i64 (es.length : Int))))
      | _ => none
  | d => match conc d with
      | some a => (pv P (Builtin.len_ tys 0 #[a])).map ofV
      | none => none
theorem oQ_len {tys : Array TypeId} : opQ P sl H (.call { callee := .builtin .len, args := #[x], argTypes := tys }) = lenQ P tys (evA sl x) := by
  simp only [opQ, List.map_cons, List.map_nil, lenQ]
  cases hd : evA sl x with
  | i y => cases y <;> rfl
  | _ => rfl
theorem lenQ_sl {es : List (List I)} (h : undOf P t = some (.slice e)) : lenQ P #[t] (.i (.sl es)) = some (.i (.s (.int .i64 (es.length : Int)))) := by simp [lenQ, h]
theorem lenQ_os {o sz off len : Nat} (h : undOf P t = some (.slice e)) : lenQ P #[t] (.os o sz off len) = some (.i (.s (.int .i64 (len : Int)))) := by simp [lenQ, h]

/-- the address of an element -/
def ixQ (P : Program) (t : TypeId) (d : D) (ix : Option Value) : Option D :=
  match ix with
    | some (.int _ n) => match undOf P t with
      | some (.slice e) => match szOf P e with
        | some s => match d with
          | .os o sz off len => if s = sz ∧ 0 ≤ n ∧ n < len then some (.pt o sz (off + n.toNat) 0) else none
          | .i (.sl es) => match es[n.toNat]? with
            | some e => if 0 ≤ n ∧ e.length = s then some (.rp e 0) else none
            | none => none
          | _ => none
        | none => none
      | some (.array len e) => match szOf P e with
        | some s => match d with
          | .pt o sz i c => if 0 ≤ n ∧ n < len then some (.pt o sz i (c + n.toNat * s)) else none
          | .rp cs c => if 0 ≤ n ∧ n < len then some (.rp cs (c + n.toNat * s)) else none
          | _ => none
        | none => none
      | _ => none
    | _ => none
theorem oQ_ix : opQ P sl H (.indexAddr t x y) = ixQ P t (evA sl x) (conc (evA sl y)) := rfl
theorem ix_sl {k : IntKind} {n s : Nat} {es : List (List I)} {el : List I} (h1 : undOf P t = some (.slice e)) (h2 : szOf P e = some s) (h3 : es[n]? = some el) (h4 : el.length = s) : ixQ P t (.i (.sl es)) (some (.int k (n : Int))) = some (.rp el 0) := by
  simp [ixQ, h1, h2, h3, h4]
theorem ix_os {k : IntKind} {n s o off len : Nat} (h1 : undOf P t = some (.slice e)) (h2 : szOf P e = some s) (h3 : n < len) : ixQ P t (.os o s off len) (some (.int k (n : Int))) = some (.pt o s (off + n) 0) := by
  simp [ixQ, h1, h2, h3]

def allocH (z : Option (List D)) (H : Nat → Ob) (x : Ob) (id : Nat) : Option (D × (Nat → Ob)) :=
  match z, x with
    | some cs, .fresh => some (.pt id 0 0 0, upd H id (.box cs))
    | _, _ => none
def boxH (z : Option (List D)) (H : Nat → Ob) (x : Ob) (id : Nat) : Option (D × (Nat → Ob)) :=
  match z, x with
    | some cs, .fresh => if cs.all D.one then some (.pt id 0 0 0, upd H id (.box cs)) else none
    | _, _ => none
def stH (p : D) (new : Option (List D)) (n : Option Nat) (H : Nat → Ob) : Option (D × (Nat → Ob)) :=
  match new, n with
    | some new, some n => if new.length = n ∧ new.all D.one then
        match p with
        | .pt o sz i c => match H o with
          | .box cs => if i = 0 ∧ c + n ≤ cs.length then some (.un, upd H o (.box (cs.take c ++ new ++ cs.drop (c + n)))) else none
          | .arr sz' es => match es[i]?, new.mapM (convI H) with
            | some e, some xs => if sz = sz' ∧ c + n ≤ e.length ∧ ¬ (new.flatMap D.ids1).contains o then
                some (.un, upd (frz (new.flatMap D.ids1) H) o (.arr sz (es.set i (e.take c ++ xs ++ e.drop (c + n))))) else none
            | _, _ => none
          | _ => none
        | _ => none
      else none
    | _, _ => none
def bslH (P : Program) (u : Option TypeDesc) (len : Nat) (ps : Option (List (Nat × List D))) (H : Nat → Ob) (x : Ob) (id : Nat) : Option (D × (Nat → Ob)) :=
  match u, x with
    | some (.slice e), .fresh => match szOf P e, zeroCellsD P e, ps with
      | some (s + 1), some z, some ps => if len * (s + 1) ≤ 16777216 ∧ z.length = s + 1 ∧ ps.map (·.1) = List.range len ∧ ps.all (fun p => p.2.length = s + 1 ∧ p.2.all D.one) then
          match ps.mapM (fun p => p.2.mapM (convI H)) with
          | some es => some (.os id (s + 1) 0 len, upd (frz (ps.flatMap fun p => p.2.flatMap D.ids1) H) id (.arr (s + 1) es))
          | none => none
        else none
      | _, _, _ => none
    | _, _ => none
def appH (P : Program) (tys : List TypeId) (H : Nat → Ob) (x0 : Ob) (id : Nat) (s x : D) : Option (D × (Nat → Ob)) :=
  match tys with
    | [t, tx] => match undOf P t, x0 with
      | some (.slice e), .fresh => match szOf P e, bytesOfT P e, (zeroOf P e).map (·.cells.size) with
        | some (n + 1), some by_, some zn => if zn = n + 1 then
            match (match undOf P tx, conc x with
              | some .string, some (.string str) => if n = 0 then some (str.data.toList.map byteI) else none
              | some (.slice _), _ => elemsOf H x
              | _, _ => none) with
            | some new => match s with
              | .i (.s (.slice none 0 0)) => if uni (n + 1) new ∧ new.length * by_ ≤ 140737488355328 ∧ new.length ≤ 140737488355328 then some (.os id (n + 1) 0 new.length, upd H id (.arr (n + 1) new)) else none
              | .os o sz 0 len => match H o with
                | .arr sz' es => if sz = n + 1 ∧ sz' = n + 1 ∧ es.length = len ∧ uni (n + 1) new ∧ (len + new.length) * by_ ≤ 140737488355328 ∧ len + new.length ≤ 140737488355328 then
                    some (.os id (n + 1) 0 (len + new.length), upd (upd H o .dead) id (.arr (n + 1) (es ++ new))) else none
                | _ => none
              | _ => none
            | none => none
          else none
        | _, _, _ => none
      | _, _ => none
    | _ => none

/-- a load -/
def ldH (P : Program) (t : TypeId) (H : Nat → Ob) (d : D) : Option (D × (Nat → Ob)) :=
  match aggOf P t with
    | some true => match szOf P t with
      | some n => (readAt H d n).map fun cs => (.agg cs, H)
      | none => none
    | some false => ((readAt H d 1).bind asCell).map fun d => (d, H)
    | none => none
theorem oH_load : opH P sl H id (.load t x) = ldH P t H (evA sl x) := rfl
theorem ld_one {d d' : D} (h1 : aggOf P t = some false) (h2 : readAt H d 1 = some [d']) : ldH P t H d = some (d', H) := by simp [ldH, h1, h2, asCell]
theorem ld_agg {d : D} {n : Nat} {cs : List D} (h1 : aggOf P t = some true) (h0 : szOf P t = some n) (h2 : readAt H d n = some cs) : ldH P t H d = some (.agg cs, H) := by simp [ldH, h1, h0, h2]
theorem rd_rp {cs : List I} {c n : Nat} (h : c + n ≤ cs.length) : readAt H (.rp cs c) n = some (((cs.drop c).take n).map .i) := by simp [readAt, h]
theorem rd_box {o sz c n : Nat} {cs : List D} (h : H o = .box cs) (hl : c + n ≤ cs.length) : readAt H (.pt o sz 0 c) n = some ((cs.drop c).take n) := by simp [readAt, readCells, h, hl]

theorem oH_alloc : opH P sl H id (.alloc t) = allocH (zeroCellsD P t) H (H id) id := rfl
theorem al_fresh {cs : List D} : allocH (some cs) H .fresh id = some (.pt id 0 0 0, upd H id (.box cs)) := rfl
theorem oH_box : opH P sl H id (.box t x) = boxH (dcells (evA sl x)) H (H id) id := rfl
theorem bx_fresh {cs : List D} : boxH (some cs) H .fresh id = if cs.all D.one then some (.pt id 0 0 0, upd H id (.box cs)) else none := rfl
theorem oH_store : opH P sl H id (.store t x y) = stH (evA sl x) (dcells (evA sl y)) (szOf P t) H := rfl
theorem oH_bsl {p : Array (Nat × Operand)} : opH P sl H id (.buildSlice t n p) = bslH P (undOf P t) n (p.toList.mapM (fun p => (dcells (evA sl p.2)).map fun cs => (p.1, cs))) H (H id) id := rfl
theorem oH_app {tys : Array TypeId} : opH P sl H id (.call { callee := .builtin .append, args := #[x, y], argTypes := tys }) = appH P tys.toList H (H id) id (evA sl x) (evA sl y) := by
  simp only [opH, List.map_cons, List.map_nil]
  rcases h : tys.toList with _ | ⟨a, _ | ⟨b, _ | ⟨c, l⟩⟩⟩ <;> rfl

theorem uni_byteI (l : List UInt8) : uni 1 (l.map byteI) = true := by simp [uni, byteI]
theorem uni_one {x : I} : uni 1 [[x]] = true := rfl
theorem take_len_map {α β : Type} {l : List α} {f : α → β} : List.take l.length (l.map f) = l.map f := List.take_of_length_le (by simp)
theorem take_len_self {α : Type} {l : List α} : List.take l.length l = l := List.take_of_length_le (Nat.le_refl _)
theorem drop_len_map {α β : Type} {l : List α} {f : α → β} : List.drop l.length (l.map f) = [] := List.drop_eq_nil_of_le (by simp)
def frzOb : Ob → Ob
  | .arr sz es => .fz sz es
  | x => x
theorem frz_ne {a k : Nat} {t : List Nat} {H : Nat → Ob} (h : k ≠ a) : frz (a :: t) H k = frz t H k := by
  simp [frz, h]
theorem frz_eq {a : Nat} {t : List Nat} {H : Nat → Ob} : frz (a :: t) H a = frzOb (H a) := by
  simp only [frz, List.contains_cons, beq_self_eq_true, Bool.true_or, if_true]
  cases H a <;> rfl
theorem frzOb_arr {sz : Nat} {es : List (List I)} : frzOb (.arr sz es) = .fz sz es := rfl
theorem frzOb_fz {sz : Nat} {es : List (List I)} : frzOb (.fz sz es) = .fz sz es := rfl
theorem frzOb_box {cs : List D} : frzOb (.box cs) = .box cs := rfl
theorem nrm_int {k : IntKind} {n : Int} : nrmI (.s (.int k n)) = .s (.int k n) := rfl
theorem nrm_bool {b : Bool} : nrmI (.s (.bool b)) = .s (.bool b) := rfl
theorem nrm_string {b : ByteArray} : nrmI (.s (.string b)) = .s (.string b) := rfl
theorem nrm_sl {es : List (List I)} : nrmI (.sl es) = .sl es := rfl
theorem nrm_nil : nrmI (.s (.slice none 0 0)) = .sl [] := rfl
theorem uni_nil {s : Nat} : uni s [] = true := rfl
theorem uni_cons {s : Nat} {e : List I} {t : List (List I)} : uni s (e :: t) = (decide (e.length = s) && uni s t) := by
  simp only [uni, List.all_cons]; rfl
theorem uni_append {s : Nat} {a b : List (List I)} : uni s (a ++ b) = (uni s a && uni s b) := by simp [uni]
theorem uni_map {α : Type} {s : Nat} {f : α → List I} (h : ∀ x, (f x).length = s) (l : List α) : uni s (l.map f) = true := by simp [uni, h]
theorem one_le_succ {n : Nat} : ((1 : Int) ≤ ((n + 1 : Nat) : Int)) = True := by simp; omega
theorem fp_alloc : fpA sl id (.alloc t) = ([id], [id]) := rfl
theorem fp_box : fpA sl id (.box t x) = ([id], [id]) := rfl
theorem fp_make : fpA sl id (.makeSlice t l c) = ([id], [id]) := rfl
theorem fp_load : fpA sl id (.load t x) = ((evA sl x).ids1, []) := rfl
theorem fp_store : fpA sl id (.store t x y) = ((evA sl x).ids1 ++ (evA sl y).ids, (evA sl x).ids1 ++ (evA sl y).ids) := rfl
theorem fp_build {p : Array (Nat × Operand)} : fpA sl id (.buildSlice t n p) = (id :: p.toList.flatMap fun p => (evA sl p.2).ids, id :: p.toList.flatMap fun p => (evA sl p.2).ids) := rfl
theorem fp_convert : fpA sl id (.convert s d x) = ((evA sl x).ids1, if s = d then (evA sl x).ids1 else []) := rfl
theorem fp_append {tys : Array TypeId} : fpA sl id (.call { callee := .builtin .append, args := #[x, y], argTypes := tys }) = (id :: (evA sl x).ids1 ++ (evA sl y).ids1, id :: (evA sl x).ids1) := rfl
theorem i1_i {v : I} : (D.i v).ids1 = [] := rfl
theorem i1_os {o sz off len : Nat} : (D.os o sz off len).ids1 = [o] := rfl
theorem i1_pt {o sz i c : Nat} : (D.pt o sz i c).ids1 = [o] := rfl
theorem i1_rp {cs : List I} {c : Nat} : (D.rp cs c).ids1 = [] := rfl
theorem i1_any : D.any.ids1 = [] := rfl
theorem i1_un : D.un.ids1 = [] := rfl
theorem ii_agg {cs : List D} : (D.agg cs).ids = cs.flatMap D.ids1 := rfl
theorem ii_i {v : I} : (D.i v).ids = [] := rfl
theorem ii_os {o sz off len : Nat} : (D.os o sz off len).ids = [o] := rfl
theorem ii_pt {o sz i c : Nat} : (D.pt o sz i c).ids = [o] := rfl
theorem ii_rp {cs : List I} {c : Nat} : (D.rp cs c).ids = [] := rfl

theorem resA_tmp {fn : Func} {σ : St} {i : Tmp} (h : fn.results = #[.tmp i]) : resA P fn σ = some (σ.sl i) := by simp [resA, h, resOne]
/-- The end: one result, in a slot. -/
theorem fin_ret {fn : Func} {i : Tmp} {r : D} (F : List Nat) (h : fn.results = #[.tmp i]) (hv : cv H F (fun _ => none) (sl i) r) : Fin P fn noH r noH .ret ⟨sl, H⟩ :=
  ⟨_, resA_tmp h, ler_pure F hv⟩
theorem resA_2 {fn : Func} {σ : St} {i p : Tmp} {k : Nat} {cs : List D} (h : fn.results = #[.tmp i, .cell p t]) (ha : aggOf P t = some true) (hs : szOf P t = some k) (hr : readAt σ.H (σ.sl p) k = some cs) : resA P fn σ = some (.tup [σ.sl i, .agg cs]) := by
  simp [resA, h, resOne, ha, hs, hr]
theorem fin_2 {fn : Func} {i p : Tmp} {k : Nat} {cs : List D} {r : D} (F : List Nat) (h : fn.results = #[.tmp i, .cell p t]) (ha : aggOf P t = some true) (hs : szOf P t = some k) (hr : readAt H (sl p) k = some cs) (hv : cv H F (fun _ => none) (.tup [sl i, .agg cs]) r) : Fin P fn noH r noH .ret ⟨sl, H⟩ :=
  ⟨_, resA_2 h ha hs hr, ler_pure F hv⟩
theorem resA_tt {fn : Func} {σ : St} {i j : Tmp} (h : fn.results = #[.tmp i, .tmp j]) : resA P fn σ = some (.tup [σ.sl i, σ.sl j]) := by
  simp [resA, h, resOne]
theorem fin_tt {fn : Func} {i j : Tmp} {r : D} (F : List Nat) (h : fn.results = #[.tmp i, .tmp j]) (hv : cv H F (fun _ => none) (.tup [sl i, sl j]) r) : Fin P fn noH r noH .ret ⟨sl, H⟩ :=
  ⟨_, resA_tt h, ler_pure F hv⟩
theorem fin_retD {fn : Func} {i : Tmp} {r : D} {H0 : Nat → Ob} (objs : List (Nat × Ob)) (F : List Nat) (src : List (Nat × Nat)) (h : fn.results = #[.tmp i]) (hv : cv H F (srcR H0 src) (sl i) r) (ho : ∀ p ∈ objs, objOk H F (srcR H0 src) p)
    (hk : (src.all fun p => objs.any fun q => q.1 == p.1) = true) (hf : ∀ p ∈ src, H0 p.2 = .fresh) (hinj : (src.all fun p => src.all fun q => p.2 != q.2 || p.1 == q.1) = true) : Fin P fn H0 r (hOf H0 objs) .ret ⟨sl, H⟩ :=
  ⟨_, resA_tmp h, ler_of objs F src hv ho hk hf hinj⟩
theorem fin_normal {fn : Func} {i : Tmp} {r : D} (F : List Nat) (h : fn.results = #[.tmp i]) (hv : cv H F (fun _ => none) (sl i) r) : Fin P fn noH r noH .normal ⟨sl, H⟩ :=
  ⟨_, resA_tmp h, ler_pure F hv⟩
end
end Go.Abs
