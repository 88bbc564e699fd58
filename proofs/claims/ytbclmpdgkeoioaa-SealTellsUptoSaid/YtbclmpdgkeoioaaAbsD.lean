/- One operation on the abstract memory: what it yields. -/
import Derived.Test.YtbclmpdgkeoioaaAbsC
set_option linter.all false
namespace Go.Abs
open Go Go.RowKit

def zeroOf (P : Program) (t : TypeId) : Option Value := pv P (zeroValue t)
def undOf (P : Program) (t : TypeId) : Option TypeDesc := pv P (underlying t)
def szOf (P : Program) (t : TypeId) : Option Nat := pv P (sizeOf t)
def bytesOfT (P : Program) (t : TypeId) : Option Nat := (pv P (typeInfo t)).map (·.bytes)
def aggOf (P : Program) (t : TypeId) : Option Bool := pv P (isAgg t)
def placesOf (P : Program) (t : TypeId) : Option (Array (Nat × Nat)) :=
  match undOf P t with
  | some (.struct fields) => pv P (fields.mapM fun f => do pure (f.offset, ← sizeOf f.type))
  | _ => none

/-- A field's place and type. -/
def fldOf (P : Program) (t : TypeId) (f : Nat) : Option (Nat × TypeId) :=
  match undOf P t with
  | some (.struct fs) => match fs[f]? with
    | some fd => some (fd.offset, fd.type)
    | none => none
  | _ => none

def partA (P : Program) (t : TypeId) (cs : List D) (off : Nat) : Option D :=
  match aggOf P t with
  | some true => match szOf P t with
    | some n => if off + n ≤ cs.length then some (.agg ((cs.drop off).take n)) else none
    | none => none
  | some false => cs[off]?
  | none => none

/-- Parts laid over cells. -/
def fillD (place : Nat → Option (Nat × Nat)) (cells : List D) : List (Nat × List D) → Option (List D)
  | [] => some cells
  | (i, cs) :: rest =>
    match place i with
    | none => none
    | some (off, size) => if cs.length = size ∧ off + cs.length ≤ cells.length then fillD place (cells.take off ++ cs ++ cells.drop (off + cs.length)) rest else none

def zeroCellsD (P : Program) (t : TypeId) : Option (List D) := (zeroOf P t).bind fun z => if z.cells.all (·.oneCell') then some (z.cells.toList.map fun c => .i (.s c)) else none

def byteI (b : UInt8) : List I := [.s (.int .u8 (b.toNat : Int))]
def strI (s : ByteArray) : I := .sl (s.data.toList.map byteI)
def byteOfI : List I → Option UInt8
  | [.s (.int .u8 n)] => if 0 ≤ n ∧ n < 256 then some (UInt8.ofNat n.toNat) else none
  | _ => none

/-- All elements have so many cells. -/
def uni (s : Nat) (es : List (List I)) : Bool := es.all fun e => e.length == s

def optV (sl : Nat → D) : Option Operand → Option (Option Value)
  | none => some none
  | some y => (conc (evA sl y)).map some

/-- What an operation yields that neither reads memory nor makes any. -/
def opQ (P : Program) (sl : Nat → D) (H : Nat → Ob) (op : Op) : Option D :=
  match op with
  | .move x | .assign x => some (evA sl x)
  | .pick c a b => match conc (evA sl c) with
    | some (.bool v) => some (if v = true then evA sl a else evA sl b)
    | _ => none
  | .nilCheck x => match evA sl x with
    | .pt o sz i c => some (.pt o sz i c)
    | .rp cs c => some (.rp cs c)
    | .fn f cs => some (.fn f cs)
    | _ => none
  | .binOp op t x y _ => match conc (evA sl x), conc (evA sl y) with
    | some a, some b => (pv P (do eqGuard op t x y a b; Go.binOp op t a b)).map ofV
    | _, _ => none
  | .unOp op _ x => match conc (evA sl x) with
    | some a => (pv P (Op.unary op a)).map ofV
    | none => none
  | .convert src dst x => match conc (evA sl x) with
    | some a => (pv P (Go.convert src dst a)).map ofV
    | none => none
  | .extract x ix => match evA sl x with
    | .tup ds => ds[ix]?
    | _ => none
  | .field t x f => match evA sl x, fldOf P t f with
    | .agg cs, some (off, ty) => partA P ty cs off
    | _, _ => none
  | .index t x ix => match conc (evA sl ix) with
    | some (.int k n) => match evA sl x, undOf P t with
      | .agg cs, some (.array len e) => match szOf P e with
        | some s => if 0 ≤ n ∧ n < len then partA P e cs (n.toNat * s) else none
        | none => none
      | d, _ => match conc d with
        | some a => (pv P (Instr.index t a (.int k n))).map ofV
        | none => none
    | _ => none
  | .fieldAddr s x f => match fldOf P s f with
    | some (off, ty) => match szOf P ty with
      | some (_ + 1) => match evA sl x with
        | .pt o sz i c => some (.pt o sz i (c + off))
        | .rp cs c => some (.rp cs (c + off))
        | _ => none
      | _ => none
    | _ => none
  | .indexAddr t x ix => match conc (evA sl ix) with
    | some (.int _ n) => match undOf P t with
      | some (.slice e) => match szOf P e with
        | some s => match evA sl x with
          | .os o sz off len => if s = sz ∧ 0 ≤ n ∧ n < len then some (.pt o sz (off + n.toNat) 0) else none
          | .i (.sl es) => match es[n.toNat]? with
            | some e => if 0 ≤ n ∧ e.length = s then some (.rp e 0) else none
            | none => none
          | _ => none
        | none => none
      | some (.array len e) => match szOf P e with
        | some s => match evA sl x with
          | .pt o sz i c => if 0 ≤ n ∧ n < len then some (.pt o sz i (c + n.toNat * s)) else none
          | .rp cs c => if 0 ≤ n ∧ n < len then some (.rp cs (c + n.toNat * s)) else none
          | _ => none
        | none => none
      | _ => none
    | _ => none
  | .slice t x lo hi none => match undOf P t with
    | some (.slice e) => match szOf P e with
      | some s =>
        let lo' := lo.map fun x => conc (evA sl x)
        let hi' := hi.map fun x => conc (evA sl x)
        match evA sl x with
        | .os o sz off len =>
          match lo', hi' with
          | none, none => if s = sz then some (.os o sz off len) else none
          | some (some (.int _ l)), none => if s = sz ∧ 0 ≤ l ∧ l ≤ len then some (.os o sz (off + l.toNat) (len - l.toNat)) else none
          | none, some (some (.int _ h)) => if s = sz ∧ 0 ≤ h ∧ h ≤ len then some (.os o sz off h.toNat) else none
          | some (some (.int _ l)), some (some (.int _ h)) => if s = sz ∧ 0 ≤ l ∧ l ≤ h ∧ h ≤ len then some (.os o sz (off + l.toNat) (h.toNat - l.toNat)) else none
          | _, _ => none
        | .i (.sl es) => if uni s es = false then none else
          match lo', hi' with
          | none, none => some (.i (.sl es))
          | some (some (.int _ l)), none => if 0 ≤ l ∧ l ≤ es.length then some (.i (.sl (es.drop l.toNat))) else none
          | none, some (some (.int _ h)) => if 0 ≤ h ∧ h ≤ es.length then some (.i (.sl (es.take h.toNat))) else none
          | some (some (.int _ l)), some (some (.int _ h)) => if 0 ≤ l ∧ l ≤ h ∧ h ≤ es.length then some (.i (.sl ((es.take h.toNat).drop l.toNat))) else none
          | _, _ => none
        | _ => none
      | none => none
    | some .string => match conc (evA sl x), optV sl lo, optV sl hi with
      | some a, some l, some h => (pv P (Instr.sliceAt t a l h none)).map ofV
      | _, _, _ => none
    | _ => none
  | .build t parts => match (parts.toList.mapM fun p => (dcells (evA sl p.2)).map fun cs => (p.1, cs)), zeroCellsD P t with
    | some ps, some z => match placesOf P t with
      | some pl => (fillD (pl[·]?) z ps).map .agg
      | none => match undOf P t with
        | some (.array _ e) => match szOf P e with
          | some s => (fillD (fun i => some (i * s, s)) z ps).map .agg
          | none => none
        | _ => none
    | _, _ => none
  | .makeFunc (.func f) first captured => if first.size = 0 then some (.fn f (captured.toList.map (evA sl))) else none
  | .call { callee := .builtin .len, args := args, argTypes := tys } => match args.toList.map (evA sl) with
    | [.os _ _ _ len] => match (tys[0]?).bind (undOf P) with
      | some (.slice _) => some (.i (.s (.int .i64 (len : Int))))
      | _ => none
    | [.i (.sl es)] => match (tys[0]?).bind (undOf P) with
      | some (.slice _) => some (.i (.s (.int .i64 (es.length : Int))))
      | _ => none
    | [d] => match conc d with
      | some a => (pv P (Builtin.len_ tys 0 #[a])).map ofV
      | none => none
    | _ => none
  | .call { callee := .builtin b, args := args, argTypes := tys } =>
    if b = .min ∨ b = .max then match (args.toList.map (evA sl)).mapM conc with
      | some vs => (match b with
        | .min => (pv P (Builtin.min_ tys 0 vs.toArray)).map ofV
        | _ => (pv P (Builtin.max_ tys 0 vs.toArray)).map ofV)
      | none => none
    else none
  | _ => none

/-- What an operation does to the call's own memory. id: the number of what it makes. -/
def opH (P : Program) (sl : Nat → D) (H : Nat → Ob) (id : Nat) (op : Op) : Option (D × (Nat → Ob)) :=
  match op with
  | .alloc t => match zeroCellsD P t, H id with
    | some cs, .fresh => some (.pt id 0 0 0, upd H id (.box cs))
    | _, _ => none
  | .box _ x => match dcells (evA sl x), H id with
    | some cs, .fresh => if cs.all D.one then some (.pt id 0 0 0, upd H id (.box cs)) else none
    | _, _ => none
  | .load t a => match aggOf P t with
    | some true => match szOf P t with
      | some n => (readAt H (evA sl a) n).map fun cs => (.agg cs, H)
      | none => none
    | some false => ((readAt H (evA sl a) 1).bind asCell).map fun d => (d, H)
    | none => none
  | .store t a x => match dcells (evA sl x), szOf P t with
    | some new, some n => if new.length = n ∧ new.all D.one then
        match evA sl a with
        | .pt o sz i c => match H o with
          | .box cs => if i = 0 ∧ c + n ≤ cs.length then some (.un, upd H o (.box (cs.take c ++ new ++ cs.drop (c + n)))) else none
          | .arr sz' es => match es[i]?, new.mapM (convI H) with
            | some e, some xs => if sz = sz' ∧ c + n ≤ e.length ∧ ¬ (new.flatMap D.ids1).contains o then
                some (.un, upd (frz (new.flatMap D.ids1) H) o (.arr sz (es.set i (e.take c ++ xs ++ e.drop (c + n))))) else none
            | _, _ => none
          | _ => none
        | _ => none
      else none
    | _, _ => none
  | .convert src dst x => match undOf P dst, undOf P src with
    | some (.slice e), some .string => match undOf P e, conc (evA sl x) with
      | some (.int .u8), some (.string s) => if s.size ≤ 140737488355328 then some (.i (strI s), H) else none
      | _, _ => none
    | some .string, some (.slice e) => match undOf P e, elemsOf H (evA sl x) with
      | some (.int .u8), some es => (es.mapM byteOfI).map fun bs => (.i (.s (.string ⟨bs.toArray⟩)), H)
      | _, _ => none
    | some (.slice e), some (.slice _) => if src = dst then match undOf P e, evA sl x with
      | some (.int .u8), .os o 1 off (len + 1) => match H o with
        | .arr 1 _ => (elemsOf H (.os o 1 off (len + 1))).map fun es => (.i (.sl es), frz [o] H)
        | _ => none
      | _, _ => none
      else none
    | _, _ => none
  | .makeSlice t l c => match undOf P t, conc (evA sl l), conc (evA sl c), H id with
    | some (.slice e), some (.int .i64 l), some (.int .i64 c), .fresh => match szOf P e, zeroCellsD P e, bytesOfT P e with
      | some (s + 1), some z, some by_ => if 0 ≤ l ∧ l ≤ c ∧ c < 140737488355328 ∧ c * by_ ≤ 140737488355328 ∧ z.length = s + 1 then
          match z.mapM (convI H) with
          | some xs => some (.os id (s + 1) 0 l.toNat, upd H id (.arr (s + 1) (List.replicate l.toNat xs)))
          | none => none
        else none
      | _, _, _ => none
    | _, _, _, _ => none
  | .buildSlice t len parts => match undOf P t, H id with
    | some (.slice e), .fresh => match szOf P e, zeroCellsD P e, parts.toList.mapM (fun p => (dcells (evA sl p.2)).map fun cs => (p.1, cs)) with
      | some (s + 1), some z, some ps => if len * (s + 1) ≤ 16777216 ∧ z.length = s + 1 ∧ ps.map (·.1) = List.range len ∧ ps.all (fun p => p.2.length = s + 1 ∧ p.2.all D.one) then
          match ps.mapM (fun p => p.2.mapM (convI H)) with
          | some es => some (.os id (s + 1) 0 len, upd (frz (ps.flatMap fun p => p.2.flatMap D.ids1) H) id (.arr (s + 1) es))
          | none => none
        else none
      | _, _, _ => none
    | _, _ => none
  | .call { callee := .builtin .append, args := args, argTypes := tys } => match args.toList.map (evA sl), tys.toList with
    | [s, x], [t, tx] => match undOf P t, H id with
      | some (.slice e), .fresh => match szOf P e, bytesOfT P e, (zeroOf P e).map (·.cells.size) with
        | some (n + 1), some by_, some zn => if zn = n + 1 then
            match (match undOf P tx, conc x with
              | some .string, some (.string str) => if n = 0 then some (str.data.toList.map byteI) else none
              | some (.slice _), _ => elemsOf H x
              | _, _ => none) with
            | some new => match s with
              | .i (.s (.slice none 0 0)) => if uni (n + 1) new ∧ new.length * by_ ≤ 140737488355328 ∧ new.length ≤ 140737488355328 then some (.os id (n + 1) 0 new.length, upd H id (.arr (n + 1) new)) else none
              | .os o sz 0 len => match H o with
                | .arr sz' es => if sz = n + 1 ∧ sz' = n + 1 ∧ es.length = len ∧ uni (n + 1) new ∧ (len + new.length) * by_ ≤ 140737488355328 ∧ len + new.length ≤ 140737488355328 then
                    some (.os id (n + 1) 0 (len + new.length), upd (upd H o .dead) id (.arr (n + 1) (es ++ new))) else none
                | _ => none
              | _ => none
            | none => none
          else none
        | _, _, _ => none
      | _, _ => none
    | _, _ => none
  | _ => none

def opA (P : Program) (sl : Nat → D) (H : Nat → Ob) (id : Nat) (op : Op) : Option (D × (Nat → Ob)) :=
  match opQ P sl H op with
  | some d => some (d, H)
  | none => opH P sl H id op

/-- What a run does, as the abstract memory sees it. -/
def Ran (P : Program) (w0 : Ctx) (T : Nat → Prop) (K : Ctx) (s : Sem Next) (d : D) (H' : Nat → Ob) : Prop :=
  ∃ v K', (s.run P K.w = .ok (.value v) K'.w ∨ (s.run P K.w = .ok .skip K'.w ∧ v = undef)) ∧ Ext K K' ∧ HR w0 T K' H' ∧ VD K' v d
end Go.Abs
