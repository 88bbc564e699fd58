/- Every operation does what the abstract memory says. -/
import Derived.Test.YtbclmpdgkeoioaaAbsJ
import Derived.Great.BuildSlice
set_option linter.all false
namespace Go.Abs
open Go Go.RowKit

section
variable {P : Program} {w0 : Ctx} {T : Nat → Prop} {K : Ctx} {H : Nat → Ob} {sl : Nat → D} {ρ : Operand → Value}

theorem Ran.read {s : Sem Value} {v : Value} {d : D} (hr : HR w0 T K H) (h : s.run P K.w = .ok v K.w) (hd : VD K v d) : Ran P w0 T K (do pure (.value (← s))) d H := Ran.of (K' := K) h (Ext.refl K) hr hd

theorem bytes_of {es : List (List I)} {bs : List UInt8} (h : es.mapM byteOfI = some bs) : es = bs.map fun b => [I.s (.int .u8 (b.toNat : Int))] := by
  obtain ⟨m1, m2⟩ := mapM_get h
  apply List.ext_getElem?
  intro j
  by_cases hj : j < es.length
  · obtain ⟨b, hb, hb'⟩ := m2 j es[j] (by simp [hj])
    have : es[j] = [I.s (.int .u8 (b.toNat : Int))] := by
      generalize es[j] = e at hb'
      unfold byteOfI at hb'
      split at hb'
      · split at hb'
        · rename_i n hn
          simp at hb'; subst hb'
          congr 3
          have : (UInt8.ofNat n.toNat).toNat = n.toNat := by simp; omega
          omega
        · cases hb'
      · cases hb'
    simp [hj, hb, this]
  · simp [show es[j]? = none by simp; omega, show bs[j]? = none by simp; omega]

theorem run_convert_str (hr : HR w0 T K H) {v : Value} {d : D} {es : List (List I)} {bs : List UInt8} {src dst e : TypeId} (hs : undOf P src = some (.slice e)) (hd : undOf P dst = some .string) (he : undOf P e = some (.int .u8))
    (hv : VD K v d) (hes : elemsOf H d = some es) (hb : es.mapM byteOfI = some bs) : (Go.convert src dst v).run P K.w = .ok (.string ⟨bs.toArray⟩) K.w := by
  rw [undOf_eq] at hs hd he
  have heq := bytes_of hb
  obtain ⟨a, cap, rfl, news, h1, h2, h3, h4⟩ := elems_src hr hv hes (n := 0) (fun x hx => by rw [heq] at hx; obtain ⟨b, _, rfl⟩ := List.mem_map.1 hx; rfl)
  have hfl : es.flatten = bs.map fun b => I.s (.int .u8 (b.toNat : Int)) := by
    rw [heq]; clear heq hb hes h1 h2 h4; induction bs with
    | nil => rfl
    | cons a t ih => simp [ih]
  have hnews : news = (bs.map fun b => (b.toNat : Int)).map (Value.int .u8) := by
    apply List.ext_getElem?
    intro j
    by_cases hj : j < bs.length
    · obtain ⟨u, hu1, hu2⟩ := h4 j (I.s (.int .u8 (bs[j].toNat : Int))) (by rw [hfl]; simp [hj])
      rw [hu1]
      cases hu2
      simp [hj]
    · have : es.length = bs.length := by rw [heq]; simp
      have h5 : news.length = bs.length := by omega
      simp [show news[j]? = none by simp; omega, show ¬ j < bs.length from hj]
  rw [run_convert_bytes_string K.w src dst e a _ cap hs he hd]
  rcases h2 with rfl | ⟨b, off, rfl, h2⟩
  · have : bs = [] := by cases bs with | nil => rfl | cons _ _ => simp at heq
    subst this
    cases a with
    | none => simp [Conv.bytesToString]; rfl
    | some a => exact run_bytesToString (P := P) K.w a 0 cap [] (by simp [loadCells, loadCellsFrom])
  · have hl : (loadCells ⟨b, off, none⟩ es.length).run P K.w = .ok news.toArray K.w := by
      have := run_loadCells_list (P := P) K.w ⟨b, off, none⟩ news (fun j v hv => by rw [Addr.add_mid]; exact h2 j v hv)
      rw [h1] at this; simpa using this
    rw [hnews] at hl
    rw [run_bytesToString K.w _ _ cap _ hl, foldl_push_bytes]
    have hid : (bs.map fun b => (b.toNat : Int)).map (fun n => UInt8.ofNat n.toNat) = bs := by
      rw [List.map_map]
      conv => rhs; rw [← List.map_id bs]
      exact List.map_congr_left fun b _ => by simp
    rw [hid]
    congr 2
    simp [ByteArray.empty, ByteArray.emptyWithCapacity]
    rfl

theorem run_str_convert (hr : HR w0 T K H) {s : ByteArray} {src dst e : TypeId} (hs : undOf P src = some .string) (hd : undOf P dst = some (.slice e)) (he : undOf P e = some (.int .u8)) :
    ∃ v K', (Go.convert src dst (.string s)).run P K.w = .ok v K'.w ∧ Ext K K' ∧ HR w0 T K' H ∧ VI K'.w K'.S v (strI s) := by
  rw [undOf_eq] at hs hd he
  have hq : (Question.appendCap s.size 0 e).forced = false := rfl
  generalize hcap : grownCap K.w s.size 0 e = cap
  generalize hrow : (s.data.map fun b => Value.int .u8 (b.toNat : Int)) ++ Array.replicate (cap - s.size) (Value.int .u8 0) = row
  have hcs : s.size ≤ cap := by rw [← hcap]; exact grownCap_ge K.w s.size 0 e
  have hrun : (Go.convert src dst (.string s)).run P K.w = .ok (.slice (some ⟨K.w.heap.size, 0, none⟩) s.size cap) ((K.w.drew.alloc (.cells row e)).freeze ⟨K.w.heap.size, row.size, none⟩ 1) := by
    have hsh : (K.w.drew.alloc (.cells row e)).shape? K.w.heap.size = some (e, row.size) := by
      have := heap_alloc_new K.w.drew (.cells row e)
      simp only [World.shape?]
      rw [show K.w.heap.size = K.w.drew.heap.size from rfl, this]
    have hcap' : (Question.appendCap s.size 0 e).cut (K.w.tape K.w.drawn (.appendCap s.size 0 e)) = cap := hcap
    simp only [Go.convert, Sem.run_bind, run_underlying hs, run_underlying hd, run_underlying he, Result.andThen_ok, Conv.stringToBytes, run_choose, hq, Bool.false_eq_true, if_false, hcap', hrow, newRow, run_newObj, Sem.run_pure, markStringish]
    have hsh' : World.shape? { heap := (K.w.heap.push (.cells row e)), tape := K.w.tape, drawn := K.w.drawn + 1, os := K.w.os, output := K.w.output } K.w.heap.size = some (e, row.size) := hsh
    simp only [run_shape, hsh', Result.andThen_ok, run_freeze]
    rfl
  have hother : ∀ k, k ≠ K.w.heap.size → ((K.w.drew.alloc (.cells row e)).freeze ⟨K.w.heap.size, row.size, none⟩ 1).heap[k]? = (K.w.drew.alloc (.cells row e)).heap[k]? := by
    intro k hk
    simp only [World.freeze, Nat.one_ne_zero, if_false, Array.getElem?_modify]
    rw [if_neg (by omega)]
  have hold : ∀ k, k < K.w.heap.size → ((K.w.drew.alloc (.cells row e)).freeze ⟨K.w.heap.size, row.size, none⟩ 1).heap[k]? = K.w.heap[k]? := by
    intro k hk
    rw [hother k (by omega)]
    exact Below.heap_alloc K.w.drew _ k hk
  have hnew : ∀ j, ((K.w.drew.alloc (.cells row e)).freeze ⟨K.w.heap.size, row.size, none⟩ 1).cell? ⟨K.w.heap.size, j, none⟩ = row[j]? := by
    intro j
    have h0 : (K.w.drew.alloc (.cells row e)).heap[K.w.heap.size]? = some (.cells row e (0, 0)) := heap_alloc_new K.w.drew _
    simp only [World.cell?, World.freeze, Nat.one_ne_zero, if_false, Array.getElem?_modify, if_true, h0, Option.map_some]
    simp
  have hsz : ((K.w.drew.alloc (.cells row e)).freeze ⟨K.w.heap.size, row.size, none⟩ 1).heap.size = K.w.heap.size + 1 := by
    simp [World.freeze]
  have he' : Ext K ⟨(K.w.drew.alloc (.cells row e)).freeze ⟨K.w.heap.size, row.size, none⟩ 1, fun b => K.S b ∨ b = K.w.heap.size, K.μ⟩ :=
    ⟨fun _ h => .inl h, fun b hb j => World.cell?_of_block (w := K.w) (hold b (hr.sB b hb)), fun _ _ h => h, fun o b hb => rowSize_same (hold b (hr.mB o b hb))⟩
  refine ⟨_, _, hrun, he', ?_, ?_⟩
  · refine ⟨hr.os, hr.tape, hr.output, by simp only [hsz]; have := hr.size; omega, fun k hk hT => (hold k (by have := hr.size; omega)).trans (hr.block k hk hT), fun b hb => ?_, fun b hb => ?_, fun o b hb => ?_, fun o => ?_, hr.inj⟩
    · simp only [hsz]
      rcases hb with hb | hb
      · have := hr.sB b hb; omega
      · omega
    · rcases hb with hb | hb
      · exact hr.sN b hb
      · right; left; rw [hb]; exact hr.size
    · simp only [hsz]; have := hr.mB o b hb; omega
    · refine (hr.ob o).ext he' (fun h => h) (fun b hown hb => ⟨hold b (hr.mB o b hb), ?_⟩)
      rintro (hS | hS)
      · obtain ⟨_, _, _, q, _⟩ := hr.place hown hb; exact q hS
      · have := hr.mB o b hb; omega
  · have hlen : (s.data.toList.map byteI).length = s.size := by simp
    have hfl : (s.data.toList.map byteI).flatten = s.data.toList.map fun b => I.s (.int .u8 (b.toNat : Int)) := by
      induction s.data.toList with
      | nil => rfl
      | cons a t ih => simp [byteI, ih]
    unfold strI
    rw [← hlen]
    have hget : ∀ (j : Nat) (x : I), (s.data.toList.map byteI).flatten[j]? = some x → ∃ b : UInt8, x = I.s (.int .u8 (b.toNat : Int)) ∧ row[j]? = some (.int .u8 (b.toNat : Int)) := by
      intro j x hx
      rw [hfl] at hx
      simp only [List.getElem?_map, Option.map_eq_some_iff] at hx
      obtain ⟨b, hb, rfl⟩ := hx
      refine ⟨b, rfl, ?_⟩
      obtain ⟨g1, g2⟩ := List.getElem?_eq_some_iff.1 hb
      rw [← hrow, Array.getElem?_append_left (by simpa using g1)]
      simp at g1 g2
      simp [g1, g2]
    exact .sl K.w.heap.size 0 cap 1 _ (fun j => row.getD j undef) (.inr rfl) (by rw [hlen]; exact hcs) (Nat.succ_pos 0) (fun x hx => by obtain ⟨b, _, rfl⟩ := List.mem_map.1 hx; rfl)
      (fun j x hx => by
        obtain ⟨b, rfl, hb⟩ := hget j x hx
        show World.cell? _ _ = _
        rw [Nat.zero_add, hnew, hb, Array.getD_eq_getD_getElem?, hb]; rfl) (fun j x hx => by
        obtain ⟨b, rfl, hb⟩ := hget j x hx
        show VI _ _ (row.getD j undef) _
        rw [Array.getD_eq_getD_getElem?, hb]
        exact .s _ rfl)

theorem flat_len (vs : List Value) {s : Nat} (hvsz : ∀ v ∈ vs, v.cells.size = s) : (vs.flatMap fun v => v.cells.toList).length = vs.length * s := by
  induction vs with
  | nil => simp
  | cons a t ih =>
    rw [List.flatMap_cons, List.length_append, ih (fun v hv => hvsz v (by simp [hv])), Array.length_toList, hvsz a (by simp), List.length_cons, Nat.add_mul]; omega

/-- A slice of bytes is converted to its own type: it is marked, and is never written again. -/
theorem mark_ok (hr : HR w0 T K H) {o : Nat} {es0 : List (List I)} (ho : H o = .arr 1 es0) {v : Value} {off len : Nat} (hv : VD K v (.os o 1 off (len + 1))) {es : List (List I)} (hes : elemsOf H (.os o 1 off (len + 1)) = some es) {t e : TypeId} (hu : undOf P t = some (.slice e)) (hb : undOf P e = some (.int .u8)) :
    ∃ K', (Go.convert t t v).run P K.w = .ok v K'.w ∧ Ext K K' ∧ HR w0 T K' (frz [o] H) ∧ VD K' v (.i (.sl es)) := by
  have hfr := elems_frozen hr hv hes [o] (by simp)
  have h1 := hr.frz [o]
  cases hv with
  | os _ _ _ _ b off' cap hμ h2 h3 h4 h5 =>
    obtain ⟨_, _, hx⟩ := hr.get ho
    rcases hx with ⟨hx, _⟩ | ⟨b', row, ty, a1, a2, a3, a4, a5, a6⟩
    · rw [hx] at hμ; cases hμ
    rw [hμ] at a1; cases a1
    have hSb : (K.more (frzS K H [o])).S b := .inr ⟨o, by simp, ⟨1, es0, ho⟩, hμ⟩
    have hother : ∀ k, k ≠ b → (K.w.freeze ⟨b, row.size, none⟩ 1).heap[k]? = K.w.heap[k]? := by
      intro k hk
      simp [World.freeze, Array.getElem?_modify, Ne.symm hk]
    have hself : (K.w.freeze ⟨b, row.size, none⟩ 1).heap[b]? = some (.cells row ty (row.size, row.size + 1)) := by
      simp [World.freeze, Array.getElem?_modify, a2]
    have hsize : (K.w.freeze ⟨b, row.size, none⟩ 1).heap.size = K.w.heap.size := by simp [World.freeze]
    have hcell : ∀ k j, (K.w.freeze ⟨b, row.size, none⟩ 1).cell? ⟨k, j, none⟩ = K.w.cell? ⟨k, j, none⟩ := by
      intro k j
      by_cases hk : k = b
      · subst hk
        rw [cell_of_row _ _ _ _ _ _ hself, cell_of_row _ _ _ _ _ _ a2]
      · exact World.cell?_of_block (w := K.w) (hother k hk)
    have hrow : ∀ k, rowSize (K.w.freeze ⟨b, row.size, none⟩ 1) k = rowSize K.w k := by
      intro k
      by_cases hk : k = b
      · subst hk; rw [rowSize_of hself, rowSize_of a2]
      · exact rowSize_same (hother k hk)
    have he2 : Ext (K.more (frzS K H [o])) ⟨K.w.freeze ⟨b, row.size, none⟩ 1, (K.more (frzS K H [o])).S, K.μ⟩ := ⟨fun _ h => h, fun k _ j => hcell k j, fun _ _ h => h, fun o' k _ => hrow k⟩
    refine ⟨⟨K.w.freeze ⟨b, row.size, none⟩ 1, (K.more (frzS K H [o])).S, K.μ⟩, ?_, (Ext.more (K := K) _).trans he2, ?_, .i (hfr.ext he2)⟩
    · have hsh : K.w.shape? b = some (ty, row.size) := by simp [World.shape?, a2]
      rw [undOf_eq] at hu hb
      simp [Go.convert, run_underlying hu, run_underlying hb, markStringish, hsh]
    · refine ⟨h1.os, h1.tape, h1.output, by rw [hsize]; exact h1.size, fun k hk hT => ?_, fun k hk => by rw [hsize]; exact h1.sB k hk, h1.sN, fun o' k hk => by rw [hsize]; exact h1.mB o' k hk, fun o' => ?_, h1.inj⟩
      · have hkb : k ≠ b := by
          rintro rfl
          rcases a6 with a6 | a6
          · omega
          · exact hT a6
        exact (hother k hkb).trans (h1.block k hk hT)
      · refine (h1.ob o').ext he2 (fun h => h) (fun k hown hk => ?_)
        obtain ⟨_, _, _, hS, _⟩ := h1.place hown hk
        have hkb : k ≠ b := by rintro rfl; exact hS hSb
        exact ⟨hother k hkb, hS⟩

theorem opH_ok (hr : HR w0 T K H) (hρ : ∀ x, VD K (ρ x) (evA sl x)) {id : Nat} (o : Oper) {d : D} {H' : Nat → Ob} (h : opH P sl H id o.op = some (d, H')) : Ran P w0 T K (execOp ρ o) d H' := by
  generalize hop : o.op = op at h
  cases op with
  | alloc t =>
    simp only [opH] at h
    split at h
    · rename_i cs hz hf
      simp only [Option.some.injEq, Prod.mk.injEq] at h
      obtain ⟨rfl, rfl⟩ := h
      obtain ⟨zv, h1, rfl, h3⟩ := zcells_ok hz
      obtain ⟨K', g1, g2, g3, g4⟩ := newBox (P := P) hr hf t (v := zv) (zcells_rc h3) (by simp [D.one])
      refine ⟨_, K', .inl ?_, g2, g3, g4⟩
      simp [execOp, hop, Instr.alloc, zero_run h1, g1]
    · cases h
  | box t x =>
    simp only [opH] at h
    split at h
    · rename_i cs hc hf
      split at h
      · rename_i hall
        simp only [Option.some.injEq, Prod.mk.injEq] at h
        obtain ⟨rfl, rfl⟩ := h
        obtain ⟨K', g1, g2, g3, g4⟩ := newBox (P := P) hr hf t (v := ρ x) (dcells_ok (hρ x) hc) (fun d hd => List.all_eq_true.1 hall d hd)
        refine ⟨_, K', .inl ?_, g2, g3, g4⟩
        simp [execOp, hop, Instr.box, g1]
      · cases h
    · cases h
  | load t a =>
    have h' : H' = H ∧ (match aggOf P t with
    | some true => match szOf P t with
      | some n => (readAt H (evA sl a) n).map fun cs => D.agg cs
      | none => none
    | some false => (readAt H (evA sl a) 1).bind asCell
    | none => none) = some d := by
      simp only [opH] at h
      split at h
      · split at h
        · simp only [Option.map_eq_some_iff, Prod.mk.injEq] at h
          obtain ⟨cs, h1, rfl, rfl⟩ := h
          exact ⟨rfl, by simp [*]⟩
        · cases h
      · simp only [Option.map_eq_some_iff, Prod.mk.injEq] at h
        obtain ⟨d', h1, rfl, rfl⟩ := h
        exact ⟨rfl, by simp [*]⟩
      · cases h
    obtain ⟨rfl, h'⟩ := h'
    obtain ⟨u, h1, h2⟩ := load_ok (P := P) hr (hρ a) h'
    have := Ran.read (P := P) hr h1 h2
    simpa only [execOp, hop] using this
  | store t a x =>
    simp only [opH] at h
    split at h
    · rename_i new n hc hs
      split at h
      · rename_i hcond
        obtain ⟨hn, hone⟩ := hcond
        have hd : d = .un := by
          split at h
          · split at h
            · split at h
              · simp only [Option.some.injEq, Prod.mk.injEq] at h; exact h.1.symm
              · cases h
            · split at h
              · split at h
                · simp only [Option.some.injEq, Prod.mk.injEq] at h; exact h.1.symm
                · cases h
              · cases h
            · cases h
          · cases h
        subst hd
        obtain ⟨K', g1, g2, g3⟩ := store_ok (P := P) hr (hρ a) (dcells_ok (hρ x) hc) hs hn (fun d hd => List.all_eq_true.1 hone d hd) h
        exact ⟨undef, K', .inr ⟨by simp [execOp, hop, g1], rfl⟩, g2, g3, .un⟩
      · cases h
    · cases h
  | convert src dst x =>
    simp only [opH] at h
    split at h
    · rename_i e hd hs
      split at h
      · rename_i s he hx
        split at h
        · simp only [Option.some.injEq, Prod.mk.injEq] at h
          obtain ⟨rfl, rfl⟩ := h
          have hv := conc_ok (hρ x) hx
          obtain ⟨v, K', g1, g2, g3, g4⟩ := run_str_convert (P := P) hr (s := s) hs hd he
          exact ⟨v, K', .inl (by simp [execOp, hop, hv, g1]), g2, g3, .i g4⟩
        · cases h
      · cases h
    · rename_i e hd hs
      split at h
      · rename_i es he hes
        simp only [Option.map_eq_some_iff, Prod.mk.injEq] at h
        obtain ⟨bs, hb, rfl, rfl⟩ := h
        have g1 := run_convert_str (P := P) hr hs hd he (hρ x) hes hb
        have := Ran.read (P := P) hr g1 (.i (.s _ rfl))
        simpa only [execOp, hop] using this
      · cases h
    · rename_i e e' hd hs
      split at h
      · rename_i hsd
        subst hsd
        split at h
        · rename_i o off len he hx
          split at h
          · rename_i es0 ho
            simp only [Option.map_eq_some_iff, Prod.mk.injEq] at h
            obtain ⟨es, hes, rfl, rfl⟩ := h
            have hv := hρ x
            rw [hx] at hv
            obtain ⟨K', g1, g2, g3, g4⟩ := mark_ok (P := P) hr ho hv hes hd he
            exact ⟨_, K', .inl (by simp [execOp, hop, g1]), g2, g3, g4⟩
          · cases h
        · cases h
      · cases h
    · cases h
  | makeSlice t l c =>
    simp only [opH] at h
    split at h
    · rename_i e l' c' hu hl hc hf
      split at h
      · rename_i s z by_ hs hz hb
        split at h
        · rename_i hcond
          obtain ⟨h0, h1, h2, h3, h4⟩ := hcond
          split at h
          · rename_i xs hxs
            simp only [Option.some.injEq, Prod.mk.injEq] at h
            obtain ⟨rfl, rfl⟩ := h
            obtain ⟨zv, z1, rfl, z3⟩ := zcells_ok hz
            obtain ⟨i, hi, hisz⟩ := szOf_info hs
            have hby := bytes_info hi hb
            have hzi := zero_info hi z1
            rw [undOf_eq] at hu
            have hrun := run_make (P := P) K.w t e i zv hu hi hzi .i64 .i64 l' c' h0 h1 (by rw [hby, Int.mul_comm]; omega) (by omega)
            have hxs' : xs = zv.cells.toList.map (fun c => nrmI (I.s c)) := by
              obtain ⟨m1, m2⟩ := mapM_get hxs
              apply List.ext_getElem?
              intro j
              by_cases hj : j < zv.cells.size
              · obtain ⟨b, hb1, hb2⟩ := m2 j (.i (.s zv.cells[j])) (by simp [hj])
                simp [convI] at hb2; subst hb2
                rw [hb1]; simp [hj]
              · simp only [List.length_map, Array.length_toList] at m1
                simp [show xs[j]? = none by simp; omega, show ¬ j < zv.cells.size from hj]
            have hzl : zv.cells.size = s + 1 := by simpa using h4
            have hxl : xs.length = s + 1 := by rw [hxs']; simpa using hzl
            have hrow : (madeCells zv.cells (c'.toNat * i.size)).size = c'.toNat * (s + 1) := by rw [size_madeCells, hisz]
            have hu' : ∀ x ∈ List.replicate l'.toNat xs, x.length = s + 1 := fun x hx => by rw [List.eq_of_mem_replicate hx]; exact hxl
            obtain ⟨a1, a2, a3⟩ := newArr hr (id := id) hf e (row := madeCells zv.cells (c'.toNat * i.size)) (sz := s + 1) (es := List.replicate l'.toNat xs) (Nat.succ_pos _) hu'
              (by rw [hrow, List.length_replicate]; exact Nat.mul_le_mul_right _ (by omega)) (fun j x hx => by
                obtain ⟨y, hy1, hy2⟩ := flatten_get' (Nat.succ_pos _) hu' hx
                have hlt := (List.getElem?_eq_some_iff.1 hx).1
                rw [flatten_len hu', List.length_replicate] at hlt
                have hle : l'.toNat * (s + 1) ≤ c'.toNat * (s + 1) := Nat.mul_le_mul_right _ (by omega)
                have hy : y = xs := by have := List.mem_of_getElem? hy1; exact List.eq_of_mem_replicate this
                subst hy
                have hm : j % (s + 1) < zv.cells.size := by rw [hzl]; exact Nat.mod_lt _ (Nat.succ_pos _)
                have hg : (madeCells zv.cells (c'.toNat * i.size)).getD j undef = zv.cells[j % (s + 1)] := by
                  rw [getD_lt (by rw [hrow]; omega)]
                  simp only [madeCells, Array.getElem_map, Array.getElem_range, hzl]
                  exact getElem!_pos zv.cells _ hm
                rw [hg]
                rw [hxs'] at hy2
                simp [hm] at hy2
                rw [← hy2]
                exact nrm_ok (.s _ (z3 _ (Array.getElem_mem hm)))) l'.toNat c'.toNat (by omega) (by rw [hrow]; exact Nat.le_refl _)
            refine ⟨_, _, .inl ?_, a1, a2, a3⟩
            simp only [execOp, hop, conc_ok (hρ l) hl, conc_ok (hρ c) hc, Sem.run_bind, hrun, Result.andThen_ok]
            rfl
          · cases h
        · cases h
      · cases h
    · cases h
  | buildSlice t len parts =>
    simp only [opH] at h
    split at h
    · rename_i e hu hf
      split at h
      · rename_i s z ps hs hz hps
        split at h
        · rename_i hcond
          obtain ⟨c1, c2, c3, c4⟩ := hcond
          split at h
          · rename_i es hes
            simp only [Option.some.injEq, Prod.mk.injEq] at h
            obtain ⟨rfl, rfl⟩ := h
            obtain ⟨m1, m2⟩ := mapM_get hps
            obtain ⟨m3, m4⟩ := mapM_get hes
            obtain ⟨i, hi, hisz⟩ := szOf_info hs
            obtain ⟨zv, z1, rfl, z3⟩ := zcells_ok hz
            have hisz : i.size = s + 1 := hisz
            have hzi := zero_info hi z1
            rw [undOf_eq] at hu
            have hzl : zv.cells.size = s + 1 := by simpa using c2
            have hpl : ps.length = len := by have := congrArg List.length c3; simpa using this
            have hparts : parts.toList.length = len := by rw [← m1]; exact hpl
            let vs : List Value := parts.toList.map fun p => ρ p.2
            have hvl : vs.length = len := by simp only [vs, List.length_map]; exact hparts
            have hpart : ∀ (j : Nat) (hj : j < len), ∃ cs, ps[j]? = some (j, cs) ∧ RC K (vs[j]'(by omega)).cells cs ∧ cs.length = s + 1 ∧ (∀ d ∈ cs, d.one = true) := by
              intro j hj
              obtain ⟨b, hb1, hb2⟩ := m2 j (parts.toList[j]'(by omega)) (by simp [show j < parts.toList.length by omega])
              simp only [Option.map_eq_some_iff] at hb2
              obtain ⟨cs, hcs, rfl⟩ := hb2
              have hj1 : (parts.toList[j]'(by omega)).1 = j := by
                have := congrArg (fun l => l[j]?) c3
                simp only [List.getElem?_map, hb1, Option.map_some] at this
                rw [List.getElem?_range hj] at this
                simpa using this
              have hall := List.all_eq_true.1 c4 _ (List.mem_of_getElem? hb1)
              simp only [decide_eq_true_eq, Bool.and_eq_true] at hall
              refine ⟨cs, by rw [hb1, hj1], ?_, by simpa using hall.1, fun d hd => List.all_eq_true.1 hall.2 d hd⟩
              rw [show vs[j]'(by omega) = ρ (parts.toList[j]'(by omega)).2 from by simp [vs]]
              exact dcells_ok (hρ (parts.toList[j]'(by omega)).2) hcs
            have hvsz : ∀ v ∈ vs, v.cells.size = s + 1 := by
              intro v hv
              obtain ⟨j, hj, rfl⟩ := List.mem_iff_getElem.1 hv
              obtain ⟨cs, _, q2, q3, _⟩ := hpart j (by omega)
              rw [q2.1, q3]
            have hzip : (parts.map fun (p : Nat × Operand) => (p.1, ρ p.2)).toList = ((vs.zipIdx 0).map fun x => (x.2, x.1)) := by
              apply List.ext_getElem?
              intro j
              by_cases hj : j < len
              · obtain ⟨b, hb1, hb2⟩ := m2 j (parts.toList[j]'(by omega)) (by simp [show j < parts.toList.length by omega])
                simp only [Option.map_eq_some_iff] at hb2
                obtain ⟨cs, hcs, rfl⟩ := hb2
                have hj1 : (parts.toList[j]'(by omega)).1 = j := by
                  have := congrArg (fun l => l[j]?) c3
                  simp only [List.getElem?_map, hb1, Option.map_some] at this
                  rw [List.getElem?_range hj] at this
                  simpa using this
                simp only [Array.toList_map, List.getElem?_map, List.getElem?_zipIdx, vs]
                rw [List.getElem?_eq_getElem (show j < parts.toList.length by omega)]
                simp only [Option.map_some, Nat.zero_add]
                rw [hj1]
              · have e1 : (parts.map fun (p : Nat × Operand) => (p.1, ρ p.2)).toList[j]? = none := by
                  rw [List.getElem?_eq_none_iff, Array.toList_map, List.length_map]; omega
                rw [e1, List.getElem?_eq_none_iff.2 (by simp; omega)]
            have hfill : Instr.fill (fun i => some (i * (s + 1), s + 1)) ((Array.range (len * (s + 1))).map (zv.cells[· % zv.cells.size]!)) (parts.map fun (p : Nat × Operand) => (p.1, ρ p.2)).toList = some (vs.flatMap fun v => v.cells.toList).toArray := by
              rw [hzip]
              exact Go.Great.fill_whole (Nat.succ_pos s) vs _ hvsz (by rw [hvl]; simp)
            have hrun : (Instr.buildSlice t len (parts.map fun (p : Nat × Operand) => (p.1, ρ p.2))).run P K.w = .ok (.slice (some ⟨K.w.heap.size, 0, none⟩) len len) (K.w.alloc (.cells (vs.flatMap fun v => v.cells.toList).toArray e)) := by
              by_cases h0 : len = 0
              · subst h0
                have hv0 : vs = [] := List.eq_nil_of_length_eq_zero hvl
                have hp0 : parts = #[] := by
                  apply Array.eq_empty_of_size_eq_zero; simpa using hparts
                subst hp0
                rw [hv0]
                simp [Instr.buildSlice, run_underlying hu, sizeOf, typeInfo, hi, newRow, Instr.fill, Array.range_zero']
              · exact run_buildSlice K.w t e len _ _ i zv hu hi hzi (by rw [hisz]; omega) (by rw [hisz]; exact Nat.mul_ne_zero h0 (Nat.succ_ne_zero s)) (by rw [hisz]; exact hfill)
            let ids := ps.flatMap fun p => p.2.flatMap D.ids1
            have hr' := hr.frz ids
            have he0 : Ext K (K.more (frzS K H ids)) := Ext.more _
            have hels : ∀ (j : Nat) (hj : j < len), ∃ xs, es[j]? = some xs ∧ (vs[j]'(by omega)).cells.size = xs.length ∧ xs.length = s + 1 ∧
                (∀ (k : Nat) (x : I), xs[k]? = some x → VI (K.more (frzS K H ids)).w (K.more (frzS K H ids)).S ((vs[j]'(by omega)).cells.getD k undef) x) := by
              intro j hj
              obtain ⟨cs, q1, q2, q3, q4⟩ := hpart j hj
              obtain ⟨xs, q5, q6⟩ := m4 j (j, cs) q1
              obtain ⟨q7, q8⟩ := conv_list hr q2 q6 ids (fun o ho => List.mem_flatMap.2 ⟨(j, cs), List.mem_of_getElem? q1, ho⟩)
              exact ⟨xs, q5, q7, by rw [← q7, q2.1, q3], q8⟩
            have hel : es.length = len := by rw [m3, hpl]
            have heu : ∀ x ∈ es, x.length = s + 1 := by
              intro x hx
              obtain ⟨j, hj, rfl⟩ := List.mem_iff_getElem.1 hx
              obtain ⟨xs, q1, _, q3, _⟩ := hels j (by omega)
              obtain ⟨g1, g2⟩ := List.getElem?_eq_some_iff.1 q1
              rw [g2]; exact q3
            have hrowsz : (vs.flatMap fun v => v.cells.toList).toArray.size = len * (s + 1) := by
              have := flat_len vs hvsz
              simp only [List.size_toArray, this, hvl]
            obtain ⟨a1, a2, a3⟩ := newArr (K := K.more (frzS K H ids)) hr' (id := id) (frz_fresh hf) e (row := (vs.flatMap fun v => v.cells.toList).toArray) (sz := s + 1) (es := es) (Nat.succ_pos _) heu (by rw [hrowsz, hel]; exact Nat.le_refl _)
              (fun j x hx => by
                obtain ⟨y, hy1, hy2⟩ := flatten_get' (Nat.succ_pos _) heu hx
                have hjl : j / (s + 1) < len := by have h9 : j / (s + 1) < es.length := (List.getElem?_eq_some_iff.1 hy1).1; omega
                obtain ⟨xs, q1, q2, q3, q4⟩ := hels (j / (s + 1)) hjl
                rw [q1] at hy1; cases hy1
                have hgs : (vs.flatMap fun v => v.cells.toList)[j]? = (vs[j / (s + 1)]?).bind (fun v => v.cells[j % (s + 1)]?) := Go.Great.flat_get (Nat.succ_pos s) vs hvsz j
                have : (vs.flatMap fun v => v.cells.toList).toArray.getD j undef = (vs[j / (s + 1)]'(by omega)).cells.getD (j % (s + 1)) undef := by
                  rw [Array.getD_eq_getD_getElem?, List.getElem?_toArray, hgs, List.getElem?_eq_getElem (show j / (s + 1) < vs.length by omega), Option.bind_some, Array.getD_eq_getD_getElem?]
                rw [this]
                exact q4 _ _ hy2) len len (Nat.le_refl _) (by rw [hrowsz]; exact Nat.le_refl _)
            refine ⟨_, _, .inl ?_, he0.trans a1, a2, a3⟩
            simp only [execOp, hop, Sem.run_bind]
            rw [show (parts.map fun (i, x) => (i, ρ x)) = parts.map fun (p : Nat × Operand) => (p.1, ρ p.2) from rfl, hrun]
            rfl
          · cases h
        · cases h
      · cases h
    · cases h
  | call c =>
    obtain ⟨callee, args, tys⟩ := c
    cases callee with
    | builtin b =>
      by_cases hb : b = .append
      · subst hb
        simp only [opH] at h
        split at h
        · rename_i s x t tx hargs htys
          split at h
          · rename_i e hu hf
            split at h
            · rename_i n by_ zn hs hbb hzz
              split at h
              · rename_i hzn
                split at h
                · rename_i new hnew
                  obtain ⟨i, hi, hisz⟩ := szOf_info hs
                  have hby := bytes_info hi hbb
                  simp only [Option.map_eq_some_iff] at hzz
                  obtain ⟨z, hz, hzs⟩ := hzz
                  have hzi := zero_info hi hz
                  have ⟨o1, o2, ha, e1, e2⟩ : ∃ o1 o2, args = #[o1, o2] ∧ evA sl o1 = s ∧ evA sl o2 = x := by
                    obtain ⟨l⟩ := args
                    match l, hargs with
                    | [a, b], hargs => simp at hargs; exact ⟨a, b, rfl, hargs.1, hargs.2⟩
                  have ht : tys = #[t, tx] := by obtain ⟨l⟩ := tys; simp at htys; rw [htys]
                  subst ha ht
                  have hx := hρ o2
                  have hs0 := hρ o1
                  rw [e1] at hs0
                  rw [e2] at hx
                  have hsrc : (∀ y ∈ new, y.length = n + 1) → SrcOk P K n tx (ρ o2) new := by
                    intro hnu
                    split at hnew
                    · rename_i str htx hstr
                      split at hnew
                      · rename_i hn0
                        subst hn0
                        simp at hnew; subst hnew
                        rw [conc_ok hx hstr]
                        exact src_string htx
                      · cases hnew
                    · rename_i e' htx
                      exact src_slice hr hx hnew hnu htx
                    · cases hnew
                  rw [undOf_eq] at hu
                  have hfin : ∀ {v' : Value} {K' : Ctx} {d : D} {H' : Nat → Ob}, (Builtin.append_ #[t, tx] o.type #[ρ o1, ρ o2]).run P K.w = .ok v' K'.w → Ext K K' → HR w0 T K' H' → VD K' v' d → Ran P w0 T K (execOp ρ o) d H' := by
                    intro v' K' d H' q1 q2 q3 q4
                    refine ⟨v', K', .inl ?_, q2, q3, q4⟩
                    simp [execOp, hop, resolve, invoke, builtin, q1]
                  split at h
                  · split at h
                    · rename_i hc
                      obtain ⟨c1, c2, c3⟩ := hc
                      simp only [Option.some.injEq, Prod.mk.injEq] at h
                      obtain ⟨rfl, rfl⟩ := h
                      have hv0 := conc_ok hs0 (v' := .slice none 0 0) rfl
                      obtain ⟨v', K', q1, q2, q3, q4⟩ := append_nil (P := P) hr hf (ty := o.type) hu hi hisz hby hzi (hzs.trans hzn) (uni_all c1) (hsrc (uni_all c1)) c2 c3
                      exact hfin (by rw [hv0]; exact q1) q2 q3 q4
                    · cases h
                  · rename_i o' sz len
                    split at h
                    · rename_i sz' es ho
                      split at h
                      · rename_i hc
                        obtain ⟨rfl, rfl, c1, c2, c3, c4⟩ := hc
                        simp only [Option.some.injEq, Prod.mk.injEq] at h
                        obtain ⟨rfl, rfl⟩ := h
                        obtain ⟨v', K', q1, q2, q3, q4⟩ := append_os (P := P) hr hf (ty := o.type) hu hi hisz hby hzi (hzs.trans hzn) (uni_all c2) (hsrc (uni_all c2)) hs0 ho c1 c3 c4
                        exact hfin q1 q2 q3 q4
                      · cases h
                    · cases h
                  · cases h
                · cases h
              · cases h
            · cases h
          · cases h
        · cases h
      · exfalso; revert h; cases b <;> simp_all [opH]
    | _ => simp [opH] at h
  | _ => simp [opH] at h
end
end Go.Abs
