/- Operations that read memory or make some: each does what the abstract memory says. -/
import Derived.Test.YtbclmpdgkeoioaaAbsF
set_option linter.all false
namespace Go.Abs
open Go Go.RowKit

section
variable {P : Program} {w0 : Ctx} {T : Nat → Prop} {K : Ctx} {H : Nat → Ob} {sl : Nat → D} {ρ : Operand → Value}

theorem Ran.of {s : Sem Value} {v : Value} {K' : Ctx} {d : D} {H' : Nat → Ob} (h : s.run P K.w = .ok v K'.w) (he : Ext K K') (hr : HR w0 T K' H') (hd : VD K' v d) : Ran P w0 T K (do pure (.value (← s))) d H' :=
  ⟨v, K', .inl (by simp [h]), he, hr, hd⟩

theorem zcells_ok {t : TypeId} {z : List D} (hz : zeroCellsD P t = some z) : ∃ zv, zeroOf P t = some zv ∧ z = zv.cells.toList.map (fun c => .i (.s c)) ∧ (∀ c ∈ zv.cells, c.oneCell' = true) := by
  simp only [zeroCellsD, Option.bind_eq_some_iff] at hz
  obtain ⟨zv, h1, h2⟩ := hz
  split at h2
  · rename_i hall
    simp at h2
    exact ⟨zv, h1, h2.symm, fun c hc => (Array.all_eq_true_iff_forall_mem.1 hall) c hc⟩
  · cases h2

theorem zcells_rc {zv : Value} (h1 : ∀ c ∈ zv.cells, c.oneCell' = true) : RC K zv.cells (zv.cells.toList.map (fun c => .i (.s c))) := by
  refine ⟨by simp, fun j d hd => ?_⟩
  simp only [List.getElem?_map, Option.map_eq_some_iff] at hd
  obtain ⟨c, hc, rfl⟩ := hd
  have hlt : j < zv.cells.size := by have := (List.getElem?_eq_some_iff.1 hc).1; simpa using this
  have e : zv.cells[j] = c := by simpa [hlt] using hc
  rw [getD_lt hlt, e]
  exact .i (.s c (h1 c (by rw [← e]; exact Array.getElem_mem hlt)))

/-- A new box. -/
theorem newBox (hr : HR w0 T K H) {id : Nat} (hf : H id = .fresh) (t : TypeId) {v : Value} {cs : List D} (hc : RC K v.cells cs) (h1 : ∀ d ∈ cs, d.one = true) :
    ∃ K', (newVar t v).run P K.w = .ok ⟨K.w.heap.size, 0, none⟩ K'.w ∧ Ext K K' ∧ HR w0 T K' (upd H id (.box cs)) ∧ VD K' (.pointer (some ⟨K.w.heap.size, 0, none⟩)) (.pt id 0 0 0) := by
  have hn : K.μ id = none := hr.get hf
  have he := Ext.alloc hr hn (.cells v.cells t)
  refine ⟨K.alloc id (.cells v.cells t), by simp [newVar, newRow, Ctx.alloc], he, hr.alloc hn _ ?_, ?_⟩
  · refine ⟨K.w.heap.size, v.cells, t, by simp [Ctx.alloc, upd_same], heap_alloc_new K.w _, hc.1.symm, fun j d hd => (hc.2 j d hd).ext he, h1, fun hS => ?_, .inl hr.size⟩
    have := hr.sB _ hS; omega
  · have := VD.pt (K := K.alloc id (.cells v.cells t)) id 0 0 0 K.w.heap.size (by simp [Ctx.alloc, upd_same])
    simpa using this

theorem box_cell (hr : HR w0 T K H) {o : Nat} {cs : List D} (h : H o = .box cs) : ∀ d ∈ cs, d.one = true := by
  obtain ⟨_, _, _, _, _, _, _, h5, _⟩ := hr.get h; exact h5

theorem load_ok (hr : HR w0 T K H) {v : Value} {p : D} (hp : VD K v p) {t : TypeId} {d : D}
    (h : (match aggOf P t with
    | some true => match szOf P t with
      | some n => (readAt H p n).map fun cs => D.agg cs
      | none => none
    | some false => (readAt H p 1).bind asCell
    | none => none) = some d) : ∃ u, (Instr.loadAt t v).run P K.w = .ok u K.w ∧ VD K u d := by
  split at h
  · rename_i ha
    split at h
    · rename_i n hn
      simp only [Option.map_eq_some_iff] at h
      obtain ⟨cs, hcs, rfl⟩ := h
      obtain ⟨b, off, vs, rfl, h1, h2, h3, h4⟩ := readAt_ok hr hp hcs
      have hl : (loadCells ⟨b, off, none⟩ vs.length).run P K.w = .ok vs.toArray K.w :=
        run_loadCells_list (P := P) K.w ⟨b, off, none⟩ vs (fun j v hv => by rw [Addr.add_mid]; exact h3 j v hv)
      rw [h2] at hl
      refine ⟨.agg vs.toArray, by simp [Instr.loadAt, Instr.sureAddr, loadVar, agg_run ha, sz_run hn, hl], .agg _ _ (by simp; omega) fun j d hd => ?_⟩
      obtain ⟨u, hu, hd'⟩ := h4 j d hd
      obtain ⟨q1, q2⟩ := List.getElem?_eq_some_iff.1 hu
      rw [getD_lt (by simpa using q1)]
      simpa [q2] using hd'
    · cases h
  · rename_i ha
    simp only [Option.bind_eq_some_iff] at h
    obtain ⟨cs, hcs, hd⟩ := h
    obtain ⟨b, off, vs, rfl, h1, h2, h3, h4⟩ := readAt_ok hr hp hcs
    cases cs with
    | nil => simp at h1
    | cons c t' =>
      cases t' with
      | cons _ _ => simp at h1
      | nil =>
        simp [asCell] at hd; subst hd
        obtain ⟨u, hu, hd'⟩ := h4 0 c (by simp)
        have := h3 0 u hu
        exact ⟨u, by simp [Instr.loadAt, Instr.sureAddr, loadVar, agg_run ha, show K.w.cell? ⟨b, off, none⟩ = some u by simpa using this], hd'⟩
  · cases h

/-- New cells in a row. -/
theorem getD_put (row : Array Value) (o : Nat) (vs : List Value) (h : o + vs.length ≤ row.size) (m : Nat) :
    ((row.toList.take o ++ vs ++ row.toList.drop (o + vs.length)).toArray).getD m undef = if o ≤ m ∧ m < o + vs.length then vs.getD (m - o) undef else row.getD m undef := by
  rw [Array.getD_eq_getD_getElem?, List.getElem?_toArray]
  by_cases hin : o ≤ m ∧ m < o + vs.length
  · rw [if_pos hin, List.append_assoc, List.getElem?_append_right (by simp; omega), List.getElem?_append_left (by simp; omega), List.getD_eq_getElem?_getD]
    congr 2; simp; omega
  · rw [if_neg hin, Array.getD_eq_getD_getElem?]
    by_cases hlo : m < o
    · rw [List.append_assoc, List.getElem?_append_left (by simp; omega), List.getElem?_take, if_pos hlo]; simp
    · rw [List.getElem?_append_right (by simp; omega), List.getElem?_drop]
      congr 1
      rw [← Array.getElem?_toList]; congr 1; simp; omega

theorem size_put (row : Array Value) (o : Nat) (vs : List Value) (h : o + vs.length ≤ row.size) : (row.toList.take o ++ vs ++ row.toList.drop (o + vs.length)).toArray.size = row.size := by
  simp; omega

theorem run_store {t : TypeId} {n b off : Nat} {v : Value} {row : Array Value} {e : TypeId} (hs : szOf P t = some n) (hv : v.cells.size = n) (h1 : ∀ c ∈ v.cells, c.oneCell' = true)
    (hg : K.w.heap[b]? = some (.cells row e (0, 0))) (hle : off + n ≤ row.size) :
    (Instr.storeAt t (.pointer (some ⟨b, off, none⟩)) v).run P K.w = .ok () (K.w.setRow b (row.toList.take off ++ v.cells.toList ++ row.toList.drop (off + v.cells.toList.length)).toArray) := by
  have hst := run_storeCells_at (P := P) b off e v.cells.toList 0 row K.w hg (by simp; omega) (fun c hc => h1 c (by simpa using hc))
  simp only [Nat.add_zero] at hst
  simp [Instr.storeAt, Instr.sureAddr, storeVar, sz_run hs, hv, hst]

theorem cells_one {v : Value} {cs : List D} (hc : RC K v.cells cs) (h1 : ∀ d ∈ cs, d.one = true) : ∀ c ∈ v.cells, c.oneCell' = true := by
  intro c hcm
  obtain ⟨j, hj, rfl⟩ := Array.mem_iff_getElem.1 hcm
  have hlt : j < cs.length := by have := hc.1; omega
  have := hc.2 j cs[j] (by simp [hlt])
  rw [getD_lt hj] at this
  exact this.one (h1 _ (List.getElem_mem hlt))

/-- What is to be frozen, done. -/
theorem conv_list (hr : HR w0 T K H) {vs : Array Value} {cs : List D} {xs : List I} (hc : RC K vs cs) (h : cs.mapM (convI H) = some xs) (ids : List Nat) (hm : ∀ o ∈ cs.flatMap D.ids1, o ∈ ids) :
    vs.size = xs.length ∧ ∀ (j : Nat) (x : I), xs[j]? = some x → VI (K.more (frzS K H ids)).w (K.more (frzS K H ids)).S (vs.getD j undef) x := by
  obtain ⟨m1, m2⟩ := mapM_get h
  refine ⟨by rw [hc.1, m1], fun j x hx => ?_⟩
  have hlt : j < cs.length := by have := (List.getElem?_eq_some_iff.1 hx).1; omega
  obtain ⟨y, hy, hy'⟩ := m2 j cs[j] (by simp [hlt])
  rw [hx] at hy; cases hy
  exact convI_ok hr (hc.2 j _ (by simp [hlt])) hy' ids (fun o ho => hm o (List.mem_flatMap.2 ⟨cs[j], List.getElem_mem hlt, ho⟩))

theorem frz_arr {ids : List Nat} {o sz : Nat} {es : List (List I)} (h : H o = .arr sz es) (hn : o ∉ ids) : frz ids H o = .arr sz es := by simp [frz, hn, h]
theorem frz_fresh {ids : List Nat} {o : Nat} (h : H o = .fresh) : frz ids H o = .fresh := by simp [frz, h]

/-- A STORE. -/
theorem store_ok (hr : HR w0 T K H) {v pv : Value} {p : D} {t : TypeId} {n : Nat} {new : List D} (hp : VD K pv p) (hc : RC K v.cells new) (hs : szOf P t = some n) (hn : new.length = n) (h1 : ∀ d ∈ new, d.one = true) {H' : Nat → Ob}
    (h : (match p with
        | .pt o sz i c => match H o with
          | .box cs => if i = 0 ∧ c + n ≤ cs.length then some (D.un, upd H o (.box (cs.take c ++ new ++ cs.drop (c + n)))) else none
          | .arr sz' es => match es[i]?, new.mapM (convI H) with
            | some e, some xs => if sz = sz' ∧ c + n ≤ e.length ∧ ¬ (new.flatMap D.ids1).contains o then
                some (.un, upd (frz (new.flatMap D.ids1) H) o (.arr sz (es.set i (e.take c ++ xs ++ e.drop (c + n))))) else none
            | _, _ => none
          | _ => none
        | _ => none) = some (.un, H')) : ∃ K', (Instr.storeAt t pv v).run P K.w = .ok () K'.w ∧ Ext K K' ∧ HR w0 T K' H' := by
  have hone := cells_one hc h1
  have hvs : v.cells.size = n := by rw [hc.1, hn]
  have hvl : v.cells.toList.length = n := by simpa using hvs
  split at h
  · rename_i o sz i c
    cases hp with
    | pt _ _ _ _ b hμ =>
    split at h
    · rename_i cs ho
      split at h
      · rename_i hcond
        obtain ⟨rfl, hle⟩ := hcond
        simp only [Option.some.injEq, Prod.mk.injEq, true_and] at h; subst h
        obtain ⟨b', row, e, g1, g2, g3, g4, g5, g6, g7⟩ := hr.get ho
        rw [hμ] at g1; cases g1
        have hbound : c + v.cells.toList.length ≤ row.size := by omega
        have hst := run_store (K := K) (P := P) hs hvs hone (off := 0 * sz + c) g2 (by omega)
        have he : Ext K (K.row b _) := ext_row g2 (size_put row (0 * sz + c) v.cells.toList (by omega)) g6
        refine ⟨K.row b _, hst, he, hr.row (by rw [ho]; trivial) hμ g2 (size_put row (0 * sz + c) v.cells.toList (by omega)) ?_⟩
        refine ⟨b, _, e, hμ, setRow_heap K.w b row _ e (0, 0) g2, by rw [size_put _ _ _ (by omega)]; simp; omega, fun j d hd => ?_, fun d hd => ?_, g6, g7⟩
        · refine VD.ext he ?_
          rw [getD_put row (0 * sz + c) v.cells.toList (by omega)]
          simp only [Nat.zero_mul, Nat.zero_add, hvl]
          by_cases hin : c ≤ j ∧ j < c + n
          · rw [if_pos hin]
            rw [List.append_assoc, List.getElem?_append_right (by simp; omega), List.getElem?_append_left (by simp; omega)] at hd
            have : min c cs.length = c := by omega
            simp only [List.length_take, this] at hd
            have := hc.2 _ _ hd
            simpa [Array.getD_eq_getD_getElem?, List.getD_eq_getElem?_getD] using this
          · rw [if_neg hin]
            refine g4 j d ?_
            by_cases hlo : j < c
            · rw [List.append_assoc, List.getElem?_append_left (by simp; omega), List.getElem?_take, if_pos hlo] at hd; exact hd
            · rw [List.getElem?_append_right (by simp; omega), List.getElem?_drop] at hd
              rw [← hd]; congr 1; simp; omega
        · simp only [List.mem_append] at hd
          rcases hd with (hd | hd) | hd
          · exact g5 d (List.mem_of_mem_take hd)
          · exact h1 d hd
          · exact g5 d (List.mem_of_mem_drop hd)
      · cases h
    · rename_i sz' es ho
      split at h
      · rename_i e xs hei hxs
        split at h
        · rename_i hcond
          obtain ⟨rfl, hle, hno⟩ := hcond
          simp only [Option.some.injEq, Prod.mk.injEq, true_and] at h; subst h
          have hno : o ∉ new.flatMap D.ids1 := by simpa using hno
          have hr' := hr.frz (new.flatMap D.ids1)
          obtain ⟨hx1, hx2⟩ := conv_list hr hc hxs (new.flatMap D.ids1) (fun o h => h)
          have he0 : Ext K (K.more (frzS K H (new.flatMap D.ids1))) := Ext.more _
          obtain ⟨hz, hu, g⟩ := hr'.get (frz_arr ho hno)
          rcases g with ⟨g, _⟩ | ⟨b', row, e', g1, g2, g3, g4, g6, g7⟩
          · rw [show (K.more (frzS K H (new.flatMap D.ids1))).μ o = some b from hμ] at g; cases g
          rw [show (K.more (frzS K H (new.flatMap D.ids1))).μ o = some b from hμ] at g1; cases g1
          have hil : i < es.length := (List.getElem?_eq_some_iff.1 hei).1
          have hel : e.length = sz := hu e (List.mem_of_getElem? hei)
          have hxl : xs.length = n := by omega
          have hmul : i * sz + sz ≤ es.length * sz := by rw [← Nat.succ_mul]; exact Nat.mul_le_mul_right _ hil
          have hst := run_store (K := K) (P := P) hs hvs hone (off := i * sz + c) g2 (by omega)
          have hsize := size_put row (i * sz + c) v.cells.toList (by omega)
          have he : Ext (K.more (frzS K H (new.flatMap D.ids1))) ((K.more (frzS K H (new.flatMap D.ids1))).row b (row.toList.take (i * sz + c) ++ v.cells.toList ++ row.toList.drop (i * sz + c + v.cells.toList.length)).toArray) := ext_row g2 hsize g6
          refine ⟨_, hst, he0.trans he, hr'.row (by rw [frz_arr ho hno]; trivial) hμ g2 hsize ?_⟩
          have hnewlen : (e.take c ++ xs ++ e.drop (c + n)).length = sz := by simp; omega
          have hu' : ∀ y ∈ es.set i (e.take c ++ xs ++ e.drop (c + n)), y.length = sz := by
            intro y hy
            rcases List.mem_or_eq_of_mem_set hy with hy | hy
            · exact hu y hy
            · rw [hy]; exact hnewlen
          refine ⟨hz, hu', .inr ⟨b, _, e', hμ, setRow_heap K.w b row _ e' (0, 0) g2, by rw [hsize]; simpa using g3, fun j x hx => ?_, g6, g7⟩⟩
          refine VI.ext he ?_
          rw [getD_put row (i * sz + c) v.cells.toList (by omega), hvl]
          obtain ⟨y, hy1, hy2⟩ := flatten_get' hz hu' hx
          have hjd : j = j / sz * sz + j % sz := by rw [Nat.mul_comm]; exact (Nat.div_add_mod j sz).symm
          have hjm : j % sz < sz := Nat.mod_lt _ hz
          rw [List.getElem?_set] at hy1
          by_cases hji : i = j / sz
          · rw [if_pos hji] at hy1
            simp only [hil, if_true, Option.some.injEq] at hy1
            subst hy1
            rw [← hji] at hjd
            by_cases hin : i * sz + c ≤ j ∧ j < i * sz + c + n
            · rw [if_pos hin]
              rw [List.append_assoc, List.getElem?_append_right (by simp; omega), List.getElem?_append_left (by simp; omega)] at hy2
              have hmin : min c e.length = c := by omega
              simp only [List.length_take, hmin] at hy2
              have := hx2 _ _ hy2
              rw [show j % sz - c = j - (i * sz + c) by omega] at this
              simpa [Array.getD_eq_getD_getElem?, List.getD_eq_getElem?_getD] using this
            · rw [if_neg hin]
              refine g4 j x ?_
              have hsame : e[j % sz]? = some x := by
                by_cases hlo : j % sz < c
                · rw [List.append_assoc, List.getElem?_append_left (by simp; omega), List.getElem?_take, if_pos hlo] at hy2; exact hy2
                · rw [List.getElem?_append_right (by simp; omega), List.getElem?_drop] at hy2
                  rw [← hy2]; congr 1; simp; omega
              rw [hjd]; exact flatten_get hu hei hsame
          · rw [if_neg hji] at hy1
            have hout : ¬ (i * sz + c ≤ j ∧ j < i * sz + c + n) := by
              intro hin
              apply hji
              have : j < (i + 1) * sz := by rw [Nat.succ_mul]; omega
              have h2 : i * sz ≤ j := by omega
              exact (Nat.div_eq_of_lt_le h2 this).symm
            rw [if_neg hout]
            refine g4 j x ?_
            rw [hjd]; exact flatten_get hu hy1 hy2
        · cases h
      · cases h
    · cases h
  · cases h
end
end Go.Abs
