/- append, make, slice literals, strings: each does what the abstract memory says. -/
import Derived.Test.YtbclmpdgkeoioaaAbsI
set_option linter.all false
namespace Go.Abs
open Go Go.RowKit

section
variable {P : Program} {w0 : Ctx} {T : Nat → Prop} {K : Ctx} {H : Nat → Ob} {sl : Nat → D} {ρ : Operand → Value}

theorem uni_all {s : Nat} {es : List (List I)} (h : uni s es = true) : ∀ x ∈ es, x.length = s := by
  intro x hx; have := List.all_eq_true.1 h x hx; simpa using this

/-- An object's block goes over to another number. -/
theorem HR.adopt (hr : HR w0 T K H) {o id b : Nat} (ho : (H o).own) (hb : K.μ o = some b) (hf : H id = .fresh) :
    Ext K ⟨K.w, K.S, upd K.μ id (some b)⟩ ∧ HR w0 T ⟨K.w, K.S, upd K.μ id (some b)⟩ (upd (upd H o .dead) id (H o)) := by
  have hn : K.μ id = none := hr.get hf
  have he : Ext K ⟨K.w, K.S, upd K.μ id (some b)⟩ := ⟨fun _ h => h, fun _ _ _ => rfl, fun o' b' hb' => by
    show upd K.μ id _ o' = _
    rw [upd_ne _ _ (fun e => by subst e; rw [hn] at hb'; cases hb')]; exact hb', fun _ _ _ => rfl⟩
  have hne : o ≠ id := fun e => by subst e; rw [hn] at hb; cases hb
  have hplace : ∀ {o' b'}, (H o').own → K.μ o' = some b' → ¬ K.S b' := fun h1 h2 => by obtain ⟨_, _, _, q, _⟩ := hr.place h1 h2; exact q
  refine ⟨he, hr.os, hr.tape, hr.output, hr.size, hr.block, hr.sB, hr.sN, fun o' b' hb' => ?_, fun o' => ?_, fun o1 o2 b' h1 h2 g1 g2 => ?_⟩
  · by_cases h : o' = id
    · subst h; simp only [upd_same, Option.some.injEq] at hb'; subst hb'; exact hr.mB o b hb
    · simp only [upd_ne _ _ h] at hb'; exact hr.mB o' b' hb'
  · by_cases h : o' = id
    · subst h
      rw [upd_same]
      have := hr.ob o
      cases hx : H o with
      | box cs =>
        obtain ⟨b1, row, e, a1, a2, a3, a4, a5, a6, a7⟩ := hr.get hx
        rw [hb] at a1; cases a1
        exact ⟨b, row, e, upd_same _ _ _, a2, a3, fun j d hd => (a4 j d hd).ext he, a5, a6, a7⟩
      | arr sz es =>
        obtain ⟨a1, a2, a3⟩ := hr.get hx
        rcases a3 with ⟨a3, _⟩ | ⟨b1, row, e, c1, c2, c3, c4, c5, c6⟩
        · rw [hb] at a3; cases a3
        · rw [hb] at c1; cases c1
          exact ⟨a1, a2, .inr ⟨b, row, e, upd_same _ _ _, c2, c3, fun j x hx => (c4 j x hx).ext he, c5, c6⟩⟩
      | _ => rw [hx] at ho; exact ho.elim
    · rw [upd_ne _ _ h]
      by_cases h' : o' = o
      · subst h'; rw [upd_same]; trivial
      · rw [upd_ne _ _ h']
        exact (hr.ob o').ext he (fun hn' => by show upd K.μ id _ o' = none; rw [upd_ne _ _ h]; exact hn') (fun b' h1 h2 => ⟨rfl, hplace h1 h2⟩)
  · have key : ∀ {o'}, (upd (upd H o .dead) id (H o) o').own → upd K.μ id (some b) o' = some b' → (o' = id ∧ b' = b) ∨ (o' ≠ id ∧ o' ≠ o ∧ (H o').own ∧ K.μ o' = some b') := by
      intro o' h1 h2
      by_cases h : o' = id
      · subst h; rw [upd_same] at h2; exact .inl ⟨rfl, by simpa using h2.symm⟩
      · rw [upd_ne _ _ h] at h1 h2
        by_cases h' : o' = o
        · subst h'; rw [upd_same] at h1; exact h1.elim
        · rw [upd_ne _ _ h'] at h1; exact .inr ⟨h, h', h1, h2⟩
    rcases key h1 g1 with ⟨e1, e1'⟩ | ⟨n1, m1, k1, l1⟩ <;> rcases key h2 g2 with ⟨e2, e2'⟩ | ⟨n2, m2, k2, l2⟩
    · rw [e1, e2]
    · subst e1'; exact absurd (hr.inj o2 o b' k2 ho l2 hb) m2
    · subst e2'; exact absurd (hr.inj o1 o b' k1 ho l1 hb) m1
    · exact hr.inj o1 o2 b' k1 k2 l1 l2

theorem flat_append {es new : List (List I)} {sz : Nat} (hu : ∀ x ∈ es, x.length = sz) {j : Nat} {x : I} (h : (es ++ new).flatten[j]? = some x) : (j < es.length * sz ∧ es.flatten[j]? = some x) ∨ (es.length * sz ≤ j ∧ new.flatten[j - es.length * sz]? = some x) := by
  rw [List.flatten_append] at h
  have hl := flatten_len hu
  by_cases hj : j < es.length * sz
  · rw [List.getElem?_append_left (by omega)] at h; exact .inl ⟨hj, h⟩
  · rw [List.getElem?_append_right (by omega), hl] at h; exact .inr ⟨by omega, h⟩

/-- APPEND, growing: a new row. -/
theorem append_grow (hr : HR w0 T K H) {id n by_ m : Nat} (hf : H id = .fresh) {t tx ty e : TypeId} {i : TypeInfo} {z v : Value} {new es : List (List I)} (ht : P.underlying t = some (.slice e)) (hi : P.info? e = some i) (hsz : i.size = n + 1) (hby : i.bytes = by_)
    (hz : i.zero = some z) (hzn : z.cells.size = n + 1) (hnu : ∀ x ∈ new, x.length = n + 1) (heu : ∀ x ∈ es, x.length = n + 1) (hs : SrcOk P K n tx v new) {base : Option Addr} {cap : Nat} {olds : List Value} (hol : olds.length = es.length * (n + 1))
    (hold : (Builtin.firstCells (n + 1) es.length (.slice base es.length cap)).run P K.w.drew = .ok olds.toArray K.w.drew)
    (hov : ∀ (j : Nat) (x : I), es.flatten[j]? = some x → ∃ u, olds[j]? = some u ∧ VI K.w K.S u x) (hlt : cap < es.length + new.length) (hb1 : (es.length + new.length) * by_ ≤ 140737488355328) (hb2 : es.length + new.length ≤ 140737488355328) (hm : m = es.length + new.length) :
    ∃ v' K', (Builtin.append_ #[t, tx] ty #[.slice base es.length cap, v]).run P K.w = .ok v' K'.w ∧ Ext K K' ∧ HR w0 T K' (upd H id (.arr (n + 1) (es ++ new))) ∧ VD K' v' (.os id (n + 1) 0 m) := by
  subst hm
  obtain ⟨news, hsrc, hnv⟩ := hs
  rw [← hsz] at hsrc hold
  have hrun := run_append_grow_src (P := P) K.w t tx ty e i z ht hi hz base es.length cap olds hold v new.length news hsrc hlt (by omega) (growslice_fits (by omega) (by rw [hby]; exact hb1))
  have hr' : HR w0 T (K.world K.w.drew) H := hr.world rfl rfl rfl rfl
  have he' : Ext K (K.world K.w.drew) := Ext.world rfl
  have hcap := grownCap_ge K.w (es.length + new.length) cap e
  have hnl : news.length = new.length * (n + 1) := by rw [hsrc.newsLen, hsz]
  have hrowsz : ((olds ++ news).toArray ++ Builtin.zeroCells z.cells (grownCap K.w (es.length + new.length) cap e - (es.length + new.length))).size = grownCap K.w (es.length + new.length) cap e * (n + 1) := by
    rw [Array.size_append, size_zeroCells, hzn]
    simp only [List.size_toArray, List.length_append, hol, hnl]
    rw [← Nat.add_mul, ← Nat.add_mul]; congr 1; omega
  have hbase : (es ++ new).length * (n + 1) ≤ grownCap K.w (es.length + new.length) cap e * (n + 1) := Nat.mul_le_mul_right _ (by simpa using hcap)
  obtain ⟨a1, a2, a3⟩ := newArr (K := K.world K.w.drew) hr' (id := id) hf e (row := (olds ++ news).toArray ++ Builtin.zeroCells z.cells (grownCap K.w (es.length + new.length) cap e - (es.length + new.length))) (sz := n + 1) (es := es ++ new) (Nat.succ_pos _)
    (fun x hx => by rcases List.mem_append.1 hx with h | h; exact heu x h; exact hnu x h) (by rw [hrowsz]; exact hbase) (fun j x hx => by
      have hj : j < (olds ++ news).length := by
        have := (List.getElem?_eq_some_iff.1 hx).1
        rw [flatten_len (sz := n + 1) (fun x hx => by rcases List.mem_append.1 hx with h | h; exact heu x h; exact hnu x h)] at this
        simp only [List.length_append, hol, hnl] at this ⊢
        rw [← Nat.add_mul]; exact this
      have hget : ((olds ++ news).toArray ++ Builtin.zeroCells z.cells (grownCap K.w (es.length + new.length) cap e - (es.length + new.length))).getD j undef = (olds ++ news).getD j undef := by
        rw [Array.getD_eq_getD_getElem?, Array.getElem?_append_left (by simpa using hj), List.getD_eq_getElem?_getD]; simp
      rw [hget]
      rcases flat_append heu hx with ⟨h1, h2⟩ | ⟨h1, h2⟩
      · obtain ⟨u, hu1, hu2⟩ := hov j x h2
        rw [List.getD_eq_getElem?_getD, List.getElem?_append_left (by omega), hu1]
        exact hu2.ext he'
      · obtain ⟨u, hu1, hu2⟩ := hnv _ x h2
        rw [List.getD_eq_getElem?_getD, List.getElem?_append_right (by omega), hol, hu1]
        exact hu2.ext he') (es.length + new.length) (grownCap K.w (es.length + new.length) cap e) hcap (by rw [hrowsz]; exact Nat.le_refl _)
  exact ⟨_, _, hrun, he'.trans a1, a2, a3⟩

theorem append_nil (hr : HR w0 T K H) {id n by_ : Nat} (hf : H id = .fresh) {t tx ty e : TypeId} {i : TypeInfo} {z v : Value} {new : List (List I)} (ht : P.underlying t = some (.slice e)) (hi : P.info? e = some i) (hsz : i.size = n + 1) (hby : i.bytes = by_)
    (hz : i.zero = some z) (hzn : z.cells.size = n + 1) (hnu : ∀ x ∈ new, x.length = n + 1) (hs : SrcOk P K n tx v new) (hb1 : new.length * by_ ≤ 140737488355328) (hb2 : new.length ≤ 140737488355328) :
    ∃ v' K', (Builtin.append_ #[t, tx] ty #[.slice none 0 0, v]).run P K.w = .ok v' K'.w ∧ Ext K K' ∧ HR w0 T K' (upd H id (.arr (n + 1) new)) ∧ VD K' v' (.os id (n + 1) 0 new.length) := by
  by_cases hm : new = []
  · subst hm
    obtain ⟨news, hsrc, hnv⟩ := hs
    have hnl : news = [] := List.eq_nil_of_length_eq_zero (by simpa using hsrc.newsLen)
    subst hnl
    rw [← hsz] at hsrc
    refine ⟨_, K, run_append_nothing K.w t tx ty e i ht hi none 0 0 (Nat.le_refl _) v hsrc, Ext.refl K, ?_, .os0 id (n + 1)⟩
    have hn : K.μ id = none := hr.get hf
    refine ⟨hr.os, hr.tape, hr.output, hr.size, hr.block, hr.sB, hr.sN, hr.mB, fun o => ?_, fun o1 o2 b h1 h2 g1 g2 => ?_⟩
    · by_cases h : o = id
      · subst h; rw [upd_same]; exact ⟨Nat.succ_pos _, by simp, .inl ⟨hn, rfl⟩⟩
      · rw [upd_ne _ _ h]; exact hr.ob o
    · rw [upd_ne _ _ (fun e => by subst e; rw [hn] at g1; cases g1)] at h1
      rw [upd_ne _ _ (fun e => by subst e; rw [hn] at g2; cases g2)] at h2
      exact hr.inj o1 o2 b h1 h2 g1 g2
  · have hpos : 0 < new.length := List.length_pos_iff.2 hm
    have := append_grow hr hf (es := []) (m := new.length) (ty := ty) (base := none) (cap := 0) (olds := []) ht hi hsz hby hz hzn hnu (by simp) hs (by simp) (by simpa using run_firstCells_none (P := P) K.w.drew (n + 1) 0 0 0) (by simp) (by simpa using hpos) (by simpa using hb1) (by simpa using hb2) (by simp)
    simpa using this

/-- APPEND. -/
theorem append_os (hr : HR w0 T K H) {id n by_ o len : Nat} (hf : H id = .fresh) {t tx ty e : TypeId} {i : TypeInfo} {z v s : Value} {new es : List (List I)} (ht : P.underlying t = some (.slice e)) (hi : P.info? e = some i) (hsz : i.size = n + 1) (hby : i.bytes = by_)
    (hz : i.zero = some z) (hzn : z.cells.size = n + 1) (hnu : ∀ x ∈ new, x.length = n + 1) (hs : SrcOk P K n tx v new) (hv : VD K s (.os o (n + 1) 0 len)) (ho : H o = .arr (n + 1) es) (hel : es.length = len)
    (hb1 : (len + new.length) * by_ ≤ 140737488355328) (hb2 : len + new.length ≤ 140737488355328) :
    ∃ v' K', (Builtin.append_ #[t, tx] ty #[s, v]).run P K.w = .ok v' K'.w ∧ Ext K K' ∧ HR w0 T K' (upd (upd H o .dead) id (.arr (n + 1) (es ++ new))) ∧ VD K' v' (.os id (n + 1) 0 (len + new.length)) := by
  obtain ⟨_, heu, h3⟩ := hr.get ho
  have hne : o ≠ id := fun e => by subst e; rw [ho] at hf; cases hf
  have hf' : upd H o .dead id = .fresh := by rw [upd_ne _ _ hne.symm]; exact hf
  cases hv with
  | os0 =>
    have : es = [] := List.eq_nil_of_length_eq_zero hel
    subst this
    have := append_nil (hr.kill o) hf' (ty := ty) ht hi hsz hby hz hzn hnu hs (by simpa using hb1) (by simpa using hb2)
    simpa using this
  | os _ _ _ _ b off' cap q1 q2 q3 q4 q5 =>
    rcases h3 with ⟨h3, _⟩ | ⟨b', row, e', h3, h4, h5, h6, h7, h8⟩
    · rw [h3] at q1; cases q1
    rw [q1] at h3; cases h3
    rw [rowSize_of h4] at q5
    have hget : ∀ j, j < row.size → K.w.cell? ⟨b, j, none⟩ = some (row.getD j undef) := fun j hj => by rw [cell_of_row K.w b j row e' _ h4]; simp [Array.getD, hj]
    by_cases hroom : len + new.length ≤ cap
    · obtain ⟨news, hsrc, hnv⟩ := hs
      have hnl : news.length = new.length * (n + 1) := hsrc.newsLen
      have hcapm : (len + new.length) * (n + 1) ≤ cap * (n + 1) := Nat.mul_le_mul_right _ hroom
      rw [Nat.add_mul] at hcapm
      have hst : ∀ j, j < news.length → (K.w.cell? ⟨b, off' + len * (n + 1) + j, none⟩).isSome = true := fun j hj => by rw [hget _ (by omega)]; rfl
      have hfr : ∀ j, j < news.length → K.w.frozen? ⟨b, off' + len * (n + 1) + j, none⟩ = false := fun j _ => frozen_of_row K.w b _ row e' h4
      have hrun := run_append_room_src (P := P) K.w t tx ty e i ht hi b off' len cap v new.length news (by rw [hsz]; exact hsrc) hroom (by rw [hsz]; exact hst) (by rw [hsz]; exact hfr)
      rw [hsz] at hrun
      -- the same cells, as a row
      have h1 := run_storeCells_cells (P := P) b (off' + len * (n + 1)) news 0 K.w (by simpa using hst) (by simpa using hfr) hsrc.one
      have h2 := run_storeCells_at (P := P) b (off' + len * (n + 1)) e' news 0 row K.w h4 (by simp; omega) hsrc.one
      rw [h1] at h2
      simp only [Nat.add_zero, Result.ok.injEq, true_and] at h2
      rw [h2] at hrun
      obtain ⟨he1, hr1⟩ := hr.adopt (by rw [ho]; trivial) q1 hf
      have hsize := size_put row (off' + len * (n + 1)) news (by omega)
      have he2 : Ext ⟨K.w, K.S, upd K.μ id (some b)⟩ (Ctx.row ⟨K.w, K.S, upd K.μ id (some b)⟩ b (row.toList.take (off' + len * (n + 1)) ++ news ++ row.toList.drop (off' + len * (n + 1) + news.length)).toArray) := ext_row h4 hsize h7
      have hupd : upd (upd (upd H o .dead) id (H o)) id (.arr (n + 1) (es ++ new)) = upd (upd H o .dead) id (.arr (n + 1) (es ++ new)) := by
        funext k; by_cases h : k = id <;> simp [upd, h]
      have hr2 := hr1.row (o := id) (x := .arr (n + 1) (es ++ new)) (by rw [upd_same, ho]; trivial) (upd_same _ _ _) h4 hsize (by
        have hoff : off' = 0 ∨ (len = 0 ∧ new = []) := by
          rcases q4 with q4 | q4
          · left; simpa using q4
          · right; exact ⟨by omega, List.eq_nil_of_length_eq_zero (by omega)⟩
        refine ⟨Nat.succ_pos _, fun x hx => ?_, .inr ⟨b, _, e', upd_same _ _ _, setRow_heap K.w b row _ e' (0, 0) h4, ?_, fun j x hx => ?_, h7, h8⟩⟩
        · rcases List.mem_append.1 hx with h | h; exact heu x h; exact hnu x h
        · rw [hsize, List.length_append, hel, Nat.add_mul]
          have : off' + cap * (n + 1) ≤ row.size := q5
          omega
        · refine VI.ext (he1.trans he2) ?_
          rcases hoff with rfl | ⟨h0, hnil⟩
          · rw [getD_put row _ news (by omega)]
            rcases flat_append heu hx with ⟨g1, g2⟩ | ⟨g1, g2⟩
            · rw [if_neg (by rw [← hel]; omega)]; exact h6 j x g2
            · obtain ⟨u, hu1, hu2⟩ := hnv _ x g2
              have hlt := (List.getElem?_eq_some_iff.1 hu1).1
              rw [if_pos (by rw [← hel]; omega), List.getD_eq_getElem?_getD, Nat.zero_add, ← hel, hu1]
              exact hu2
          · subst hnil
            have : es = [] := List.eq_nil_of_length_eq_zero (by omega)
            subst this; simp at hx)
      rw [hupd] at hr2
      refine ⟨_, _, hrun, he1.trans he2, hr2, ?_⟩
      refine VD.ext he2 (.os id (n + 1) 0 (len + new.length) b off' cap (upd_same _ _ _) (Nat.succ_pos _) hroom q4 ?_)
      rw [rowSize_of h4]; exact q5
    · have hol : ((row.toList.drop off').take (len * (n + 1))).length = es.length * (n + 1) := by
        have : len * (n + 1) ≤ cap * (n + 1) := Nat.mul_le_mul_right _ q3
        simp; rw [hel]; omega
      have hoff : off' = 0 ∨ es = [] := by
        rcases q4 with q4 | q4
        · left; simpa using q4
        · right; exact List.eq_nil_of_length_eq_zero (by omega)
      subst hel
      have := append_grow (hr.kill o) hf' (es := es) (new := new) (m := es.length + new.length) (ty := ty) (base := some ⟨b, off', none⟩) (cap := cap) (olds := (row.toList.drop off').take (es.length * (n + 1))) ht hi hsz hby hz hzn hnu heu hs hol
        (run_firstCells_some (P := P) K.w.drew (n + 1) es.length ⟨b, off', none⟩ es.length cap _ hol (fun j u hu => by
          rw [Addr.add_mid]
          rw [List.getElem?_take] at hu
          split at hu
          · rw [List.getElem?_drop] at hu
            obtain ⟨g1, g2⟩ := List.getElem?_eq_some_iff.1 hu
            have : K.w.drew.cell? ⟨b, off' + j, none⟩ = K.w.cell? ⟨b, off' + j, none⟩ := rfl
            rw [this, cell_of_row K.w b _ row e' _ h4]
            simpa using hu
          · cases hu)) (fun j x hx => by
          rcases hoff with rfl | hnil
          · have hj := (List.getElem?_eq_some_iff.1 hx).1
            rw [flatten_len heu] at hj
            have hlt : j < row.size := by omega
            refine ⟨row[j], ?_, ?_⟩
            · rw [List.getElem?_take, if_pos hj, List.drop_zero]; simp [hlt]
            · have := h6 j x hx
              rwa [getD_lt hlt] at this
          · subst hnil; simp at hx) (by omega) hb1 hb2 rfl
      exact this
end
end Go.Abs
