/- Operations that neither read memory nor make any: each does what the abstract memory says. -/
import Derived.Test.YtbclmpdgkeoioaaAbsE
set_option linter.all false
namespace Go.Abs
open Go Go.RowKit

section
variable {P : Program} {K : Ctx} {H : Nat → Ob} {sl : Nat → D} {ρ : Operand → Value}

theorem slice_os {s o off len l h : Nat} {lo hi : Option Value} {v : Value} {t e : TypeId} (hu : undOf P t = some (.slice e)) (hs : szOf P e = some s) (hv : VD K v (.os o s off len))
    (hlo : (lo = none ∧ l = 0) ∨ ∃ k, lo = some (.int k (l : Int))) (hhi : (hi = none ∧ h = len) ∨ ∃ k, hi = some (.int k (h : Int))) (h1 : l ≤ h) (h2 : h ≤ len) :
    ∃ v', (Instr.sliceAt t v lo hi none).run P K.w = .ok v' K.w ∧ VD K v' (.os o s (off + l) (h - l)) := by
  have bounds : ∀ cap, len ≤ cap → (Instr.sliceBounds true len cap lo hi none).run P K.w = .ok (l, h, cap) K.w := by
    intro cap hcap
    unfold Instr.sliceBounds
    rcases hlo with ⟨rfl, rfl⟩ | ⟨k, rfl⟩ <;> rcases hhi with ⟨rfl, rfl⟩ | ⟨k', rfl⟩ <;> simp [Instr.sliceBound, asIntOf] <;> (try rw [if_pos (by omega)]) <;> (try simp) <;> (try omega)
  cases hv with
  | os _ _ _ _ b off' cap q1 q2 q3 q4 q5 =>
    refine ⟨_, by simp [Instr.sliceAt, Instr.slice, und_run hu, sz_run hs, bounds cap q3]; rfl, ?_⟩
    by_cases hc : cap = l
    · subst hc
      simp only [if_pos]
      exact .os o s _ _ b off' _ q1 q2 (by omega) (.inr (by omega)) (by have : (cap - cap) * s = 0 := by simp
                                                                        omega)
    · rw [if_neg hc]
      have hadd : (⟨b, off', none⟩ : Addr).add (l * s) = ⟨b, off' + l * s, none⟩ := by rw [Addr.add_mid]
      simp only [Option.map_some, hadd]
      refine .os o s _ _ b _ _ q1 q2 (by omega) ?_ ?_
      · rcases q4 with q4 | q4
        · exact .inl (by rw [q4, Nat.add_mul])
        · omega
      · have : l * s + (cap - l) * s = cap * s := by rw [← Nat.add_mul]; congr 1; omega
        omega
  | os0 =>
    have : h = 0 ∧ l = 0 := by omega
    obtain ⟨rfl, rfl⟩ := this
    refine ⟨.slice none 0 0, by simp [Instr.sliceAt, Instr.slice, und_run hu, sz_run hs, bounds 0 (Nat.le_refl _)], ?_⟩
    have hd : VD K (.slice none 0 0) (.os o s 0 0) := .os0 o s
    simpa using hd

theorem slice_sl {s l h : Nat} {es : List (List I)} {lo hi : Option Value} {v : Value} {t e : TypeId} (hu : undOf P t = some (.slice e)) (hs : szOf P e = some s) (hv : VI K.w K.S v (.sl es)) (hsz : ∀ x ∈ es, x.length = s)
    (hlo : (lo = none ∧ l = 0) ∨ ∃ k, lo = some (.int k (l : Int))) (hhi : (hi = none ∧ h = es.length) ∨ ∃ k, hi = some (.int k (h : Int))) (h1 : l ≤ h) (h2 : h ≤ es.length) :
    ∃ v', (Instr.sliceAt t v lo hi none).run P K.w = .ok v' K.w ∧ VI K.w K.S v' (.sl ((es.take h).drop l)) := by
  have bounds : ∀ len cap, len = es.length → len ≤ cap → (Instr.sliceBounds true len cap lo hi none).run P K.w = .ok (l, h, cap) K.w := by
    intro len cap hlen hcap
    subst hlen
    unfold Instr.sliceBounds
    rcases hlo with ⟨rfl, rfl⟩ | ⟨k, rfl⟩ <;> rcases hhi with ⟨rfl, rfl⟩ | ⟨k', rfl⟩ <;> simp [Instr.sliceBound, asIntOf] <;> (try rw [if_pos (by omega)]) <;> (try simp) <;> (try omega)
  cases hv with
  | e a cap =>
    simp at h2; subst h2
    have : l = 0 := by omega
    subst this
    refine ⟨_, by simp [Instr.sliceAt, Instr.slice, und_run hu, sz_run hs, bounds 0 cap rfl (Nat.zero_le _)]; rfl, ?_⟩
    simp only [Nat.sub_self, List.take_nil, List.drop_nil]
    exact .e _ _
  | sl b off cap sz _ f q1 q2 q3 q4 q5 q6 =>
    refine ⟨_, by simp [Instr.sliceAt, Instr.slice, und_run hu, sz_run hs, bounds _ cap rfl q2]; rfl, ?_⟩
    have hlen : ((es.take h).drop l).length = h - l := by simp; omega
    by_cases hz : h - l = 0
    · have : (es.take h).drop l = [] := List.eq_nil_of_length_eq_zero (by omega)
      rw [this, hz]; exact .e _ _
    have hss : s = sz := by
      cases es with
      | nil => simp at h2; omega
      | cons x t => rw [← hsz x (by simp), q4 x (by simp)]
    subst hss
    rw [if_neg (by omega)]
    have hadd : (⟨b, off, none⟩ : Addr).add (l * s) = ⟨b, off + l * s, none⟩ := by rw [Addr.add_mid]
    simp only [Option.map_some, hadd]
    rw [← hlen]
    have hflat : ∀ (j : Nat) (x : I), ((es.take h).drop l).flatten[j]? = some x → es.flatten[l * s + j]? = some x := by
      intro j x hx
      rw [flatten_drop (sz := s) (fun e he => q4 e (List.mem_of_mem_take he)), flatten_take q4, List.getElem?_drop, List.getElem?_take] at hx
      split at hx
      · exact hx
      · cases hx
    exact .sl b _ _ s _ (fun j => f (l * s + j)) q1 (by omega) q3 (fun e he => q4 e (List.mem_of_mem_take (List.mem_of_mem_drop he)))
      (fun j x hx => by rw [Nat.add_assoc]; exact q5 _ _ (hflat j x hx)) (fun j x hx => q6 _ _ (hflat j x hx))

theorem concI_of {d : D} {k : IntKind} {n : Int} (h : conc d = some (.int k n)) : ∀ {v : Value}, VD K v d → v = .int k n := fun hv => conc_ok hv h

theorem opt_slice {lo : Option Operand} (hρ : ∀ x, VD K (ρ x) (evA sl x)) {k : IntKind} {l : Int} (h : (lo.map fun x => conc (evA sl x)) = some (some (.int k l))) (h0 : 0 ≤ l) : ∃ k', lo.map ρ = some (.int k' (l.toNat : Int)) := by
  cases lo with
  | none => simp at h
  | some x =>
    simp at h
    exact ⟨k, by simp [conc_ok (hρ x) h, Int.toNat_of_nonneg h0]⟩
theorem opt_none {lo : Option Operand} (h : (lo.map fun x => conc (evA sl x)) = none) : lo.map ρ = none := by
  cases lo <;> simp_all

theorem VD.inv_i {v : Value} {x : I} (h : VD K v (.i x)) : VI K.w K.S v x := by cases h; assumption

theorem fldOf_some {t : TypeId} {f off : Nat} {ty : TypeId} (h : fldOf P t f = some (off, ty)) : ∃ fs fd, undOf P t = some (.struct fs) ∧ fs[f]? = some fd ∧ fd.offset = off ∧ fd.type = ty := by
  simp only [fldOf] at h
  split at h
  · rename_i fs hu
    split at h
    · rename_i fd hf
      simp at h
      exact ⟨fs, fd, hu, hf, h.1, h.2⟩
    · cases h
  · cases h

theorem opQ_ok (hρ : ∀ x, VD K (ρ x) (evA sl x)) (o : Oper) {d : D} (h : opQ P sl H o.op = some d) : Qv P K (execOp ρ o) d := by
  generalize hop : o.op = op at h
  cases op with
  | move x => simp only [opQ, Option.some.injEq] at h; subst h; exact ⟨_, by simp [execOp, hop], hρ x⟩
  | assign x => simp only [opQ, Option.some.injEq] at h; subst h; exact ⟨_, by simp [execOp, hop], hρ x⟩
  | pick c a b =>
    simp only [opQ] at h
    split at h
    · rename_i v hc
      simp only [Option.some.injEq] at h
      have hv := conc_ok (hρ c) hc
      cases v with
      | true => simp only [if_true] at h; subst h; exact ⟨ρ a, by simp [execOp, hop, hv, asBool], hρ a⟩
      | false => simp only [Bool.false_eq_true, if_false] at h; subst h; exact ⟨ρ b, by simp [execOp, hop, hv, asBool], hρ b⟩
    · cases h
  | nilCheck x =>
    simp only [opQ] at h
    have hx := hρ x
    cases hd : evA sl x <;> rw [hd] at hx <;> simp only [hd, Option.some.injEq, reduceCtorEq] at h
    all_goals subst h
    all_goals generalize hv : ρ x = v at hx
    all_goals cases hx
    · rename_i hμ; exact ⟨_, by simp [execOp, hop, hv], .pt _ _ _ _ _ hμ⟩
    · rename_i h1 h2 h3; exact ⟨_, by simp [execOp, hop, hv], .rp _ _ _ _ _ h1 h2 h3⟩
    · rename_i h1 h2; exact ⟨_, by simp [execOp, hop, hv], .fn _ _ _ h1 h2⟩
  | binOp op t x y yt =>
    simp only [opQ] at h
    split at h
    · rename_i a b ha hb
      rw [← conc_ok (hρ x) ha, ← conc_ok (hρ y) hb] at h
      have := Qv.pv (K := K) h
      simpa only [execOp, hop] using this
    · cases h
  | unOp op t x =>
    simp only [opQ] at h
    split at h
    · rename_i a ha
      rw [← conc_ok (hρ x) ha] at h
      have := Qv.pv (K := K) h
      simpa only [execOp, hop] using this
    · cases h
  | convert s t x =>
    simp only [opQ] at h
    split at h
    · rename_i a ha
      rw [← conc_ok (hρ x) ha] at h
      have := Qv.pv (K := K) h
      simpa only [execOp, hop] using this
    · cases h
  | extract x ix =>
    simp only [opQ] at h
    have hx := hρ x
    split at h
    · rename_i ds hd
      rw [hd] at hx
      generalize hv : ρ x = v at hx
      cases hx with
      | tup vs cs hl hc =>
        have hlt : ix < vs.size := by have := (List.getElem?_eq_some_iff.1 h).1; omega
        have := hc ix d h
        rw [getD_lt hlt] at this
        exact ⟨vs[ix], by simp [execOp, hop, hv, Instr.extract, hlt], this⟩
    · cases h
  | field t x f =>
    simp only [opQ] at h
    split at h
    · rename_i cs off ty hd hf
      obtain ⟨fs, fd, hu, hfd, rfl, rfl⟩ := fldOf_some hf
      have hx := hρ x
      rw [hd] at hx
      generalize hv : ρ x = v at hx
      cases hx with
      | agg vs cs hl hc =>
        obtain ⟨v, h1, h2⟩ := part_ok hl hc h K.w
        exact ⟨v, by simp [execOp, hop, hv, Instr.field, und_run hu, hfd, asAgg, h1], h2⟩
    · cases h
  | index t x ix =>
    simp only [opQ] at h
    split at h
    · rename_i k n hn
      have hix := conc_ok (hρ ix) hn
      split at h
      · rename_i cs len e hd hu
        split at h
        · rename_i s hs
          split at h
          · rename_i hc
            have hx := hρ x
            rw [hd] at hx
            generalize hv : ρ x = v at hx
            cases hx with
            | agg vs cs hl hcc =>
              obtain ⟨v, h1, h2⟩ := part_ok hl hcc h K.w
              exact ⟨v, by simp [execOp, hop, hv, hix, Instr.index, asIntOf, und_run hu, sz_run hs, hc, h1], h2⟩
          · cases h
        · cases h
      · rename_i hne
        split at h
        · rename_i a ha
          rw [← conc_ok (hρ x) ha, ← hix] at h
          have := Qv.pv (K := K) h
          simpa only [execOp, hop] using this
        · cases h
    · cases h
  | fieldAddr s x f =>
    simp only [opQ] at h
    split at h
    · rename_i off ty hf
      obtain ⟨fs, fd, hu, hfd, rfl, rfl⟩ := fldOf_some hf
      split at h
      · rename_i m hm
        have hx := hρ x
        split at h
        · rename_i o' sz i c hd
          simp at h; subst h
          rw [hd] at hx
          generalize hv : ρ x = v at hx
          cases hx with
          | pt _ _ _ _ b hμ =>
            refine ⟨.pointer (some ⟨b, i * sz + (c + fd.offset), none⟩), ?_, .pt _ _ _ _ b hμ⟩
            simp [execOp, hop, hv, Instr.fieldAt, und_run hu, hfd, Instr.sureAddr, fieldPlace, sz_run hm, Addr.add_mid, Nat.add_assoc]
        · rename_i cs c hd
          simp at h; subst h
          rw [hd] at hx
          generalize hv : ρ x = v at hx
          cases hx with
          | rp b off _ _ g h1 h2 h3 =>
            refine ⟨.pointer (some ⟨b, off + (c + fd.offset), none⟩), ?_, .rp b off _ _ g h1 h2 h3⟩
            simp [execOp, hop, hv, Instr.fieldAt, und_run hu, hfd, Instr.sureAddr, fieldPlace, sz_run hm, Addr.add_mid, Nat.add_assoc]
        · cases h
      · cases h
    · cases h
  | indexAddr t x ix =>
    simp only [opQ] at h
    split at h
    · rename_i k n hn
      have hix := conc_ok (hρ ix) hn
      have hx := hρ x
      split at h
      · rename_i e hu
        split at h
        · rename_i s hs
          split at h
          · rename_i o' sz off len hd
            split at h
            · rename_i hc
              obtain ⟨rfl, h0, h1⟩ := hc
              simp at h; subst h
              rw [hd] at hx
              generalize hv : ρ x = v at hx
              cases hx with
              | os _ _ _ _ b off' cap q1 q2 q3 q4 q5 =>
                have ho : off' = off * s := q4.resolve_right (by omega)
                subst ho
                refine ⟨.pointer (some ⟨b, (off + n.toNat) * s + 0, none⟩), ?_, .pt _ _ _ _ b q1⟩
                have : (⟨b, off * s, none⟩ : Addr).add (n.toNat * s) = ⟨b, (off + n.toNat) * s + 0, none⟩ := by rw [Addr.add_mid, Nat.add_mul, Nat.add_zero]
                simp [execOp, hop, hv, hix, Instr.indexAt, asIntOf, und_run hu, sz_run hs, h0, h1, this]
              | os0 => simp at h1; omega
            · cases h
          · rename_i es hd
            split at h
            · rename_i el hel
              split at h
              · rename_i hc
                obtain ⟨h0, h1⟩ := hc
                simp at h; subst h
                rw [hd] at hx
                generalize hv : ρ x = v at hx
                have hlt : n.toNat < es.length := (List.getElem?_eq_some_iff.1 hel).1
                cases hx with
                | i hx =>
                  cases hx with
                  | e a cap => simp at hlt
                  | sl b off cap sz _ f q1 q2 q3 q4 q5 q6 =>
                    have hsz : sz = s := by rw [← h1]; exact (q4 el (List.mem_of_getElem? hel)).symm
                    subst hsz
                    refine ⟨.pointer (some ⟨b, (off + n.toNat * sz) + 0, none⟩), ?_, .rp b _ 0 _ (fun j => f (n.toNat * sz + j)) q1 (fun j x hx => ?_) (fun j x hx => q6 _ _ (flatten_get q4 hel hx))⟩
                    · have : (⟨b, off, none⟩ : Addr).add (n.toNat * sz) = ⟨b, (off + n.toNat * sz) + 0, none⟩ := by rw [Addr.add_mid, Nat.add_zero]
                      have hn' : n < (es.length : Int) := by omega
                      simp [execOp, hop, hv, hix, Instr.indexAt, asIntOf, und_run hu, sz_run hs, h0, hn', this]
                    · rw [Nat.add_assoc]; exact q5 _ _ (flatten_get q4 hel hx)
              · cases h
            · cases h
          · cases h
        · cases h
      · rename_i len e hu
        split at h
        · rename_i s hs
          split at h
          · rename_i o' sz i c hd
            split at h
            · rename_i hc
              simp at h; subst h
              rw [hd] at hx
              generalize hv : ρ x = v at hx
              cases hx with
              | pt _ _ _ _ b hμ =>
                refine ⟨.pointer (some ⟨b, i * sz + (c + n.toNat * s), none⟩), ?_, .pt _ _ _ _ b hμ⟩
                simp [execOp, hop, hv, hix, Instr.indexAt, asIntOf, und_run hu, sz_run hs, Instr.sureAddr, hc, Addr.add_mid, Nat.add_assoc]
            · cases h
          · rename_i cs c hd
            split at h
            · rename_i hc
              simp at h; subst h
              rw [hd] at hx
              generalize hv : ρ x = v at hx
              cases hx with
              | rp b off _ _ g h1 h2 h3 =>
                refine ⟨.pointer (some ⟨b, off + (c + n.toNat * s), none⟩), ?_, .rp b off _ _ g h1 h2 h3⟩
                simp [execOp, hop, hv, hix, Instr.indexAt, asIntOf, und_run hu, sz_run hs, Instr.sureAddr, hc, Addr.add_mid, Nat.add_assoc]
            · cases h
          · cases h
        · cases h
      · cases h
    · cases h
  | slice t x lo hi mx =>
    cases mx with
    | some _ => simp [opQ] at h
    | none =>
      simp only [opQ] at h
      have fin : ∀ {v' : Value} {d : D}, (Instr.sliceAt t (ρ x) (lo.map ρ) (hi.map ρ) none).run P K.w = .ok v' K.w → VD K v' d → Qv P K (execOp ρ o) d := by
        intro v' d h1 h2
        exact ⟨v', by simp [execOp, hop, h1], h2⟩
      have hx := hρ x
      split at h
      · rename_i e hu
        split at h
        · rename_i s hs
          split at h
          · rename_i o' sz off len hd
            rw [hd] at hx
            split at h
            · rename_i hlo hhi
              split at h
              · rename_i hc; subst hc
                simp at h; subst h
                obtain ⟨v', a1, a2⟩ := slice_os (h := len) (l := 0) hu hs hx (.inl ⟨opt_none hlo, rfl⟩) (.inl ⟨opt_none hhi, rfl⟩) (Nat.zero_le _) (Nat.le_refl _)
                exact fin a1 (by simpa using a2)
              · cases h
            · rename_i k l hlo hhi
              split at h
              · rename_i hc; obtain ⟨rfl, h0, h1⟩ := hc
                simp at h; subst h
                obtain ⟨v', a1, a2⟩ := slice_os (h := len) (l := l.toNat) hu hs hx (.inr (opt_slice hρ hlo h0)) (.inl ⟨opt_none hhi, rfl⟩) (by omega) (Nat.le_refl _)
                exact fin a1 a2
              · cases h
            · rename_i k l hlo hhi
              split at h
              · rename_i hc; obtain ⟨rfl, h0, h1⟩ := hc
                simp at h; subst h
                obtain ⟨v', a1, a2⟩ := slice_os (l := 0) (h := l.toNat) hu hs hx (.inl ⟨opt_none hlo, rfl⟩) (.inr (opt_slice hρ hhi h0)) (by omega) (by omega)
                exact fin a1 (by simpa using a2)
              · cases h
            · rename_i k l k' h' hlo hhi
              split at h
              · rename_i hc; obtain ⟨rfl, h0, h1, h2⟩ := hc
                simp at h; subst h
                obtain ⟨v', a1, a2⟩ := slice_os (l := l.toNat) (h := h'.toNat) hu hs hx (.inr (opt_slice hρ hlo h0)) (.inr (opt_slice hρ hhi (by omega))) (by omega) (by omega)
                exact fin a1 a2
              · cases h
            · cases h
          · rename_i es hd
            rw [hd] at hx
            have hx := hx.inv_i
            split at h
            · cases h
            rename_i hun
            have hun : ∀ x ∈ es, x.length = s := by
              have : uni s es = true := by simpa using hun
              intro x hx; have := List.all_eq_true.1 this x hx; simpa using this
            split at h
            · rename_i hlo hhi
              simp at h; subst h
              obtain ⟨v', a1, a2⟩ := slice_sl (h := es.length) (l := 0) hu hs hx hun (.inl ⟨opt_none hlo, rfl⟩) (.inl ⟨opt_none hhi, rfl⟩) (Nat.zero_le _) (Nat.le_refl _)
              exact fin a1 (.i (by simpa using a2))
            · rename_i k l hlo hhi
              split at h
              · rename_i hc; obtain ⟨h0, h1⟩ := hc
                simp at h; subst h
                obtain ⟨v', a1, a2⟩ := slice_sl (h := es.length) (l := l.toNat) hu hs hx hun (.inr (opt_slice hρ hlo h0)) (.inl ⟨opt_none hhi, rfl⟩) (by omega) (Nat.le_refl _)
                exact fin a1 (.i (by simpa using a2))
              · cases h
            · rename_i k l hlo hhi
              split at h
              · rename_i hc; obtain ⟨h0, h1⟩ := hc
                simp at h; subst h
                obtain ⟨v', a1, a2⟩ := slice_sl (l := 0) (h := l.toNat) hu hs hx hun (.inl ⟨opt_none hlo, rfl⟩) (.inr (opt_slice hρ hhi h0)) (by omega) (by omega)
                exact fin a1 (.i (by simpa using a2))
              · cases h
            · rename_i k l k' h' hlo hhi
              split at h
              · rename_i hc; obtain ⟨h0, h1, h2⟩ := hc
                simp at h; subst h
                obtain ⟨v', a1, a2⟩ := slice_sl (l := l.toNat) (h := h'.toNat) hu hs hx hun (.inr (opt_slice hρ hlo h0)) (.inr (opt_slice hρ hhi (by omega))) (by omega) (by omega)
                exact fin a1 (.i a2)
              · cases h
            · cases h
          · cases h
        · cases h
      · rename_i hu
        split at h
        · rename_i a l r ha hl hr
          have h1 : lo.map ρ = l := by
            cases lo with
            | none => simp [optV] at hl; subst hl; rfl
            | some y =>
              simp [optV] at hl
              obtain ⟨z, hz, rfl⟩ := hl
              simp [conc_ok (hρ y) hz]
          have h2 : hi.map ρ = r := by
            cases hi with
            | none => simp [optV] at hr; subst hr; rfl
            | some y =>
              simp [optV] at hr
              obtain ⟨z, hz, rfl⟩ := hr
              simp [conc_ok (hρ y) hz]
          rw [← conc_ok hx ha, ← h1, ← h2] at h
          have := Qv.pv (K := K) h
          simpa only [execOp, hop, Option.map_none] using this
        · cases h
      · cases h
  | build t parts =>
    simp only [opQ] at h
    have hps : ∀ {ps : List (Nat × List D)}, (parts.toList.mapM fun p => (dcells (evA sl p.2)).map fun cs => (p.1, cs)) = some ps →
        (parts.toList.map fun p => (p.1, ρ p.2)).length = ps.length ∧ (∀ (j : Nat) (p : Nat × Value) (q : Nat × List D), (parts.toList.map fun p => (p.1, ρ p.2))[j]? = some p → ps[j]? = some q → p.1 = q.1 ∧ RC K p.2.cells q.2) := by
      intro ps hm
      obtain ⟨m1, m2⟩ := mapM_get hm
      refine ⟨by simp [m1], fun j p q hp hq => ?_⟩
      simp only [List.getElem?_map, Option.map_eq_some_iff] at hp
      obtain ⟨pp, hpp, rfl⟩ := hp
      obtain ⟨b, hb, hb'⟩ := m2 j pp hpp
      rw [hq] at hb; cases hb
      simp only [Option.map_eq_some_iff] at hb'
      obtain ⟨cs, hcs, rfl⟩ := hb'
      exact ⟨rfl, dcells_ok (hρ pp.2) hcs⟩
    have hz : ∀ {z : List D}, zeroCellsD P t = some z → ∃ zv, (zeroValue t).run P K.w = .ok zv K.w ∧ RC K zv.cells z := by
      intro z hz
      simp only [zeroCellsD, Option.bind_eq_some_iff] at hz
      obtain ⟨zv, h1, h2⟩ := hz
      split at h2
      · rename_i hall
        simp at h2; subst h2
        refine ⟨zv, zero_run h1 _, by simp, fun j d hd => ?_⟩
        simp only [List.getElem?_map, Option.map_eq_some_iff] at hd
        obtain ⟨c, hc, rfl⟩ := hd
        have hlt : j < zv.cells.size := by have := (List.getElem?_eq_some_iff.1 hc).1; simpa using this
        have e : zv.cells[j] = c := by simpa [hlt] using hc
        rw [getD_lt hlt, e]
        exact .i (.s c ((Array.all_eq_true_iff_forall_mem.1 hall) c (by rw [← e]; exact Array.getElem_mem hlt)))
      · cases h2
    split at h
    · rename_i ps z hp hzz
      obtain ⟨zv, z1, z2⟩ := hz hzz
      obtain ⟨p1, p2⟩ := hps hp
      split at h
      · rename_i pl hpl
        simp only [Option.map_eq_some_iff] at h
        obtain ⟨r, hr, rfl⟩ := h
        obtain ⟨vs, v1, v2⟩ := fill_ok _ _ _ _ _ r z2 p1 p2 hr
        simp only [placesOf] at hpl
        split at hpl
        · rename_i fields hu
          refine ⟨.agg vs, ?_, .agg _ _ v2.1 v2.2⟩
          have e := pv_run hpl K.w
          simp at e
          simp [execOp, hop, Instr.build, z1, und_run hu, e, v1]
        · cases hpl
      · split at h
        · rename_i len e hu
          split at h
          · rename_i s hs
            simp only [Option.map_eq_some_iff] at h
            obtain ⟨r, hr, rfl⟩ := h
            obtain ⟨vs, v1, v2⟩ := fill_ok _ _ _ _ _ r z2 p1 p2 hr
            refine ⟨.agg vs, ?_, .agg _ _ v2.1 v2.2⟩
            simp [execOp, hop, Instr.build, z1, und_run hu, sz_run hs, v1]
          · cases h
        · cases h
    · cases h
  | makeFunc fn first captured =>
    cases fn with
    | func f =>
      simp only [opQ] at h
      split at h
      · rename_i h0
        simp at h; subst h
        have : first = #[] := Array.eq_empty_of_size_eq_zero h0
        subst this
        refine ⟨.func (.func f) #[] (captured.map ρ), by simp [execOp, hop, Instr.makeFunc], .fn _ _ _ (by simp) fun j d hd => ?_⟩
        simp only [List.getElem?_map, Option.map_eq_some_iff] at hd
        obtain ⟨x, hx, rfl⟩ := hd
        have hlt : j < captured.size := by have := (List.getElem?_eq_some_iff.1 hx).1; simpa using this
        rw [getD_lt (by simpa using hlt)]
        have : captured[j] = x := by simpa [hlt] using hx
        simp [this]; exact hρ x
      · cases h
    | _ => simp [opQ] at h
  | call c =>
    obtain ⟨callee, args, tys⟩ := c
    cases callee with
    | builtin b =>
      have args1 : ∀ {x : Value} {d : D}, args.toList.map (evA sl) = [d] → ∃ x, args = #[x] ∧ evA sl x = d := by
        intro x d he
        obtain ⟨l⟩ := args
        cases l with
        | nil => simp at he
        | cons x t => cases t <;> simp_all
      have argsN : ∀ {vs : List Value}, (args.toList.map (evA sl)).mapM conc = some vs → args.map ρ = vs.toArray := by
        intro vs hm
        obtain ⟨m1, m2⟩ := mapM_get hm
        apply Array.ext
        · simp [m1]
        · intro j hj hj'
          have hlt : j < args.size := by simpa using hj
          obtain ⟨b, hb, hb'⟩ := m2 j (evA sl args[j]) (by simp [hlt])
          have := conc_ok (hρ args[j]) hb'
          obtain ⟨q1, q2⟩ := List.getElem?_eq_some_iff.1 hb
          simp [q2, this]
      by_cases hlen : b = .len
      · subst hlen
        simp only [opQ] at h
        split at h
        · rename_i o' sz off len he
          obtain ⟨x, rfl, hx'⟩ := args1 (x := undef) he
          have hx := hρ x
          rw [hx'] at hx
          split at h
          · rename_i e hu
            simp at h; subst h
            refine ⟨.int .i64 len, ?_, .i (.s _ rfl)⟩
            simp only [Option.bind_eq_some_iff] at hu
            obtain ⟨t, ht, hu⟩ := hu
            generalize hv : ρ x = v at hx
            cases hx <;> simp [execOp, hop, resolve, invoke, builtin, hv, Builtin.len_, ht, und_run hu, goInt]
          · cases h
        · rename_i es he
          obtain ⟨x, rfl, hx'⟩ := args1 (x := undef) he
          have hx := hρ x
          rw [hx'] at hx
          split at h
          · rename_i e hu
            simp at h; subst h
            refine ⟨.int .i64 es.length, ?_, .i (.s _ rfl)⟩
            simp only [Option.bind_eq_some_iff] at hu
            obtain ⟨t, ht, hu⟩ := hu
            generalize hv : ρ x = v at hx
            cases hx with
            | i hx => obtain ⟨a, cap, rfl, _⟩ := hx.sub; simp [execOp, hop, resolve, invoke, builtin, hv, Builtin.len_, ht, und_run hu, goInt]
          · cases h
        · rename_i d0 hne1 hne2 he
          obtain ⟨x, rfl, hx'⟩ := args1 (x := undef) he
          split at h
          · rename_i a ha
            have hx := hρ x
            rw [hx'] at hx
            rw [← conc_ok hx ha] at h
            obtain ⟨v, h1, h2⟩ := Qv.pv (K := K) h
            have e : ∀ a, Builtin.len_ tys o.type a = Builtin.len_ tys 0 a := fun _ => rfl
            exact ⟨v, by simpa [execOp, hop, resolve, invoke, builtin, e] using h1, h2⟩
          · cases h
        · cases h
      · have h' : (if b = .min ∨ b = .max then match (args.toList.map (evA sl)).mapM conc with
            | some vs => (match b with
              | .min => (Abs.pv P (Builtin.min_ tys 0 vs.toArray)).map ofV
              | _ => (Abs.pv P (Builtin.max_ tys 0 vs.toArray)).map ofV)
            | none => none
          else none) = some d := by
          rw [← h]; cases b <;> first | rfl | exact absurd rfl hlen
        split at h'
        · rename_i hb
          split at h'
          · rename_i vs hvs
            have e := argsN hvs
            rcases hb with rfl | rfl
            · obtain ⟨v, h1, h2⟩ := Qv.pv (K := K) h'
              exact ⟨v, by simpa [execOp, hop, resolve, invoke, builtin, e, Builtin.min_] using h1, h2⟩
            · obtain ⟨v, h1, h2⟩ := Qv.pv (K := K) h'
              exact ⟨v, by simpa [execOp, hop, resolve, invoke, builtin, e, Builtin.max_] using h1, h2⟩
          · cases h'
        · cases h'
    | _ => simp [opQ] at h
  | _ => simp [opQ] at h
end
end Go.Abs
