/- Regions that draw their order: what does not touch may be done in any order. -/
import Derived.Test.YtbclmpdgkeoioaaAbsO
import Derived.Orders
set_option linter.all false
namespace Go.Abs
open Go Go.RowKit

section
variable {P : Program} {H G : Nat → Ob} {sl sl' : Nat → D}

theorem mapM_congr' {α β : Type} {f g : α → Option β} : ∀ {l : List α}, (∀ x ∈ l, f x = g x) → l.mapM f = l.mapM g
  | [], _ => rfl
  | x :: l, h => by rw [List.mapM_cons, List.mapM_cons, h x (by simp), mapM_congr' (fun y hy => h y (by simp [hy]))]

theorem parts_congr {parts : Array (Nat × Operand)} (h : ∀ x ∈ (parts.toList.map (·.2)).toArray, evA sl x = evA sl' x) :
    (parts.toList.mapM fun p => (dcells (evA sl p.2)).map fun cs => (p.1, cs)) = parts.toList.mapM fun p => (dcells (evA sl' p.2)).map fun cs => (p.1, cs) :=
  mapM_congr' fun p hp => by rw [h p.2 (by simp only [List.mem_toArray, List.mem_map]; exact ⟨p, hp, rfl⟩)]

theorem args_congr {args : Array Operand} (h : ∀ x ∈ args, evA sl x = evA sl' x) : args.toList.map (evA sl) = args.toList.map (evA sl') :=
  List.map_congr_left fun x hx => h x (by simpa using hx)

theorem opA_congr {op : Op} (id : Nat) (h : ∀ x ∈ op.operands, evA sl x = evA sl' x) : opA P sl H id op = opA P sl' H id op := by
  cases op with
  | build t parts => simp only [opA, opQ, opH, parts_congr h]
  | buildSlice t len parts => simp only [opA, opQ, opH, parts_congr h]
  | makeFunc fn first captured =>
    have : captured.toList.map (evA sl) = captured.toList.map (evA sl') := args_congr fun x hx => h x (by simp [Op.operands, hx])
    cases fn <;> simp only [opA, opQ, opH, this]
  | call c =>
    obtain ⟨callee, args, tys⟩ := c
    have ha : args.toList.map (evA sl) = args.toList.map (evA sl') := args_congr fun x hx => h x (by simp [Op.operands, Call.operands, hx])
    cases callee with
    | builtin b => cases b <;> simp only [opA, opQ, opH, ha]
    | _ => simp only [opA, opQ, opH]
  | slice t x lo hi mx =>
    cases mx with
    | some _ => simp only [opA, opQ, opH]
    | none =>
      have hx := h x (by simp [Op.operands])
      have hlo : (lo.map fun x => conc (evA sl x)) = lo.map fun x => conc (evA sl' x) := by
        cases lo with
        | none => rfl
        | some y => simp only [Option.map_some]; rw [h y (by simp [Op.operands])]
      have hhi : (hi.map fun x => conc (evA sl x)) = hi.map fun x => conc (evA sl' x) := by
        cases hi with
        | none => rfl
        | some y => simp only [Option.map_some]; rw [h y (by simp [Op.operands])]
      have hlo2 : optV sl lo = optV sl' lo := by
        cases lo with
        | none => rfl
        | some y => simp only [optV]; rw [h y (by simp [Op.operands])]
      have hhi2 : optV sl hi = optV sl' hi := by
        cases hi with
        | none => rfl
        | some y => simp only [optV]; rw [h y (by simp [Op.operands])]
      simp only [opA, opQ, opH, hx, hlo, hhi, hlo2, hhi2]
  | _ => simp_all [opA, opQ, opH, Op.operands]

/-- All numbers that a slot names. -/
def D.ids : D → List Nat
  | .agg cs => cs.flatMap D.ids1
  | d => d.ids1

/-- What an operation touches, and what it may change. -/
def fpA (sl : Nat → D) (id : Nat) : Op → List Nat × List Nat
  | .alloc _ => ([id], [id])
  | .box _ _ => ([id], [id])
  | .makeSlice .. => ([id], [id])
  | .load _ a => ((evA sl a).ids1, [])
  | .store _ a x => ((evA sl a).ids1 ++ (evA sl x).ids, (evA sl a).ids1 ++ (evA sl x).ids)
  | .buildSlice _ _ parts => (id :: parts.toList.flatMap fun p => (evA sl p.2).ids, id :: parts.toList.flatMap fun p => (evA sl p.2).ids)
  | .convert s d x => ((evA sl x).ids1, if s = d then (evA sl x).ids1 else [])
  | .call { callee := .builtin .append, args := args, .. } => match args.toList.map (evA sl) with
    | [s, x] => (id :: s.ids1 ++ x.ids1, id :: s.ids1)
    | _ => ([], [])
  | _ => ([], [])

theorem ids1_sub (d : D) : ∀ o ∈ d.ids1, o ∈ d.ids := by
  intro o ho; cases d <;> first | exact ho | (simp [D.ids1] at ho)

theorem dcells_ids {d : D} {cs : List D} (h : dcells d = some cs) : ∀ o ∈ cs.flatMap D.ids1, o ∈ d.ids := by
  intro o ho
  cases d <;> simp only [dcells, Option.some.injEq, reduceCtorEq] at h <;> subst h <;> simpa [D.ids] using ho

theorem elemsOf_local {d : D} (h : ∀ o ∈ d.ids1, G o = H o) : elemsOf G d = elemsOf H d := by
  cases d with
  | i x => cases x <;> rfl
  | os o sz off len => simp only [elemsOf]; rw [h o (by simp [D.ids1])]
  | _ => rfl
theorem convI_local {d : D} (h : ∀ o ∈ d.ids1, G o = H o) : convI G d = convI H d := by
  cases d with
  | os o sz off len => simp only [convI]; rw [elemsOf_local h]
  | _ => rfl
theorem readAt_local {d : D} {n : Nat} (h : ∀ o ∈ d.ids1, G o = H o) : readAt G d n = readAt H d n := by
  cases d with
  | pt o sz i c => simp only [readAt, readCells]; rw [h o (by simp [D.ids1])]
  | _ => rfl
theorem mapM_convI_local {cs : List D} (h : ∀ o ∈ cs.flatMap D.ids1, G o = H o) : cs.mapM (convI G) = cs.mapM (convI H) :=
  mapM_congr' fun d hd => convI_local fun o ho => h o (List.mem_flatMap.2 ⟨d, hd, ho⟩)
theorem frz_out {ids : List Nat} {k : Nat} (h : k ∉ ids) : frz ids H k = H k := by simp [frz, h]
theorem frz_local {ids : List Nat} {k : Nat} (h : G k = H k) : frz ids G k = frz ids H k := by simp only [frz, h]

/-- Same outcome in a memory that agrees. -/
def Loc (fp wr : List Nat) (H G H' : Nat → Ob) (x : Option (D × (Nat → Ob))) (d : D) : Prop :=
  ∃ G', x = some (d, G') ∧ (∀ k ∈ wr, G' k = H' k) ∧ (∀ k, k ∉ wr → G' k = G k) ∧ (∀ k, k ∉ wr → H' k = H k)

theorem opQ_noH (op : Op) : opQ P sl G op = opQ P sl H op := rfl

theorem opH_local {op : Op} {id : Nat} {d : D} {H' : Nat → Ob} (hg : ∀ k ∈ (fpA sl id op).1, G k = H k) (h : opH P sl H id op = some (d, H')) : Loc (fpA sl id op).1 (fpA sl id op).2 H G H' (opH P sl G id op) d := by
  have updl : ∀ {o : Nat} {x : Ob} {wr : List Nat}, o ∈ wr → (∀ k ∈ wr, k = o ∨ G k = H k) → (∀ k ∈ wr, upd G o x k = upd H o x k) ∧ (∀ k, k ∉ wr → upd G o x k = G k) ∧ (∀ k, k ∉ wr → upd H o x k = H k) := by
    intro o x wr ho hk
    refine ⟨fun k hkw => ?_, fun k hkw => upd_ne _ _ (fun e => hkw (by rw [e]; exact ho)), fun k hkw => upd_ne _ _ (fun e => hkw (by rw [e]; exact ho))⟩
    by_cases e : k = o
    · subst e; rw [upd_same, upd_same]
    · rw [upd_ne _ _ e, upd_ne _ _ e]; exact (hk k hkw).resolve_left e
  have updfl : ∀ {o : Nat} {x : Ob} {wr ids : List Nat}, o ∈ wr → (∀ k ∈ ids, k ∈ wr) → (∀ k ∈ wr, k = o ∨ G k = H k) → (∀ k ∈ wr, upd (frz ids G) o x k = upd (frz ids H) o x k) ∧ (∀ k, k ∉ wr → upd (frz ids G) o x k = G k) ∧ (∀ k, k ∉ wr → upd (frz ids H) o x k = H k) := by
    intro o x wr ids ho hids hk
    refine ⟨fun k hkw => ?_, fun k hkw => ?_, fun k hkw => ?_⟩
    · by_cases e : k = o
      · subst e; rw [upd_same, upd_same]
      · rw [upd_ne _ _ e, upd_ne _ _ e]; exact frz_local ((hk k hkw).resolve_left e)
    · rw [upd_ne _ _ (fun e => hkw (by rw [e]; exact ho)), frz_out (fun hm => hkw (hids k hm))]
    · rw [upd_ne _ _ (fun e => hkw (by rw [e]; exact ho)), frz_out (fun hm => hkw (hids k hm))]
  cases op with
  | alloc t =>
    simp only [fpA] at hg ⊢
    have hid : G id = H id := hg id (by simp)
    simp only [opH] at h ⊢
    rw [hid]
    split at h
    · rename_i cs hz hf
      simp only [Option.some.injEq, Prod.mk.injEq] at h; obtain ⟨rfl, rfl⟩ := h
      exact ⟨_, rfl, updl (by simp) (fun k hk => by simp at hk; exact .inl hk)⟩
    · cases h
  | box t x =>
    simp only [fpA] at hg ⊢
    have hid : G id = H id := hg id (by simp)
    simp only [opH] at h ⊢
    rw [hid]
    split at h
    · rename_i cs hz hf
      split at h
      · rename_i hall
        simp only [Option.some.injEq, Prod.mk.injEq] at h; obtain ⟨rfl, rfl⟩ := h
        try simp only [hz, hf, hall, if_true]
        exact ⟨_, rfl, updl (by simp) (fun k hk => by simp at hk; exact .inl hk)⟩
      · cases h
    · cases h
  | makeSlice t l c =>
    simp only [fpA] at hg ⊢
    have hid : G id = H id := hg id (by simp)
    simp only [opH] at h ⊢
    rw [hid]
    split at h
    · rename_i e l' c' hu hl hc hf
      split at h
      · rename_i s z by_ hs hz hb
        split at h
        · rename_i hcond
          have hzc : z.mapM (convI G) = z.mapM (convI H) := by
            refine mapM_congr' fun x hx => ?_
            obtain ⟨zv, _, rfl, _⟩ := zcells_ok hz
            obtain ⟨c, _, rfl⟩ := List.mem_map.1 hx
            rfl
          split at h
          · rename_i xs hxs
            simp only [Option.some.injEq, Prod.mk.injEq] at h; obtain ⟨rfl, rfl⟩ := h
            try simp only [hu, hl, hc, hf, hs, hz, hb]
            try rw [if_pos hcond, hzc, hxs]
            exact ⟨_, rfl, updl (by simp) (fun k hk => by simp at hk; exact .inl hk)⟩
          · cases h
        · cases h
      · cases h
    · cases h
  | load t a =>
    simp only [fpA] at hg ⊢
    have hr : ∀ n, readAt G (evA sl a) n = readAt H (evA sl a) n := fun n => readAt_local hg
    simp only [opH, hr] at h ⊢
    split at h
    · split at h
      · simp only [Option.map_eq_some_iff, Prod.mk.injEq] at h
        obtain ⟨cs, h1, rfl, rfl⟩ := h
        rename_i n hn _ _ _
        try simp only [*]
        exact ⟨G, by simp, by simp, fun _ _ => rfl, fun _ _ => rfl⟩
      · cases h
    · simp only [Option.map_eq_some_iff, Prod.mk.injEq] at h
      obtain ⟨d', h1, rfl, rfl⟩ := h
      try simp only [*]
      exact ⟨G, by simp, by simp, fun _ _ => rfl, fun _ _ => rfl⟩
    · cases h
  | store t a x =>
    simp only [fpA] at hg ⊢
    simp only [opH] at h ⊢
    split at h
    · rename_i new n hc hs
      try simp only [hc, hs]
      split at h
      · rename_i hcond
        try rw [if_pos hcond]
        split at h
        · rename_i o sz i c ha
          try simp only [ha]
          have hoG : G o = H o := hg o (by simp [ha, D.ids1])
          rw [hoG]
          split at h
          · rename_i cs ho
            split at h
            · rename_i hcc
              simp only [Option.some.injEq, Prod.mk.injEq] at h; obtain ⟨rfl, rfl⟩ := h
              try simp only [ho]
              try rw [if_pos hcc]
              exact ⟨_, rfl, updl (by simp [D.ids1]) (fun k hk => .inr (hg k (by rw [ha]; exact hk)))⟩
            · cases h
          · rename_i sz' es ho
            split at h
            · rename_i e xs he hxs
              split at h
              · rename_i hcc
                simp only [Option.some.injEq, Prod.mk.injEq] at h; obtain ⟨rfl, rfl⟩ := h
                have hids : ∀ k ∈ new.flatMap D.ids1, k ∈ (evA sl a).ids1 ++ (evA sl x).ids := fun k hk => List.mem_append_right _ (dcells_ids hc k hk)
                have hm : new.mapM (convI G) = some xs := by rw [mapM_convI_local (fun o ho => hg o (hids o ho))]; exact hxs
                try simp only [ho, he, hm]
                try rw [if_pos hcc]
                refine ⟨_, rfl, updfl (by simp [D.ids1]) (fun k hk => by rw [ha] at hids; exact hids k hk) (fun k hk => .inr (hg k (by rw [ha]; exact hk)))⟩
              · cases h
            · cases h
          · cases h
        · cases h
      · cases h
    · cases h
  | buildSlice t len parts =>
    simp only [fpA] at hg ⊢
    have hid : G id = H id := hg id (by simp)
    simp only [opH] at h ⊢
    rw [hid]
    split at h
    · rename_i e hu hf
      split at h
      · rename_i s z ps hs hz hps
        split at h
        · rename_i hcond
          have hids : ∀ k ∈ ps.flatMap fun p => p.2.flatMap D.ids1, k ∈ id :: parts.toList.flatMap fun p => (evA sl p.2).ids := by
            intro k hk
            obtain ⟨m1, m2⟩ := mapM_get hps
            obtain ⟨q, hq, hk⟩ := List.mem_flatMap.1 hk
            obtain ⟨j, hj, rfl⟩ := List.mem_iff_getElem.1 hq
            have hjl : j < parts.toList.length := by omega
            obtain ⟨b, hb1, hb2⟩ := m2 j parts.toList[j] (by simp [hjl])
            simp only [Option.map_eq_some_iff] at hb2
            obtain ⟨cs, hcs, rfl⟩ := hb2
            obtain ⟨_, hb1⟩ := List.getElem?_eq_some_iff.1 hb1
            rw [hb1] at hk
            exact List.mem_cons_of_mem _ (List.mem_flatMap.2 ⟨parts.toList[j], List.getElem_mem hjl, dcells_ids hcs k hk⟩)
          have hm : (ps.mapM fun p => p.2.mapM (convI G)) = ps.mapM fun p => p.2.mapM (convI H) :=
            mapM_congr' fun p hp => mapM_convI_local fun o ho => hg o (hids o (List.mem_flatMap.2 ⟨p, hp, ho⟩))
          split at h
          · rename_i es hes
            simp only [Option.some.injEq, Prod.mk.injEq] at h; obtain ⟨rfl, rfl⟩ := h
            try simp only [hu, hf, hs, hz, hps]
            try rw [if_pos hcond, hm, hes]
            exact ⟨_, rfl, updfl (by simp) hids (fun k hk => .inr (hg k hk))⟩
          · cases h
        · cases h
      · cases h
    · cases h
  | convert src dst x =>
    simp only [fpA] at hg ⊢
    have hsub : ∀ k ∈ (if src = dst then (evA sl x).ids1 else []), k ∈ (evA sl x).ids1 := by
      intro k hk
      split at hk
      · exact hk
      · simp at hk
    have he : elemsOf G (evA sl x) = elemsOf H (evA sl x) := elemsOf_local hg
    simp only [opH, he] at h ⊢
    split at h
    · rename_i e hd hs
      try simp only [hd, hs]
      split at h
      · rename_i s h1 h2
        split at h
        · rename_i hc
          simp only [Option.some.injEq, Prod.mk.injEq] at h; obtain ⟨rfl, rfl⟩ := h
          try simp only [h1, h2, hc, if_true]
          exact ⟨G, rfl, fun k hk => hg k (hsub k hk), fun _ _ => rfl, fun _ _ => rfl⟩
        · cases h
      · cases h
    · rename_i e hd hs
      try simp only [hd, hs]
      split at h
      · rename_i es h1 h2
        simp only [Option.map_eq_some_iff, Prod.mk.injEq] at h
        obtain ⟨bs, hb, rfl, rfl⟩ := h
        try simp only [h1, h2, hb]
        exact ⟨G, rfl, fun k hk => hg k (hsub k hk), fun _ _ => rfl, fun _ _ => rfl⟩
      · cases h
    · rename_i e e' hd hs
      split at h
      · rename_i hsd
        split at h
        · rename_i o off len h1 h2
          have ho' : G o = H o := hg o (by rw [h2]; simp [D.ids1])
          split at h
          · rename_i es0 ho
            simp only [Option.map_eq_some_iff, Prod.mk.injEq] at h
            obtain ⟨es, hes, rfl, rfl⟩ := h
            have hes' : elemsOf G (.os o 1 off (len + 1)) = some es := by rw [← hes, ← h2, he]
            refine ⟨frz [o] G, ?_, fun k hk => frz_local (hg k (hsub k hk)), fun k hk => frz_out (fun hm => hk ?_), fun k hk => frz_out (fun hm => hk ?_)⟩
            · simp only [hd, hs, hsd, if_true, h1, h2, ho', ho, hes', Option.map_some]
            · rw [if_pos hsd, h2]; simpa [D.ids1] using hm
            · rw [if_pos hsd, h2]; simpa [D.ids1] using hm
          · cases h
        · cases h
      · cases h
    · cases h
  | call c =>
    obtain ⟨callee, args, tys⟩ := c
    cases callee with
    | builtin b =>
      by_cases hb : b = .append
      · subst hb
        simp only [opH] at h
        split at h
        · rename_i s x t tx hargs htys
          simp only [fpA, hargs] at hg ⊢
          have hid : G id = H id := hg id (by simp)
          simp only [opH, hargs, htys]
          rw [hid]
          split at h
          · rename_i e hu hf
            try simp only [hu, hf]
            split at h
            · rename_i n by_ zn hs hbb hzz
              try simp only [hs, hbb, hzz]
              split at h
              · rename_i hzn
                try rw [if_pos hzn]
                have hx : elemsOf G x = elemsOf H x := elemsOf_local fun o ho => hg o (by simp [ho])
                rw [hx]
                split at h
                · rename_i new hnew
                  split at h
                  · split at h
                    · rename_i hc
                      simp only [Option.some.injEq, Prod.mk.injEq] at h; obtain ⟨rfl, rfl⟩ := h
                      refine ⟨upd G id (.arr (n + 1) new), ?_, updl (by simp) (fun k hk => by simp [D.ids1] at hk; exact .inl hk)⟩
                      try simp only [hnew]
                      try rw [if_pos hc]
                    · cases h
                  · rename_i o sz len
                    have ho : G o = H o := hg o (by simp [D.ids1])
                    split at h
                    · rename_i sz' es hos
                      split at h
                      · rename_i hc
                        simp only [Option.some.injEq, Prod.mk.injEq] at h; obtain ⟨rfl, rfl⟩ := h
                        refine ⟨upd (upd G o .dead) id (.arr (n + 1) (es ++ new)), ?_, fun k hk => ?_, fun k hk => ?_, fun k hk => ?_⟩
                        · simp only [hnew, ho, hos]
                          try rw [if_pos hc]
                        · by_cases e1 : k = id
                          · subst e1; rw [upd_same, upd_same]
                          · rw [upd_ne _ _ e1, upd_ne _ _ e1]
                            have : k = o := by simpa [D.ids1, e1] using hk
                            subst this; rw [upd_same, upd_same]
                        · simp [D.ids1] at hk
                          rw [upd_ne _ _ hk.1, upd_ne _ _ hk.2]
                        · simp [D.ids1] at hk
                          rw [upd_ne _ _ hk.1, upd_ne _ _ hk.2]
                      · cases h
                    · cases h
                  · cases h
                · cases h
              · cases h
            · cases h
          · cases h
        · cases h
      · exfalso; revert h; cases b <;> simp_all [opH]
    | _ => simp [opH] at h
  | _ => simp [opH] at h
end
end Go.Abs
