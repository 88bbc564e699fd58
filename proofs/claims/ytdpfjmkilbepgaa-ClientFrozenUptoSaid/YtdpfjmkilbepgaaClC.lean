/- client.believe: by value. -/
import Derived.Test.YtdpfjmkilbepgaaClB
import Derived.Test.YtdpfjmkilbepgaaHdD
set_option linter.all false
namespace Go.Proofs.Ytdpfjmkilbepgaa
open Go Go.Abs Go.RowKit Go.Proofs.Ytdpfjmkilbepgaa.Ty

set_option maxHeartbeats 4000000
set_option maxRecDepth 20000
structure UpSm (u : UpdD) : Prop where
  s : SgnSm u.sg
  l : u.tr.length ≤ 1048576
  k : ∀ v ∈ u.tr, v.k < 18446744073709551616 ∧ v.p < 18446744073709551616
  n : u.sg.hdr.next.length ≤ 1048576
theorem check_vals {s : SignedD} (h : checkS s = 0) : ValsOk s.vals ∧ s.votes.length = s.vals.length ∧ wrongH s.hdr = 0 := by
  unfold checkS at h
  by_cases h1 : wrongH s.hdr = 0
  · rw [if_pos h1] at h
    by_cases h2 : valsW s.vals = 0
    · rw [if_pos h2] at h
      by_cases h3 : (s.votes.length : Int) = s.vals.length
      · exact ⟨valsW_zero.1 h2, by omega, h1⟩
      · rw [if_neg h3] at h; cases h
    · rw [if_neg h2] at h; exact absurd h h2
  · rw [if_neg h1] at h; exact absurd h h1
theorem wrongH_nums {h : HdrD} (hw : wrongH h = 0) : 1 ≤ h.h ∧ h.h ≤ 1000000000000 ∧ 0 ≤ h.t ∧ h.t ≤ 1000000000000 ∧ h.root.length = 32 ∧ h.vals.length = 32 ∧ h.next.length = 32 := by
  unfold wrongH numB at hw
  simp only [decide_eq_true_eq] at hw
  split at hw
  · split at hw
    · cases hw
    · split at hw
      · cases hw
      · rename_i a b; omega
  · cases hw
structure KnOk (k : KnownD) : Prop where
  h : 1 ≤ k.h ∧ k.h ≤ 1000000000000
  t : 0 ≤ k.t ∧ k.t ≤ 1000000000000
  r : k.root.length = 32
  n : k.next.length = 32
theorem knE_zero {k : KnownD} : knE k = 0 ↔ KnOk k := by
  unfold knE numB
  simp only [decide_eq_true_eq]
  constructor
  · intro h
    split at h
    · cases h
    · split at h
      · cases h
      · exact ⟨by omega, by omega, by omega, by omega⟩
  · rintro ⟨a, b, c, d⟩
    rw [if_neg (by omega), if_neg (by omega)]
theorem knsE_zero : ∀ {o : Option KnownD} {l : List KnownD}, knsE o l = 0 ↔ (∀ k ∈ l, KnOk k) ∧ l.Pairwise (fun a b => a.h < b.h) ∧ (∀ q, o = some q → ∀ k ∈ l, q.h < k.h)
  | o, [] => by simp [knsE]
  | o, k :: t => by
    rw [knsE]
    have ih := knsE_zero (o := some k) (l := t)
    by_cases h1 : knE k = 0
    · rw [if_pos h1]
      have k1 := knE_zero.1 h1
      by_cases h2 : (o.any fun q => decide (k.h ≤ q.h)) = true
      · rw [if_pos h2]
        constructor
        · intro h; cases h
        · rintro ⟨_, _, h⟩
          cases o with
          | none => simp at h2
          | some q => have := h q rfl k (List.mem_cons_self ..); simp at h2; omega
      · rw [if_neg h2, ih]
        constructor
        · rintro ⟨a, b, c⟩
          refine ⟨fun x hx => ?_, List.pairwise_cons.2 ⟨c k rfl, b⟩, fun q hq x hx => ?_⟩
          · rcases List.mem_cons.1 hx with rfl | hx
            · exact k1
            · exact a x hx
          · subst hq
            simp at h2
            rcases List.mem_cons.1 hx with rfl | hx
            · omega
            · have := c k rfl x hx; omega
        · rintro ⟨a, b, c⟩
          have hb := List.pairwise_cons.1 b
          exact ⟨fun x hx => a x (List.mem_cons_of_mem _ hx), hb.2, fun q hq => by injection hq with hq; subst hq; exact hb.1⟩
    · rw [if_neg h1]
      constructor
      · intro h; exact absurd h h1
      · rintro ⟨a, _, _⟩; exact absurd (knE_zero.2 (a k (List.mem_cons_self ..))) h1
/-- a right client -/
structure ClOk (c : ClientD) : Prop where
  name : nameOk c.c = true
  trust : 1 ≤ c.trust ∧ c.trust ≤ 1000000000000
  len : 1 ≤ c.known.length ∧ c.known.length ≤ 30
  k : ∀ k ∈ c.known, KnOk k
  rise : c.known.Pairwise fun a b => a.h < b.h
theorem wrongC_zero {c : ClientD} : wrongC c = 0 ↔ ClOk c := by
  unfold wrongC numB
  simp only [decide_eq_true_eq]
  constructor
  · intro h
    split at h
    · split at h
      · cases h
      · split at h
        · cases h
        · obtain ⟨a, b, _⟩ := knsE_zero.1 h
          exact ⟨by assumption, by omega, by omega, a, b⟩
    · cases h
  · rintro ⟨a, b, d, e, f⟩
    rw [if_pos a, if_neg (by omega), if_neg (by omega)]
    exact knsE_zero.2 ⟨e, f, fun q hq => by cases hq⟩
theorem ClOk.sm {c : ClientD} (h : ClOk c) : ClSm c := ⟨by have := h.len; omega, fun k hk => ⟨by have := (h.k k hk).r; omega, by have := (h.k k hk).n; omega⟩⟩
theorem at_mem {c : ClientD} {h : Int} {k : KnownD} (e : atC c h = some k) : k ∈ c.known ∧ k.h = h := by
  unfold atC at e
  exact ⟨List.mem_of_find?_eq_some e, by simpa using List.find?_some e⟩
theorem cbelieve_A (c : ClientD) (u : UpdD) (now : Int) (hc : ClOk c) (hu : UpSm u) (hn : 0 ≤ now ∧ now ≤ 1000000000000) :
    PureD Try.prog 86 [.rp (encC c) 0, .rp (encU u) 0, intD now] (intD (beE c u now)) := by
  refine hide_r fun R hR => ?_
  have c1 := hcheck_A u.sg hu.s
  have c2 := cat_A c u.fr hc.sm
  unfold beE at hR
  by_cases h1 : checkS u.sg = 0
  · rw [if_pos h1] at hR
    rw [h1] at c1
    obtain ⟨hv, hl, hw⟩ := check_vals h1
    unfold atR at c2
    cases h2 : atC c u.fr with
    | none =>
      rw [h2] at hR c2
      simp only [zeroK] at c2
      clear hu h1 h2
      refine callD_W 127 Try.func86 rfl rfl rfl (fun _ _ => rfl) ?_
      exact wkl trivial
    | some k =>
      rw [h2] at hR c2
      simp only at hR c2
      have hk := hc.k k (at_mem h2).1
      have k1 := hk.h
      have k2 := hk.t
      have w1 : IntKind.i64.wrap (now - k.t) = now - k.t := wrap64 (by omega) (by omega)
      have w2 : IntKind.i64.wrap (now + 10) = now + 10 := wrap64 (by omega) (by omega)
      have w3 : IntKind.i64.wrap (k.h + 1) = k.h + 1 := wrap64 (by omega) (by omega)
      have c3 := equal_A u.sg.hdr.vals k.next
      have c4 := hvals_A u.tr hu.l
      unfold beE1 beE2 at hR
      by_cases h3 : valsW u.tr = 0
      · have ho := valsW_zero.1 h3
        rw [h3] at c4
        rw [if_pos h3] at hR
        have c5 := hdigest_A u.tr (by have := ho.len; omega) hu.k
        have c6 := equal_A (digestV u.tr) k.next
        have c7 := hover_A u.tr u.sg ho hv hl
        clear hu h1 h2 h3 ho hv hl hw hk
        generalize digestV u.tr = X at *
        generalize overF u.tr u.sg = V at *
        refine callD_W 127 Try.func86 rfl rfl rfl (fun _ _ => rfl) ?_
        exact wkl trivial
      · rw [if_neg h3] at hR
        generalize valsW u.tr = W at *
        clear hu h1 h2 hv hl hw hk
        refine callD_W 127 Try.func86 rfl rfl rfl (fun _ _ => rfl) ?_
        exact wkl trivial
  · rw [if_neg h1] at hR
    generalize checkS u.sg = W at *
    clear hu c2
    refine callD_W 127 Try.func86 rfl rfl rfl (fun _ _ => rfl) ?_
    exact wkl trivial
end Go.Proofs.Ytdpfjmkilbepgaa
