/- client.own, At, New, Active, asked: by value. -/
import Derived.Test.YtmclpbcipkdmcaaDoorClA
import Derived.Test.YtmclpbcipkdmcaaDoorClnKn
set_option linter.all false
namespace Go.Proofs.YtmclpbcipkdmcaaDoor
open Go Go.Abs Go.RowKit Go.Proofs.YtmclpbcipkdmcaaDoor.Ty

set_option maxHeartbeats 4000000
structure KnSm (k : KnownD) : Prop where
  r : k.root.length ≤ 1048576
  n : k.next.length ≤ 1048576
structure ClSm (c : ClientD) : Prop where
  l : c.known.length ≤ 1048576
  k : ∀ k ∈ c.known, KnSm k
theorem set_map {α : Type} {f : α → List I} {l : List α} {i : Nat} (h : i < l.length) : (l.map f).set i (f l[i]) = l.map f := by
  refine List.ext_getElem (by simp) fun j h1 h2 => ?_
  rw [List.getElem_set]
  split
  · rename_i e; subst e; simp
  · rfl
theorem cown_A (c : ClientD) (hc : ClSm c) : PureD Tryd.prog 134 [clientD c] (clientD c) := by
  refine hide_r fun R hR => ?_
  have hcl := hc.l
  have e1 := clone_Kn c.known hcl
  refine callD_W 35 Tryd.func134 rfl rfl rfl (fun _ _ => rfl) ?_
  refine wkl ?_
  clear hR; intro hR
  refine W_loopR (ι := Nat) (fun i => i ≤ c.known.length)
    (fun i => stOf [(1, .pt 100 0 0 0), (2, .pt 101 0 0 0), (10, .os 102 4 0 c.known.length), (11, intD c.known.length), (12, intD i)] [(100, .box [.i (.s (.string c.c)), .i (.s (.int .i64 c.trust)), .i (.s (.bool c.frozen)), .os 102 4 0 c.known.length]), (101, .box ((encC zeroC).map .i)), (102, .arr 4 (c.known.map encK))])
    (fun i => c.known.length - i) 0 (Nat.zero_le _) ?_ ?_
  · exact le_ok [] [(100, 1000), (101, 1001), (102, 901)]
  · rintro i hi RL hL
    rw [stOf_eq]
    by_cases h : i < c.known.length
    · have s0 := get_lt (f := encK) h
      have s1 := set_map (f := encK) h
      have hk := hc.k _ (List.getElem_mem h)
      have c1 := clone_A c.known[i].root (by have := hk.r; omega)
      have c2 := clone_A c.known[i].next (by have := hk.n; omega)
      have b1 := fun σ' => bk [] [(100, 100), (101, 101), (102, 102)] (hL (i + 1) σ' h)
      clear hL e1 hk
      generalize c.known[i] = k at *
      simp only [encK, bI] at s0 s1
      exact wkl trivial
    · exact wkl trivial
theorem csame_A (k : KnownD) (h : Int) : PureD Tryd.prog 133 [knownD k, .rp [.s (.int .i64 h)] 0] (boolD (decide (k.h = h))) := by
  refine hide_r fun R hR => ?_
  refine callD_W 8 Tryd.func133 rfl rfl rfl (fun _ _ => rfl) ?_
  exact wkl trivial
theorem cindex_A (l : List KnownD) (h : Int) (hl : l.length ≤ 1048576) : PureD Tryd.prog 132 [.i (knownI l), .fn 133 [.rp [.s (.int .i64 h)] 0]] (intD (ixK l h)) := by
  refine hide_r fun R hR => ?_
  refine callD_W 19 Tryd.func132 rfl rfl rfl (fun _ _ => rfl) ?_
  refine wkl ?_
  clear hR; intro hR
  have hR' : Hr (intD (ixFrom l h 0)) R := hR
  clear hR
  refine W_loopR (ι := Nat) (fun i => i ≤ l.length ∧ Hr (intD (ixFrom l h i)) R)
    (fun i => stOf [(0, .i (knownI l)), (1, .fn 133 [.rp [.s (.int .i64 h)] 0]), (7, intD l.length), (8, intD i)] [])
    (fun i => l.length - i) 0 ⟨Nat.zero_le _, hR'⟩ ?_ ?_
  · exact le_ok [] []
  · rintro i ⟨hi, hR⟩ RL hL
    clear hR'
    rw [stOf_eq]
    by_cases hlt : i < l.length
    · have s0 := get_lt (f := encK) hlt
      rw [ixFrom_lt hlt] at hR
      have c1 := csame_A l[i] h
      have b1 := fun σ' (hq : Hr _ R) => bk [] [] (hL (i + 1) σ' ⟨hlt, hq⟩)
      clear hL
      generalize l[i] = k at *
      exact wkl trivial
    · rw [ixFrom_ge hlt] at hR
      exact wkl trivial
theorem cat_A (c : ClientD) (h : Int) (hc : ClSm c) : PureD Tryd.prog 112 [clientD c, intD h] (.tup [knownD (atR c h).1, boolD (atR c h).2]) := by
  refine hide_r fun R hR => ?_
  have c1 := cindex_A c.known h hc.l
  have c2 := cown_A c hc
  unfold atR at hR
  rcases at_case c h with ⟨h1, h2⟩ | ⟨i, hi, h1, h2⟩
  · rw [h2] at c1
    rw [h1] at hR
    simp only [zeroK] at hR
    clear h1 h2
    refine callD_W 20 Tryd.func112 rfl rfl rfl (fun _ _ => rfl) ?_
    exact wkl trivial
  · rw [h1] at c1
    rw [h2] at hR
    have s0 := get_lt (f := encK) hi
    have hg : ¬ (i : Int) < 0 := by omega
    clear h1 h2
    generalize c.known[i] = k at *
    refine callD_W 20 Tryd.func112 rfl rfl rfl (fun _ _ => rfl) ?_
    exact wkl trivial
theorem cactive_A (c : ClientD) (now : Int) (hl : 0 < c.known.length) (hn : -1000000000001 ≤ now ∧ now ≤ 1000000000001) (ht : -1000000000001 ≤ (lastC c).t ∧ (lastC c).t ≤ 1000000000001) (hl' : c.known.length ≤ 1048576) :
    PureD Tryd.prog 89 [clientD c, intD now] (boolD (activeC c now)) := by
  refine hide_r fun R hR => ?_
  unfold activeC at hR
  have hi : c.known.length - 1 < c.known.length := by omega
  have s0 := get_lt (f := encK) hi
  have hlast : lastC c = c.known[c.known.length - 1] := by unfold lastC; rw [List.getLastD_eq_getLast?, List.getLast?_eq_getElem?, List.getElem?_eq_getElem hi]; rfl
  rw [hlast] at hR ht
  have w1 : IntKind.i64.wrap ((c.known.length : Int) - 1) = ((c.known.length - 1 : Nat) : Int) := by rw [wrap64 (by omega) (by omega)]; omega
  clear hlast
  generalize c.known[c.known.length - 1] = k at *
  have w2 : IntKind.i64.wrap (now - k.t) = now - k.t := wrap64 (by omega) (by omega)
  cases hf : c.frozen
  all_goals
    rw [hf] at hR
    simp only [Bool.not_true, Bool.not_false, Bool.true_and, Bool.false_and] at hR
    refine callD_W 24 Tryd.func89 rfl rfl rfl (fun _ _ => rfl) ?_
    exact wkl trivial
theorem casked_A (c : ClientD) (now : Int) (hl : c.known.length ≤ 1048576) : PureD Tryd.prog 111 [.rp (encC c) 0, intD now] (intD (askedE c now)) := by
  refine hide_r fun R hR => ?_
  have c1 := cwrong_A c hl
  have c2 := hnum_A now
  unfold askedE at hR
  generalize wrongC c = W at *
  refine callD_W 20 Tryd.func111 rfl rfl rfl (fun _ _ => rfl) ?_
  exact wkl trivial
end Go.Proofs.YtmclpbcipkdmcaaDoor
