/- landref8.Conn, Chan: by value. -/
import Derived.Test.YtmclpbcipkdmcaaGreatDoorR8A
import Derived.Test.YtmclpbcipkdmcaaGreatDoorR3B
set_option linter.all false
namespace Go.Proofs.YtmclpbcipkdmcaaGreatDoor
open Go Go.Abs Go.RowKit Go.Proofs.YtmclpbcipkdmcaaGreatDoor.Ty

set_option maxHeartbeats 8000000
set_option maxRecDepth 20000
theorem rconnb_A (c : ConnD) (h : -1 ≤ c.on ∧ c.on ≤ 1000000000000) : PureD Tryz.prog 17 [connD c] (.i (bI (valCn c))) := by
  refine hide_r fun R hR => ?_
  have c1 := rN_A c.st
  have c2 := rN_A c.cl
  have c3 := rN_A c.oc
  have c4 := rN_A (c.on + 1)
  have w1 : IntKind.i64.wrap (c.on + 1) = c.on + 1 := wrap64 (by omega) (by omega)
  have c5 := rbytes3_A ([u64 c.st, u64 c.cl, u64 c.oc, u64 (c.on + 1)].map numP) (by simp) (nums_b _) (nums_64 (by simp [u64_lt]))
  unfold valCn at hR
  simp only [List.map_cons, List.map_nil] at c5
  generalize writeF [numP (u64 c.st), numP (u64 c.cl), numP (u64 c.oc), numP (u64 (c.on + 1))] = W at *
  generalize u64 c.st = a1 at *
  generalize u64 c.cl = a2 at *
  generalize u64 c.oc = a3 at *
  generalize u64 (c.on + 1) = a4 at *
  simp only [encP, numP, bI, List.map_nil] at c5
  refine callD_W 18 Tryz.func17 rfl rfl rfl (fun _ _ => rfl) ?_
  exact wkl trivial
theorem rchanb_A (c : ChanD) (h : -1 ≤ c.oc ∧ c.oc ≤ 1000000000000) : PureD Tryz.prog 68 [chanD c] (.i (bI (valCh c))) := by
  refine hide_r fun R hR => ?_
  unfold valCh at hR
  have c1 := rN_A c.st
  have c2 := rN_A (if c.ord = true then 1 else 0)
  have c3 := rN_A c.cn
  have c4 := rN_A (c.oc + 1)
  have w1 : IntKind.i64.wrap (c.oc + 1) = c.oc + 1 := wrap64 (by omega) (by omega)
  have c5 := rbytes3_A ([u64 c.st, u64 (if c.ord = true then 1 else 0), u64 c.cn, u64 (c.oc + 1)].map numP) (by simp) (nums_b _) (nums_64 (by simp [u64_lt]))
  simp only [List.map_cons, List.map_nil] at c5
  generalize writeF [numP (u64 c.st), numP (u64 (if c.ord = true then 1 else 0)), numP (u64 c.cn), numP (u64 (c.oc + 1))] = W at *
  generalize u64 c.st = a1 at *
  generalize u64 c.cn = a2 at *
  generalize u64 (if c.ord = true then 1 else 0) = a3 at *
  generalize u64 (c.oc + 1) = a4 at *
  simp only [encP, numP, bI, List.map_nil] at c5
  cases ho : c.ord
  all_goals
    simp only [ho, Bool.false_eq_true, if_true, if_false] at c2
    refine callD_W 20 Tryz.func68 rfl rfl rfl (fun _ _ => rfl) ?_
    exact wkl trivial
theorem rkeyC_A (i : Int) (h : N12 0 i) : PureD Tryz.prog 16 [.i (.s (.string ⟨#[99, 111, 110, 110]⟩)), .i (.sl [[.s (.int .i64 i)]])] (.i (bI (keyC i))) :=
  rkey_A [99, 111, 110, 110] [i] (by decide) (by simp) (by intro n hn; simp at hn; subst hn; unfold N12 at h; omega)
theorem rkeyH_A (i : Int) (h : N12 0 i) : PureD Tryz.prog 16 [.i (.s (.string ⟨#[99, 104, 97, 110]⟩)), .i (.sl [[.s (.int .i64 i)]])] (.i (bI (keyH i))) :=
  rkey_A [99, 104, 97, 110] [i] (by decide) (by simp) (by intro n hn; simp at hn; subst hn; unfold N12 at h; omega)
theorem rkeyN_A (i : Int) (h : N12 0 i) : PureD Tryz.prog 16 [.i (.s (.string ⟨#[110, 101, 120, 116]⟩)), .i (.sl [[.s (.int .i64 i)]])] (.i (bI (keyN i))) :=
  rkey_A [110, 101, 120, 116] [i] (by decide) (by simp) (by intro n hn; simp at hn; subst hn; unfold N12 at h; omega)
theorem rkeyM_A (w : List UInt8) (hw : w.length ≤ 10) (i j : Int) (h : N12 0 i) (h' : N12 0 j) : PureD Tryz.prog 16 [.i (.s (.string ⟨w.toArray⟩)), .i (.sl [[.s (.int .i64 i)], [.s (.int .i64 j)]])] (.i (bI (keyM w i j))) :=
  rkey_A w [i, j] hw (by simp) (by intro n hn; simp at hn; unfold N12 at *; omega)
end Go.Proofs.YtmclpbcipkdmcaaGreatDoor
