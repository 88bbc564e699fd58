/- The walker as one rule: its proof is found where it is used. c1, c2, ..: contracts; b1, ..: ways back to the head of a loop; d1: where an own result comes from. -/
import Derived.Test.YtmclpbcipkdmcaaDoorWn
set_option linter.all false
namespace Go.Abs
open Go Go.RowKit
/-- A state at a loop's head, with what is frozen and where its objects come from. -/
def LEs (F : List Nat) (src : List (Nat × Nat)) (n : Nat) (σ : St) (slots : List (Nat × D)) (objs : List (Nat × Ob)) : Prop := (src = src ∧ F = F) ∧ LE n σ (stOf slots objs)
theorem les_stOf {n : Nat} {σ : St} (slots : List (Nat × D)) (objs : List (Nat × Ob)) {F : List Nat} {src : List (Nat × Nat)}
    (hs : ∀ p ∈ slots, cv σ.H F (srcOf src) (σ.sl p.1) p.2) (ho : ∀ p ∈ objs, objOk σ.H F (srcOf src) p)
    (hk : (src.all fun p => objs.any fun q => q.1 == p.1) = true) (hinj : (src.all fun p => (decide (100 ≤ p.2) || objs.all fun q => q.1 != p.2) && src.all fun q => p.2 != q.2 || p.1 == q.1) = true) : LEs F src n σ slots objs :=
  ⟨⟨rfl, rfl⟩, le_stOf slots objs F src hs ho hk hinj⟩
theorem bk (F : List Nat) (src : List (Nat × Nat)) {n : Nat} {σ : St} {slots : List (Nat × D)} {objs : List (Nat × Ob)} {A R : Prop} (h : LE n σ (stOf slots objs) → A → R) : LEs F src n σ slots objs → A → R := fun g => h g.2
theorem le_ok (F : List Nat) (src : List (Nat × Nat)) {n : Nat} {σ : St} {slots : List (Nat × D)} {objs : List (Nat × Ob)} (h : LEs F src n σ slots objs := by
  (refine les_stOf _ _ ?_ ?_ rfl rfl <;> (first | (simp [Int.natCast_add, Int.natCast_zero, Int.natCast_one]; done) | (simp [Int.natCast_add, Int.natCast_zero, Int.natCast_one, *]; done)))) : LE n σ (stOf slots objs) := h.2
structure SrcIs (F : List Nat) (src : List (Nat × Nat)) : Prop where
  ok : True
def finQd (x : Option (List D)) (H : Nat → Ob) (F : List Nat) (s : Nat → Option Nat) (r : D) : Prop :=
  match x with
  | some ds => cv H F s (tupOf ds) r
  | none => False
theorem fin_d {P : Program} {sl : Nat → D} {H H0 : Nat → Ob} {fn : Func} {r : D} {rs : List ResultVar} {objs : List (Nat × Ob)} {F : List Nat} {src : List (Nat × Nat)} (_d : SrcIs F src) (h : fn.results = rs.toArray)
    (hv : finQd (resL P ⟨sl, H⟩ rs) H F (srcR H0 src) r) (ho : ∀ p ∈ objs, objOk H F (srcR H0 src) p)
    (hk : (src.all fun p => objs.any fun q => q.1 == p.1) = true) (hf : ∀ p ∈ src, H0 p.2 = .fresh) (hinj : (src.all fun p => src.all fun q => p.2 != q.2 || p.1 == q.1) = true) : Fin P fn H0 r (hOf H0 objs) .ret ⟨sl, H⟩ := by
  cases hx : resL P ⟨sl, H⟩ rs with
  | none => rw [hx] at hv; exact hv.elim
  | some ds =>
    rw [hx] at hv
    have := resL_ok hx
    refine ⟨tupOf ds, ?_, ler_of objs F src hv ho hk hf hinj⟩
    unfold resA
    rw [h]
    rw [show rs.toArray.toList = rs from rfl, this]
    rcases ds with _ | ⟨d, _ | ⟨d', t⟩⟩ <;> rfl
theorem sl_nil {K : Ctx} {v : Value} (h : VD K v (.i (.sl []))) : ∃ a c, v = .slice a 0 c := by
  cases h with
  | i hx =>
    cases hx with
    | e a c => exact ⟨a, c, rfl⟩
    | sl b off cap sz es f h1 h2 => exact ⟨_, _, rfl⟩
/-- The first free number for a callee's own result. -/
def isFr : Ob → Bool
  | .fresh => true
  | _ => false
def frs (H : Nat → Ob) : Nat := if isFr (H 901) = true then 901 else if isFr (H 902) = true then 902 else if isFr (H 903) = true then 903 else if isFr (H 904) = true then 904 else if isFr (H 905) = true then 905 else if isFr (H 906) = true then 906 else if isFr (H 907) = true then 907 else if isFr (H 908) = true then 908 else if isFr (H 909) = true then 909 else if isFr (H 910) = true then 910 else if isFr (H 911) = true then 911 else if isFr (H 912) = true then 912 else if isFr (H 913) = true then 913 else 914
theorem isFr_eq {x : Ob} (h : isFr x = true) : x = .fresh := by cases x <;> first | rfl | cases h
theorem frs_ok {H : Nat → Ob} (h : isFr (H (frs H)) = true) : H (frs H) = .fresh := isFr_eq h
section
variable {P : Program} {n : Nat} {σ : St} {ks : List Fr} {Q : Ex → St → Prop} {rid k : Nat} {ops : Array Oper} {rest : List It} {acc : Acc} {g : FuncId} {sz sz2 sz' len len2 len' o o2 : Nat} {es es2 es' : List (List I)} {xs : List D} {x : D} {dst : Option Nat}
theorem Call_newQ (hL : CallD P g xs noH (.os 1 sz' 0 len') (hOf noH [(1, .arr sz' es')])) (hf : isFr (σ.H (frs σ.H)) = true) (hx : xs.all D.val = true) (h : Ro P n rid rest (St.put ⟨σ.sl, upd σ.H (frs σ.H) (.arr sz' es')⟩ dst (.os (frs σ.H) sz' 0 len')) ks Q) : Call P n rid g xs dst rest σ ks Q :=
  Call_new _ hL (isFr_eq hf) hx h
theorem CallF_newQ (hL : CallD P g xs noH (.os 1 sz' 0 len') (hOf noH [(1, .arr sz' es')])) (hf : isFr (σ.H (frs σ.H)) = true) (hx : xs.all D.val = true) (h : Rd P n rid ops rest ((k, [frs σ.H], [frs σ.H]) :: acc) (St.put ⟨σ.sl, upd σ.H (frs σ.H) (.arr sz' es')⟩ dst (.os (frs σ.H) sz' 0 len')) ks Q) : CallF P n rid ops g xs k dst rest acc σ ks Q :=
  CallF_new _ hL (isFr_eq hf) hx h
theorem Call_arrQ (hL : CallD P g (.os 0 sz 0 len :: xs) (hF [(0, .arr sz es)]) (.os 1 sz' 0 len') (hOf (hF [(0, .arr sz es)]) [(1, .arr sz' es')])) (ho : σ.H o = .arr sz es) (hf : isFr (σ.H (frs σ.H)) = true) (hx : xs.all D.valA = true) (h : Ro P n rid rest (St.put ⟨σ.sl, upd (upd σ.H o .dead) (frs σ.H) (.arr sz' es')⟩ dst (.os (frs σ.H) sz' 0 len')) ks Q) : Call P n rid g (.os o sz 0 len :: xs) dst rest σ ks Q :=
  ⟨_, _, .inl (call_arrA hL hx ho (isFr_eq hf)), h⟩
theorem CallF_arrQ (hL : CallD P g (.os 0 sz 0 len :: xs) (hF [(0, .arr sz es)]) (.os 1 sz' 0 len') (hOf (hF [(0, .arr sz es)]) [(1, .arr sz' es')])) (ho : σ.H o = .arr sz es) (hf : isFr (σ.H (frs σ.H)) = true) (hx : xs.all D.valA = true) (h : Rd P n rid ops rest ((k, [o, frs σ.H], [o, frs σ.H]) :: acc) (St.put ⟨σ.sl, upd (upd σ.H o .dead) (frs σ.H) (.arr sz' es')⟩ dst (.os (frs σ.H) sz' 0 len')) ks Q) : CallF P n rid ops g (.os o sz 0 len :: xs) k dst rest acc σ ks Q := by
  refine ⟨⟨.os (frs σ.H) sz' 0 len', [o, frs σ.H], [o, frs σ.H], fun G => upd (upd G o .dead) (frs σ.H) (.arr sz' es')⟩, ⟨⟨fun _ h => h, fun G k hk => ?_, fun G G' _ k hk => ?_⟩, fun G hG => .inl (call_arrA hL hx ((hG o (by simp)).trans ho) ((hG (frs σ.H) (by simp)).trans (isFr_eq hf)))⟩, h⟩
  · simp at hk; simp [upd, hk.1, hk.2]
  · simp at hk; rcases hk with rfl | rfl <;> simp [upd]
theorem Call_arr2Q (hL : CallD P g [.os 0 sz 0 len, x, .os 2 sz2 0 len2] (hF [(0, .arr sz es), (2, .arr sz2 es2)]) (.os 1 sz' 0 len') (hOf (hF [(0, .arr sz es), (2, .arr sz2 es2)]) [(1, .arr sz' es')])) (ho : σ.H o = .arr sz es) (ho2 : σ.H o2 = .arr sz2 es2) (hf : isFr (σ.H (frs σ.H)) = true) (hx : (x.val && o != o2) = true)
    (h : Ro P n rid rest (St.put ⟨σ.sl, upd (upd (upd σ.H o .dead) o2 .dead) (frs σ.H) (.arr sz' es')⟩ dst (.os (frs σ.H) sz' 0 len')) ks Q) : Call P n rid g [.os o sz 0 len, x, .os o2 sz2 0 len2] dst rest σ ks Q :=
  Call_arr2 _ hL ho ho2 (isFr_eq hf) hx h
theorem CallF_arr2Q (hL : CallD P g [.os 0 sz 0 len, x, .os 2 sz2 0 len2] (hF [(0, .arr sz es), (2, .arr sz2 es2)]) (.os 1 sz' 0 len') (hOf (hF [(0, .arr sz es), (2, .arr sz2 es2)]) [(1, .arr sz' es')])) (ho : σ.H o = .arr sz es) (ho2 : σ.H o2 = .arr sz2 es2) (hf : isFr (σ.H (frs σ.H)) = true) (hx : (x.val && o != o2) = true)
    (h : Rd P n rid ops rest ((k, [o, o2, frs σ.H], [o, o2, frs σ.H]) :: acc) (St.put ⟨σ.sl, upd (upd (upd σ.H o .dead) o2 .dead) (frs σ.H) (.arr sz' es')⟩ dst (.os (frs σ.H) sz' 0 len')) ks Q) : CallF P n rid ops g [.os o sz 0 len, x, .os o2 sz2 0 len2] k dst rest acc σ ks Q :=
  CallF_arr2 _ hL ho ho2 (isFr_eq hf) hx h
end
theorem newD {P : Program} {sl : Nat → D} {H H0 : Nat → Ob} {fn : Func} {r : D} {objs : List (Nat × Ob)} (F : List Nat) (src : List (Nat × Nat)) (h : SrcIs F src → Fin P fn H0 r (hOf H0 objs) .ret ⟨sl, H⟩ := by
  intro d1; refine fin_d d1 rfl ?_ ?_ rfl ?_ rfl <;> (try simp only [go_sem, Nat.reduceLT, Nat.reduceAdd, Nat.reduceMul, reduceIte, Nat.reduceEqDiff, reduceCtorEq, Nat.reducePow, Nat.reduceLeDiff, Int.reduceLE, Int.reduceLT, Int.reduceToNat, Int.reduceEq, Nat.reduceBEq]) <;> (simp; done)) : Fin P fn H0 r (hOf H0 objs) .ret ⟨sl, H⟩ := h ⟨trivial⟩
theorem bs_gen {P : Program} {t e n id : Nat} {H : Nat → Ob} {ps : List (Nat × List D)} (h : undOf P t = some (.slice e)) (hs : szOf P e = some 1) (hz : (zeroOf P e).map (·.cells.size) = some 1) (hn : n ≤ 16777216) (h1 : ps.map (·.1) = List.range n)
    (h2 : ps.all (fun p => p.2.length = 1 ∧ p.2.all D.one) = true) : bsX P t n (some ps) H .fresh id = some (.bs id 0 n, upd H id (.box (ps.flatMap (·.2)))) := by
  rw [bs_fresh h, hs]
  cases hzz : zeroOf P e with
  | none => rw [hzz] at hz; cases hz
  | some zv =>
    rw [hzz] at hz
    injection hz with hz
    rw [bsO_ok, if_pos ⟨hz, hn, h1, h2⟩]
theorem bs_pt2 {P : Program} {t e : Nat} (h : undOf P t = some (.slice e)) (hs : szOf P e = some 1) (hz : (zeroOf P e).map (·.cells.size) = some 1) (id : Nat) (H : Nat → Ob) (o1 i1 c1 s1 o2 i2 c2 s2 : Nat) :
    bsX P t 2 (some [(0, [.pt o1 s1 i1 c1]), (1, [.pt o2 s2 i2 c2])]) H .fresh id = some (.bs id 0 2, upd H id (.box [.pt o1 s1 i1 c1, .pt o2 s2 i2 c2])) := by
  rw [bs_gen h hs hz (by omega) rfl (by simp [D.one])]; rfl
theorem bs_pt3 {P : Program} {t e : Nat} (h : undOf P t = some (.slice e)) (hs : szOf P e = some 1) (hz : (zeroOf P e).map (·.cells.size) = some 1) (id : Nat) (H : Nat → Ob) (o1 i1 c1 s1 o2 i2 c2 s2 o3 i3 c3 s3 : Nat) :
    bsX P t 3 (some [(0, [.pt o1 s1 i1 c1]), (1, [.pt o2 s2 i2 c2]), (2, [.pt o3 s3 i3 c3])]) H .fresh id = some (.bs id 0 3, upd H id (.box [.pt o1 s1 i1 c1, .pt o2 s2 i2 c2, .pt o3 s3 i3 c3])) := by
  rw [bs_gen h hs hz (by omega) rfl (by simp [D.one])]; rfl
theorem bself (a : ByteArray) : (a == a) = true := (beqS' a a).mpr rfl
theorem ltc {a b : Int} (h : a < b) : (a < b) = True := eq_true h
theorem ltf {a b : Int} (h : ¬ a < b) : (a < b) = False := eq_false h
theorem lec {a b : Int} (h : a ≤ b) : (a ≤ b) = True := eq_true h
theorem lef {a b : Int} (h : ¬ a ≤ b) : (a ≤ b) = False := eq_false h
theorem ltcN {a b : Nat} (h : a < b) : (a < b) = True := eq_true h
theorem lecN {a b : Nat} (h : a ≤ b) : (a ≤ b) = True := eq_true h
attribute [simp] srcR noH finQd isFr frs
attribute [go_sem] finQd isFr frs lenX ixX oH_mk mk_fresh mkS
theorem wkl {G Q : Prop} (g : G) (h : PLift G → Q := by
  intro hgo
  repeat' (first
    | (simp -implicitDefEqProofs only [go_sem, Nat.reduceLT, Nat.reduceAdd, Nat.reduceMul, reduceIte, Nat.reduceEqDiff, reduceCtorEq, Nat.reducePow, Nat.reduceLeDiff, Int.reduceLE, Int.reduceLT, Int.reduceToNat, Int.reduceEq, Nat.reduceBEq, lgc, not_true_eq_false, bself, *])
    | (with_reducible refine ⟨?_, ?_⟩; (· first | (obtain ⟨rfl⟩ := ‹Hq _ _›; with_reducible refine chk_ok ?_; kernel_rfl) | kernel_rfl))
    | (with_reducible intro ops hops)
    | (simp -implicitDefEqProofs (disch := omega) only [wr64, wru64, get_lt, ltc, ltf, lec, lef, ltcN, lecN])
    | ((with_reducible refine call_id ?_); (first
        | ((with_reducible refine Call_fl c1 ?_ ?_ ?_); (· (simp; done)); (· first | (simp [and_assoc]; done) | (simp [and_assoc, *]; done)))
        | ((with_reducible refine Call_fz c1 ?_ ?_); (· first | (simp [and_assoc]; done) | (simp [and_assoc, *]; done)))
        | ((with_reducible refine Call_fl c2 ?_ ?_ ?_); (· (simp; done)); (· first | (simp [and_assoc]; done) | (simp [and_assoc, *]; done)))
        | ((with_reducible refine Call_fz c2 ?_ ?_); (· first | (simp [and_assoc]; done) | (simp [and_assoc, *]; done)))
        | ((with_reducible refine Call_fl c3 ?_ ?_ ?_); (· (simp; done)); (· first | (simp [and_assoc]; done) | (simp [and_assoc, *]; done)))
        | ((with_reducible refine Call_fz c3 ?_ ?_); (· first | (simp [and_assoc]; done) | (simp [and_assoc, *]; done)))
        | ((with_reducible refine Call_fl c4 ?_ ?_ ?_); (· (simp; done)); (· first | (simp [and_assoc]; done) | (simp [and_assoc, *]; done)))
        | ((with_reducible refine Call_fz c4 ?_ ?_); (· first | (simp [and_assoc]; done) | (simp [and_assoc, *]; done)))
        | ((with_reducible refine Call_fl c5 ?_ ?_ ?_); (· (simp; done)); (· first | (simp [and_assoc]; done) | (simp [and_assoc, *]; done)))
        | ((with_reducible refine Call_fz c5 ?_ ?_); (· first | (simp [and_assoc]; done) | (simp [and_assoc, *]; done)))
        | ((with_reducible refine Call_fl c6 ?_ ?_ ?_); (· (simp; done)); (· first | (simp [and_assoc]; done) | (simp [and_assoc, *]; done)))
        | ((with_reducible refine Call_fz c6 ?_ ?_); (· first | (simp [and_assoc]; done) | (simp [and_assoc, *]; done)))
        | ((with_reducible refine Call_fl c7 ?_ ?_ ?_); (· (simp; done)); (· first | (simp [and_assoc]; done) | (simp [and_assoc, *]; done)))
        | ((with_reducible refine Call_fz c7 ?_ ?_); (· first | (simp [and_assoc]; done) | (simp [and_assoc, *]; done)))
        | ((with_reducible refine Call_fl c8 ?_ ?_ ?_); (· (simp; done)); (· first | (simp [and_assoc]; done) | (simp [and_assoc, *]; done)))
        | ((with_reducible refine Call_fz c8 ?_ ?_); (· first | (simp [and_assoc]; done) | (simp [and_assoc, *]; done)))
        | ((with_reducible refine Call_fl c9 ?_ ?_ ?_); (· (simp; done)); (· first | (simp [and_assoc]; done) | (simp [and_assoc, *]; done)))
        | ((with_reducible refine Call_fz c9 ?_ ?_); (· first | (simp [and_assoc]; done) | (simp [and_assoc, *]; done)))
        | ((with_reducible refine Call_fl c10 ?_ ?_ ?_); (· (simp; done)); (· first | (simp [and_assoc]; done) | (simp [and_assoc, *]; done)))
        | ((with_reducible refine Call_fz c10 ?_ ?_); (· first | (simp [and_assoc]; done) | (simp [and_assoc, *]; done)))
        | ((with_reducible refine Call_newQ e1 ?_ ?_ ?_); (· (simp; done)); (· (simp [D.val]; done)))
        | ((with_reducible refine Call_box e1 ?_ ?_ ?_); (· (simp; done)); (· (simp [D.val]; done)))
        | ((with_reducible refine Call_arrQ e1 ?_ ?_ ?_ ?_); (· first | (simp; done) | (simp; rfl)); (· (simp; done)); (· (simp [D.val]; done)))
        | ((with_reducible refine Call_arr2Q e1 ?_ ?_ ?_ ?_ ?_); (· first | (simp; done) | (simp; rfl)); (· first | (simp; done) | (simp; rfl)); (· (simp; done)); (· (simp [D.val]; done)))
        | ((with_reducible refine Call_newL e1 ?_ ?_ ?_); (· (first | (simp [and_assoc]; done) | (simp [and_assoc, *]; done))); (· (simp; done)))
        | ((with_reducible refine Call_newQ e2 ?_ ?_ ?_); (· (simp; done)); (· (simp [D.val]; done)))
        | ((with_reducible refine Call_box e2 ?_ ?_ ?_); (· (simp; done)); (· (simp [D.val]; done)))
        | ((with_reducible refine Call_arrQ e2 ?_ ?_ ?_ ?_); (· first | (simp; done) | (simp; rfl)); (· (simp; done)); (· (simp [D.val]; done)))
        | ((with_reducible refine Call_arr2Q e2 ?_ ?_ ?_ ?_ ?_); (· first | (simp; done) | (simp; rfl)); (· first | (simp; done) | (simp; rfl)); (· (simp; done)); (· (simp [D.val]; done)))
        | ((with_reducible refine Call_newL e2 ?_ ?_ ?_); (· (first | (simp [and_assoc]; done) | (simp [and_assoc, *]; done))); (· (simp; done)))
        | ((with_reducible refine Call_newQ e3 ?_ ?_ ?_); (· (simp; done)); (· (simp [D.val]; done)))
        | ((with_reducible refine Call_box e3 ?_ ?_ ?_); (· (simp; done)); (· (simp [D.val]; done)))
        | ((with_reducible refine Call_arrQ e3 ?_ ?_ ?_ ?_); (· first | (simp; done) | (simp; rfl)); (· (simp; done)); (· (simp [D.val]; done)))
        | ((with_reducible refine Call_arr2Q e3 ?_ ?_ ?_ ?_ ?_); (· first | (simp; done) | (simp; rfl)); (· first | (simp; done) | (simp; rfl)); (· (simp; done)); (· (simp [D.val]; done)))
        | ((with_reducible refine Call_newL e3 ?_ ?_ ?_); (· (first | (simp [and_assoc]; done) | (simp [and_assoc, *]; done))); (· (simp; done)))
        | ((with_reducible refine Call_newQ e4 ?_ ?_ ?_); (· (simp; done)); (· (simp [D.val]; done)))
        | ((with_reducible refine Call_box e4 ?_ ?_ ?_); (· (simp; done)); (· (simp [D.val]; done)))
        | ((with_reducible refine Call_arrQ e4 ?_ ?_ ?_ ?_); (· first | (simp; done) | (simp; rfl)); (· (simp; done)); (· (simp [D.val]; done)))
        | ((with_reducible refine Call_arr2Q e4 ?_ ?_ ?_ ?_ ?_); (· first | (simp; done) | (simp; rfl)); (· first | (simp; done) | (simp; rfl)); (· (simp; done)); (· (simp [D.val]; done)))
        | ((with_reducible refine Call_newL e4 ?_ ?_ ?_); (· (first | (simp [and_assoc]; done) | (simp [and_assoc, *]; done))); (· (simp; done)))
        | ((with_reducible refine Call_newQ e5 ?_ ?_ ?_); (· (simp; done)); (· (simp [D.val]; done)))
        | ((with_reducible refine Call_box e5 ?_ ?_ ?_); (· (simp; done)); (· (simp [D.val]; done)))
        | ((with_reducible refine Call_arrQ e5 ?_ ?_ ?_ ?_); (· first | (simp; done) | (simp; rfl)); (· (simp; done)); (· (simp [D.val]; done)))
        | ((with_reducible refine Call_arr2Q e5 ?_ ?_ ?_ ?_ ?_); (· first | (simp; done) | (simp; rfl)); (· first | (simp; done) | (simp; rfl)); (· (simp; done)); (· (simp [D.val]; done)))
        | ((with_reducible refine Call_newL e5 ?_ ?_ ?_); (· (first | (simp [and_assoc]; done) | (simp [and_assoc, *]; done))); (· (simp; done)))
        | ((with_reducible refine Call_fk c1 ?_ ?_); (· first | (simp [and_assoc]; done) | (simp [and_assoc, *]; done)))
        | ((with_reducible refine Call_fk c2 ?_ ?_); (· first | (simp [and_assoc]; done) | (simp [and_assoc, *]; done)))
        | ((with_reducible refine Call_fk c3 ?_ ?_); (· first | (simp [and_assoc]; done) | (simp [and_assoc, *]; done)))
        | ((with_reducible refine Call_fk c4 ?_ ?_); (· first | (simp [and_assoc]; done) | (simp [and_assoc, *]; done)))
        | ((with_reducible refine Call_fk c5 ?_ ?_); (· first | (simp [and_assoc]; done) | (simp [and_assoc, *]; done)))
        | ((with_reducible refine Call_fk c6 ?_ ?_); (· first | (simp [and_assoc]; done) | (simp [and_assoc, *]; done)))
        | ((with_reducible refine Call_fk c7 ?_ ?_); (· first | (simp [and_assoc]; done) | (simp [and_assoc, *]; done)))
        | ((with_reducible refine Call_fk c8 ?_ ?_); (· first | (simp [and_assoc]; done) | (simp [and_assoc, *]; done)))
        | ((with_reducible refine Call_fk c9 ?_ ?_); (· first | (simp [and_assoc]; done) | (simp [and_assoc, *]; done)))
        | ((with_reducible refine Call_fk c10 ?_ ?_); (· first | (simp [and_assoc]; done) | (simp [and_assoc, *]; done)))))
    | ((with_reducible refine callF_id ?_); (first
        | ((with_reducible refine CallF_fl c1 ?_ ?_ ?_); (· (simp; done)); (· (intro G hG; simp at hG; first | (simp [hG, and_assoc]; done) | (simp [and_assoc, *]; done))))
        | ((with_reducible refine CallF_fz c1 ?_ ?_); (· (intro G hG; simp at hG; first | (simp [hG, and_assoc]; done) | (simp [and_assoc, *]; done))))
        | ((with_reducible refine CallF_fl c2 ?_ ?_ ?_); (· (simp; done)); (· (intro G hG; simp at hG; first | (simp [hG, and_assoc]; done) | (simp [and_assoc, *]; done))))
        | ((with_reducible refine CallF_fz c2 ?_ ?_); (· (intro G hG; simp at hG; first | (simp [hG, and_assoc]; done) | (simp [and_assoc, *]; done))))
        | ((with_reducible refine CallF_fl c3 ?_ ?_ ?_); (· (simp; done)); (· (intro G hG; simp at hG; first | (simp [hG, and_assoc]; done) | (simp [and_assoc, *]; done))))
        | ((with_reducible refine CallF_fz c3 ?_ ?_); (· (intro G hG; simp at hG; first | (simp [hG, and_assoc]; done) | (simp [and_assoc, *]; done))))
        | ((with_reducible refine CallF_fl c4 ?_ ?_ ?_); (· (simp; done)); (· (intro G hG; simp at hG; first | (simp [hG, and_assoc]; done) | (simp [and_assoc, *]; done))))
        | ((with_reducible refine CallF_fz c4 ?_ ?_); (· (intro G hG; simp at hG; first | (simp [hG, and_assoc]; done) | (simp [and_assoc, *]; done))))
        | ((with_reducible refine CallF_fl c5 ?_ ?_ ?_); (· (simp; done)); (· (intro G hG; simp at hG; first | (simp [hG, and_assoc]; done) | (simp [and_assoc, *]; done))))
        | ((with_reducible refine CallF_fz c5 ?_ ?_); (· (intro G hG; simp at hG; first | (simp [hG, and_assoc]; done) | (simp [and_assoc, *]; done))))
        | ((with_reducible refine CallF_fl c6 ?_ ?_ ?_); (· (simp; done)); (· (intro G hG; simp at hG; first | (simp [hG, and_assoc]; done) | (simp [and_assoc, *]; done))))
        | ((with_reducible refine CallF_fz c6 ?_ ?_); (· (intro G hG; simp at hG; first | (simp [hG, and_assoc]; done) | (simp [and_assoc, *]; done))))
        | ((with_reducible refine CallF_fl c7 ?_ ?_ ?_); (· (simp; done)); (· (intro G hG; simp at hG; first | (simp [hG, and_assoc]; done) | (simp [and_assoc, *]; done))))
        | ((with_reducible refine CallF_fz c7 ?_ ?_); (· (intro G hG; simp at hG; first | (simp [hG, and_assoc]; done) | (simp [and_assoc, *]; done))))
        | ((with_reducible refine CallF_fl c8 ?_ ?_ ?_); (· (simp; done)); (· (intro G hG; simp at hG; first | (simp [hG, and_assoc]; done) | (simp [and_assoc, *]; done))))
        | ((with_reducible refine CallF_fz c8 ?_ ?_); (· (intro G hG; simp at hG; first | (simp [hG, and_assoc]; done) | (simp [and_assoc, *]; done))))
        | ((with_reducible refine CallF_fl c9 ?_ ?_ ?_); (· (simp; done)); (· (intro G hG; simp at hG; first | (simp [hG, and_assoc]; done) | (simp [and_assoc, *]; done))))
        | ((with_reducible refine CallF_fz c9 ?_ ?_); (· (intro G hG; simp at hG; first | (simp [hG, and_assoc]; done) | (simp [and_assoc, *]; done))))
        | ((with_reducible refine CallF_fl c10 ?_ ?_ ?_); (· (simp; done)); (· (intro G hG; simp at hG; first | (simp [hG, and_assoc]; done) | (simp [and_assoc, *]; done))))
        | ((with_reducible refine CallF_fz c10 ?_ ?_); (· (intro G hG; simp at hG; first | (simp [hG, and_assoc]; done) | (simp [and_assoc, *]; done))))
        | ((with_reducible refine CallF_newQ e1 ?_ ?_ ?_); (· (simp; done)); (· (simp [D.val]; done)))
        | ((with_reducible refine CallF_box e1 ?_ ?_ ?_); (· (simp; done)); (· (simp [D.val]; done)))
        | ((with_reducible refine CallF_arrQ e1 ?_ ?_ ?_ ?_); (· first | (simp; done) | (simp; rfl)); (· (simp; done)); (· (simp [D.val]; done)))
        | ((with_reducible refine CallF_arr2Q e1 ?_ ?_ ?_ ?_ ?_); (· first | (simp; done) | (simp; rfl)); (· first | (simp; done) | (simp; rfl)); (· (simp; done)); (· (simp [D.val]; done)))
        | ((with_reducible refine CallF_newL e1 ?_ ?_ ?_); (· (intro G; first | (simp [and_assoc]; done) | (simp [and_assoc, *]; done))); (· (simp; done)))
        | ((with_reducible refine CallF_newQ e2 ?_ ?_ ?_); (· (simp; done)); (· (simp [D.val]; done)))
        | ((with_reducible refine CallF_box e2 ?_ ?_ ?_); (· (simp; done)); (· (simp [D.val]; done)))
        | ((with_reducible refine CallF_arrQ e2 ?_ ?_ ?_ ?_); (· first | (simp; done) | (simp; rfl)); (· (simp; done)); (· (simp [D.val]; done)))
        | ((with_reducible refine CallF_arr2Q e2 ?_ ?_ ?_ ?_ ?_); (· first | (simp; done) | (simp; rfl)); (· first | (simp; done) | (simp; rfl)); (· (simp; done)); (· (simp [D.val]; done)))
        | ((with_reducible refine CallF_newL e2 ?_ ?_ ?_); (· (intro G; first | (simp [and_assoc]; done) | (simp [and_assoc, *]; done))); (· (simp; done)))
        | ((with_reducible refine CallF_newQ e3 ?_ ?_ ?_); (· (simp; done)); (· (simp [D.val]; done)))
        | ((with_reducible refine CallF_box e3 ?_ ?_ ?_); (· (simp; done)); (· (simp [D.val]; done)))
        | ((with_reducible refine CallF_arrQ e3 ?_ ?_ ?_ ?_); (· first | (simp; done) | (simp; rfl)); (· (simp; done)); (· (simp [D.val]; done)))
        | ((with_reducible refine CallF_arr2Q e3 ?_ ?_ ?_ ?_ ?_); (· first | (simp; done) | (simp; rfl)); (· first | (simp; done) | (simp; rfl)); (· (simp; done)); (· (simp [D.val]; done)))
        | ((with_reducible refine CallF_newL e3 ?_ ?_ ?_); (· (intro G; first | (simp [and_assoc]; done) | (simp [and_assoc, *]; done))); (· (simp; done)))
        | ((with_reducible refine CallF_newQ e4 ?_ ?_ ?_); (· (simp; done)); (· (simp [D.val]; done)))
        | ((with_reducible refine CallF_box e4 ?_ ?_ ?_); (· (simp; done)); (· (simp [D.val]; done)))
        | ((with_reducible refine CallF_arrQ e4 ?_ ?_ ?_ ?_); (· first | (simp; done) | (simp; rfl)); (· (simp; done)); (· (simp [D.val]; done)))
        | ((with_reducible refine CallF_arr2Q e4 ?_ ?_ ?_ ?_ ?_); (· first | (simp; done) | (simp; rfl)); (· first | (simp; done) | (simp; rfl)); (· (simp; done)); (· (simp [D.val]; done)))
        | ((with_reducible refine CallF_newL e4 ?_ ?_ ?_); (· (intro G; first | (simp [and_assoc]; done) | (simp [and_assoc, *]; done))); (· (simp; done)))
        | ((with_reducible refine CallF_newQ e5 ?_ ?_ ?_); (· (simp; done)); (· (simp [D.val]; done)))
        | ((with_reducible refine CallF_box e5 ?_ ?_ ?_); (· (simp; done)); (· (simp [D.val]; done)))
        | ((with_reducible refine CallF_arrQ e5 ?_ ?_ ?_ ?_); (· first | (simp; done) | (simp; rfl)); (· (simp; done)); (· (simp [D.val]; done)))
        | ((with_reducible refine CallF_arr2Q e5 ?_ ?_ ?_ ?_ ?_); (· first | (simp; done) | (simp; rfl)); (· first | (simp; done) | (simp; rfl)); (· (simp; done)); (· (simp [D.val]; done)))
        | ((with_reducible refine CallF_newL e5 ?_ ?_ ?_); (· (intro G; first | (simp [and_assoc]; done) | (simp [and_assoc, *]; done))); (· (simp; done)))
        | ((with_reducible refine CallF_fk c1 ?_ ?_); (· (intro G hG; simp at hG; simp [hG, and_assoc]; done)))
        | ((with_reducible refine CallF_fk c2 ?_ ?_); (· (intro G hG; simp at hG; simp [hG, and_assoc]; done)))
        | ((with_reducible refine CallF_fk c3 ?_ ?_); (· (intro G hG; simp at hG; simp [hG, and_assoc]; done)))
        | ((with_reducible refine CallF_fk c4 ?_ ?_); (· (intro G hG; simp at hG; simp [hG, and_assoc]; done)))
        | ((with_reducible refine CallF_fk c5 ?_ ?_); (· (intro G hG; simp at hG; simp [hG, and_assoc]; done)))
        | ((with_reducible refine CallF_fk c6 ?_ ?_); (· (intro G hG; simp at hG; simp [hG, and_assoc]; done)))
        | ((with_reducible refine CallF_fk c7 ?_ ?_); (· (intro G hG; simp at hG; simp [hG, and_assoc]; done)))
        | ((with_reducible refine CallF_fk c8 ?_ ?_); (· (intro G hG; simp at hG; simp [hG, and_assoc]; done)))
        | ((with_reducible refine CallF_fk c9 ?_ ?_); (· (intro G hG; simp at hG; simp [hG, and_assoc]; done)))
        | ((with_reducible refine CallF_fk c10 ?_ ?_); (· (intro G hG; simp at hG; simp [hG, and_assoc]; done)))))
    | ((first | refine Wc_split (fun hg => ?_) (fun hg => ?_) | refine RoG_split (fun hg => ?_) (fun hg => ?_) | refine RdG_split (fun hg => ?_) (fun hg => ?_)) <;> (try simp only [nrm, eq_self, not_true_eq_false] at hg) <;> (try simp only [hg, lgc, reduceIte, reduceCtorEq] at hR) <;> (try (exfalso; omega)))
    | ((with_reducible refine b1 _ hR ?_ ?_); (· (refine les_stOf _ _ ?_ ?_ rfl rfl <;> (first | (simp [Int.natCast_add, Int.natCast_zero, Int.natCast_one]; done) | (simp [Int.natCast_add, Int.natCast_zero, Int.natCast_one, *]; done)))); (· first | omega | (simp only; omega))) | ((with_reducible refine b1 _  ?_ ?_); (· (refine les_stOf _ _ ?_ ?_ rfl rfl <;> (first | (simp [Int.natCast_add, Int.natCast_zero, Int.natCast_one]; done) | (simp [Int.natCast_add, Int.natCast_zero, Int.natCast_one, *]; done)))); (· first | omega | (simp only; omega))) | ((with_reducible refine b2 _ hR ?_ ?_); (· (refine les_stOf _ _ ?_ ?_ rfl rfl <;> (first | (simp [Int.natCast_add, Int.natCast_zero, Int.natCast_one]; done) | (simp [Int.natCast_add, Int.natCast_zero, Int.natCast_one, *]; done)))); (· first | omega | (simp only; omega))) | ((with_reducible refine b2 _  ?_ ?_); (· (refine les_stOf _ _ ?_ ?_ rfl rfl <;> (first | (simp [Int.natCast_add, Int.natCast_zero, Int.natCast_one]; done) | (simp [Int.natCast_add, Int.natCast_zero, Int.natCast_one, *]; done)))); (· first | omega | (simp only; omega))) | ((with_reducible refine b3 _ hR ?_ ?_); (· (refine les_stOf _ _ ?_ ?_ rfl rfl <;> (first | (simp [Int.natCast_add, Int.natCast_zero, Int.natCast_one]; done) | (simp [Int.natCast_add, Int.natCast_zero, Int.natCast_one, *]; done)))); (· first | omega | (simp only; omega))) | ((with_reducible refine b3 _  ?_ ?_); (· (refine les_stOf _ _ ?_ ?_ rfl rfl <;> (first | (simp [Int.natCast_add, Int.natCast_zero, Int.natCast_one]; done) | (simp [Int.natCast_add, Int.natCast_zero, Int.natCast_one, *]; done)))); (· first | omega | (simp only; omega))) | ((with_reducible refine b4 _ hR ?_ ?_); (· (refine les_stOf _ _ ?_ ?_ rfl rfl <;> (first | (simp [Int.natCast_add, Int.natCast_zero, Int.natCast_one]; done) | (simp [Int.natCast_add, Int.natCast_zero, Int.natCast_one, *]; done)))); (· first | omega | (simp only; omega))) | ((with_reducible refine b4 _  ?_ ?_); (· (refine les_stOf _ _ ?_ ?_ rfl rfl <;> (first | (simp [Int.natCast_add, Int.natCast_zero, Int.natCast_one]; done) | (simp [Int.natCast_add, Int.natCast_zero, Int.natCast_one, *]; done)))); (· first | omega | (simp only; omega))) | ((with_reducible refine b5 _ hR ?_ ?_); (· (refine les_stOf _ _ ?_ ?_ rfl rfl <;> (first | (simp [Int.natCast_add, Int.natCast_zero, Int.natCast_one]; done) | (simp [Int.natCast_add, Int.natCast_zero, Int.natCast_one, *]; done)))); (· first | omega | (simp only; omega))) | ((with_reducible refine b5 _  ?_ ?_); (· (refine les_stOf _ _ ?_ ?_ rfl rfl <;> (first | (simp [Int.natCast_add, Int.natCast_zero, Int.natCast_one]; done) | (simp [Int.natCast_add, Int.natCast_zero, Int.natCast_one, *]; done)))); (· first | omega | (simp only; omega)))
    | ((try simp only [*, lgc, reduceIte, reduceCtorEq] at hR); (try obtain ⟨rfl⟩ := hR); refine fin_q rfl ?_; (try simp only [go_sem, Nat.reduceLT, Nat.reduceAdd, Nat.reduceMul, reduceIte, Nat.reduceEqDiff, reduceCtorEq, Nat.reducePow, Nat.reduceLeDiff, Int.reduceLE, Int.reduceLT, Int.reduceToNat, Int.reduceEq, Nat.reduceBEq]); (first | (simp; done) | (simp; omega) | (simp [*]; done) | (simp [*]; omega)))
    | ((try simp only [*, lgc, reduceIte, reduceCtorEq] at hR); (try obtain ⟨rfl⟩ := hR); refine fin_d d1 rfl ?_ ?_ rfl ?_ rfl <;> (try simp only [go_sem, Nat.reduceLT, Nat.reduceAdd, Nat.reduceMul, reduceIte, Nat.reduceEqDiff, reduceCtorEq, Nat.reducePow, Nat.reduceLeDiff, Int.reduceLE, Int.reduceLT, Int.reduceToNat, Int.reduceEq, Nat.reduceBEq]) <;> (simp; done)))
  all_goals (repeat (revert hg))
  all_goals (try (have hR := hR; revert hR))
  all_goals exact hgo.down) : Q := h ⟨g⟩
end Go.Abs
