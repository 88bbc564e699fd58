/- slices.SortFunc at pairs, by bytes.Compare of their keys. -/
import Derived.Shelf.SlSortCmp.NoneTotal
import Derived.Shelf.Small.Bits
import Derived.Test.YtmclpbcipkdmcaaDoorGBook
import Derived.Test.YtmclpbcipkdmcaaDoorGHd
import Derived.Test.YtmclpbcipkdmcaaDoorSrtP
set_option linter.all false
namespace Go.Proofs
section
open Go.Shelf
def Tryd.sortPr_ren : Go.Shelf.Ren := ⟨fun | 6 => 72 | 15 => 97 | 14 => 96 | 28 => 127 | 29 => 128 | 20 => 119 | 21 => 120 | 22 => 121 | 23 => 122 | 24 => 123 | 25 => 124 | 26 => 125 | 27 => 126 | 46 => 143 | 47 => 144 | 48 => 145 | 49 => 146 | 50 => 147 | 57 => 157 | n => n, fun | 22 => 59 | 24 => 117 | 25 => 127 | 3 => 3 | 39 => 155 | 0 => 0 | 53 => 186 | 55 => 107 | 4 => 4 | 46 => 180 | 45 => 179 | 50 => 136 | 5 => 5 | 9 => 9 | 66 => 203 | 70 => 207 | 76 => 217 | 77 => 218 | n => n, fun | n => n⟩
theorem Tryd.sortPr : Go.Proofs.SlLaysF0.n6 Tryd.prog Tryd.sortPr_ren := {
  mixed := by kernel_rfl
  f6 := ⟨Tryd.f72.name, by decide, Tryd.func72.trans (congrArg some (by kernel_rfl))⟩
  f14 := ⟨Tryd.f96.name, by decide, Tryd.func96.trans (congrArg some (by kernel_rfl))⟩
  f15 := Tryd.func97.trans (congrArg some (by kernel_rfl))
  f20 := ⟨Tryd.f119.name, by decide, Tryd.func119.trans (congrArg some (by kernel_rfl))⟩
  f21 := ⟨Tryd.f120.name, by decide, Tryd.func120.trans (congrArg some (by kernel_rfl))⟩
  f22 := ⟨Tryd.f121.name, by decide, Tryd.func121.trans (congrArg some (by kernel_rfl))⟩
  f23 := ⟨Tryd.f122.name, by decide, Tryd.func122.trans (congrArg some (by kernel_rfl))⟩
  f24 := ⟨Tryd.f123.name, by decide, Tryd.func123.trans (congrArg some (by kernel_rfl))⟩
  f25 := ⟨Tryd.f124.name, by decide, Tryd.func124.trans (congrArg some (by kernel_rfl))⟩
  f26 := ⟨Tryd.f125.name, by decide, Tryd.func125.trans (congrArg some (by kernel_rfl))⟩
  f27 := ⟨Tryd.f126.name, by decide, Tryd.func126.trans (congrArg some (by kernel_rfl))⟩
  f28 := Tryd.func127.trans (congrArg some (by kernel_rfl))
  f29 := Tryd.func128.trans (congrArg some (by kernel_rfl))
  f46 := ⟨Tryd.f143.name, by decide, Tryd.func143.trans (congrArg some (by kernel_rfl))⟩
  f47 := Tryd.func144.trans (congrArg some (by kernel_rfl))
  f48 := Tryd.func145.trans (congrArg some (by kernel_rfl))
  f49 := ⟨Tryd.f146.name, by decide, Tryd.func146.trans (congrArg some (by kernel_rfl))⟩
  f50 := ⟨Tryd.f147.name, by decide, Tryd.func147.trans (congrArg some (by kernel_rfl))⟩
  f57 := ⟨Tryd.f157.name, by decide, Tryd.func157.trans (congrArg some (by kernel_rfl))⟩
  t0 := Tryd.underlying0
  a0 := Tryd.isAgg0
  z0 := Tryd.sizeOf0
  v0 := Tryd.zeroValue0
  t3 := Tryd.underlying3
  a3 := Tryd.isAgg3
  z3 := Tryd.sizeOf3
  v3 := Tryd.zeroValue3
  t4 := Tryd.underlying4
  a4 := Tryd.isAgg4
  z4 := Tryd.sizeOf4
  v4 := Tryd.zeroValue4
  t5 := Tryd.underlying5
  a5 := Tryd.isAgg5
  z5 := Tryd.sizeOf5
  v5 := Tryd.zeroValue5
  t9 := Tryd.underlying9
  a9 := Tryd.isAgg9
  z9 := Tryd.sizeOf9
  v9 := Tryd.zeroValue9
  t22 := Tryd.underlying59
  a22 := Tryd.isAgg59
  z22 := Tryd.sizeOf59
  v22 := Tryd.zeroValue59
  t25 := Tryd.underlying127
  a25 := Tryd.isAgg127
  z25 := Tryd.sizeOf127
  v25 := Tryd.zeroValue127
  t39 := Tryd.underlying155
  a39 := Tryd.isAgg155
  z39 := Tryd.sizeOf155
  v39 := Tryd.zeroValue155
  t45 := Tryd.underlying179
  a45 := Tryd.isAgg179
  z45 := Tryd.sizeOf179
  v45 := Tryd.zeroValue179
  t46 := Tryd.underlying180
  a46 := Tryd.isAgg180
  z46 := Tryd.sizeOf180
  v46 := Tryd.zeroValue180
  t50 := Tryd.underlying136
  a50 := Tryd.isAgg136
  z50 := Tryd.sizeOf136
  v50 := Tryd.zeroValue136
  t53 := Tryd.underlying186
  a53 := Tryd.isAgg186
  z53 := Tryd.sizeOf186
  v53 := Tryd.zeroValue186
  t55 := Tryd.underlying107
  a55 := Tryd.isAgg107
  z55 := Tryd.sizeOf107
  v55 := Tryd.zeroValue107
  t66 := Tryd.underlying203
  a66 := Tryd.isAgg203
  z66 := Tryd.sizeOf203
  v66 := Tryd.zeroValue203
  t70 := Tryd.underlying207
  a70 := Tryd.isAgg207
  z70 := Tryd.sizeOf207
  v70 := Tryd.zeroValue207
  t76 := Tryd.underlying217
  a76 := Tryd.isAgg217
  z76 := Tryd.sizeOf217
  v76 := Tryd.zeroValue217
  t77 := Tryd.underlying218
  a77 := Tryd.isAgg218
  z77 := Tryd.sizeOf218
  v77 := Tryd.zeroValue218 }
end
end Go.Proofs

namespace Go.Proofs.YtmclpbcipkdmcaaDoor
open Go Go.Abs Go.RowKit Go.Sort Go.Proofs.YtmclpbcipkdmcaaDoor.Ty

theorem swoK {α : Type} (key : α → List UInt8) : SWO (ltOf fun x y => Lib.compareBytes (key x) (key y)) where
  irrefl x := by
    have h := (cmp_zero (key x) (key x)).2 rfl
    simp only [ltOf, h]; rfl
  trans x y z h1 h2 := by
    simp only [ltOf, decide_eq_true_eq] at *
    exact cmp_trans _ _ _ h1 h2
  ntrans x y z h1 h2 := by
    simp only [ltOf, decide_eq_false_iff_not] at *
    intro h3
    by_cases h : Lib.compareBytes (key x) (key y) = 0
    · rw [(cmp_zero _ _).1 h] at h3; exact h2 h3
    · have h4 : Lib.compareBytes (key y) (key x) < 0 := by rw [cmp_neg]; omega
      exact h2 (cmp_trans _ _ _ h4 h3)

theorem mapBlock_setRow {w : World} {b : Nat} {row : Array Value} {e : TypeId} {fr : Nat × Nat} (h : w.heap[b]? = some (.cells row e fr)) (f : Array Value → Array Value) : mapBlock w b f = w.setRow b (f row) := by
  unfold mapBlock World.setRow
  congr 1
  apply Array.ext_getElem?
  intro k
  simp only [Array.getElem?_modify]
  by_cases hk : b = k
  · subst hk; simp only [if_true, h, Option.map_some, onCells]
  · simp [hk]

set_option maxHeartbeats 2000000
/-- bytes.Compare, in whatever world. -/
theorem bcmp_C {K : Ctx} {u v : Value} {a b : List UInt8} (hu : VD K u (.i (bI a))) (hv : VD K v (.i (bI b))) :
    Calls Tryd.prog 74 #[u, v] K.w fun e w' => e = .returned (.int .i64 (Lib.compareBytes a b)) ∧ w' = K.w := by
  have h1 := bytes_run (P := Tryd.prog) hu
  have h2 := bytes_run (P := Tryd.prog) hv
  have hx : (callFunc 98 #[u, v]).run Tryd.prog K.w = .ok (.value (.int .i64 (Lib.compareBytes a b))) K.w := by
    rw [run_callFunc_extern Tryd.func98 (by kernel_rfl) (by kernel_rfl) (by kernel_rfl) (e := Extern.BytealgCompare.compare) (by kernel_rfl)]
    show ((Sem.run Tryd.prog (do pure (goInt (Extern.BytealgCompare.cmp (← Extern.Bytes.bytesOf u) (← Extern.Bytes.bytesOf v))) : Sem Value) K.w).andThen fun v w' => Result.ok (Next.value v) w') = _
    simp only [Sem.run_bind, Sem.run_pure, h1, h2, Result.andThen_ok, Lib.cmp_eq]
    rfl
  generalize Lib.compareBytes a b = r at *
  clear h1 h2 hu hv
  go_enter Tryd.func74, Tryd.ntmps74
  go_wp2
  go_ret
  exact ⟨rfl, rfl⟩

theorem kcmp_C {W : World} {S : Nat → Prop} (hB : ∀ b, S b → b < W.heap.size) {u u' v v' : Value} {a a' b b' : List UInt8} (hu : VI W S u (bI a)) (hu' : VI W S u' (bI a')) (hv : VI W S v (bI b)) (hv' : VI W S v' (bI b')) :
    Calls Tryd.prog 73 (#[.agg [u, u'].toArray, .agg [v, v'].toArray] ++ #[]) W fun e w' => e = .returned (.int .i64 (Lib.compareBytes a b)) ∧ ∃ q os', w' = grow (W.drewN q) os' := by
  have hcon : ∀ o1 o2 : Obj, Calls Tryd.prog 74 #[u, v] ((W.alloc o1).alloc o2) fun e w' => e = .returned (.int .i64 (Lib.compareBytes a b)) ∧ w' = (W.alloc o1).alloc o2 := fun o1 o2 => by
    have hm : ∀ k, S k → ∀ j, ((W.alloc o1).alloc o2).cell? ⟨k, j, none⟩ = W.cell? ⟨k, j, none⟩ := fun k hk j =>
      World.cell?_of_block (w := W) ((Below.heap_alloc (W.alloc o1) o2 k (by show k < (W.heap.push o1).size; have := hB k hk; simp; omega)).trans (Below.heap_alloc W o1 k (hB k hk)))
    exact bcmp_C (K := ⟨(W.alloc o1).alloc o2, S, fun _ => none⟩) (.i (hu.mono (fun _ h => h) hm)) (.i (hv.mono (fun _ h => h) hm))
  obtain ⟨p1, c1, rfl, _, _⟩ := VI.sub hu
  obtain ⟨p2, c2, rfl, _, _⟩ := VI.sub hu'
  obtain ⟨p3, c3, rfl, _, _⟩ := VI.sub hv
  obtain ⟨p4, c4, rfl, _, _⟩ := VI.sub hv'
  clear hu hu' hv hv' hB
  generalize (a.map byteI).length = n1 at *
  generalize (a'.map byteI).length = n2 at *
  generalize (b.map byteI).length = n3 at *
  generalize (b'.map byteI).length = n4 at *
  generalize Lib.compareBytes a b = r at *
  go_enter Tryd.func73, Tryd.ntmps73
  go_wp2_with (go_at_call 74; refine (hcon _ _).mono ?_; rintro e w' ⟨rfl, rfl⟩)
  go_ret
  exact ⟨rfl, 0, _, by rw [alloc_eq_grow, alloc_eq_grow, grow_grow]; rfl⟩

theorem sort_D (l : List PairD) (hl : l.length ≤ 1048576) (hn : (l.map (·.k)).Nodup) :
    CallD Tryd.prog 72 [.os 0 2 0 l.length, .fn 73 []] (hF [(0, .arr 2 (l.map encPr))]) (.tup []) (hOf (hF [(0, .arr 2 (l.map encPr))]) [(0, .arr 2 ((sortP l).map encPr))]) := by
  refine ⟨Enters_of Tryd.func72 (by kernel_rfl) (by kernel_rfl), fun K0 T K vs hr hrd => ?_⟩
  obtain ⟨hs, hg⟩ := hrd
  have e : vs = #[vs.getD 0 undef, vs.getD 1 undef] := by
    apply Array.ext
    · simpa using hs
    · intro i h1 h2
      simp at hs
      have : i = 0 ∨ i = 1 := by omega
      rcases this with rfl | rfl <;> simp [Array.getD, hs]
  have hv0 := hg 0 _ rfl
  have hv1 := hg 1 _ rfl
  rw [e]
  generalize vs.getD 0 undef = v0 at *
  generalize vs.getD 1 undef = v1 at *
  clear hg hs e
  have h1 : v1 = .func (.func 73) #[] #[] := by
    cases hv1 with
    | fn f cs _ hl hc => rw [Array.eq_empty_of_size_eq_zero hl]
  subst h1
  clear hv1
  have hob := hr.get (o := 0) (x := .arr 2 (l.map encPr)) rfl
  obtain ⟨_, hlen, hob⟩ := hob
  have hH : hOf (hF [(0, .arr 2 (l.map encPr))]) [(0, .arr 2 ((sortP l).map encPr))] = upd (hF [(0, .arr 2 (l.map encPr))]) 0 (.arr 2 ((sortP l).map encPr)) := by
    funext o
    by_cases ho : o = 0 <;> simp [hOf, hF, lk, upd, ho]
  generalize hN : l.length = N at hv0
  by_cases h0 : l = []
  · subst h0
    obtain ⟨a, cap, rfl⟩ : ∃ a cap, v0 = .slice a 0 cap := by
      simp at hN; subst hN
      cases hv0 <;> exact ⟨_, _, rfl⟩
    refine (AnyF.slices_SortFunc_none Tryd.sortPr a cap _ K.w).mono ?_
    rintro e w' ⟨rfl, rfl⟩
    refine ⟨_, K, rfl, rfl, Ext.refl K, ?_, .tup _ _ rfl (fun j d hd => by simp at hd)⟩
    have : hOf (hF [(0, .arr 2 (([] : List PairD).map encPr))]) [(0, .arr 2 ((sortP []).map encPr))] = hF [(0, .arr 2 (([] : List PairD).map encPr))] := by
      funext o
      by_cases ho : o = 0 <;> simp [hOf, hF, lk, ho, sortP]
    rw [this]; exact hr
  obtain ⟨m, hm⟩ : ∃ m, l.length = m + 1 := ⟨l.length - 1, by cases l with | nil => exact absurd rfl h0 | cons a t => simp⟩
  cases hv0 with
  | os0 => omega
  | os _ _ _ _ b off cap hμ hz hc ho hrow =>
  have hoff : off = 0 := by rcases ho with h | h <;> omega
  subst hoff
  rcases hob with ⟨hnn, _⟩ | ⟨b', row, ty, hμ', hheap, hsz, hcells, hS, hT⟩
  · rw [hμ] at hnn; cases hnn
  rw [hμ] at hμ'; cases hμ'
  rw [List.length_map] at hsz
  have hget : ∀ (i : Fin (m + 1)), (l.map encPr)[i.val]? = some (encPr (l[i.val]'(by omega))) := fun i => by
    have : i.val < l.length := by omega
    simp [this]
  have k0 : ∀ i : Fin (m + 1), VI K.w K.S (row.getD (i.val * 2) undef) (bI (l[i.val]'(by omega)).k) := fun i => hcells _ _ (flatten_get (c := 0) hlen (hget i) rfl)
  have k1 : ∀ i : Fin (m + 1), VI K.w K.S (row.getD (i.val * 2 + 1) undef) (bI (l[i.val]'(by omega)).v) := fun i => hcells _ _ (flatten_get (c := 1) hlen (hget i) rfl)
  let enc : Fin (m + 1) → List Value := fun i => [row.getD (i.val * 2) undef, row.getD (i.val * 2 + 1) undef]
  let cf : Fin (m + 1) → Fin (m + 1) → Int := fun x y => Lib.compareBytes (l[x.val]'(by omega)).k (l[y.val]'(by omega)).k
  let d : Array (Fin (m + 1)) := (List.finRange (m + 1)).toArray
  have hds : d.size = m + 1 := by simp [d]
  have hb : b < K.w.heap.size := hr.mB _ _ hμ
  have hone : ∀ {v : Value} {x : List UInt8}, VI K.w K.S v (bI x) → v.oneCell' = true := fun {v x} h => by
    obtain ⟨p, c, rfl, _, _⟩ := VI.sub h; rfl
  have hH2 : HoldsK enc 2 K.w b 0 d := by
    intro j hj
    rw [size_flatK, hds] at hj
    have hj2 : j / 2 < m + 1 := by omega
    have hdj : d[j / 2]! = ⟨j / 2, hj2⟩ := by
      rw [getElem!_pos d (j / 2) (by omega)]; simp [d]
    refine ⟨?_, by simp [World.frozen?, hheap]⟩
    rw [get_flatK enc 2 d j (by omega), hdj, Nat.zero_add, cell_of_row K.w b j row ty _ hheap]
    have hjr : j < row.size := by omega
    rcases (by omega : j % 2 = 0 ∨ j % 2 = 1) with h | h
    · have e1 : j / 2 * 2 = j := by omega
      simp [enc, h, e1, Array.getD, hjr]
    · have e1 : j / 2 * 2 + 1 = j := by omega
      simp [enc, h, e1, Array.getD, hjr]
  have hcmp : CmpLays Tryd.prog 73 #[] enc 2 cf b 0 d.size K.w := fun n os dk hdk x y => by
    have hm : ∀ k, K.S k → ∀ j, (sortWorldK enc 2 K.w b 0 n dk os).cell? ⟨k, j, none⟩ = K.w.cell? ⟨k, j, none⟩ := fun k hk j => by
      have hkb : b ≠ k := by rintro rfl; exact hS hk
      refine World.cell?_of_block (w := K.w) ?_
      show ((K.w.heap.modify b _) ++ os)[k]? = _
      rw [Array.getElem?_append_left (by simpa using hr.sB k hk), Array.getElem?_modify, if_neg hkb]
    refine kcmp_C (S := K.S) (fun k hk => ?_) ((k0 x).mono (fun _ h => h) hm) ((k1 x).mono (fun _ h => h) hm) ((k0 y).mono (fun _ h => h) hm) ((k1 y).mono (fun _ h => h) hm)
    show k < ((K.w.heap.modify b _) ++ os).size
    have := hr.sB k hk
    simp; omega
  have eg : ∀ args w, (callFunc 73 args).run Tryd.prog w = .ok (.enter 73 args) w := enters_of Tryd.func73 (by kernel_rfl) rfl
  have hT2 : ∀ x y, (ltOf cf) x y = false → (ltOf cf) y x = false → x = y := fun x y h1 h2 => by
    simp only [ltOf, decide_eq_false_iff_not, cf] at h1 h2
    have h3 : (l[x.val]'(by omega)).k = (l[y.val]'(by omega)).k := by
      refine (cmp_zero _ _).1 ?_
      rw [cmp_neg] at h2; omega
    have h4 := (List.getElem_inj (i := x.val) (j := y.val) (h₀ := by simp; omega) (h₁ := by simp; omega) hn).1 (by simpa using h3)
    exact Fin.ext h4
  have hcon := AnyQ.slices_SortFunc_total Tryd.sortPr 2 Tryd.isAgg117 Tryd.sizeOf117 enc (fun _ => rfl) (fun x v hv => by
    simp only [enc, List.mem_cons, List.not_mem_nil, or_false] at hv
    rcases hv with rfl | rfl
    · exact hone (k0 x)
    · exact hone (k1 x)) cf (swoK fun x : Fin (m + 1) => (l[x.val]'(by omega)).k) 73 #[] b 0 cap d K.w eg hcmp hH2 hb (by omega) hT2
  have hdN : d.size = N := by omega
  simp only [hdN] at hcon
  refine hcon.mono ?_
  rintro e w' ⟨rfl, n, os, hw⟩
  clear hcon
  generalize hL : (d.toList.mergeSort fun x y => !(ltOf cf) y x) = L at hw
  have hLm : L.map (fun i => (l[i.val]'(by omega) : PairD)) = sortP l := by
    rw [← hL]
    unfold sortP
    rw [List.map_mergeSort (r := fun x y => !(ltOf cf) y x) (s := leK) (f := fun i : Fin (m + 1) => (l[i.val]'(by omega) : PairD)) (l := d.toList) (fun a _ b _ => rfl)]
    congr 1
    refine List.ext_getElem (by simp [d, hm]) fun j h1 h2 => ?_
    simp [d]
  have hLl : L.length = m + 1 := by rw [← hL, List.length_mergeSort]; simp [d]
  have hr1 : HR K0 T (K.world (Sort.ahead K.w n)) (hF [(0, .arr 2 (l.map encPr))]) := hr.world rfl rfl rfl rfl
  have he1 : Ext K (K.world (Sort.ahead K.w n)) := Ext.world rfl
  have hg1 : (K.world (Sort.ahead K.w n)).w.heap[b]? = some (.cells row ty (0, 0)) := hheap
  let row' : Array Value := putCells id 0 (flatK enc 2 L.toArray) row
  have hs1 : row'.size = row.size := by simp [row', putCells]
  have he2 := ext_row (K := K.world (Sort.ahead K.w n)) hg1 hs1 hS
  have hcell' : ∀ (j : Nat) (hj : j < (m + 1) * 2), row'.getD j undef = (enc (L[j / 2]'(by omega)))[j % 2]! := fun j hj => by
    have hjr : j < row.size := by omega
    have h1 := get_flatK enc 2 L.toArray j (by simp [hLl]; omega)
    have h2 : (L.toArray)[j / 2]! = L[j / 2]'(by omega) := by
      rw [getElem!_pos L.toArray (j / 2) (by simp; omega)]; simp
    rw [h2] at h1
    rw [← h1]
    have hj3 : j < (flatK enc 2 L.toArray).size := by simp [hLl]; omega
    simp only [row', putCells, Array.getD, Array.size_mapIdx, hjr, dif_pos]
    simp [hj3]
    intro h; omega
  have hx : ObR K0 T ((K.world (Sort.ahead K.w n)).row b row') 0 (.arr 2 ((sortP l).map encPr)) := by
    refine ⟨by omega, fun e he => by obtain ⟨p, _, rfl⟩ := List.mem_map.1 he; rfl, .inr ⟨b, row', ty, hμ, setRow_heap _ _ _ _ _ _ hg1, by rw [hs1, ← hLm]; simp [hLl]; omega, fun j x hj => ?_, hS, hT⟩⟩
    obtain ⟨e, h1, h2⟩ := flatten_get' (sz := 2) (by omega) (fun e he => by obtain ⟨p, _, rfl⟩ := List.mem_map.1 he; rfl) hj
    rw [← hLm] at h1
    have hj2 : j / 2 < L.length := by
      have := (List.getElem?_eq_some_iff.1 h1).1; simpa using this
    have hj3 : j < (m + 1) * 2 := by omega
    simp [hj2] at h1
    subst h1
    rw [hcell' j hj3]
    refine VI.ext (he1.trans he2) ?_
    rcases (by omega : j % 2 = 0 ∨ j % 2 = 1) with h | h
    · rw [h] at h2 ⊢
      simp [encPr] at h2; subst h2
      exact k0 _
    · rw [h] at h2 ⊢
      simp [encPr] at h2; subst h2
      exact k1 _
  have hr2 := hr1.row (o := 0) trivial hμ hg1 hs1 hx
  have hsz3 : ((K.world (Sort.ahead K.w n)).row b row').w.heap.size ≤ (Sort.grow ((K.world (Sort.ahead K.w n)).row b row').w os).heap.size := by show _ ≤ (_ ++ os).size; simp
  obtain ⟨he3, hr3⟩ := hr2.grow (w' := Sort.grow ((K.world (Sort.ahead K.w n)).row b row').w os) (S' := K.S) rfl rfl rfl hsz3 (fun j hj => by show (_ ++ os)[j]? = _; rw [Array.getElem?_append_left hj]) (fun _ h => h) (fun _ h => .inl h) (fun b hb => Nat.lt_of_lt_of_le (hr2.sB b hb) hsz3)
  refine ⟨_, _, rfl, ?_, he1.trans (he2.trans he3), ?_, .tup _ _ rfl (fun j d hd => by simp at hd)⟩
  · rw [hw]
    show Sort.grow _ os = Sort.grow _ os
    congr 1
    exact (mapBlock_setRow (w := Sort.ahead K.w n) (b := b) hheap (putCells id 0 (flatK enc 2 L.toArray))).symm
  · rw [hH]; exact hr3
end Go.Proofs.YtmclpbcipkdmcaaDoor
