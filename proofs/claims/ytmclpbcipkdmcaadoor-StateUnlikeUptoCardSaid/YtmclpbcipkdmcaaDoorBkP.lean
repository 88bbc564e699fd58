/- The book of a state: plain. -/
import Derived.Test.YtmclpbcipkdmcaaDoorSrtP
import Derived.Test.YtmclpbcipkdmcaaDoorGBook
import Derived.Test.YtmclpbcipkdmcaaDoorStK
import Derived.Test.YtmclpbcipkdmcaaDoorGMk
set_option linter.all false
namespace Go.Proofs.YtmclpbcipkdmcaaDoor
open Go Go.Abs

theorem dd_dig (n : Nat) : ∀ b ∈ Lib.decDigits n, 48 ≤ b.toNat ∧ b.toNat ≤ 57 := by
  induction n using Nat.strongRecOn with
  | ind n ih =>
    intro b hb
    rw [Lib.decDigits] at hb
    split at hb
    · simp only [List.mem_cons, List.not_mem_nil, or_false] at hb; subst hb
      rw [UInt8.toNat_ofNat']; omega
    · simp only [List.mem_append, List.mem_cons, List.not_mem_nil, or_false] at hb
      rcases hb with hb | rfl
      · exact ih (n / 10) (by omega) b hb
      · rw [UInt8.toNat_ofNat']; omega
def dv (l : List UInt8) : Nat := l.foldl (fun n b => n * 10 + (b.toNat - 48)) 0
theorem dv_dd (n : Nat) : dv (Lib.decDigits n) = n := by
  induction n using Nat.strongRecOn with
  | ind n ih =>
    rw [Lib.decDigits]
    split
    · simp only [dv, List.foldl_cons, List.foldl_nil]; rw [UInt8.toNat_ofNat']; omega
    · have := ih (n / 10) (by omega)
      unfold dv at this ⊢
      rw [List.foldl_append, this]
      simp only [List.foldl_cons, List.foldl_nil]; rw [UInt8.toNat_ofNat']; omega
theorem ito_nn {a : Int} (h : 0 ≤ a) : Lib.itoa a = Lib.decDigits a.toNat := by unfold Lib.itoa; rw [if_neg (by omega)]
theorem ito_inj {a b : Int} (ha : 0 ≤ a) (hb : 0 ≤ b) (h : Lib.itoa a = Lib.itoa b) : a = b := by
  rw [ito_nn ha, ito_nn hb] at h
  have := congrArg dv h
  rw [dv_dd, dv_dd] at this
  omega
theorem ito_no {a : Int} (ha : 0 ≤ a) : (47 : UInt8) ∉ Lib.itoa a := fun h => by
  rw [ito_nn ha] at h
  have := dd_dig _ _ h
  simp at this
theorem cut_at {x : UInt8} : ∀ {a b c d : List UInt8}, x ∉ a → x ∉ c → a ++ x :: b = c ++ x :: d → a = c ∧ b = d
  | [], b, [], d, _, _, h => ⟨rfl, by simpa using h⟩
  | [], b, y :: c, d, _, h2, h => by simp at h; exact absurd h.1 (fun e => h2 (by simp [e]))
  | y :: a, b, [], d, h1, _, h => by simp at h; exact absurd h.1 (fun e => h1 (by simp [e]))
  | y :: a, b, z :: c, d, h1, h2, h => by
    simp only [List.cons_append, List.cons.injEq] at h
    obtain ⟨q1, q2⟩ := cut_at (fun e => h1 (by simp [e])) (fun e => h2 (by simp [e])) h.2
    exact ⟨by rw [h.1, q1], q2⟩
theorem keyC_inj {i j : Int} (hi : 0 ≤ i) (hj : 0 ≤ j) (h : keyC i = keyC j) : i = j := ito_inj hi hj (List.append_cancel_left h)
theorem keyH_inj {i j : Int} (hi : 0 ≤ i) (hj : 0 ≤ j) (h : keyH i = keyH j) : i = j := ito_inj hi hj (List.append_cancel_left h)
theorem keyN_inj {i j : Int} (hi : 0 ≤ i) (hj : 0 ≤ j) (h : keyN i = keyN j) : i = j := ito_inj hi hj (List.append_cancel_left h)
theorem keyM_inj {w : List UInt8} {a b c d : Int} (ha : 0 ≤ a) (hb : 0 ≤ b) (hc : 0 ≤ c) (hd : 0 ≤ d) (h : keyM w a b = keyM w c d) : a = c ∧ b = d := by
  unfold keyM at h
  simp only [List.append_assoc, List.cons_append, List.nil_append] at h
  have h := List.append_cancel_left h
  simp only [List.cons.injEq, true_and] at h
  obtain ⟨q1, q2⟩ := cut_at (ito_no ha) (ito_no hc) h
  exact ⟨ito_inj ha hc q1, ito_inj hb hd q2⟩
def cnB : Nat → List ConnD → List PairD
  | _, [] => []
  | i, c :: t => ⟨keyC i, valCn c⟩ :: cnB (i + 1) t
def chB : Nat → List ChanD → List PairD
  | _, [] => []
  | i, c :: t => ⟨keyH i, valCh c⟩ :: ⟨keyN i, valN c.rcv⟩ :: chB (i + 1) t
def mkB (w : List UInt8) (l : List MarkD) : List PairD := l.map fun m => ⟨keyM w m.ch m.seq, m.dg⟩
def wSnt : List UInt8 := [115, 101, 110, 116]
def wGt : List UInt8 := [103, 111, 116]
def wAk : List UInt8 := [97, 99, 107]
def rawS (s : StateD) : List PairD := cnB 0 s.cns ++ chB 0 s.chs ++ mkB wSnt s.sent ++ mkB wGt s.got ++ mkB wAk s.acks
def bookS (s : StateD) : List PairD × Int := if wrongS s = 0 then (sortP (rawS s), 0) else ([], wrongS s)
theorem cnB_app : ∀ (i : Nat) (l m : List ConnD), cnB i (l ++ m) = cnB i l ++ cnB (i + l.length) m
  | i, [], m => by simp [cnB]
  | i, c :: t, m => by simp only [List.cons_append, cnB, cnB_app (i + 1) t m, List.length_cons]; rw [Nat.add_right_comm, Nat.add_assoc]
theorem chB_app : ∀ (i : Nat) (l m : List ChanD), chB i (l ++ m) = chB i l ++ chB (i + l.length) m
  | i, [], m => by simp [chB]
  | i, c :: t, m => by simp only [List.cons_append, chB, chB_app (i + 1) t m, List.length_cons]; rw [Nat.add_right_comm, Nat.add_assoc]
theorem cnB_take {l : List ConnD} {i : Nat} (h : i < l.length) : cnB 0 (l.take (i + 1)) = cnB 0 (l.take i) ++ [⟨keyC i, valCn l[i]⟩] := by
  rw [List.take_succ_eq_append_getElem h, cnB_app]; simp [cnB, Nat.min_eq_left (Nat.le_of_lt h)]
theorem chB_take {l : List ChanD} {i : Nat} (h : i < l.length) : chB 0 (l.take (i + 1)) = chB 0 (l.take i) ++ [⟨keyH i, valCh l[i]⟩] ++ [⟨keyN i, valN l[i].rcv⟩] := by
  rw [List.take_succ_eq_append_getElem h, chB_app]; simp [chB, Nat.min_eq_left (Nat.le_of_lt h)]
theorem mkB_take {w : List UInt8} {l : List MarkD} {i : Nat} (h : i < l.length) : mkB w (l.take (i + 1)) = mkB w (l.take i) ++ [⟨keyM w l[i].ch l[i].seq, l[i].dg⟩] := by
  unfold mkB
  rw [List.take_succ_eq_append_getElem h, List.map_append]; rfl
theorem cnB_len : ∀ (i : Nat) (l : List ConnD), (cnB i l).length = l.length
  | _, [] => rfl
  | i, c :: t => by simp [cnB, cnB_len (i + 1) t]
theorem chB_len : ∀ (i : Nat) (l : List ChanD), (chB i l).length = 2 * l.length
  | _, [] => rfl
  | i, c :: t => by simp [chB, chB_len (i + 1) t]; omega
theorem mkB_len (w : List UInt8) (l : List MarkD) : (mkB w l).length = l.length := by simp [mkB]
theorem rawS_len (s : StateD) : (rawS s).length = s.cns.length + 2 * s.chs.length + s.sent.length + s.got.length + s.acks.length := by
  simp [rawS, cnB_len, chB_len, mkB_len]; omega
theorem cnB_mem : ∀ {i : Nat} {l : List ConnD} {p : PairD}, p ∈ cnB i l → ∃ (j : Nat) (c : ConnD), i ≤ j ∧ j < i + l.length ∧ c ∈ l ∧ p = ⟨keyC j, valCn c⟩
  | i, c :: t, p, h => by
    simp only [cnB, List.mem_cons] at h
    rcases h with rfl | h
    · exact ⟨i, c, Nat.le_refl _, by simp, by simp, rfl⟩
    · obtain ⟨j, c', h1, h2, h3, h4⟩ := cnB_mem h
      exact ⟨j, c', by omega, by simp; omega, by simp [h3], h4⟩
theorem chB_mem : ∀ {i : Nat} {l : List ChanD} {p : PairD}, p ∈ chB i l → ∃ (j : Nat) (c : ChanD), i ≤ j ∧ j < i + l.length ∧ c ∈ l ∧ (p = ⟨keyH j, valCh c⟩ ∨ p = ⟨keyN j, valN c.rcv⟩)
  | i, c :: t, p, h => by
    simp only [chB, List.mem_cons] at h
    rcases h with rfl | rfl | h
    · exact ⟨i, c, Nat.le_refl _, by simp, by simp, .inl rfl⟩
    · exact ⟨i, c, Nat.le_refl _, by simp, by simp, .inr rfl⟩
    · obtain ⟨j, c', h1, h2, h3, h4⟩ := chB_mem h
      exact ⟨j, c', by omega, by simp; omega, by simp [h3], h4⟩
theorem mkB_mem {w : List UInt8} {l : List MarkD} {p : PairD} (h : p ∈ mkB w l) : ∃ m ∈ l, p = ⟨keyM w m.ch m.seq, m.dg⟩ := by
  obtain ⟨m, hm, rfl⟩ := List.mem_map.1 h; exact ⟨m, hm, rfl⟩
def KND (l : List PairD) : Prop := (l.map (·.k)).Nodup
theorem knd_cons {p : PairD} {l : List PairD} (h : ∀ q ∈ l, p.k ≠ q.k) (hl : KND l) : KND (p :: l) := by
  unfold KND at *
  rw [List.map_cons, List.nodup_cons]
  exact ⟨fun hm => by obtain ⟨q, hq, e⟩ := List.mem_map.1 hm; exact h q hq e.symm, hl⟩
theorem knd_app {l m : List PairD} (h1 : KND l) (h2 : KND m) (h : ∀ p ∈ l, ∀ q ∈ m, p.k ≠ q.k) : KND (l ++ m) := by
  unfold KND at *
  rw [List.map_append, List.nodup_append]
  refine ⟨h1, h2, fun a ha b hb => ?_⟩
  obtain ⟨p, hp, rfl⟩ := List.mem_map.1 ha
  obtain ⟨q, hq, rfl⟩ := List.mem_map.1 hb
  exact h p hp q hq
theorem cnB_knd : ∀ (i : Nat) (l : List ConnD), KND (cnB i l)
  | _, [] => List.nodup_nil
  | i, c :: t => knd_cons (fun q hq e => by
      obtain ⟨j, c', h1, _, _, rfl⟩ := cnB_mem hq
      have := keyC_inj (by omega) (by omega) e
      omega) (cnB_knd (i + 1) t)
theorem chB_knd : ∀ (i : Nat) (l : List ChanD), KND (chB i l)
  | _, [] => List.nodup_nil
  | i, c :: t => knd_cons (fun q hq e => by
      simp only [List.mem_cons] at hq
      rcases hq with rfl | hq
      · simp [keyH, keyN] at e
      · obtain ⟨j, c', h1, _, _, rfl | rfl⟩ := chB_mem hq
        · have := keyH_inj (by omega) (by omega) e
          omega
        · simp [keyH, keyN] at e) (knd_cons (fun q hq e => by
      obtain ⟨j, c', h1, _, _, rfl | rfl⟩ := chB_mem hq
      · simp [keyH, keyN] at e
      · have := keyN_inj (by omega) (by omega) e
        omega) (chB_knd (i + 1) t))
theorem mkB_knd (w : List UInt8) {l : List MarkD} (h : MksOk l) : KND (mkB w l) := by
  unfold KND mkB
  rw [List.map_map, List.Nodup, List.pairwise_map]
  have hs : l.Pairwise fun x y => cmpM (mk x) (mk y) < 0 := h.srt
  refine List.Pairwise.imp_of_mem ?_ hs
  intro a b ha hb hlt e
  have h1 := (h.all a ha).ch
  have h2 := (h.all a ha).seq
  have h3 := (h.all b hb).ch
  have h4 := (h.all b hb).seq
  unfold N12 at h1 h2 h3 h4
  obtain ⟨q1, q2⟩ := keyM_inj (w := w) (by omega) (by omega) (by omega) (by omega) e
  have : cmpM (mk a) (mk b) = 0 := (cmpM_ok.zero _ _).2 (by simp [mk, q1, q2])
  omega
theorem rawS_knd {s : StateD} (ok : StOk s) : KND (rawS s) := by
  unfold rawS
  have hm : ∀ {w w' : List UInt8} {l l' : List MarkD}, (∀ a b c d, keyM w a b ≠ keyM w' c d) → ∀ p ∈ mkB w l, ∀ q ∈ mkB w' l', p.k ≠ q.k := by
    intro w w' l l' h p hp q hq
    obtain ⟨m, _, rfl⟩ := mkB_mem hp
    obtain ⟨m', _, rfl⟩ := mkB_mem hq
    exact h _ _ _ _
  have hc : ∀ {w : List UInt8} {l : List MarkD}, (∀ a c d, keyC a ≠ keyM w c d) → ∀ p ∈ cnB 0 s.cns, ∀ q ∈ mkB w l, p.k ≠ q.k := by
    intro w l h p hp q hq
    obtain ⟨j, c, _, _, _, rfl⟩ := cnB_mem hp
    obtain ⟨m', _, rfl⟩ := mkB_mem hq
    exact h _ _ _
  have hh : ∀ {w : List UInt8} {l : List MarkD}, (∀ a c d, keyH a ≠ keyM w c d ∧ keyN a ≠ keyM w c d) → ∀ p ∈ chB 0 s.chs, ∀ q ∈ mkB w l, p.k ≠ q.k := by
    intro w l h p hp q hq
    obtain ⟨m', _, rfl⟩ := mkB_mem hq
    obtain ⟨j, c, _, _, _, rfl | rfl⟩ := chB_mem hp
    · exact (h _ _ _).1
    · exact (h _ _ _).2
  refine knd_app (knd_app (knd_app (knd_app (cnB_knd 0 _) (chB_knd 0 _) ?_) (mkB_knd _ ok.sent) ?_) (mkB_knd _ ok.got) ?_) (mkB_knd _ ok.acks) ?_
  · intro p hp q hq
    obtain ⟨j, c, _, _, _, rfl⟩ := cnB_mem hp
    obtain ⟨i, d, _, _, _, rfl | rfl⟩ := chB_mem hq <;> simp [keyC, keyH, keyN]
  · intro p hp q hq
    rcases List.mem_append.1 hp with hp | hp
    · exact hc (by simp [keyC, keyM, wSnt]) p hp q hq
    · exact hh (by simp [keyH, keyN, keyM, wSnt]) p hp q hq
  · intro p hp q hq
    rcases List.mem_append.1 hp with hp | hp
    · rcases List.mem_append.1 hp with hp | hp
      · exact hc (by simp [keyC, keyM, wGt]) p hp q hq
      · exact hh (by simp [keyH, keyN, keyM, wGt]) p hp q hq
    · exact hm (by simp [keyM, wSnt, wGt]) p hp q hq
  · intro p hp q hq
    rcases List.mem_append.1 hp with hp | hp
    · rcases List.mem_append.1 hp with hp | hp
      · rcases List.mem_append.1 hp with hp | hp
        · exact hc (by simp [keyC, keyM, wAk]) p hp q hq
        · exact hh (by simp [keyH, keyN, keyM, wAk]) p hp q hq
      · exact hm (by simp [keyM, wSnt, wAk]) p hp q hq
    · exact hm (by simp [keyM, wGt, wAk]) p hp q hq
theorem writeGo_nums : ∀ (ns : List Nat) (acc : List UInt8) (i : Nat), acc.length + 11 * ns.length ≤ 20000 → writeGo acc i (ns.map numP) = (acc ++ ns.flatMap (fun n => 0 :: vnum n), 0, 0)
  | [], acc, i, _ => by simp [writeGo]
  | n :: t, acc, i, h => by
    have h1 := vnum_len_le n
    have hw : wpiece (numP n) = some (0 :: vnum n) := rfl
    simp only [List.map_cons, writeGo, hw]
    rw [if_neg (by simp at h ⊢; omega), writeGo_nums t _ _ (by simp at h ⊢; omega)]
    simp
theorem nums_short (ns : List Nat) (h : ns.length ≤ 10) : (writeF (ns.map numP)).1.length ≤ 10 + 11 * ns.length := by
  have h0 := vnum_len_le ns.length
  rw [writeF, if_neg (by simp; omega), writeGo_nums _ _ _ (by simp; omega)]
  simp only [List.length_append, List.length_map]
  have : ∀ (l : List Nat), (l.flatMap fun n => 0 :: vnum n).length ≤ 11 * l.length := by
    intro l
    induction l with
    | nil => simp
    | cons a t ih => have := vnum_len_le a; simp only [List.flatMap_cons, List.length_append, List.length_cons]; omega
  have := this ns
  omega
theorem rawS_big {s : StateD} (ok : StOk s) : ∀ p ∈ rawS s, p.k.length ≤ 60 ∧ p.v.length ≤ 200 := by
  have hi : ∀ j : Nat, j < 9 → (Lib.itoa (j : Int)).length ≤ 21 := fun j hj => ito_len (n := (j : Int)) (by unfold Num6; omega)
  have hm : ∀ {w : List UInt8} {l : List MarkD}, w.length ≤ 10 → MksOk l → ∀ p ∈ mkB w l, p.k.length ≤ 60 ∧ p.v.length ≤ 200 := by
    intro w l hw hl p hp
    obtain ⟨m, hmm, rfl⟩ := mkB_mem hp
    have o := hl.all m hmm
    have o1 := o.ch
    have o2 := o.seq
    have o3 := o.dg
    unfold N12 at o1 o2
    have h1 := ito_len (n := m.ch) (by unfold Num6; omega)
    have h2 := ito_len (n := m.seq) (by unfold Num6; omega)
    exact ⟨by simp [keyM]; omega, by simp only; omega⟩
  have l1 := ok.lcn
  have l2 := ok.lch
  intro p hp
  unfold rawS at hp
  simp only [List.mem_append] at hp
  rcases hp with (((hp | hp) | hp) | hp) | hp
  · obtain ⟨j, c, _, h2, _, rfl⟩ := cnB_mem hp
    have := hi j (by omega)
    have h3 := nums_short [u64 c.st, u64 c.cl, u64 c.oc, u64 (c.on + 1)] (by simp)
    simp only [List.length_cons, List.length_nil, List.map_cons, List.map_nil] at h3
    exact ⟨by simp [keyC]; omega, by show (valCn c).length ≤ 200; unfold valCn; omega⟩
  · obtain ⟨j, c, _, h2, _, rfl | rfl⟩ := chB_mem hp
    · have := hi j (by omega)
      have h3 := nums_short [u64 c.st, u64 (if c.ord = true then 1 else 0), u64 c.cn, u64 (c.oc + 1)] (by simp)
      simp only [List.length_cons, List.length_nil, List.map_cons, List.map_nil] at h3
      exact ⟨by simp [keyH]; omega, by show (valCh c).length ≤ 200; unfold valCh; omega⟩
    · have := hi j (by omega)
      have h3 := nums_short [u64 c.rcv] (by simp)
      simp only [List.length_cons, List.length_nil, List.map_cons, List.map_nil] at h3
      exact ⟨by simp [keyN]; omega, by show (valN c.rcv).length ≤ 200; unfold valN; omega⟩
  · exact hm (by decide) ok.sent p hp
  · exact hm (by decide) ok.got p hp
  · exact hm (by decide) ok.acks p hp
theorem book_right {s : StateD} (ok : StOk s) : Right (sortP (rawS s)) := by
  have l1 := ok.lcn
  have l2 := ok.lch
  have l3 := ok.lsent
  have l4 := ok.lgot
  have l5 := ok.lacks
  refine ⟨?_, fun p hp => rawS_big ok p ((sortP_perm _).mem_iff.1 hp), fun i j hi hj hij => ?_⟩
  · rw [sortP_len, rawS_len]; omega
  · exact List.pairwise_iff_getElem.1 (sortP_srt (rawS_knd ok)) i j hi hj hij
end Go.Proofs.YtmclpbcipkdmcaaDoor
