/- Two states with one book: plain. -/
import Derived.Test.YtmclpbcipkdmcaaDoorBkP
import Derived.Test.YtmclpbcipkdmcaaDoorGWire
set_option linter.all false
namespace Go.Proofs.YtmclpbcipkdmcaaDoor
open Go Go.Abs

def bareCh (c : ChanD) : ChanD := { c with snd := 0, ack := 0 }
def bareS (s : StateD) : StateD := ⟨⟨#[]⟩, 0, 0, [], s.cns, s.chs.map bareCh, s.sent, s.got, s.acks, []⟩
theorem u64_inj {a b : Int} (ha : 0 ≤ a ∧ a ≤ 9223372036854775807) (hb : 0 ≤ b ∧ b ≤ 9223372036854775807) (h : u64 a = u64 b) : a = b := by unfold u64 at h; omega
theorem same_nums : ∀ {a b : List Nat}, piecesSame (a.map numP) (b.map numP) = true → a = b
  | [], [], _ => rfl
  | [], _ :: _, h => by simp [piecesSame] at h
  | _ :: _, [], h => by simp [piecesSame] at h
  | x :: a, y :: b, h => by
    simp only [List.map_cons, piecesSame, Bool.and_eq_true] at h
    obtain ⟨h1, h2⟩ := h
    simp [pieceSame, numP] at h1
    rw [h1, same_nums h2]
theorem nums_inj {a b : List Nat} (ha : a.length ≤ 10) (hb : b.length ≤ 10) (na : ∀ n ∈ a, n < 18446744073709551616) (nb : ∀ n ∈ b, n < 18446744073709551616) (h : (writeF (a.map numP)).1 = (writeF (b.map numP)).1) : a = b := by
  have key : ∀ (l : List Nat), l.length ≤ 10 → writeF (l.map numP) = ((writeF (l.map numP)).1, 0, 0) := fun l hl => by
    have h0 := vnum_len_le l.length
    rw [writeF, if_neg (by simp; omega), writeGo_nums _ _ _ (by simp only [List.length_map]; omega)]
  have hw := write_unlike (key a ha) (key b hb) (nums_64 na) (nums_64 nb)
  rw [decide_eq_true h] at hw
  exact same_nums hw.symm
theorem valCn_inj {c d : ConnD} (hc : CnOk c) (hd : CnOk d) (h : valCn c = valCn d) : c = d := by
  have := nums_inj (a := [u64 c.st, u64 c.cl, u64 c.oc, u64 (c.on + 1)]) (b := [u64 d.st, u64 d.cl, u64 d.oc, u64 (d.on + 1)]) (by simp) (by simp) (by simp [u64_lt]) (by simp [u64_lt]) h
  simp only [List.cons.injEq, and_true] at this
  obtain ⟨a1, a2, a3, a4⟩ := this
  have x1 := hc.st; have x2 := hc.cl; have x3 := hc.oc; have x4 := hc.on
  have y1 := hd.st; have y2 := hd.cl; have y3 := hd.oc; have y4 := hd.on
  unfold N12 at *
  have b1 := u64_inj (by omega) (by omega) a1
  have b2 := u64_inj (by omega) (by omega) a2
  have b3 := u64_inj (by omega) (by omega) a3
  have b4 := u64_inj (by omega) (by omega) a4
  cases c; cases d
  simp only [ConnD.mk.injEq] at *
  exact ⟨b1, b2, b3, by omega⟩
theorem valCh_inj {c d : ChanD} (hc : ChOk c) (hd : ChOk d) (h : valCh c = valCh d) (h' : valN c.rcv = valN d.rcv) : bareCh c = bareCh d := by
  have := nums_inj (a := [u64 c.st, u64 (if c.ord = true then 1 else 0), u64 c.cn, u64 (c.oc + 1)]) (b := [u64 d.st, u64 (if d.ord = true then 1 else 0), u64 d.cn, u64 (d.oc + 1)]) (by simp) (by simp) (by simp [u64_lt]) (by simp [u64_lt]) h
  have this' := nums_inj (a := [u64 c.rcv]) (b := [u64 d.rcv]) (by simp) (by simp) (by simp [u64_lt]) (by simp [u64_lt]) h'
  simp only [List.cons.injEq, and_true] at this this'
  obtain ⟨a1, a2, a3, a4⟩ := this
  have x1 := hc.st; have x2 := hc.cn; have x3 := hc.oc; have x4 := hc.rcv
  have y1 := hd.st; have y2 := hd.cn; have y3 := hd.oc; have y4 := hd.rcv
  unfold N12 at *
  have b1 := u64_inj (by omega) (by omega) a1
  have b2 := u64_inj (by split <;> omega) (by split <;> omega) a2
  have b3 := u64_inj (by omega) (by omega) a3
  have b4 := u64_inj (by omega) (by omega) a4
  have b5 := u64_inj (by omega) (by omega) this'
  have b6 : c.ord = d.ord := by
    cases hco : c.ord <;> cases hdo : d.ord <;> simp [hco, hdo] at b2 <;> rfl
  cases c; cases d
  simp only [bareCh, ChanD.mk.injEq, and_true] at *
  exact ⟨b1, b6, b3, by omega, trivial, b5⟩
theorem cnB_in : ∀ {i : Nat} {l : List ConnD} {p : PairD}, p ∈ cnB i l → ∃ (j : Nat) (h : j < l.length), p = ⟨keyC ((i + j : Nat) : Int), valCn l[j]⟩
  | i, c :: t, p, h => by
    simp only [cnB, List.mem_cons] at h
    rcases h with rfl | h
    · exact ⟨0, by simp, rfl⟩
    · obtain ⟨j, hj, rfl⟩ := cnB_in h
      exact ⟨j + 1, by simpa using hj, by simp only [List.getElem_cons_succ]; rw [show i + 1 + j = i + (j + 1) by omega]⟩
theorem cnB_at : ∀ {i : Nat} {l : List ConnD} {j : Nat} (h : j < l.length), (⟨keyC ((i + j : Nat) : Int), valCn l[j]⟩ : PairD) ∈ cnB i l
  | i, c :: t, 0, h => by simp [cnB]
  | i, c :: t, j + 1, h => by
    have := cnB_at (i := i + 1) (l := t) (j := j) (by simpa using h)
    rw [show i + 1 + j = i + (j + 1) by omega] at this
    simp only [cnB, List.mem_cons, List.getElem_cons_succ]; exact .inr this
theorem chB_in : ∀ {i : Nat} {l : List ChanD} {p : PairD}, p ∈ chB i l → ∃ (j : Nat) (h : j < l.length), p = ⟨keyH ((i + j : Nat) : Int), valCh l[j]⟩ ∨ p = ⟨keyN ((i + j : Nat) : Int), valN l[j].rcv⟩
  | i, c :: t, p, h => by
    simp only [chB, List.mem_cons] at h
    rcases h with rfl | rfl | h
    · exact ⟨0, by simp, .inl rfl⟩
    · exact ⟨0, by simp, .inr rfl⟩
    · obtain ⟨j, hj, h⟩ := chB_in h
      refine ⟨j + 1, by simpa using hj, ?_⟩
      simp only [List.getElem_cons_succ]; rw [show i + (j + 1) = i + 1 + j by omega]; exact h
theorem chB_at : ∀ {i : Nat} {l : List ChanD} {j : Nat} (h : j < l.length), (⟨keyH ((i + j : Nat) : Int), valCh l[j]⟩ : PairD) ∈ chB i l ∧ (⟨keyN ((i + j : Nat) : Int), valN l[j].rcv⟩ : PairD) ∈ chB i l
  | i, c :: t, 0, h => by simp [chB]
  | i, c :: t, j + 1, h => by
    have := chB_at (i := i + 1) (l := t) (j := j) (by simpa using h)
    rw [show i + 1 + j = i + (j + 1) by omega] at this
    simp only [chB, List.mem_cons, List.getElem_cons_succ]; exact ⟨.inr (.inr this.1), .inr (.inr this.2)⟩
/-- What of a book is under which keys. -/
theorem raw_C {s : StateD} {j : Nat} {v : List UInt8} (h : (⟨keyC j, v⟩ : PairD) ∈ rawS s) : ∃ hj : j < s.cns.length, v = valCn s.cns[j] := by
  unfold rawS at h
  simp only [List.mem_append] at h
  rcases h with (((h | h) | h) | h) | h
  · obtain ⟨i, hi, e⟩ := cnB_in h
    simp only [PairD.mk.injEq, Nat.zero_add] at e
    have := keyC_inj (by omega) (by omega) e.1
    have : j = i := by omega
    subst this; exact ⟨hi, e.2⟩
  · obtain ⟨i, hi, e | e⟩ := chB_in h <;> simp [keyC, keyH, keyN] at e
  · obtain ⟨m, _, e⟩ := mkB_mem h; simp [keyC, keyM, wSnt] at e
  · obtain ⟨m, _, e⟩ := mkB_mem h; simp [keyC, keyM, wGt] at e
  · obtain ⟨m, _, e⟩ := mkB_mem h; simp [keyC, keyM, wAk] at e
theorem raw_H {s : StateD} {j : Nat} {v : List UInt8} (h : (⟨keyH j, v⟩ : PairD) ∈ rawS s) : ∃ hj : j < s.chs.length, v = valCh s.chs[j] := by
  unfold rawS at h
  simp only [List.mem_append] at h
  rcases h with (((h | h) | h) | h) | h
  · obtain ⟨i, hi, e⟩ := cnB_in h; simp [keyC, keyH] at e
  · obtain ⟨i, hi, e | e⟩ := chB_in h
    · simp only [PairD.mk.injEq, Nat.zero_add] at e
      have := keyH_inj (by omega) (by omega) e.1
      have : j = i := by omega
      subst this; exact ⟨hi, e.2⟩
    · simp [keyH, keyN] at e
  · obtain ⟨m, _, e⟩ := mkB_mem h; simp [keyH, keyM, wSnt] at e
  · obtain ⟨m, _, e⟩ := mkB_mem h; simp [keyH, keyM, wGt] at e
  · obtain ⟨m, _, e⟩ := mkB_mem h; simp [keyH, keyM, wAk] at e
theorem raw_N {s : StateD} {j : Nat} {v : List UInt8} (h : (⟨keyN j, v⟩ : PairD) ∈ rawS s) : ∃ hj : j < s.chs.length, v = valN s.chs[j].rcv := by
  unfold rawS at h
  simp only [List.mem_append] at h
  rcases h with (((h | h) | h) | h) | h
  · obtain ⟨i, hi, e⟩ := cnB_in h; simp [keyC, keyN] at e
  · obtain ⟨i, hi, e | e⟩ := chB_in h
    · simp [keyH, keyN] at e
    · simp only [PairD.mk.injEq, Nat.zero_add] at e
      have := keyN_inj (by omega) (by omega) e.1
      have : j = i := by omega
      subst this; exact ⟨hi, e.2⟩
  · obtain ⟨m, _, e⟩ := mkB_mem h; simp [keyN, keyM, wSnt] at e
  · obtain ⟨m, _, e⟩ := mkB_mem h; simp [keyN, keyM, wGt] at e
  · obtain ⟨m, _, e⟩ := mkB_mem h; simp [keyN, keyM, wAk] at e
theorem mkB_back {w : List UInt8} {l l' : List MarkD} (h1 : MksOk l) (h2 : MksOk l') {m : MarkD} (hm : m ∈ l) (h : (⟨keyM w m.ch m.seq, m.dg⟩ : PairD) ∈ mkB w l') : m ∈ l' := by
  obtain ⟨q, hq, e⟩ := mkB_mem h
  simp only [PairD.mk.injEq] at e
  have a1 := (h1.all m hm).ch; have a2 := (h1.all m hm).seq
  have b1 := (h2.all q hq).ch; have b2 := (h2.all q hq).seq
  unfold N12 at *
  obtain ⟨c1, c2⟩ := keyM_inj (by omega) (by omega) (by omega) (by omega) e.1
  have : m = q := by cases m; cases q; simp only [MarkD.mk.injEq] at *; exact ⟨c1, c2, e.2⟩
  exact this ▸ hq
theorem raw_no {s : StateD} {w : List UInt8} {a b : Int} {v : List UInt8} (hc : ∀ i c d, keyC i ≠ keyM w c d) (hh : ∀ i c d, keyH i ≠ keyM w c d ∧ keyN i ≠ keyM w c d) (h : (⟨keyM w a b, v⟩ : PairD) ∈ rawS s) : (⟨keyM w a b, v⟩ : PairD) ∈ mkB wSnt s.sent ∨ (⟨keyM w a b, v⟩ : PairD) ∈ mkB wGt s.got ∨ (⟨keyM w a b, v⟩ : PairD) ∈ mkB wAk s.acks := by
  unfold rawS at h
  simp only [List.mem_append] at h
  rcases h with (((h | h) | h) | h) | h
  · obtain ⟨i, hi, e⟩ := cnB_in h; simp only [PairD.mk.injEq] at e; exact absurd e.1.symm (hc _ _ _)
  · obtain ⟨i, hi, e | e⟩ := chB_in h <;> simp only [PairD.mk.injEq] at e
    · exact absurd e.1.symm (hh _ _ _).1
    · exact absurd e.1.symm (hh _ _ _).2
  · exact .inl h
  · exact .inr (.inl h)
  · exact .inr (.inr h)
theorem raw_S {s t : StateD} (ok : StOk s) (ok' : StOk t) {m : MarkD} (hm : m ∈ s.sent) (h : (⟨keyM wSnt m.ch m.seq, m.dg⟩ : PairD) ∈ rawS t) : m ∈ t.sent := by
  rcases raw_no (by simp [keyC, keyM, wSnt]) (by simp [keyH, keyN, keyM, wSnt]) h with h | h | h
  · exact mkB_back ok.sent ok'.sent hm h
  · obtain ⟨q, _, e⟩ := mkB_mem h; simp [keyM, wSnt, wGt] at e
  · obtain ⟨q, _, e⟩ := mkB_mem h; simp [keyM, wSnt, wAk] at e
theorem raw_G {s t : StateD} (ok : StOk s) (ok' : StOk t) {m : MarkD} (hm : m ∈ s.got) (h : (⟨keyM wGt m.ch m.seq, m.dg⟩ : PairD) ∈ rawS t) : m ∈ t.got := by
  rcases raw_no (by simp [keyC, keyM, wGt]) (by simp [keyH, keyN, keyM, wGt]) h with h | h | h
  · obtain ⟨q, _, e⟩ := mkB_mem h; simp [keyM, wSnt, wGt] at e
  · exact mkB_back ok.got ok'.got hm h
  · obtain ⟨q, _, e⟩ := mkB_mem h; simp [keyM, wGt, wAk] at e
theorem raw_A {s t : StateD} (ok : StOk s) (ok' : StOk t) {m : MarkD} (hm : m ∈ s.acks) (h : (⟨keyM wAk m.ch m.seq, m.dg⟩ : PairD) ∈ rawS t) : m ∈ t.acks := by
  rcases raw_no (by simp [keyC, keyM, wAk]) (by simp [keyH, keyN, keyM, wAk]) h with h | h | h
  · obtain ⟨q, _, e⟩ := mkB_mem h; simp [keyM, wSnt, wAk] at e
  · obtain ⟨q, _, e⟩ := mkB_mem h; simp [keyM, wGt, wAk] at e
  · exact mkB_back ok.acks ok'.acks hm h
theorem mks_ext : ∀ {l m : List MarkD}, MksOk l → MksOk m → (∀ x, x ∈ l → x ∈ m) → (∀ x, x ∈ m → x ∈ l) → l = m := fun {l m} h1 h2 ha hb => by
  have s1 : l.Pairwise fun x y => cmpM (mk x) (mk y) < 0 := h1.srt
  have s2 : m.Pairwise fun x y => cmpM (mk x) (mk y) < 0 := h2.srt
  have nd : ∀ {l : List MarkD}, (l.Pairwise fun x y => cmpM (mk x) (mk y) < 0) → l.Nodup := fun {l} h => h.imp fun {a b} hlt e => by
    subst e; have := (cmpM_ok.zero (mk a) (mk a)).2 rfl; omega
  have hp : l.Perm m := (List.perm_ext_iff_of_nodup (nd s1) (nd s2)).2 fun x => ⟨ha x, hb x⟩
  refine hp.eq_of_pairwise (le := fun x y => cmpM (mk x) (mk y) < 0) (fun a b _ _ h3 h4 => ?_) s1 s2
  have := (cmpM_ok.neg (mk a) (mk b)).1 h3; omega
theorem raw_part {s t : StateD} (ok : StOk s) (ok' : StOk t) (h : ∀ p ∈ rawS s, p ∈ rawS t) :
    (∀ j (hj : j < s.cns.length), ∃ hj' : j < t.cns.length, s.cns[j] = t.cns[j]) ∧ (∀ j (hj : j < s.chs.length), ∃ hj' : j < t.chs.length, bareCh s.chs[j] = bareCh t.chs[j]) ∧ (∀ m ∈ s.sent, m ∈ t.sent) ∧ (∀ m ∈ s.got, m ∈ t.got) ∧ (∀ m ∈ s.acks, m ∈ t.acks) := by
  have inl : ∀ {p : PairD}, (p ∈ cnB 0 s.cns ∨ p ∈ chB 0 s.chs ∨ p ∈ mkB wSnt s.sent ∨ p ∈ mkB wGt s.got ∨ p ∈ mkB wAk s.acks) → p ∈ rawS s := fun {p} hp => by
    unfold rawS; simp only [List.mem_append]
    rcases hp with hp | hp | hp | hp | hp
    · exact .inl (.inl (.inl (.inl hp)))
    · exact .inl (.inl (.inl (.inr hp)))
    · exact .inl (.inl (.inr hp))
    · exact .inl (.inr hp)
    · exact .inr hp
  refine ⟨fun j hj => ?_, fun j hj => ?_, fun m hm => ?_, fun m hm => ?_, fun m hm => ?_⟩
  · have h1 := cnB_at (i := 0) hj
    rw [Nat.zero_add] at h1
    obtain ⟨hj', e⟩ := raw_C (h _ (inl (.inl h1)))
    exact ⟨hj', valCn_inj (ok.cns _ (List.getElem_mem hj)) (ok'.cns _ (List.getElem_mem hj')) e⟩
  · obtain ⟨h1, h2⟩ := chB_at (i := 0) hj
    rw [Nat.zero_add] at h1 h2
    obtain ⟨hj', e⟩ := raw_H (h _ (inl (.inr (.inl h1))))
    obtain ⟨_, e'⟩ := raw_N (h _ (inl (.inr (.inl h2))))
    exact ⟨hj', valCh_inj (ok.chs _ (List.getElem_mem hj)) (ok'.chs _ (List.getElem_mem hj')) e e'⟩
  · exact raw_S ok ok' hm (h _ (inl (.inr (.inr (.inl (List.mem_map.2 ⟨m, hm, rfl⟩))))))
  · exact raw_G ok ok' hm (h _ (inl (.inr (.inr (.inr (.inl (List.mem_map.2 ⟨m, hm, rfl⟩)))))))
  · exact raw_A ok ok' hm (h _ (inl (.inr (.inr (.inr (.inr (List.mem_map.2 ⟨m, hm, rfl⟩)))))))
theorem idx_ext {α : Type} {l m : List α} (h1 : ∀ j (hj : j < l.length), ∃ hj' : j < m.length, l[j] = m[j]) (h2 : ∀ j (hj : j < m.length), ∃ hj' : j < l.length, m[j] = l[j]) : l = m := by
  have hl : l.length = m.length := by
    rcases Nat.lt_trichotomy l.length m.length with h | h | h
    · obtain ⟨q, _⟩ := h2 _ h; omega
    · exact h
    · obtain ⟨q, _⟩ := h1 _ h; omega
  exact List.ext_getElem hl fun j a b => (h1 j a).2
theorem chB_bare : ∀ (i : Nat) (l : List ChanD), chB i (l.map bareCh) = chB i l
  | _, [] => rfl
  | i, c :: t => by simp only [List.map_cons, chB, chB_bare (i + 1) t]; rfl
theorem book_unlike {s t : StateD} (ok : StOk s) (ok' : StOk t) : sortP (rawS s) = sortP (rawS t) ↔ bareS s = bareS t := by
  constructor
  · intro h
    have hp : (rawS s).Perm (rawS t) := (sortP_perm _).symm.trans (h ▸ sortP_perm _)
    obtain ⟨a1, a2, a3, a4, a5⟩ := raw_part ok ok' fun p hpm => hp.mem_iff.1 hpm
    obtain ⟨b1, b2, b3, b4, b5⟩ := raw_part ok' ok fun p hpm => hp.mem_iff.2 hpm
    have e1 := idx_ext a1 b1
    have e2 : s.chs.map bareCh = t.chs.map bareCh := idx_ext (fun j hj => by
      obtain ⟨q, e⟩ := a2 j (by simpa using hj); exact ⟨by simpa using q, by simpa using e⟩) (fun j hj => by
      obtain ⟨q, e⟩ := b2 j (by simpa using hj); exact ⟨by simpa using q, by simpa using e⟩)
    have e3 := mks_ext ok.sent ok'.sent a3 b3
    have e4 := mks_ext ok.got ok'.got a4 b4
    have e5 := mks_ext ok.acks ok'.acks a5 b5
    unfold bareS
    rw [e1, e2, e3, e4, e5]
  · intro h
    simp only [bareS, StateD.mk.injEq, true_and, and_true] at h
    obtain ⟨e1, e2, e3, e4, e5⟩ := h
    have : rawS s = rawS t := by
      unfold rawS
      rw [e1, e3, e4, e5, ← chB_bare 0 s.chs, e2, chB_bare]
    rw [this]
end Go.Proofs.YtmclpbcipkdmcaaDoor
