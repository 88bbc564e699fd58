/- The laws of pieces and bytes: what is written is read, what is read was written so, and what is unlike is written unlike. No program is in sight. -/
import Derived.Test.YtmclpbcipkdmcaaDoorWireS
set_option linter.all false
namespace Go.Proofs.YtmclpbcipkdmcaaDoor

def n64s (l : List PieceD) : Prop := ∀ p ∈ l, p.n < 18446744073709551616

theorem writeGo_read : ∀ (l : List PieceD) (acc : List UInt8) (i : Nat) (x : List UInt8) (a : Nat), writeGo acc i l = (x, 0, a) → n64s l → acc.length ≤ 20000 →
    ∃ xs m, x = acc ++ xs ∧ x.length ≤ 20000 ∧ readGo l.length xs = some m ∧ piecesSame l m = true
  | [], acc, i, x, a, h, _, hacc => by
    simp [writeGo] at h
    exact ⟨[], [], by simp [h.1], by rw [← h.1]; exact hacc, by simp [readGo], rfl⟩
  | p :: r, acc, i, x, a, h, hn, hacc => by
    rw [writeGo] at h
    cases hw : wpiece p with
    | none => rw [hw] at h; simp at h
    | some y =>
      rw [hw] at h
      simp only [] at h
      by_cases hbig : 20000 < (acc ++ y).length
      · rw [if_pos hbig] at h; simp at h
      · rw [if_neg hbig] at h
        obtain ⟨xs, m, hx, hl, hr, hs⟩ := writeGo_read r (acc ++ y) (i + 1) x a h (fun q hq => hn q (by simp [hq])) (by omega)
        have hpn := hn p (by simp)
        unfold wpiece at hw
        split at hw
        · rename_i hk
          cases hw
          refine ⟨0 :: vnum p.n ++ xs, ⟨1, p.n, []⟩ :: m, by rw [hx, List.append_assoc], hl, ?_, ?_⟩
          · rw [List.length_cons, List.cons_append, readGo, take_vnum _ _ hpn]
            simp [hr]
          · simp [piecesSame, pieceSame, hs, hk]
        · split at hw
          · rename_i hk1 hk
            cases hw
            have hb : p.b.length ≤ 20000 := by simp at hbig; omega
            refine ⟨1 :: (vnum p.b.length ++ p.b) ++ xs, ⟨2, 0, p.b⟩ :: m, by rw [hx, List.append_assoc], hl, ?_, ?_⟩
            · rw [List.length_cons, List.cons_append, List.append_assoc, readGo, take_vnum _ _ (by omega)]
              simp [hr]
            · simp [piecesSame, pieceSame, hs, hk]
          · cases hw

theorem vnum_len_le (n : Nat) : (vnum n).length ≤ 10 := by
  have : ∀ f n, (vnumF f n).length ≤ f + 1 := by
    intro f
    induction f with
    | zero => intro n; simp [vnumF]
    | succ f ih => intro n; rw [vnumF]; split <;> simp; exact ih _
  exact this 9 n

/-- WHAT IS WRITTEN IS READ. -/
theorem write_read {l : List PieceD} {x : List UInt8} {a : Nat} (h : writeF l = (x, 0, a)) (hn : n64s l) : ∃ m, readF x = (m, 0) ∧ piecesSame l m = true := by
  unfold writeF at h
  split at h
  · simp at h
  · rename_i hlen
    have hv := vnum_len_le l.length
    obtain ⟨xs, m, hx, hl, hr, hs⟩ := writeGo_read l _ _ _ _ h hn (by omega)
    refine ⟨m, ?_, hs⟩
    unfold readF
    rw [if_neg (by omega), hx, take_vnum _ _ (by omega)]
    simp only []
    rw [if_neg (by omega), hr]

theorem readGo_write : ∀ (k : Nat) (r : List UInt8) (m : List PieceD), readGo k r = some m → m.length = k ∧ n64s m ∧ ∀ (acc : List UInt8) (i : Nat), (acc ++ r).length ≤ 20000 → writeGo acc i m = (acc ++ r, 0, 0)
  | 0, r, m, h => by
    simp [readGo] at h
    obtain ⟨rfl, rfl⟩ := h
    exact ⟨rfl, fun p hp => by simp at hp, fun acc i _ => by simp [writeGo]⟩
  | k + 1, [], m, h => by simp [readGo] at h
  | k + 1, c :: s, m, h => by
    rw [readGo] at h
    cases ht : takeN 0 0 s with
    | none => rw [ht] at h; simp at h
    | some vr =>
      obtain ⟨v, r'⟩ := vr
      rw [ht] at h
      simp only [] at h
      obtain ⟨hs, hv⟩ := takeN_vnum ht
      split at h
      · rename_i hc
        subst hc
        cases hm : readGo k r' with
        | none => rw [hm] at h; simp at h
        | some m' =>
          rw [hm] at h
          simp at h
          subst h
          obtain ⟨h1, h2, h3⟩ := readGo_write k r' m' hm
          refine ⟨by simp [h1], fun p hp => ?_, fun acc i hl => ?_⟩
          · rcases List.mem_cons.1 hp with rfl | hp
            · exact hv
            · exact h2 p hp
          · rw [writeGo]
            have hw : wpiece ⟨1, v, []⟩ = some (0 :: vnum v) := by simp [wpiece]
            rw [hw]
            simp only []
            rw [hs] at hl
            have e : acc ++ (0 :: vnum v) ++ r' = acc ++ 0 :: s := by rw [hs]; simp
            rw [if_neg (by simp at hl ⊢; omega), h3 _ _ (by rw [e, hs]; exact hl), e]
      · split at h
        · rename_i hc0 hc
          subst hc
          split at h
          · cases h
          · rename_i hlen
            cases hm : readGo k (r'.drop v) with
            | none => rw [hm] at h; simp at h
            | some m' =>
              rw [hm] at h
              simp at h
              subst h
              obtain ⟨h1, h2, h3⟩ := readGo_write k _ m' hm
              refine ⟨by simp [h1], fun p hp => ?_, fun acc i hl => ?_⟩
              · rcases List.mem_cons.1 hp with rfl | hp
                · simp
                · exact h2 p hp
              · rw [writeGo]
                have hlv : (r'.take v).length = v := by rw [List.length_take]; omega
                have hw : wpiece ⟨2, 0, r'.take v⟩ = some (1 :: (vnum v ++ r'.take v)) := by simp [wpiece, hlv]
                rw [hw]
                simp only []
                rw [hs] at hl
                have e : acc ++ (1 :: (vnum v ++ r'.take v)) ++ r'.drop v = acc ++ 1 :: s := by
                  rw [hs]; simp
                rw [if_neg (by simp [hlv] at hl ⊢; omega), h3 _ _ (by rw [e, hs]; exact hl), e]
        · cases h

/-- WHAT IS READ WAS WRITTEN SO. -/
theorem read_write {b : List UInt8} {m : List PieceD} (h : readF b = (m, 0)) : writeF m = (b, 0, 0) ∧ n64s m := by
  unfold readF at h
  split at h
  · simp at h
  · rename_i hb
    cases ht : takeN 0 0 b with
    | none => rw [ht] at h; simp at h
    | some vr =>
      obtain ⟨n, r⟩ := vr
      rw [ht] at h
      simp only [] at h
      split at h
      · simp at h
      · rename_i hn
        cases hm : readGo n r with
        | none => rw [hm] at h; simp at h
        | some m' =>
          rw [hm] at h
          simp at h
          subst h
          obtain ⟨hs, _⟩ := takeN_vnum ht
          obtain ⟨h1, h2, h3⟩ := readGo_write n r m' hm
          refine ⟨?_, h2⟩
          unfold writeF
          rw [h1, if_neg hn, hs]
          exact h3 _ _ (by rw [← hs]; omega)

theorem read_no {b : List UInt8} {m : List PieceD} {e : Nat} (h : readF b = (m, e)) (he : e ≠ 0) : m = [] := by
  unfold readF at h
  split at h
  · cases h; rfl
  · split at h
    · cases h; rfl
    · split at h
      · cases h; rfl
      · split at h
        · cases h; rfl
        · cases h; exact absurd rfl he

theorem pieceSame_wpiece {p q : PieceD} (h : pieceSame p q = true) : wpiece p = wpiece q := by
  simp [pieceSame] at h
  obtain ⟨⟨hk, h1⟩, h2⟩ := h
  unfold wpiece
  rw [← hk]
  by_cases k1 : p.kind = 1
  · rw [if_pos k1, if_pos k1, h1.resolve_left (fun h => h k1)]
  · rw [if_neg k1, if_neg k1]
    by_cases k2 : p.kind = 2
    · rw [if_pos k2, if_pos k2, h2.resolve_left (fun h => h k2)]
    · rw [if_neg k2, if_neg k2]
theorem same_len_pieces : ∀ {l m : List PieceD}, piecesSame l m = true → l.length = m.length
  | [], [], _ => rfl
  | [], _ :: _, h => by simp [piecesSame] at h
  | _ :: _, [], h => by simp [piecesSame] at h
  | p :: l, q :: m, h => by simp [piecesSame] at h; simp [same_len_pieces h.2]
theorem same_writeGo : ∀ {l m : List PieceD} (acc : List UInt8) (i : Nat), piecesSame l m = true → writeGo acc i l = writeGo acc i m
  | [], [], _, _, _ => rfl
  | [], _ :: _, _, _, h => by simp [piecesSame] at h
  | _ :: _, [], _, _, h => by simp [piecesSame] at h
  | p :: l, q :: m, acc, i, h => by
    simp [piecesSame] at h
    rw [writeGo, writeGo, pieceSame_wpiece h.1]
    cases wpiece q with
    | none => rfl
    | some x => simp only []; rw [same_writeGo (acc ++ x) (i + 1) h.2]
theorem same_write {l m : List PieceD} (h : piecesSame l m = true) : writeF l = writeF m := by
  unfold writeF
  rw [same_len_pieces h, same_writeGo _ _ h]
theorem pieceSame_trans {p q r : PieceD} (h1 : pieceSame p q = true) (h2 : pieceSame r q = true) : pieceSame p r = true := by
  simp [pieceSame] at *
  obtain ⟨⟨a, b⟩, c⟩ := h1
  obtain ⟨⟨d, e⟩, f⟩ := h2
  refine ⟨⟨by rw [a, d], ?_⟩, ?_⟩
  · rcases b with b | b
    · exact .inl b
    · rcases e with e | e
      · exact .inl (by rw [a, ← d]; exact e)
      · exact .inr (by rw [b, e])
  · rcases c with c | c
    · exact .inl c
    · rcases f with f | f
      · exact .inl (by rw [a, ← d]; exact f)
      · exact .inr (by rw [c, f])
theorem piecesSame_trans : ∀ {l m k : List PieceD}, piecesSame l m = true → piecesSame k m = true → piecesSame l k = true
  | [], [], [], _, _ => rfl
  | [], [], _ :: _, _, h => by simp [piecesSame] at h
  | _ :: _, _ :: _, [], _, h => by simp [piecesSame] at h
  | [], _ :: _, _, h, _ => by simp [piecesSame] at h
  | _ :: _, [], _, h, _ => by simp [piecesSame] at h
  | p :: l, q :: m, r :: k, h1, h2 => by
    simp only [piecesSame, Bool.and_eq_true] at *
    exact ⟨pieceSame_trans h1.1 h2.1, piecesSame_trans h1.2 h2.2⟩

/-- WHAT IS UNLIKE IS WRITTEN UNLIKE. -/
theorem write_unlike {l m : List PieceD} {x y : List UInt8} {a b : Nat} (h1 : writeF l = (x, 0, a)) (h2 : writeF m = (y, 0, b)) (n1 : n64s l) (n2 : n64s m) : decide (x = y) = piecesSame l m := by
  by_cases h : x = y
  · subst h
    obtain ⟨k, hk, s1⟩ := write_read h1 n1
    obtain ⟨k', hk', s2⟩ := write_read h2 n2
    rw [hk] at hk'
    cases hk'
    simp [piecesSame_trans s1 s2]
  · rw [decide_eq_false h]
    symm
    cases hs : piecesSame l m with
    | false => rfl
    | true =>
      have := same_write hs
      rw [h1, h2] at this
      exact absurd (congrArg Prod.fst this) h
theorem writeGo_len : ∀ (l : List PieceD) (acc : List UInt8) (i : Nat), acc.length ≤ 20000 → (writeGo acc i l).1.length ≤ 20000
  | [], acc, i, h => h
  | p :: r, acc, i, h => by
    simp only [writeGo]
    split
    · simp
    · split
      · simp
      · exact writeGo_len r _ _ (by omega)
theorem writeF_len (l : List PieceD) : (writeF l).1.length ≤ 20000 := by
  unfold writeF
  split
  · simp
  · exact writeGo_len l _ _ (by have := vnum_len_le l.length; omega)
end Go.Proofs.YtmclpbcipkdmcaaDoor
