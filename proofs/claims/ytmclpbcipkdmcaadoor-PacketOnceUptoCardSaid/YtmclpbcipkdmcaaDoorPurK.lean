/- Purses by their keys. No program is in sight. -/
import Derived.Test.YtmclpbcipkdmcaaDoorPurD
import Derived.Test.YtmclpbcipkdmcaaDoorCmpO
import Derived.Test.YtmclpbcipkdmcaaDoorKL
set_option linter.all false
namespace Go.Proofs.YtmclpbcipkdmcaaDoor
open Go Go.Abs

theorem cmpS_ok : KL.CmpOk cmpS where
  zero := fun _ _ => cmpS_zero
  neg := fun a b => by unfold cmpS; rw [cmp_neg b.data.toList a.data.toList]; omega
  trans := fun a b d h1 h2 => cmp_trans _ _ _ h1 h2
abbrev PKey := ByteArray × ByteArray
def pk (p : PurseD) : PKey := (p.o, p.d)
def cmpP (a b : PKey) : Int := if cmpS a.1 b.1 = 0 then cmpS a.2 b.2 else cmpS a.1 b.1
theorem cmpP_ok : KL.CmpOk cmpP where
  zero := fun a b => by
    unfold cmpP
    by_cases h : cmpS a.1 b.1 = 0
    · rw [if_pos h]
      rw [cmpS_zero] at h
      rw [cmpS_zero]
      constructor
      · intro h2; exact Prod.ext h h2
      · rintro rfl; rfl
    · rw [if_neg h]
      constructor
      · intro h2; exact absurd h2 h
      · rintro rfl; exact absurd (cmpS_zero.2 rfl) h
  neg := fun a b => by
    have h1 := cmpS_ok.neg a.1 b.1
    have h2 := cmpS_ok.neg b.1 a.1
    have h3 := cmpS_ok.neg a.2 b.2
    unfold cmpP
    split <;> split <;> omega
  trans := fun a b d => by
    intro h1 h2
    have t1 := cmpS_ok.trans a.1 b.1 d.1
    have t2 := cmpS_ok.trans a.2 b.2 d.2
    unfold cmpP at *
    by_cases e1 : cmpS a.1 b.1 = 0
    · have e1' := cmpS_zero.1 e1
      rw [if_pos e1] at h1
      rw [e1']
      by_cases e2 : cmpS b.1 d.1 = 0
      · rw [if_pos e2] at h2 ⊢; exact t2 h1 h2
      · rw [if_neg e2] at h2 ⊢; exact h2
    · rw [if_neg e1] at h1
      by_cases e2 : cmpS b.1 d.1 = 0
      · have e2' := cmpS_zero.1 e2
        rw [← e2', if_neg e1]; exact h1
      · rw [if_neg e2] at h2
        have := t1 h1 h2
        rw [if_neg (by omega)]; exact this
abbrev SrtP (l : List PurseD) : Prop := KL.Srt pk cmpP l
abbrev placeP (l : List PurseD) (o d : ByteArray) : Nat := KL.place pk cmpP l (o, d)
abbrev getP (l : List PurseD) (o d : ByteArray) : Option PurseD := KL.get pk cmpP l (o, d)

end Go.Proofs.YtmclpbcipkdmcaaDoor
