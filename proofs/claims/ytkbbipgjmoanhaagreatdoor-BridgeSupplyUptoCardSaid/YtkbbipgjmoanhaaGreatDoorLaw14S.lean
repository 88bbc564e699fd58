/- The law BridgeSupply: the walk. -/
import Derived.Test.YtkbbipgjmoanhaaGreatDoorLaw14A
set_option linter.all false
set_option maxHeartbeats 16000000
set_option maxRecDepth 20000
namespace Go.Proofs.YtkbbipgjmoanhaaGreatDoor
open Go Go.Abs Go.RowKit Go.Proofs.YtkbbipgjmoanhaaGreatDoor.Ty
theorem walk_BridgeSupply (y0:I) (l:List EvD) (e0:y0=G_ l/\∀ e∈l,kg e.m) (hb:bkI y0<=1048576) :
  ∃ Ds,PureD Tryz.prog 4 Ds (.i (.s (.bool true)))/\Ds=[.i y0]:=by
 obtain ⟨rfl,h64⟩:=e0
 refine ⟨_,?_,rfl⟩
 obtain ⟨he,hl⟩:=evs_sm (n:=1048576) hb (by omega) h64
 clear hb h64
 refine aj fun R hR=>?_
 have c1:=lw
 have c2:=nM l (by omega) he
 unfold G_
 by_cases h:(120:Int) < l.length
 ·rw [if_pos h] at c2
  clear he
  refine aa 53 Tryz.func4 rfl rfl rfl (fun _ _=>rfl) ?_
  exact wkl trivial
 ·rw [if_neg h] at c2
  have hw:=uU l begin2_ok (by omega)
  obtain ⟨s1,s2⟩:=run_sup l begin2_ok (by omega)
  have c3:=wB (playB l).1.1.s.pus goldA (by have:=hw.a.ok.lpus; unfold playB; omega) hw.a.p64
  have c4:=wB (playB l).1.2.s.pus kG (by have:=hw.b.ok.lpus; unfold playB; omega) hw.b.p64
  have b1:jv begin2.1.s.pus goldA=1000:=by simp [begin2,aU,jv]
  have b2:jv begin2.2.s.pus kG=1000:=by simp [begin2,aU,jv]
  rw [show jv (playB l).1.1.s.pus goldA=1000 from s1.trans b1] at c3
  rw [show jv (playB l).1.2.s.pus kG=1000 from s2.trans b2] at c4
  simp only [jB,sD,wD,goldA,kG,show ¬ (18446744073709551616<=1000) by decide,decide_false,if_false] at c3 c4
  clear hw s1 s2 b1 b2 he
  generalize playB l=W at *
  obtain ⟨⟨A,B⟩,ds⟩:=W
  refine aa 53 Tryz.func4 rfl rfl rfl (fun _ _=>rfl) ?_
  exact wkl trivial
end Go.Proofs.YtkbbipgjmoanhaaGreatDoor
