/- landlaw14.alive. -/
import Derived.Test.YtkbbipgjmoanhaaGreatDoorBrF
import Derived.Test.YtkbbipgjmoanhaaGreatDoorLaw14P
set_option linter.all false
set_option maxHeartbeats 16000000
set_option maxRecDepth 20000
namespace Go.Proofs.YtkbbipgjmoanhaaGreatDoor
open Go Go.Abs Go.RowKit Go.Proofs.YtkbbipgjmoanhaaGreatDoor.Ty
def ev4:EvD:=⟨1,0,4,0,0,rE⟩
theorem Xi:∀ e∈[ev4],XX e:=by
 intro e he
 rw [List.mem_singleton.1 he]
 exact ⟨ou,⟨by unfold gK; decide,by unfold gK; decide,by unfold gK; decide,by unfold gK; decide⟩⟩
theorem root_begin (name owner denom:ByteArray) (ok:StOk (aU name owner denom).s):(jN (aU name owner denom).s).2=0/\(jN (aU name owner denom).s).1.length=32:=by
 have hb:gU (aU name owner denom).s=([],0):=by
  unfold gU
  rw [if_pos (aG.2 ok)]
  have:QD (aU name owner denom).s=[]:=rfl
  rw [this]; simp [oH]
 unfold jN
 rw [hb]
 simp only [if_true]
 have hw:dD []=(0,0):=rF ⟨by simp,(fun _ h=>by cases h),(fun i j h=>by simp at h)⟩
 refine ⟨by rw [hw]; rfl,?_⟩
 unfold Gd zA FW
 rw [if_pos (by rw [hw]),dn]
theorem EW (l:List dI):(bX l).length=32:=dn _
theorem Dr:(dh (aU nmA ownA goldA) 4).2.err=0:=by
 have ok:StOk (aU nmA ownA goldA).s:=begin2_ok.a.ok
 obtain ⟨h2,h3⟩:=root_begin nmA ownA goldA ok
 have h1:(jh (aU nmA ownA goldA).s 4).2=0:=by
  unfold jh
  rw [if_pos (aG.2 ok)]; rfl
 have hv:jf (aU nmA ownA goldA).vals=0:=by
  have:(aU nmA ownA goldA).vals=[⟨137372978395941003,1⟩,⟨328794099354644600,1⟩,⟨939190343215927135,1⟩]:=by
   show FR nmA=_
   rw [ze (by rw [Tf,JM]; decide) (by rw [JM,Te]; decide)]
   simp [List.range_succ,Tf,JM,Te]
  rw [this]; decide
 have hw:fo (tC (aU nmA ownA goldA))=0:=by
  unfold fo
  have e1:(tC (aU nmA ownA goldA)).root.length=32:=h3
  have e2:(tC (aU nmA ownA goldA)).vals.length=32:=EW _
  have e3:(tC (aU nmA ownA goldA)).next.length=32:=EW _
  rw [if_pos (show mi (tC (aU nmA ownA goldA)).c=true from ok.name),if_neg (by show ¬ ((1:Int) < 1\/¬ uG 1=true\/¬ uG 1=true); decide),if_neg (by rw [e1,e2,e3]; decide)]
 have h4:(ko (tC (aU nmA ownA goldA)) (aU nmA ownA goldA).vals (aU nmA ownA goldA).seeds).2=0:=by
  unfold ko
  rw [if_pos hw,if_pos hv,if_pos (show bX (aU nmA ownA goldA).vals=(tC (aU nmA ownA goldA)).vals from rfl)]
 unfold dh
 rw [if_pos h1,if_pos h2,if_pos h4]
theorem NZ {A B:aQ} {e:EvD} (hs:e.side=0) (hk:e.kind=1) (h1:A.s.h=1) (h2:A.s.t=1) (h3:A.past=[]) (h4:B.s.h=1) (h5:e.later=4) (hb:(dh A 4).2.err=0):∃ w d,eG (A,B) [e]=(w,[d])/\w.1.s.h=2/\w.1.s.t=5/\w.2.s.h=1/\d.num=1:=by
 have ho:fB A B e=dh A 4:=by unfold fB; rw [if_pos hk,h5]
 obtain ⟨a,b,c,d,_⟩:=one_block (c:=A) (o:=B) (e:=e) hk (by rw [ho]; exact hb)
 refine ⟨_,_,by simp only [eG]; rw [wF hs],?_,?_,h4,?_⟩
 ·simp only; rw [a,h1]; rfl
 ·simp only; rw [b,h2,h5]; rfl
 ·simp only; rw [d,h3]; rfl
theorem play4:∃ w d,playB [ev4]=(w,[d])/\w.1.s.h=2/\w.1.s.t=5/\w.2.s.h=1/\d.num=1 :=
 NZ (A:=aU nmA ownA goldA) (B:=aU nmB Bu kG) (e:=ev4) rfl rfl rfl rfl rfl rfl rfl Dr
theorem lw:PureD Tryz.prog 9 [] (boolD true):=by
 refine aj fun R hR=>?_
 have c1:=nM [ev4] (by simp) Xi
 obtain ⟨w,d,e,h1,h2,h3,h4⟩:=play4
 rw [if_neg (by simp),e] at c1
 simp only [ev4,List.map_cons,List.map_nil] at c1
 clear e
 refine aa 43 Tryz.func9 rfl rfl rfl (fun _ _=>rfl) ?_
 exact wkl trivial
end Go.Proofs.YtkbbipgjmoanhaaGreatDoor
