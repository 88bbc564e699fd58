/- landlaw14.alive. -/
import Derived.Test.YtfenipelcpmkpaaGreatDoorBrF
import Derived.Test.YtfenipelcpmkpaaGreatDoorLaw14P
set_option linter.all false
set_option maxHeartbeats 16000000
set_option maxRecDepth 20000
namespace Go.Proofs.YtfenipelcpmkpaaGreatDoor
open Go Go.Abs Go.RowKit Go.Proofs.YtfenipelcpmkpaaGreatDoor.Ty
def ev4:EvD:=⟨1,0,4,0,0,r_⟩
theorem Yt:∀ e∈[ev4],Zz e:=by
 intro e he
 rw [List.mem_singleton.1 he]
 exact ⟨oK,⟨by unfold gZ; decide,by unfold gZ; decide,by unfold gZ; decide,by unfold gZ; decide⟩⟩
theorem root_begin (name owner denom:ByteArray) (ok:StOk (aX name owner denom).s):(gu (aX name owner denom).s).2=0/\(gu (aX name owner denom).s).1.length=32:=by
 have hb:iq (aX name owner denom).s=([],0):=by
  unfold iq
  rw [if_pos (aM.2 ok)]
  have:RF (aX name owner denom).s=[]:=rfl
  rw [this]; simp [oV]
 unfold gu
 rw [hb]
 simp only [if_true]
 have hw:dK []=(0,0):=si ⟨by simp,(fun _ h=>by cases h),(fun i j h=>by simp at h)⟩
 refine ⟨by rw [hw]; rfl,?_⟩
 unfold GQ zV GG
 rw [if_pos (by rw [hw]),dD]
theorem FL (l:List dN):(bX l).length=32:=dD _
theorem D_:(dn (aX nmA ownA goldA) 4).2.err=0:=by
 have ok:StOk (aX nmA ownA goldA).s:=lL.a.ok
 obtain ⟨h2,h3⟩:=root_begin nmA ownA goldA ok
 have h1:(jD (aX nmA ownA goldA).s 4).2=0:=by
  unfold jD
  rw [if_pos (aM.2 ok)]; rfl
 have hv:jB (aX nmA ownA goldA).vals=0:=by
  have:(aX nmA ownA goldA).vals=[⟨137372978395941003,1⟩,⟨328794099354644600,1⟩,⟨939190343215927135,1⟩]:=by
   show Gy nmA=_
   rw [zF (by rw [Uo,KE]; decide) (by rw [KE,Un]; decide)]
   simp [List.range_succ,Uo,KE,Un]
  rw [this]; decide
 have hw:fB (ug (aX nmA ownA goldA))=0:=by
  unfold fB
  have e1:(ug (aX nmA ownA goldA)).root.length=32:=h3
  have e2:(ug (aX nmA ownA goldA)).vals.length=32:=FL _
  have e3:(ug (aX nmA ownA goldA)).next.length=32:=FL _
  rw [if_pos (show jN (ug (aX nmA ownA goldA)).c=true from ok.name),if_neg (by show ¬ ((1:Int) < 1\/¬ vg 1=true\/¬ vg 1=true); decide),if_neg (by rw [e1,e2,e3]; decide)]
 have h4:(kJ (ug (aX nmA ownA goldA)) (aX nmA ownA goldA).vals (aX nmA ownA goldA).seeds).2=0:=by
  unfold kJ
  rw [if_pos hw,if_pos hv,if_pos (show bX (aX nmA ownA goldA).vals=(ug (aX nmA ownA goldA)).vals from rfl)]
 unfold dn
 rw [if_pos h1,if_pos h2,if_pos h4]
theorem OY {A B:aJ} {e:EvD} (hs:e.side=0) (hk:e.kind=1) (h1:A.s.h=1) (h2:A.s.t=1) (h3:A.past=[]) (h4:B.s.h=1) (h5:e.later=4) (hb:(dn A 4).2.err=0):∃ w d,gW (A,B) [e]=(w,[d])/\w.1.s.h=2/\w.1.s.t=5/\w.2.s.h=1/\d.num=1:=by
 have ho:fM A B e=dn A 4:=by unfold fM; rw [if_pos hk,h5]
 obtain ⟨a,b,c,d,_⟩:=one_block (c:=A) (o:=B) (e:=e) hk (by rw [ho]; exact hb)
 refine ⟨_,_,by simp only [gW]; rw [wY hs],?_,?_,h4,?_⟩
 ·simp only; rw [a,h1]; rfl
 ·simp only; rw [b,h2,h5]; rfl
 ·simp only; rw [d,h3]; rfl
theorem play4:∃ w d,sV [ev4]=(w,[d])/\w.1.s.h=2/\w.1.s.t=5/\w.2.s.h=1/\d.num=1 :=
 OY (A:=aX nmA ownA goldA) (B:=aX nmB BS BJ) (e:=ev4) rfl rfl rfl rfl rfl rfl rfl D_
theorem Nj:PureD Tryz.prog 28 [] (boolD true):=by
 refine au fun R hR=>?_
 have c1:=Jv [ev4] (by simp) Yt
 obtain ⟨w,d,e,h1,h2,h3,h4⟩:=play4
 rw [if_neg (by simp),e] at c1
 simp only [ev4,List.map_cons,List.map_nil] at c1
 clear e
 refine aa 43 Tryz.func28 rfl rfl rfl (fun _ _=>rfl) ?_
 exact wkl trivial
end Go.Proofs.YtfenipelcpmkpaaGreatDoor
