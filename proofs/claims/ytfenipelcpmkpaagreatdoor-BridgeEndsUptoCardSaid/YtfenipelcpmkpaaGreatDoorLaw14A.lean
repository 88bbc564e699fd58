/- landlaw14.alive. -/
import Derived.Test.YtfenipelcpmkpaaGreatDoorBrF
import Derived.Test.YtfenipelcpmkpaaGreatDoorLaw14P
set_option linter.all false
set_option maxHeartbeats 16000000
set_option maxRecDepth 20000
namespace Go.Proofs.YtfenipelcpmkpaaGreatDoor
open Go Go.Abs Go.RowKit Go.Proofs.YtfenipelcpmkpaaGreatDoor.Ty
def ev4:EvD:=⟨1,0,4,0,0,sw⟩
theorem Yt:∀ e∈[ev4],ZE e:=by
 intro e he
 rw [List.mem_singleton.1 he]
 exact ⟨oU,⟨by unfold gY; decide,by unfold gY; decide,by unfold gY; decide,by unfold gY; decide⟩⟩
theorem root_begin (name owner denom:ByteArray) (ok:StOk (aX name owner denom).s):(jW (aX name owner denom).s).2=0/\(jW (aX name owner denom).s).1.length=32:=by
 have hb:gF (aX name owner denom).s=([],0):=by
  unfold gF
  rw [if_pos (wrongS_zero.2 ok)]
  have:Ht (aX name owner denom).s=[]:=rfl
  rw [this]; simp [pE]
 unfold jW
 rw [hb]
 simp only [if_true]
 have hw:dP []=(0,0):=sF ⟨by simp,(fun _ h=>by cases h),(fun i j h=>by simp at h)⟩
 refine ⟨by rw [hw]; rfl,?_⟩
 unfold Hm Aa GX
 rw [if_pos (by rw [hw]),dH]
theorem FW (l:List dR):(dh l).length=32:=dH _
theorem Ef:(dC (aX nmA ownA goldA) 4).2.err=0:=by
 have ok:StOk (aX nmA ownA goldA).s:=lS.a.ok
 obtain ⟨h2,h3⟩:=root_begin nmA ownA goldA ok
 have h1:(jA (aX nmA ownA goldA).s 4).2=0:=by
  unfold jA
  rw [if_pos (wrongS_zero.2 ok)]; rfl
 have hv:jw (aX nmA ownA goldA).vals=0:=by
  have:(aX nmA ownA goldA).vals=[⟨137372978395941003,1⟩,⟨328794099354644600,1⟩,⟨939190343215927135,1⟩]:=by
   show GQ nmA=_
   rw [zK (by rw [Ut,KU]; decide) (by rw [KU,Us]; decide)]
   simp [List.range_succ,Ut,KU,Us]
  rw [this]; decide
 have hw:fC (uk (aX nmA ownA goldA))=0:=by
  unfold fC
  have e1:(uk (aX nmA ownA goldA)).root.length=32:=h3
  have e2:(uk (aX nmA ownA goldA)).vals.length=32:=FW _
  have e3:(uk (aX nmA ownA goldA)).next.length=32:=FW _
  rw [if_pos (show jK (uk (aX nmA ownA goldA)).c=true from ok.name),if_neg (by show ¬ ((1:Int) < 1\/¬ vw 1=true\/¬ vw 1=true); decide),if_neg (by rw [e1,e2,e3]; decide)]
 have h4:(kG (uk (aX nmA ownA goldA)) (aX nmA ownA goldA).vals (aX nmA ownA goldA).seeds).2=0:=by
  unfold kG
  rw [if_pos hw,if_pos hv,if_pos (show dh (aX nmA ownA goldA).vals=(uk (aX nmA ownA goldA)).vals from rfl)]
 unfold dC
 rw [if_pos h1,if_pos h2,if_pos h4]
theorem Pk {A B:aR} {e:EvD} (hs:e.side=0) (hk:e.kind=1) (h1:A.s.h=1) (h2:A.s.t=1) (h3:A.past=[]) (h4:B.s.h=1) (h5:e.later=4) (hb:(dC A 4).2.err=0):∃ w d,n_ (A,B) [e]=(w,[d])/\w.1.s.h=2/\w.1.s.t=5/\w.2.s.h=1/\d.num=1:=by
 have ho:iD A B e=dC A 4:=by unfold iD; rw [if_pos hk,h5]
 obtain ⟨a,b,c,d,_⟩:=one_block (c:=A) (o:=B) (e:=e) hk (by rw [ho]; exact hb)
 refine ⟨_,_,by simp only [n_]; rw [BQ hs],?_,?_,h4,?_⟩
 ·simp only; rw [a,h1]; rfl
 ·simp only; rw [b,h2,h5]; rfl
 ·simp only; rw [d,h3]; rfl
theorem play4:∃ w d,Ca [ev4]=(w,[d])/\w.1.s.h=2/\w.1.s.t=5/\w.2.s.h=1/\d.num=1 :=
 Pk (A:=aX nmA ownA goldA) (B:=aX nmB Ce BS) (e:=ev4) rfl rfl rfl rfl rfl rfl rfl Ef
theorem Nv:PureD Tryz.prog 28 [] (boolD true):=by
 refine au fun R hR=>?_
 have c1:=RO [ev4] (by simp) Yt
 obtain ⟨w,d,e,h1,h2,h3,h4⟩:=play4
 rw [if_neg (by simp),e] at c1
 simp only [ev4,List.map_cons,List.map_nil] at c1
 clear e
 refine aa 43 Tryz.func28 rfl rfl rfl (fun _ _=>rfl) ?_
 exact wkl trivial
end Go.Proofs.YtfenipelcpmkpaaGreatDoor
