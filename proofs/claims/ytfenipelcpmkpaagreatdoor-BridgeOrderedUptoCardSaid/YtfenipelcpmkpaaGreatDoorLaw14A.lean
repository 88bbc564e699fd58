/- landlaw14.alive. -/
import Derived.Test.YtfenipelcpmkpaaGreatDoorBrF
import Derived.Test.YtfenipelcpmkpaaGreatDoorLaw14P
set_option linter.all false
set_option maxHeartbeats 16000000
set_option maxRecDepth 20000
namespace Go.Proofs.YtfenipelcpmkpaaGreatDoor
open Go Go.Abs Go.RowKit Go.Proofs.YtfenipelcpmkpaaGreatDoor.Ty
def ev4:EvD:=⟨1,0,4,0,0,oP⟩
theorem Yr:∀ e∈[ev4],ZA e:=by
 intro e he
 rw [List.mem_singleton.1 he]
 exact ⟨oO,⟨by unfold gW; decide,by unfold gW; decide,by unfold gW; decide,by unfold gW; decide⟩⟩
theorem root_begin (name owner denom:ByteArray) (ok:StOk (aW name owner denom).s):(jT (aW name owner denom).s).2=0/\(jT (aW name owner denom).s).1.length=32:=by
 have hb:ic (aW name owner denom).s=([],0):=by
  unfold ic
  rw [if_pos (aL.2 ok)]
  have:Rx (aW name owner denom).s=[]:=rfl
  rw [this]; simp [pq]
 unfold jT
 rw [hb]
 simp only [if_true]
 have hw:dM []=(0,0):=su ⟨by simp,(fun _ h=>by cases h),(fun i j h=>by simp at h)⟩
 refine ⟨by rw [hw]; rfl,?_⟩
 unfold GX zX GK
 rw [if_pos (by rw [hw]),dC]
theorem FQ (l:List dO):(cO l).length=32:=dC _
theorem Ed:(dH (aW nmA ownA goldA) 4).2.err=0:=by
 have ok:StOk (aW nmA ownA goldA).s:=jK.a.ok
 obtain ⟨h2,h3⟩:=root_begin nmA ownA goldA ok
 have h1:(jr (aW nmA ownA goldA).s 4).2=0:=by
  unfold jr
  rw [if_pos (aL.2 ok)]; rfl
 have hv:jo (aW nmA ownA goldA).vals=0:=by
  have:(aW nmA ownA goldA).vals=[⟨137372978395941003,1⟩,⟨328794099354644600,1⟩,⟨939190343215927135,1⟩]:=by
   show GG nmA=_
   rw [zD (by rw [Uo,KE]; decide) (by rw [KE,Un]; decide)]
   simp [List.range_succ,Uo,KE,Un]
  rw [this]; decide
 have hw:fC (ui (aW nmA ownA goldA))=0:=by
  unfold fC
  have e1:(ui (aW nmA ownA goldA)).root.length=32:=h3
  have e2:(ui (aW nmA ownA goldA)).vals.length=32:=FQ _
  have e3:(ui (aW nmA ownA goldA)).next.length=32:=FQ _
  rw [if_pos (show jH (ui (aW nmA ownA goldA)).c=true from ok.name),if_neg (by show ¬ ((1:Int) < 1\/¬ vg 1=true\/¬ vg 1=true); decide),if_neg (by rw [e1,e2,e3]; decide)]
 have h4:(kF (ui (aW nmA ownA goldA)) (aW nmA ownA goldA).vals (aW nmA ownA goldA).seeds).2=0:=by
  unfold kF
  rw [if_pos hw,if_pos hv,if_pos (show cO (aW nmA ownA goldA).vals=(ui (aW nmA ownA goldA)).vals from rfl)]
 unfold dH
 rw [if_pos h1,if_pos h2,if_pos h4]
theorem OX {A B:aV} {e:EvD} (hs:e.side=0) (hk:e.kind=1) (h1:A.s.h=1) (h2:A.s.t=1) (h3:A.past=[]) (h4:B.s.h=1) (h5:e.later=4) (hb:(dH A 4).2.err=0):∃ w d,runB (A,B) [e]=(w,[d])/\w.1.s.h=2/\w.1.s.t=5/\w.2.s.h=1/\d.num=1:=by
 have ho:gK A B e=dH A 4:=by unfold gK; rw [if_pos hk,h5]
 obtain ⟨a,b,c,d,_⟩:=one_block (c:=A) (o:=B) (e:=e) hk (by rw [ho]; exact hb)
 refine ⟨_,_,by simp only [runB]; rw [zM hs],?_,?_,h4,?_⟩
 ·simp only; rw [a,h1]; rfl
 ·simp only; rw [b,h2,h5]; rfl
 ·simp only; rw [d,h3]; rfl
theorem play4:∃ w d,mZ [ev4]=(w,[d])/\w.1.s.h=2/\w.1.s.t=5/\w.2.s.h=1/\d.num=1 :=
 OX (A:=aW nmA ownA goldA) (B:=aW nmB BX BO) (e:=ev4) rfl rfl rfl rfl rfl rfl rfl Ed
theorem Ni:PureD Tryz.prog 28 [] (boolD true):=by
 refine ak fun R hR=>?_
 have c1:=Rz [ev4] (by simp) Yr
 obtain ⟨w,d,e,h1,h2,h3,h4⟩:=play4
 rw [if_neg (by simp),e] at c1
 simp only [ev4,List.map_cons,List.map_nil] at c1
 clear e
 refine aa 43 Tryz.func28 rfl rfl rfl (fun _ _=>rfl) ?_
 exact wkl trivial
end Go.Proofs.YtfenipelcpmkpaaGreatDoor
