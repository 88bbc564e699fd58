/- landlaw14.alive. -/
import Derived.Test.YtfenipelcpmkpaaGreatDoorBrF
import Derived.Test.YtfenipelcpmkpaaGreatDoorLaw14P
set_option linter.all false
set_option maxHeartbeats 16000000
set_option maxRecDepth 20000
namespace Go.Proofs.YtfenipelcpmkpaaGreatDoor
open Go Go.Abs Go.RowKit Go.Proofs.YtfenipelcpmkpaaGreatDoor.Ty
def ev4:EvD:=⟨1,0,4,0,0,zeroMsg⟩
theorem Zx:∀ e∈[ev4],aao e:=by
 intro e he
 rw [List.mem_singleton.1 he]
 exact ⟨b_,⟨by unfold iG; decide,by unfold iG; decide,by unfold iG; decide,by unfold iG; decide⟩⟩
theorem root_begin (name owner denom:ByteArray) (ok:StOk (aY name owner denom).s):(g_ (aY name owner denom).s).2=0/\(g_ (aY name owner denom).s).1.length=32:=by
 have hb:fG (aY name owner denom).s=([],0):=by
  unfold fG
  rw [if_pos (aB.2 ok)]
  have:uu (aY name owner denom).s=[]:=rfl
  rw [this]; simp [jN]
 unfold g_
 rw [hb]
 simp only [if_true]
 have hw:dQ []=(0,0):=kr ⟨by simp,(fun _ h=>by cases h),(fun i j h=>by simp at h)⟩
 refine ⟨by rw [hw]; rfl,?_⟩
 unfold Cv oJ Fu
 rw [if_pos (by rw [hw]),cz]
theorem GH (l:List dJ):(bW l).length=32:=cz _
theorem EH:(aQ (aY nmA ownA goldA) 4).2.err=0:=by
 have ok:StOk (aY nmA ownA goldA).s:=mh.a.ok
 obtain ⟨h2,h3⟩:=root_begin nmA ownA goldA ok
 have h1:(ji (aY nmA ownA goldA).s 4).2=0:=by
  unfold ji
  rw [if_pos (aB.2 ok)]; rfl
 have hv:jJ (aY nmA ownA goldA).vals=0:=by
  have:(aY nmA ownA goldA).vals=[⟨137372978395941003,1⟩,⟨328794099354644600,1⟩,⟨939190343215927135,1⟩]:=by
   show mX nmA=_
   rw [tX (by rw [QS,IB]; decide) (by rw [IB,QR]; decide)]
   simp [List.range_succ,QS,IB,QR]
  rw [this]; decide
 have hw:fq (rM (aY nmA ownA goldA))=0:=by
  unfold fq
  have e1:(rM (aY nmA ownA goldA)).root.length=32:=h3
  have e2:(rM (aY nmA ownA goldA)).vals.length=32:=GH _
  have e3:(rM (aY nmA ownA goldA)).next.length=32:=GH _
  rw [if_pos (show iy (rM (aY nmA ownA goldA)).c=true from ok.name),if_neg (by show ¬ ((1:Int) < 1\/¬ m_ 1=true\/¬ m_ 1=true); decide),if_neg (by rw [e1,e2,e3]; decide)]
 have h4:(jO (rM (aY nmA ownA goldA)) (aY nmA ownA goldA).vals (aY nmA ownA goldA).seeds).2=0:=by
  unfold jO
  rw [if_pos hw,if_pos hv,if_pos (show bW (aY nmA ownA goldA).vals=(rM (aY nmA ownA goldA)).vals from rfl)]
 unfold aQ
 rw [if_pos h1,if_pos h2,if_pos h4]
theorem Qd {A B:aA} {e:EvD} (hs:e.side=0) (hk:e.kind=1) (h1:A.s.h=1) (h2:A.s.t=1) (h3:A.past=[]) (h4:B.s.h=1) (h5:e.later=4) (hb:(aQ A 4).2.err=0):∃ w d,gV (A,B) [e]=(w,[d])/\w.1.s.h=2/\w.1.s.t=5/\w.2.s.h=1/\d.num=1:=by
 have ho:oneB A B e=aQ A 4:=by unfold oneB; rw [if_pos hk,h5]
 obtain ⟨a,b,c,d,_⟩:=one_block (c:=A) (o:=B) (e:=e) hk (by rw [ho]; exact hb)
 refine ⟨_,_,by simp only [gV]; rw [rU hs],?_,?_,h4,?_⟩
 ·simp only; rw [a,h1]; rfl
 ·simp only; rw [b,h2,h5]; rfl
 ·simp only; rw [d,h3]; rfl
theorem play4:∃ w d,vV [ev4]=(w,[d])/\w.1.s.h=2/\w.1.s.t=5/\w.2.s.h=1/\d.num=1 :=
 Qd (A:=aY nmA ownA goldA) (B:=aY nmB yg xN) (e:=ev4) rfl rfl rfl rfl rfl rfl rfl EH
theorem Om:PureD Tryz.prog 28 [] (boolD true):=by
 refine ak fun R hR=>?_
 have c1:=Td [ev4] (by simp) Zx
 obtain ⟨w,d,e,h1,h2,h3,h4⟩:=play4
 rw [if_neg (by simp),e] at c1
 simp only [ev4,List.map_cons,List.map_nil] at c1
 clear e
 refine aa 43 Tryz.func28 rfl rfl rfl (fun _ _=>rfl) ?_
 exact wkl trivial
end Go.Proofs.YtfenipelcpmkpaaGreatDoor
