/- The statement on landlaw14.BridgeEnds: for every input of bounded bulk it answers true and leaves its arguments as they were. -/
import Derived.Test.YtfenipelcpmkpaaGreatDoorLaw14X
import Derived.Test.YtfenipelcpmkpaaGreatDoorDoor
import Derived.Test.YtfenipelcpmkpaaGreatDoorCards
set_option linter.all false
set_option maxRecDepth 100000
namespace Go.Proofs.YtfenipelcpmkpaaGreatDoor.bridgeEnds
open Go.ChangeShapes Go.WideShapes Go.ChangeAt Go.RowKit Go.Abs
theorem Qx (H:Type) (enc:TypeId × Value->H) (W:World) (base:Nat) (args:Array Value) (ds gs:List (DataW H)) (before:List MemPlace)
  (hval:∀ (j:Nat) t v,Tryz.f6.params[j]?=some t->args[j]?=some v->Value.okWide Tryz.prog W .any base t v)
  (hW:DataW.Whole enc Tryz.prog Tryz.f6.params.toList Rows.bridgeEndsSpec.vars false W args.toList ds gs before) (hk:Rows.uptoSmall H (ds++gs)=true) (hL:laidMetH Tryz.prog Rows.bridgeEndsUptoRow.laid W) :
  Calls Tryz.prog 6 args W fun e W'=>∃ v,e=.returned v/\Rows.bridgeEndsSpec.post enc Tryz.prog Tryz.f6 false true false false W args v W':=by
 have hW':=hW
 obtain ⟨p,q,hA0,hV,rfl,hfz,hnd⟩:=hW'
 have hA:DataW.TrodAll enc Tryz.prog W 0 (fun _=>true) true Tryz.f6.params.toList args.toList ds p:=hA0
 have hA1:=hA
 rw [Tryz.params6] at hA hval
 obtain ⟨v0,vs0,d0,ds0,p0,q0,hargs,rfl,rfl,h0,r0⟩:=trodAll_cons hA
 obtain ⟨rfl,rfl,rfl⟩:=trodAll_nil r0
 obtain rfl:args=#[v0]:=by cases args; simp_all
 obtain ⟨rfl,rfl⟩:=trodVars_none hV
 have hb:Rows.uptoBulkAll (H:=H) [d0]<=1048576:=by have:=of_decide_eq_true hk; simpa using this
 simp only [Rows.uptoBulkAll] at hb
 obtain ⟨y0,c0,w0,b0⟩:=open_sl R2.bulk Ty.sh55 Tryz.underlying55 (hval 0 55 v0 rfl rfl) h0
 obtain ⟨x0,e0⟩:=dec_Evs c0
 have hy0:=e0
 simp only [List.append_nil] at hW
 obtain ⟨Ds,hp,hs⟩:=walk_BridgeEnds y0 x0 e0 (by omega)
 subst hs
 refine (Hw hp rfl (fun j d hd=>?_) (Door.gv (laidMet.tail (laidMet.tail hL)))).mono fun e W' ⟨he,bel⟩=>?_
 ·rcases j with _ | j <;> simp at hd <;> subst hd <;> assumption
 ·subst he
  exact ⟨_,rfl,_,_,_,[],_,[],hW,trodAll_mk1 (shut_bool Tryz.underlying4 _),R2.wY hA1 bel (by rw [Tryz.params6]; decide +kernel),rfl,bel.frame _,fun h=>by cases h⟩
theorem reads (os:Os) {H:Type} (enc:TypeId × Value->H):∃ places,DataW.whole enc Tryz.prog ((Door.world os Rows.bridgeEndsUptoRow.laid).forCall (fun _ _=>0) ⟨#[],#[.slice none 0 0],[]⟩).memory Tryz.f6.params.toList Rows.bridgeEndsSpec.vars false (#[.slice none 0 0]:Array Value).toList 20=some ([.nil],[],places) :=
 ⟨[],by kernel_rfl⟩
theorem PO (os:Os):laidMet Tryz.prog Rows.bridgeEndsUptoRow.laid ((Door.world os Rows.bridgeEndsUptoRow.laid).forCall (fun _ _=>0) ⟨#[],#[.slice none 0 0],[]⟩).memory :=
 laidMet_of_run' 8 (by kernel_rfl) (by kernel_rfl)
theorem XQ (os:Os) (started:os.Started) (H:Type) (enc:TypeId × Value->H) (F:Stop.Interp) :
  ReturnsInHanded {} Tryz.checked os 6 .any ((Rows.OpenSpec.upto Rows.bridgeEndsSpec).preRow enc Tryz.prog Tryz.f6 Rows.bridgeEndsUptoRow.domain false Rows.bridgeEndsUptoRow.laid) (((Rows.OpenSpec.upto Rows.bridgeEndsSpec).at F).post enc Tryz.prog Tryz.f6 false true false false):=by
 obtain ⟨places,hx⟩:=reads os enc
 refine returnsInHanded_of_row (C:=Tryz.checked) (s:=Rows.OpenSpec.upto Rows.bridgeEndsSpec) R2.own started (by kernel_rfl) Tryz.func6
  (witness_row_at (enc:=enc) (C:=Tryz.checked) false (Door.world os Rows.bridgeEndsUptoRow.laid) #[.slice none 0 0] rfl (by kernel_rfl) (by kernel_rfl) (by kernel_rfl)
   (OpenSpec.preRow_of_cond 20 hx (by kernel_rfl) (fun k hk=>by cases hk; kernel_rfl) (by kernel_rfl) (PO os))) ?_
 intro W base args ds gs before hval hW _ hcond _ hL _ _
 exact Qx H enc W base args ds gs before hval hW (hcond _ rfl) hL
theorem j1:(Rows.bridgeEndsUptoRow.inPlace == Tryz.pinned.checked.prog.inPlace 6)=true:=by kernel_rfl
theorem j2:(Rows.bridgeEndsUptoRow.unfollowed == Tryz.pinned.checked.prog.unfollowed 6)=true:=by kernel_rfl
theorem j3:(Rows.bridgeEndsUptoRow.recurses == Tryz.pinned.checked.prog.recurses 6)=true:=by kernel_rfl
theorem j4:(Rows.bridgeEndsUptoRow.named == Tryz.pinned.checked.prog.varsNamed 6)=true:=by kernel_rfl
theorem j5:laidOutB Tryz.pinned.checked.prog=true:=by kernel_rfl
theorem j6:mapsRowed Tryz.pinned.checked.prog=true:=by kernel_rfl
theorem XZ:joinedFacts Tryz.pinned.checked.prog 6 Tryz.f6 (Rows.OpenSpec.upto Rows.bridgeEndsSpec).bare Rows.bridgeEndsUptoRow=true:=by
 unfold joinedFacts; rw [j1,j2,j3,j4,j5,j6]; kernel_rfl
theorem over:Rows.bridgeEndsUptoRow.holds Tryz.pinned (Rows.OpenSpec.upto Rows.bridgeEndsSpec) :=
 OpenClaim.holds_of_cond 6 Tryz.f6 rfl rfl rfl rfl rfl rfl rfl ⟨rfl,rfl,rfl,rfl,rfl⟩ rfl rfl rfl rfl rfl (by kernel_rfl) Tryz.func6 XZ
  (of_decide_eq_true (by kernel_rfl)) (by unfold Func.isWrapper; first | (rw [if_pos (by decide +kernel)]; kernel_rfl) | (rw [if_neg (by decide +kernel)]; exact ⟨rfl,rfl⟩))
  (fun os started H enc _ F=>by rw [OpenClaim.pre_eq_preRow]; exact XQ os started H enc F)
theorem plain (f:FuncId) (fn:Func) (hf:Tryz.pinned.checked.prog.funcNamed "landbridge/landlaw14.BridgeEnds"=some f) (hfn:Tryz.pinned.checked.prog.funcs[f]?=some fn) :
  false=Tryz.pinned.checked.prog.looks []/\∀ (j:Nat) t,fn.params[j]?=some t->Tryz.pinned.checked.prog.wantsStandIn t=false:=by
 obtain rfl:f=6:=Option.some.inj ((show Tryz.prog.funcNamed "landbridge/landlaw14.BridgeEnds"=some 6 by kernel_rfl).symm.trans hf) |>.symm
 obtain rfl:fn=Tryz.f6:=(Option.some.inj (Tryz.func6.symm.trans hfn)).symm
 refine ⟨by kernel_rfl,fun j t ht=>?_⟩
 rw [Tryz.params6] at ht
 have h3:t=55:=by simpa using Array.mem_of_getElem? ht
 rcases h3 with rfl
 ·exact (show Tryz.prog.wantsStandIn 55=false by kernel_rfl)
theorem proved:Rows.BridgeEndsUptoCardSaid :=
 Claim7.holds_tied_plain_at .later [] _ _ _ _ over (fun _ h=>by cases h) (by kernel_rfl) (fun _ h=>by cases h) bridgeEndsUpto_row_tie rfl ⟨rfl,rfl⟩ (by kernel_rfl) rfl plain (by kernel_rfl)
end Go.Proofs.YtfenipelcpmkpaaGreatDoor.bridgeEnds
