/- The statement on landtop.TopCaught: for every input of bounded bulk it answers true and leaves its arguments as they were. -/
import Derived.Test.YtdmeldhlbpdeeaaGreatDoorTop9
import Derived.Test.YtdmeldhlbpdeeaaGreatDoorDoor
import Derived.Test.YtdmeldhlbpdeeaaGreatDoorCards
set_option linter.all false
set_option maxRecDepth 100000
namespace Go.Proofs.YtdmeldhlbpdeeaaGreatDoor.topCaught
open Go.ChangeShapes Go.WideShapes Go.ChangeAt Go.RowKit Go.Abs
theorem qQ (H:Type)(enc:TypeId×Value->H)(W:World)(base:Nat)(args:Array Value)(ds gs:List (DataW H))(before:List MemPlace)
  (hval:∀(j:Nat) t v,Tryz.f5.params[j]?=some t->args[j]?=some v->Value.okWide Tryz.prog W .any base t v)
  (hW:DataW.Whole enc Tryz.prog Tryz.f5.params.toList Rows.topCaughtSpec.vars false W args.toList ds gs before) (hk:Rows.uptoSmall H (ds++gs)=true) (hL:laidMetH Tryz.prog Rows.topCaughtUptoRow.laid W):
  Calls Tryz.prog 5 args W λe W'=>∃v,e=.returned v/\Rows.topCaughtSpec.post enc Tryz.prog Tryz.f5 false true false false W args v W':=by
 have hW':=hW;obtain⟨p,q,hA0,hV,rfl,hfz,hnd⟩:=hW';have hA:DataW.TrodAll enc Tryz.prog W 0 (λ_=>true) true Tryz.f5.params.toList args.toList ds p:=hA0;have hA1:=hA;rw[Tryz.params5]at hA hval;obtain⟨v0,vs0,d0,ds0,p0,q0,hargs,rfl,rfl,h0,r0⟩:=trodAll_cons hA;obtain⟨v1,vs1,d1,ds1,p1,q1,rfl,rfl,rfl,h1,r1⟩:=trodAll_cons r0;obtain⟨rfl,rfl,rfl⟩:=trodAll_nil r1;obtain rfl:args=#[v0,v1]:=by cases args;simp_all
 obtain⟨rfl,rfl⟩:=trodVars_none hV;have hb:Rows.uptoBulkAll (H:=H) [d0,d1]<=1048576:=by have:=of_decide_eq_true hk;simpa using this
 simp only[Rows.uptoBulkAll]at hb;obtain⟨y0,c0,w0,b0⟩:=open_in R2.bulk Ty.sh59 Tryz.underlying59 (hval 0 59 v0 rfl rfl) h0;obtain⟨x0,e0⟩:=dec_u64 c0;obtain⟨y1,c1,w1,b1⟩:=open_sl R2.bulk Ty.sh29 Tryz.underlying29 (hval 1 29 v1 rfl rfl) h1;obtain⟨x1,e1⟩:=dec_B c1;have hy0:=e0;have hy1:=e1;simp only[List.append_nil]at hW;obtain⟨Ds,hp,hs⟩:=walk_TopCaught y0 x0 e0 y1 x1 e1 (by omega);subst hs;refine(rH hp rfl (λj d hd=>?_) (Door.gv (laidMet.tail (laidMet.tail hL)))).mono λe W' ⟨he,bel⟩=>?_
 ·rcases j with _|_|j<;>simp at hd<;>subst hd<;>assumption
 ·subst he;exact⟨_,rfl,_,_,_,[],_,[],hW,trodAll_mk1 (shut_bool Tryz.underlying4 _),R2.zk hA1 bel (by rw[Tryz.params5];decide +kernel),rfl,bel.frame _,λh=>by cases h⟩
theorem reads (os:Os){H:Type}(enc:TypeId×Value->H):∃places,DataW.whole enc Tryz.prog ((Door.world os Rows.topCaughtUptoRow.laid).forCall (λ_ _=>0) ⟨#[],#[.int .u64 0,.slice none 0 0],[]⟩).memory Tryz.f5.params.toList Rows.topCaughtSpec.vars false (#[.int .u64 0,.slice none 0 0]:Array Value).toList 20=some ([.lit (.int .u64 0),.nil],[],places) :=
 ⟨[],by kernel_rfl⟩
theorem qJ (os:Os):laidMet Tryz.prog Rows.topCaughtUptoRow.laid ((Door.world os Rows.topCaughtUptoRow.laid).forCall (λ_ _=>0) ⟨#[],#[.int .u64 0,.slice none 0 0],[]⟩).memory :=
 laidMet_of_run' 8 (by kernel_rfl) (by kernel_rfl)
theorem Cn (os:Os)(started:os.Started)(H:Type)(enc:TypeId×Value->H)(F:Stop.Interp):
  ReturnsInHanded {} Tryz.checked os 5 .any ((Rows.OpenSpec.upto Rows.topCaughtSpec).preRow enc Tryz.prog Tryz.f5 Rows.topCaughtUptoRow.domain false Rows.topCaughtUptoRow.laid) (((Rows.OpenSpec.upto Rows.topCaughtSpec).at F).post enc Tryz.prog Tryz.f5 false true false false):=by
 obtain⟨places,hx⟩:=reads os enc;refine returnsInHanded_of_row (C:=Tryz.checked) (s:=Rows.OpenSpec.upto Rows.topCaughtSpec) R2.own started (by kernel_rfl) Tryz.func5
  (witness_row_at (enc:=enc) (C:=Tryz.checked) false (Door.world os Rows.topCaughtUptoRow.laid) #[.int .u64 0,.slice none 0 0] rfl (by kernel_rfl) (by kernel_rfl) (by kernel_rfl)
   (OpenSpec.preRow_of_cond 20 hx (by kernel_rfl) (λk hk=>by cases hk;kernel_rfl) (by kernel_rfl) (qJ os))) ?_
 intro W base args ds gs before hval hW _ hcond _ hL _ _;exact qQ H enc W base args ds gs before hval hW (hcond _ rfl) hL
theorem j1:(Rows.topCaughtUptoRow.inPlace==Tryz.pinned.checked.prog.inPlace 5)=true:=by kernel_rfl
theorem j2:(Rows.topCaughtUptoRow.unfollowed==Tryz.pinned.checked.prog.unfollowed 5)=true:=by kernel_rfl
theorem j3:(Rows.topCaughtUptoRow.recurses==Tryz.pinned.checked.prog.recurses 5)=true:=by kernel_rfl
theorem j4:(Rows.topCaughtUptoRow.named==Tryz.pinned.checked.prog.varsNamed 5)=true:=by kernel_rfl
theorem j5:laidOutB Tryz.pinned.checked.prog=true:=by kernel_rfl
theorem j6:mapsRowed Tryz.pinned.checked.prog=true:=by kernel_rfl
theorem Cr:joinedFacts Tryz.pinned.checked.prog 5 Tryz.f5 (Rows.OpenSpec.upto Rows.topCaughtSpec).bare Rows.topCaughtUptoRow=true:=by unfold joinedFacts;rw[j1,j2,j3,j4,j5,j6];kernel_rfl
theorem over:Rows.topCaughtUptoRow.holds Tryz.pinned (Rows.OpenSpec.upto Rows.topCaughtSpec) :=
 OpenClaim.holds_of_cond 5 Tryz.f5 rfl rfl rfl rfl rfl rfl rfl ⟨rfl,rfl,rfl,rfl,rfl⟩ rfl rfl rfl rfl rfl (by kernel_rfl) Tryz.func5 Cr
  (of_decide_eq_true (by kernel_rfl)) (by unfold Func.isWrapper;first|(rw[if_pos (by decide +kernel)];kernel_rfl)|(rw[if_neg (by decide +kernel)];exact⟨rfl,rfl⟩))
  (λos started H enc _ F=>by rw[OpenClaim.pre_eq_preRow];exact Cn os started H enc F)
theorem plain (f:FuncId)(fn:Func)(hf:Tryz.pinned.checked.prog.funcNamed "landbridge/landtop.TopCaught"=some f)(hfn:Tryz.pinned.checked.prog.funcs[f]?=some fn):
  false=Tryz.pinned.checked.prog.looks []/\∀(j:Nat) t,fn.params[j]?=some t->Tryz.pinned.checked.prog.wantsStandIn t=false:=by
 obtain rfl:f=5:=Option.some.inj ((show Tryz.prog.funcNamed "landbridge/landtop.TopCaught"=some 5 by kernel_rfl).symm.trans hf) |>.symm;obtain rfl:fn=Tryz.f5:=(Option.some.inj (Tryz.func5.symm.trans hfn)).symm;refine⟨by kernel_rfl,λj t ht=>?_⟩;rw[Tryz.params5]at ht;have h3:t=59\/t=29:=by simpa using Array.mem_of_getElem? ht
 rcases h3 with rfl|rfl
 ·exact(show Tryz.prog.wantsStandIn 59=false by kernel_rfl)
 ·exact(show Tryz.prog.wantsStandIn 29=false by kernel_rfl)
theorem proved:Rows.TopCaughtUptoCardSaid :=
 Claim7.holds_tied_plain_at .later [] _ _ _ _ over (λ_ h=>by cases h) (by kernel_rfl) (λ_ h=>by cases h) topCaughtUpto_row_tie rfl ⟨rfl,rfl⟩ (by kernel_rfl) rfl plain (by kernel_rfl)
end Go.Proofs.YtdmeldhlbpdeeaaGreatDoor.topCaught
