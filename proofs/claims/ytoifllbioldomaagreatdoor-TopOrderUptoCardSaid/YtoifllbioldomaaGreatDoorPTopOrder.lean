/- The statement on landtop.TopOrder: for every input of bounded bulk it answers true and leaves its arguments as they were. -/
import Derived.Test.YtoifllbioldomaaGreatDoorTop6
import Derived.Test.YtoifllbioldomaaGreatDoorDoor
import Derived.Test.YtoifllbioldomaaGreatDoorCards
set_option linter.all false
set_option maxRecDepth 100000
namespace Go.Proofs.YtoifllbioldomaaGreatDoor.topOrder
open Go.ChangeShapes Go.WideShapes Go.ChangeAt Go.RowKit Go.Abs
theorem g_ (H:Type)(enc:TypeId×Value->H)(W:World)(base:Nat)(args:Array Value)(ds gs:List (DataW H))(before:List MemPlace)
  (hval:∀(j:Nat) t v,Tryz.f7.params[j]?=some t->args[j]?=some v->Value.okWide Tryz.prog W .any base t v)
  (hW:DataW.Whole enc Tryz.prog Tryz.f7.params.toList Rows.topOrderSpec.vars false W args.toList ds gs before) (hk:Rows.uptoSmall H (ds++gs)=true) (hL:laidMetH Tryz.prog Rows.topOrderUptoRow.laid W):
  Calls Tryz.prog 7 args W λe W'=>∃v,e=.returned v/\Rows.topOrderSpec.post enc Tryz.prog Tryz.f7 false true false false W args v W':=by
 have hW':=hW;obtain⟨p,q,hA0,hV,rfl,hfz,hnd⟩:=hW';have hA:DataW.TrodAll enc Tryz.prog W 0 (λ_=>true) true Tryz.f7.params.toList args.toList ds p:=hA0;have hA1:=hA;rw[Tryz.params7]at hA hval;obtain⟨v0,vs0,d0,ds0,p0,q0,hargs,rfl,rfl,h0,r0⟩:=trodAll_cons hA;obtain⟨v1,vs1,d1,ds1,p1,q1,rfl,rfl,rfl,h1,r1⟩:=trodAll_cons r0;obtain⟨v2,vs2,d2,ds2,p2,q2,rfl,rfl,rfl,h2,r2⟩:=trodAll_cons r1;obtain⟨rfl,rfl,rfl⟩:=trodAll_nil r2;obtain rfl:args=#[v0,v1,v2]:=by cases args;simp_all
 obtain⟨rfl,rfl⟩:=trodVars_none hV;have hb:Rows.uptoBulkAll (H:=H) [d0,d1,d2]<=1048576:=by have:=of_decide_eq_true hk;simpa using this
 simp only[Rows.uptoBulkAll]at hb;obtain⟨y0,c0,w0,b0⟩:=open_bo R2.bulk Ty.sh4 Tryz.underlying4 (hval 0 4 v0 rfl rfl) h0;obtain⟨x0,e0⟩:=dec_bool c0;obtain⟨y1,c1,w1,b1⟩:=open_in R2.bulk Ty.sh22 Tryz.underlying22 (hval 1 22 v1 rfl rfl) h1;obtain⟨x1,e1⟩:=dec_u64 c1;obtain⟨y2,c2,w2,b2⟩:=open_in R2.bulk Ty.sh22 Tryz.underlying22 (hval 2 22 v2 rfl rfl) h2;obtain⟨x2,e2⟩:=dec_u64 c2;have hy0:=e0;have hy1:=e1;have hy2:=e2;simp only[List.append_nil]at hW;obtain⟨Ds,hp,hs⟩:=walk_TopOrder y0 x0 e0 y1 x1 e1 y2 x2 e2 (by omega);subst hs;refine(jI hp rfl (λj d hd=>?_) (Door.gv (laidMet.tail (laidMet.tail hL)))).mono λe W' ⟨he,bel⟩=>?_
 ·rcases j with _|_|_|j<;>simp at hd<;>subst hd<;>assumption
 ·subst he;exact⟨_,rfl,_,_,_,[],_,[],hW,trodAll_mk1 (shut_bool Tryz.underlying4 _),R2.zq hA1 bel (by rw[Tryz.params7];decide +kernel),rfl,bel.frame _,λh=>by cases h⟩
theorem reads (os:Os){H:Type}(enc:TypeId×Value->H):∃places,DataW.whole enc Tryz.prog ((Door.world os Rows.topOrderUptoRow.laid).forCall (λ_ _=>0) ⟨#[],#[.bool false,.int .u64 0,.int .u64 0],[]⟩).memory Tryz.f7.params.toList Rows.topOrderSpec.vars false (#[.bool false,.int .u64 0,.int .u64 0]:Array Value).toList 20=some ([.lit (.bool false),.lit (.int .u64 0),.lit (.int .u64 0)],[],places) :=
 ⟨[],by kernel_rfl⟩
theorem gZ (os:Os):laidMet Tryz.prog Rows.topOrderUptoRow.laid ((Door.world os Rows.topOrderUptoRow.laid).forCall (λ_ _=>0) ⟨#[],#[.bool false,.int .u64 0,.int .u64 0],[]⟩).memory :=
 laidMet_of_run' 8 (by kernel_rfl) (by kernel_rfl)
theorem nN (os:Os)(started:os.Started)(H:Type)(enc:TypeId×Value->H)(F:Stop.Interp):
  ReturnsInHanded {} Tryz.checked os 7 .any ((Rows.OpenSpec.upto Rows.topOrderSpec).preRow enc Tryz.prog Tryz.f7 Rows.topOrderUptoRow.domain false Rows.topOrderUptoRow.laid) (((Rows.OpenSpec.upto Rows.topOrderSpec).at F).post enc Tryz.prog Tryz.f7 false true false false):=by
 obtain⟨places,hx⟩:=reads os enc;refine returnsInHanded_of_row (C:=Tryz.checked) (s:=Rows.OpenSpec.upto Rows.topOrderSpec) R2.own started (by kernel_rfl) Tryz.func7
  (witness_row_at (enc:=enc) (C:=Tryz.checked) false (Door.world os Rows.topOrderUptoRow.laid) #[.bool false,.int .u64 0,.int .u64 0] rfl (by kernel_rfl) (by kernel_rfl) (by kernel_rfl)
   (OpenSpec.preRow_of_cond 20 hx (by kernel_rfl) (λk hk=>by cases hk;kernel_rfl) (by kernel_rfl) (gZ os))) ?_
 intro W base args ds gs before hval hW _ hcond _ hL _ _;exact g_ H enc W base args ds gs before hval hW (hcond _ rfl) hL
theorem j1:(Rows.topOrderUptoRow.inPlace==Tryz.pinned.checked.prog.inPlace 7)=true:=by kernel_rfl
theorem j2:(Rows.topOrderUptoRow.unfollowed==Tryz.pinned.checked.prog.unfollowed 7)=true:=by kernel_rfl
theorem j3:(Rows.topOrderUptoRow.recurses==Tryz.pinned.checked.prog.recurses 7)=true:=by kernel_rfl
theorem j4:(Rows.topOrderUptoRow.named==Tryz.pinned.checked.prog.varsNamed 7)=true:=by kernel_rfl
theorem j5:laidOutB Tryz.pinned.checked.prog=true:=by kernel_rfl
theorem j6:mapsRowed Tryz.pinned.checked.prog=true:=by kernel_rfl
theorem nP:joinedFacts Tryz.pinned.checked.prog 7 Tryz.f7 (Rows.OpenSpec.upto Rows.topOrderSpec).bare Rows.topOrderUptoRow=true:=by unfold joinedFacts;rw[j1,j2,j3,j4,j5,j6];kernel_rfl
theorem over:Rows.topOrderUptoRow.holds Tryz.pinned (Rows.OpenSpec.upto Rows.topOrderSpec) :=
 OpenClaim.holds_of_cond 7 Tryz.f7 rfl rfl rfl rfl rfl rfl rfl ⟨rfl,rfl,rfl,rfl,rfl⟩ rfl rfl rfl rfl rfl (by kernel_rfl) Tryz.func7 nP
  (of_decide_eq_true (by kernel_rfl)) (by unfold Func.isWrapper;first|(rw[if_pos (by decide +kernel)];kernel_rfl)|(rw[if_neg (by decide +kernel)];exact⟨rfl,rfl⟩))
  (λos started H enc _ F=>by rw[OpenClaim.pre_eq_preRow];exact nN os started H enc F)
theorem plain (f:FuncId)(fn:Func)(hf:Tryz.pinned.checked.prog.funcNamed "landbridge/landtop.TopOrder"=some f)(hfn:Tryz.pinned.checked.prog.funcs[f]?=some fn):
  false=Tryz.pinned.checked.prog.looks []/\∀(j:Nat) t,fn.params[j]?=some t->Tryz.pinned.checked.prog.wantsStandIn t=false:=by
 obtain rfl:f=7:=Option.some.inj ((show Tryz.prog.funcNamed "landbridge/landtop.TopOrder"=some 7 by kernel_rfl).symm.trans hf) |>.symm;obtain rfl:fn=Tryz.f7:=(Option.some.inj (Tryz.func7.symm.trans hfn)).symm;refine⟨by kernel_rfl,λj t ht=>?_⟩;rw[Tryz.params7]at ht;have h3:t=4\/t=22\/t=22:=by simpa using Array.mem_of_getElem? ht
 rcases h3 with rfl|rfl|rfl
 ·exact(show Tryz.prog.wantsStandIn 4=false by kernel_rfl)
 ·exact(show Tryz.prog.wantsStandIn 22=false by kernel_rfl)
 ·exact(show Tryz.prog.wantsStandIn 22=false by kernel_rfl)
theorem proved:Rows.TopOrderUptoCardSaid :=
 Claim7.holds_tied_plain_at .later [] _ _ _ _ over (λ_ h=>by cases h) (by kernel_rfl) (λ_ h=>by cases h) topOrderUpto_row_tie rfl ⟨rfl,rfl⟩ (by kernel_rfl) rfl plain (by kernel_rfl)
end Go.Proofs.YtoifllbioldomaaGreatDoor.topOrder
