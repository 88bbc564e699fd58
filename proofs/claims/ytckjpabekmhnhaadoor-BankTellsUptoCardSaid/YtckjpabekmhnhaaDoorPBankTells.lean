/- The statement on landlaw12.BankTells: for every input of bounded bulk it answers true and leaves its arguments as they were. -/
import Derived.Test.YtckjpabekmhnhaaDoorRow2
import Derived.Test.YtckjpabekmhnhaaDoorLaw12U
import Derived.Test.YtckjpabekmhnhaaDoorDoor
import Derived.Test.YtckjpabekmhnhaaDoorCards
import Derived.Test.YtckjpabekmhnhaaDoorTie
set_option linter.all false
namespace Go.Proofs.YtckjpabekmhnhaaDoor.bankTells
open Go.ChangeShapes Go.WideShapes Go.ChangeAt Go.RowKit Go.Abs
set_option linter.unusedVariables false
set_option maxRecDepth 100000 in
theorem contract (H:Type) (enc:TypeId × Value→H) (W:World) (base:Nat) (args:Array Value) (ds gs:List (DataW H)) (before:List MemPlace)
  (hval:∀ (j:Nat) t v,Tryd.f4.params[j]?=some t→args[j]?=some v→Value.okWide Tryd.prog W .any base t v)
  (hW:DataW.Whole enc Tryd.prog Tryd.f4.params.toList Rows.bankTellsSpec.vars false W args.toList ds gs before) (hk:Rows.uptoSmall H (ds++gs)=true) (hL:laidMetH Tryd.prog Rows.bankTellsUptoRow.laid W) :
  Calls Tryd.prog 4 args W fun e W'=>∃ v,e=.returned v∧Rows.bankTellsSpec.post enc Tryd.prog Tryd.f4 false true false false W args v W':=by
 have hW':=hW
 obtain ⟨p,q,hA0,hV,rfl,hfz,hnd⟩:=hW'
 have hA:DataW.TrodAll enc Tryd.prog W 0 (fun _=>true) true Tryd.f4.params.toList args.toList ds p:=hA0
 have hA1:=hA
 rw [Tryd.params4] at hA hval
 obtain ⟨v0,vs0,d0,ds0,p0,q0,hargs,rfl,rfl,h0,r0⟩:=trodAll_cons hA
 obtain ⟨v1,vs1,d1,ds1,p1,q1,rfl,rfl,rfl,h1,r1⟩:=trodAll_cons r0
 obtain ⟨v2,vs2,d2,ds2,p2,q2,rfl,rfl,rfl,h2,r2⟩:=trodAll_cons r1
 obtain ⟨v3,vs3,d3,ds3,p3,q3,rfl,rfl,rfl,h3,r3⟩:=trodAll_cons r2
 obtain ⟨v4,vs4,d4,ds4,p4,q4,rfl,rfl,rfl,h4,r4⟩:=trodAll_cons r3
 obtain ⟨v5,vs5,d5,ds5,p5,q5,rfl,rfl,rfl,h5,r5⟩:=trodAll_cons r4
 obtain ⟨v6,vs6,d6,ds6,p6,q6,rfl,rfl,rfl,h6,r6⟩:=trodAll_cons r5
 obtain ⟨v7,vs7,d7,ds7,p7,q7,rfl,rfl,rfl,h7,r7⟩:=trodAll_cons r6
 obtain ⟨v8,vs8,d8,ds8,p8,q8,rfl,rfl,rfl,h8,r8⟩:=trodAll_cons r7
 obtain ⟨rfl,rfl,rfl⟩:=trodAll_nil r8
 obtain rfl:args=#[v0,v1,v2,v3,v4,v5,v6,v7,v8]:=by cases args; simp_all
 obtain ⟨rfl,rfl⟩:=trodVars_none hV
 have hb:Rows.uptoBulkAll (H:=H) [d0,d1,d2,d3,d4,d5,d6,d7,d8]≤1048576:=by have:=of_decide_eq_true hk; simpa using this
 simp only [Rows.uptoBulkAll] at hb
 obtain ⟨y0,c0,w0,b0⟩:=open_sl R2.bulk Ty.sh22 Tryd.underlying22 (hval 0 22 v0 rfl rfl) h0
 obtain ⟨x0,e0⟩:=dec_Purses c0
 obtain ⟨y1,c1,w1,b1⟩:=open_st R2.bulk Ty.sh9 Tryd.underlying9 (hval 1 9 v1 rfl rfl) h1
 obtain ⟨x1,e1⟩:=dec_str c1
 obtain ⟨y2,c2,w2,b2⟩:=open_st R2.bulk Ty.sh9 Tryd.underlying9 (hval 2 9 v2 rfl rfl) h2
 obtain ⟨x2,e2⟩:=dec_str c2
 obtain ⟨y3,c3,w3,b3⟩:=open_st R2.bulk Ty.sh9 Tryd.underlying9 (hval 3 9 v3 rfl rfl) h3
 obtain ⟨x3,e3⟩:=dec_str c3
 obtain ⟨y4,c4,w4,b4⟩:=open_in R2.bulk Ty.sh23 Tryd.underlying23 (hval 4 23 v4 rfl rfl) h4
 obtain ⟨x4,e4⟩:=dec_u64 c4
 obtain ⟨y5,c5,w5,b5⟩:=open_in R2.bulk Ty.sh3 Tryd.underlying3 (hval 5 3 v5 rfl rfl) h5
 obtain ⟨x5,e5⟩:=dec_int c5
 obtain ⟨y6,c6,w6,b6⟩:=open_in R2.bulk Ty.sh3 Tryd.underlying3 (hval 6 3 v6 rfl rfl) h6
 obtain ⟨x6,e6⟩:=dec_int c6
 obtain ⟨y7,c7,w7,b7⟩:=open_ag R2.bulk Ty.sh25 Tryd.underlying25 (hval 7 25 v7 rfl rfl) h7
 obtain ⟨x7,e7⟩:=dec_Transfer c7
 obtain ⟨y8,c8,w8,b8⟩:=open_sl R2.bulk Ty.sh39 Tryd.underlying39 (hval 8 39 v8 rfl rfl) h8
 obtain ⟨x8,e8⟩:=dec_B c8
 have hy0:=e0
 have hy1:=e1
 have hy2:=e2
 have hy3:=e3
 have hy4:=e4
 have hy5:=e5
 have hy6:=e6
 have hy7:=e7
 have hy8:=e8
 simp only [List.append_nil] at hW
 obtain ⟨Ds,hp,hs⟩:=walk_BankTells y0 x0 e0 y1 x1 e1 y2 x2 e2 y3 x3 e3 y4 x4 e4 y5 x5 e5 y6 x6 e6 y7 x7 e7 y8 x8 e8 (by omega)
 subst hs
 refine (pure_calls hp rfl (fun j d hd=>?_) (Door.gv (laidMet.tail (laidMet.tail hL)))).mono fun e W' ⟨he,bel⟩=>?_
 ·rcases j with _ | _ | _ | _ | _ | _ | _ | _ | _ | j <;> simp at hd <;> subst hd <;> assumption
 ·subst he
  exact ⟨_,rfl,_,_,_,[],_,[],hW,trodAll_mk1 (shut_bool Tryd.underlying4 _),R2.trodAll_below hA1 bel (by rw [Tryd.params4]; decide +kernel),rfl,bel.frame _,fun h=>by cases h⟩
theorem reads (os:Os) {H:Type} (enc:TypeId × Value→H):∃ places,DataW.whole enc Tryd.prog ((Door.world os Rows.bankTellsUptoRow.laid).forCall (fun _ _=>0) ⟨#[],#[.slice none 0 0,.string ⟨#[]⟩,.string ⟨#[]⟩,.string ⟨#[]⟩,.int .u64 0,.int .i64 0,.int .i64 0,.agg #[.string ⟨#[]⟩,.int .u64 0,.string ⟨#[]⟩,.string ⟨#[]⟩],.slice none 0 0],[]⟩).memory Tryd.f4.params.toList Rows.bankTellsSpec.vars false (#[.slice none 0 0,.string ⟨#[]⟩,.string ⟨#[]⟩,.string ⟨#[]⟩,.int .u64 0,.int .i64 0,.int .i64 0,.agg #[.string ⟨#[]⟩,.int .u64 0,.string ⟨#[]⟩,.string ⟨#[]⟩],.slice none 0 0]:Array Value).toList 20=some ([.nil,.lit (.string []),.lit (.string []),.lit (.string []),.lit (.int .u64 0),.lit (.int .i64 0),.lit (.int .i64 0),.agg [.lit (.string []),.lit (.int .u64 0),.lit (.string []),.lit (.string [])],.nil],[],places) :=
 ⟨[],by kernel_rfl⟩
theorem laid_met (os:Os):laidMet Tryd.prog Rows.bankTellsUptoRow.laid ((Door.world os Rows.bankTellsUptoRow.laid).forCall (fun _ _=>0) ⟨#[],#[.slice none 0 0,.string ⟨#[]⟩,.string ⟨#[]⟩,.string ⟨#[]⟩,.int .u64 0,.int .i64 0,.int .i64 0,.agg #[.string ⟨#[]⟩,.int .u64 0,.string ⟨#[]⟩,.string ⟨#[]⟩],.slice none 0 0],[]⟩).memory :=
 laidMet_of_run' 8 (by kernel_rfl) (by kernel_rfl)
set_option maxRecDepth 100000 in
theorem lifted (os:Os) (started:os.Started) (H:Type) (enc:TypeId × Value→H) (F:Stop.Interp) :
  ReturnsInHanded {} Tryd.checked os 4 .any ((Rows.OpenSpec.upto Rows.bankTellsSpec).preRow enc Tryd.prog Tryd.f4 Rows.bankTellsUptoRow.domain false Rows.bankTellsUptoRow.laid) (((Rows.OpenSpec.upto Rows.bankTellsSpec).at F).post enc Tryd.prog Tryd.f4 false true false false):=by
 obtain ⟨places,hx⟩:=reads os enc
 refine returnsInHanded_of_row (C:=Tryd.checked) (s:=Rows.OpenSpec.upto Rows.bankTellsSpec) R2.own started (by kernel_rfl) Tryd.func4
  (witness_row_at (enc:=enc) (C:=Tryd.checked) false (Door.world os Rows.bankTellsUptoRow.laid) #[.slice none 0 0,.string ⟨#[]⟩,.string ⟨#[]⟩,.string ⟨#[]⟩,.int .u64 0,.int .i64 0,.int .i64 0,.agg #[.string ⟨#[]⟩,.int .u64 0,.string ⟨#[]⟩,.string ⟨#[]⟩],.slice none 0 0] rfl (by kernel_rfl) (by kernel_rfl) (by kernel_rfl)
   (OpenSpec.preRow_of_cond 20 hx (by kernel_rfl) (fun k hk=>by cases hk; kernel_rfl) (by kernel_rfl) (laid_met os))) ?_
 intro W base args ds gs before hval hW _ hcond _ hL _ _
 exact contract H enc W base args ds gs before hval hW (hcond _ rfl) hL
theorem over:Rows.bankTellsUptoRow.holds Tryd.pinned (Rows.OpenSpec.upto Rows.bankTellsSpec) :=
 OpenClaim.holds_of_cond 4 Tryd.f4 rfl rfl rfl rfl rfl rfl rfl ⟨rfl,rfl,rfl,rfl,rfl⟩ rfl rfl rfl rfl rfl (by kernel_rfl) Tryd.func4 (by kernel_rfl)
  (of_decide_eq_true (by kernel_rfl)) (by unfold Func.isWrapper; first | (rw [if_pos (by decide +kernel)]; kernel_rfl) | (rw [if_neg (by decide +kernel)]; exact ⟨rfl,rfl⟩))
  (fun os started H enc _ F=>by rw [OpenClaim.pre_eq_preRow]; exact lifted os started H enc F)
theorem plain (f:FuncId) (fn:Func) (hf:Tryd.pinned.checked.prog.funcNamed "landbridge/landlaw12.BankTells"=some f) (hfn:Tryd.pinned.checked.prog.funcs[f]?=some fn) :
  false=Tryd.pinned.checked.prog.looks []∧∀ (j:Nat) t,fn.params[j]?=some t→Tryd.pinned.checked.prog.wantsStandIn t=false:=by
 obtain rfl:f=4:=Option.some.inj ((show Tryd.prog.funcNamed "landbridge/landlaw12.BankTells"=some 4 by kernel_rfl).symm.trans hf) |>.symm
 obtain rfl:fn=Tryd.f4:=(Option.some.inj (Tryd.func4.symm.trans hfn)).symm
 refine ⟨by kernel_rfl,fun j t ht=>?_⟩
 rw [Tryd.params4] at ht
 have h3:t=22∨t=9∨t=9∨t=9∨t=23∨t=3∨t=3∨t=25∨t=39:=by simpa using Array.mem_of_getElem? ht
 rcases h3 with rfl | rfl | rfl | rfl | rfl | rfl | rfl | rfl | rfl
 ·exact (show Tryd.prog.wantsStandIn 22=false by kernel_rfl)
 ·exact (show Tryd.prog.wantsStandIn 9=false by kernel_rfl)
 ·exact (show Tryd.prog.wantsStandIn 9=false by kernel_rfl)
 ·exact (show Tryd.prog.wantsStandIn 9=false by kernel_rfl)
 ·exact (show Tryd.prog.wantsStandIn 23=false by kernel_rfl)
 ·exact (show Tryd.prog.wantsStandIn 3=false by kernel_rfl)
 ·exact (show Tryd.prog.wantsStandIn 3=false by kernel_rfl)
 ·exact (show Tryd.prog.wantsStandIn 25=false by kernel_rfl)
 ·exact (show Tryd.prog.wantsStandIn 39=false by kernel_rfl)
theorem proved:Rows.BankTellsUptoCardSaid :=
 Claim7.holds_tied_plain_at .later [] _ _ _ _ over (fun _ h=>by cases h) (by kernel_rfl) (fun _ h=>by cases h) bankTellsUpto_row_tie rfl ⟨rfl,rfl⟩ (by kernel_rfl) rfl plain (by kernel_rfl)
end Go.Proofs.YtckjpabekmhnhaaDoor.bankTells
