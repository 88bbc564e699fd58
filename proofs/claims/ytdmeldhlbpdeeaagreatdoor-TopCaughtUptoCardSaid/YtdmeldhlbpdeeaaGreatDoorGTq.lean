/- Merged texts: TpC, TpD, TpE. -/
import Derived.Test.YtdmeldhlbpdeeaaGreatDoorGTp
import Derived.Test.YtdmeldhlbpdeeaaGreatDoorR2N
set_option linter.all false
set_option maxHeartbeats 16000000
set_option maxRecDepth 20000
namespace Go.Proofs.YtdmeldhlbpdeeaaGreatDoor
open Go Go.Abs Go.RowKit Go.Proofs.YtdmeldhlbpdeeaaGreatDoor.Ty
def plT (l:List dA)(v:dA):Nat:=(l.takeWhile λx=>decide (x.k<v.k)).length
def Dz (l:List dA)(v:dA):List dA:=l.take (plT l v)++v::l.drop (plT l v)
theorem Nk (l:List dA)(v:dA):plT l v<=l.length:=(List.takeWhile_prefix _).length_le
theorem GM (a:dA)(t:List dA)(v:dA):plT (a::t) v=if a.k<v.k then 1+plT t v else 0:=by
 unfold plT;rw[List.takeWhile_cons];by_cases h:a.k<v.k
 ·rw[if_pos h,decide_eq_true h];simp;omega
 ·rw[if_neg h,decide_eq_false h];simp
theorem Iq (l:List dA)(v:dA):(Dz l v).length=l.length+1:=by unfold Dz;have:=Nk l v;simp;omega
def sdT (i:Nat):List UInt8:=[118,UInt8.ofNat i]
def tV:Nat->List dA
 |0=>[]
 |i+1=>Dz (tV i) ⟨keyF (sdT i),1⟩
def Tj (i:Nat):List (List UInt8):=(List.range i).map sdT
theorem Wl:∀i,(tV i).length=i
 |0=>rfl
 |i+1=>by rw[tV,Iq,Wl i]
theorem agU (i:Nat)(h:i<256):((UInt8.ofNat i).toNat:Int)=(i:Int):=by rw[UInt8.toNat_ofNat'];omega
theorem aih:tV 3=valT:=by have k0:keyF (sdT 0)=793780602667230372:=adI;have k1:keyF (sdT 1)=121976488748964836:=adH;have k2:keyF (sdT 2)=275679471111030274:=adG;simp[tV,Dz,plT,k0,k1,k2,valT]
theorem acl:Tj 3=seedsT:=rfl
attribute [local go_sem] List.map_cons List.map_nil
theorem Mo (s:StateD)(hs:StSm s)(ok:StOk s):PureD Tryz.prog 8 [stateD s] (.tup [eU (cT (dW s).1),boolD true]):=by
 refine ai λR hR=>?_;have hr:=lY ok;have c4:=jW valT (by decide) (by decide);have c5:=QM s hs;rw[hr.1]at c5;have c6:=XM nmB 50 kT ⟨by rw[Un.r];decide,by rw[Un.n];decide⟩;rw[SE]at c6;have hm:Li (hdT (dW s).1):=⟨(show nmB.size<=1048576 by decide),by rw[show(hdT (dW s).1).root.length=32 from hr.2.2];decide,by rw[show(hdT (dW s).1).vals.length=32 from oI _];decide,by rw[show(hdT (dW s).1).next.length=32 from oI _];decide⟩
 have c7:=EP (hdT (dW s).1) valT seedsT hm (by decide) (by decide) ⟨by decide,by decide⟩;rw[Mm hr.2.2]at c7;have c8:=Dh c0T ⟨1,sgT (dW s).1,[]⟩ 3 (by decide) ⟨⟨hm,by show valT.length<=_;decide,by show ∀v∈valT,_;decide,λx hx=>by obtain⟨v,_,rfl⟩:=List.mem_map.1 hx;exact yR _ _ _⟩,(show([]:List dA).length<=1048576 by decide),by simp,by rw[show(sgT (dW s).1).hdr.next.length=32 from oI _];decide⟩
 rw[Eb hr.2.2]at c8;refine aa 101 Tryz.func8 ?_;refine wkl ?_;clear hR;intro hR
 repeat' (intro _)
 refine aS (ι:=Nat) (λi=>i<=3)
  (λi=>dP [(1,.pt 104 0 0 0),(2,.pt 105 0 0 0),(6,.i (.s (.int .u8 (i:Int)))),(4,.os 100 2 0 i),(5,.os 101 1 0 i)]
   [(100,.arr 2 ((tV i).map bW)),(101,.arr 1 ((Tj i).map λb=>[bI b])),(104,.box ((encSt s).map .i)),(105,.box [.i (.s (.string ⟨#[]⟩)),.i (.s (.int .i64 0)),.i (.s (.bool false)),.i (.s (.slice none 0 0))])]) (λi=>3-i) 0 (Nat.zero_le _) ?_ ?_
 ·simp only[show tV 0=[]from rfl,show Tj 0=[]from rfl,List.map_nil];exact dB [] [(104,1000),(105,1001)]
 ·rintro i hi RL hL;rw[ag];by_cases h:i<3
  ·have c1:=Nc (sdT i) (by simp[sdT]);have hb:=agU i (by omega);have g1:(i:Int)<3:=by omega
   have hl:=Wl i;have hnx:tV (i+1)=Dz (tV i) ⟨keyF (sdT i),1⟩:=rfl;have hsd:Tj (i+1)=Tj i++[sdT i]:=by unfold Tj;rw[List.range_succ,List.map_append];rfl
   have hsl:(Tj i).length=i:=by simp[Tj]
   clear c4 c5 c6 c7 c8;generalize keyF (sdT i)=K at*;simp only[sdT,bI,List.map_cons,List.map_nil,aH,hb]at c1;generalize tV i=L at*;generalize Tj i=S at*;have hpl:=Nk L ⟨K,1⟩;refine wkl ?_;clear hR;intro hR;intros;clear c1;refine aS (ι:=Nat) (λk=>k<=L.length/\plT L ⟨K,1⟩=k+plT (L.drop k) ⟨K,1⟩)
    (λk=>dP [(1,.pt 104 0 0 0),(2,.pt 105 0 0 0),(6,.i (.s (.int .u8 (i:Int)))),(4,.os 100 2 0 i),(5,.os 101 1 0 i),(7,.os 102 1 0 2),(8,.pt 103 0 0 0),(9,intD k)]
     [(100,.arr 2 (L.map bW)),(101,.arr 1 (S.map λb=>[bI b])),(102,.arr 1 [[.s (.int .u8 118)],[.s (.int .u8 (i:Int))]]),(103,.box [.i (.s (.int .u64 K)),.i (.s (.int .u64 1))]),(104,.box ((encSt s).map .i)),(105,.box [.i (.s (.string ⟨#[]⟩)),.i (.s (.int .i64 0)),.i (.s (.bool false)),.i (.s (.slice none 0 0))])]) (λk=>L.length-k) 0 ⟨Nat.zero_le _,by simp⟩ ?_ ?_
   ·exact dB [] [(100,100),(101,101),(102,2537),(103,2795),(104,104),(105,105)]
   ·rintro k ⟨hk,hp⟩ RL2 hL2;rw[ag];by_cases h2:k<L.length
    ·have e2:=aI (f:=bW) h2;rw[List.drop_eq_getElem_cons h2,GM]at hp;generalize hvv:L[k]=v at*;by_cases hv:v.k<K
     ·rw[if_pos hv]at hp;have hv2:(v.k:Int)<(K:Int):=by omega
      have b1:=λσ'=>bk [] [(100,100),(101,101),(102,102),(103,103),(104,104),(105,105)] (hL2 (k+1) σ' ⟨h2,by omega⟩);clear hL hL2 hnx hsd hpl hp;exact wkl trivial
     ·rw[if_neg hv]at hp;have hv2:¬(v.k:Int)<(K:Int):=by omega
      simp only[Nat.add_zero]at hp;have hin:Dz L ⟨K,1⟩=L.take k++⟨K,1⟩::L.drop k:=by unfold Dz;rw[hp]
      rw[hin]at hnx;have b1:=λσ'=>bk [] [(100,3827),(101,4075),(104,104),(105,105)] (hL (i+1) σ' h);rw[hnx,hsd]at b1;simp only[List.map_append,List.map_cons,List.map_nil,List.map_take,List.map_drop,sdT,bI,aH,hb]at b1;have a2:(L.map bW).take i=L.map bW:=List.take_of_length_le (by simp[hl]);have a3:((L.map bW).drop k).take (i-k)=(L.map bW).drop k:=List.take_of_length_le (by simp[hl]);have a4:k<=i:=by omega
      have d1':((L.map bW).take k).length=k:=by simp[hl];omega
      have d2':((L.map bW).drop k).length=i-k:=by simp[hl]
      have lm:(L.map bW).length=i:=by simp[hl]
      have f7:k+1+(i-k)=i+1:=by omega
      have u1:uni 2 ((L.map bW).take k)=true:=by rw[<- List.map_take];exact eG (s:=2) (f:=bW) (λ_=>rfl) _
      have u2:uni 2 ((L.map bW).drop k)=true:=by rw[<- List.map_drop];exact eG (s:=2) (f:=bW) (λ_=>rfl) _
      have u3:uni 2 (L.map bW)=true:=eG (s:=2) (f:=bW) (λ_=>rfl) _;have us:uni 1 (S.map λb=>[bI b])=true:=eG (s:=1) (f:=λb=>[bI b]) (λ_=>rfl) _;have w8:IntKind.u8.wrap ((i:Int)+1)=(i:Int)+1:=by rw[IntKind.wrap_u8];omega
      have h256:(i:Int)%256=(i:Int):=by omega
      have lS:(S.map λb=>[bI b]).length=i:=by simp[hsl]
      simp only[bI]at us lS;clear hin hp hpl hnx hsd hL hL2;exact wkl trivial
    ·have hki:k=L.length:=by omega
     rw[List.drop_eq_nil_of_le (by omega)]at hp;simp only[show plT [] ⟨K,1⟩=0 from rfl,Nat.add_zero]at hp;have hin:Dz L ⟨K,1⟩=L.take k++⟨K,1⟩::L.drop k:=by unfold Dz;rw[hp]
     rw[hin]at hnx;have b1:=λσ'=>bk [] [(100,3827),(101,4075),(104,104),(105,105)] (hL (i+1) σ' h);rw[hnx,hsd]at b1;simp only[List.map_append,List.map_cons,List.map_nil,List.map_take,List.map_drop,sdT,bI,aH,hb]at b1;have a2:(L.map bW).take i=L.map bW:=List.take_of_length_le (by simp[hl]);have a3:((L.map bW).drop k).take (i-k)=(L.map bW).drop k:=List.take_of_length_le (by simp[hl]);have a4:k<=i:=by omega
     have d1':((L.map bW).take k).length=k:=by simp[hl];omega
     have d2':((L.map bW).drop k).length=i-k:=by simp[hl]
     have lm:(L.map bW).length=i:=by simp[hl]
     have f7:k+1+(i-k)=i+1:=by omega
     have z1:(L.map bW).drop i=[]:=List.drop_eq_nil_of_le (by simp[hl]);have z2:((L.map bW).drop i).take (i-i)=[]:=by rw[z1];simp
     have z3:uni 2 ([]:List (List I))=true:=rfl;have z4:i-i=0:=by omega
     have u1:uni 2 ((L.map bW).take k)=true:=by rw[<- List.map_take];exact eG (s:=2) (f:=bW) (λ_=>rfl) _
     have u2:uni 2 ((L.map bW).drop k)=true:=by rw[<- List.map_drop];exact eG (s:=2) (f:=bW) (λ_=>rfl) _
     have u3:uni 2 (L.map bW)=true:=eG (s:=2) (f:=bW) (λ_=>rfl) _;have us:uni 1 (S.map λb=>[bI b])=true:=eG (s:=1) (f:=λb=>[bI b]) (λ_=>rfl) _;have w8:IntKind.u8.wrap ((i:Int)+1)=(i:Int)+1:=by rw[IntKind.wrap_u8];omega
     have h256:(i:Int)%256=(i:Int):=by omega
     have lS:(S.map λb=>[bI b]).length=i:=by simp[hsl]
     simp only[bI]at us lS;clear hin hp hpl hnx hsd hL hL2;exact wkl trivial
  ·have hi3:i=3:=by omega
   subst hi3;rw[aih,acl];have tv:(valT.map bW).take 3=valT.map bW:=rfl;have lv:(valT.map bW).length=3:=rfl;have ts:(seedsT.map λb=>[I.sl (b.map aH)]).take 3=seedsT.map λb=>[I.sl (b.map aH)]:=rfl;have ls:(seedsT.map λb=>[I.sl (b.map aH)]).length=3:=rfl;clear hL;simp only[nmB,sD,intD,hdT,sgT,kT,cT,c0T,eU,xU,LC,mU,YM,valsI,votesI,bbI,bI,jT,List.map_cons,List.map_nil,gL]at*;generalize(seedsT.map λb=>[I.sl (b.map aH)])=SS at*;generalize valT.map bW=VV at*;exact wkl trivial
end Go.Proofs.YtdmeldhlbpdeeaaGreatDoor
namespace Go.Proofs.YtdmeldhlbpdeeaaGreatDoor
open Go Go.Abs Go.RowKit Go.Proofs.YtdmeldhlbpdeeaaGreatDoor.Ty
attribute [local go_sem] List.map_cons List.map_nil
def MB:StateD:=⟨nmB,0,0,[],[],[],[],[],[],[]⟩
theorem Bv:StOk MB:=⟨(show ic nmB=true by decide),(show N12 0 0 by unfold N12;decide),(show N12 0 0 by unfold N12;decide),(show([]:List aD).length<=4 by decide),(show([]:List ConnD).length<=8 by decide),(show([]:List ChanD).length<=8 by decide),(show([]:List MarkD).length<=50 by decide),(show([]:List MarkD).length<=50 by decide),(show([]:List MarkD).length<=50 by decide),(show([]:List PurseD).length<=60 by decide),
 λ_ h=>(nomatch h),λ_ h=>(nomatch h),λ_ h=>(nomatch h),EE,EE,EE,⟨λ_ h=>(nomatch h),List.Pairwise.nil⟩⟩
theorem zY:PureD Tryz.prog 6 [] (boolD true):=by
 refine ai λR hR=>?_;have c1:=Mo MB Bv.sm Bv;have c2:=Xf false 50;have c3:=GL (jl false 50) (by rw[nC];decide) (Ij false 50);rw[if_neg (by rw[nC];decide)]at c3;obtain⟨ho,hk⟩:=link_run (trust:=50) false (by decide);have eb:=hk.b.ends;have hl:(nu (jl false 50)).2.length=44:=by rw[show(nu (jl false 50)).2=(gJ kr (jl false 50)).2 from rfl,nX,nC]
 clear hk;generalize jl false 50=LL at*;generalize nu LL=W at*;obtain⟨⟨A,B⟩,ds⟩:=W;have rb:B.s.chs=[⟨3,false,0,0,1,1,1⟩]:=congrArg EndsD.chs eb;clear eb ho;generalize LL.map encEv=es at*;simp only[nmB,MB,stateD,cT,eU,jT,List.map_cons,List.map_nil]at c1;generalize(dW _).1=rr at c1;simp only at c3 hl;refine aa 40 Tryz.func6 ?_;exact wkl trivial
theorem sent_play {r:Bool}{t:eX}{T:Int}{w0 w:kY}{d:jE}(ow:Out kr (jl r 100) w0 YC)(hs:iF w0 (oneL 4 0 (sendM t T))=(w,d)):∃ds,nu (rF r t T)=(w,ds)/\ds.length=45/\ds[44]?=some d:=by
 have hl:(gJ kr (jl r 100)).2.length=44:=by rw[nX,nC]
 refine⟨(gJ kr (jl r 100)).2++[d],?_,by simp[hl],by rw[List.getElem?_append_right (by omega),hl];rfl⟩;unfold nu rF;rw[vR,ow.fst,hs]
theorem play_more {L m:List EvD}{w w':kY}{ds:List jE}{es:List Int}(h:nu L=(w,ds))(o:Out w m w' es):∃ds',nu (L++m)=(w',ds++ds')/\ds'.map (·.err)=es/\ds'.length=m.length:=by refine⟨(gJ w m).2,?_,o.snd,nX m w⟩;unfold nu at h⊢;rw[jN,h,o.fst]
theorem err_at {ds:List jE}{es:List Int}(h:ds.map (·.err)=es){j:Nat}{e:Int}(he:es[j]?=some e):∃d,ds[j]?=some d/\d.err=e:=by
 rw[<- h,List.getElem?_map]at he;cases hd:ds[j]? with
 |none=>rw[hd]at he;cases he
 |some d=>rw[hd]at he;injection he with he;exact⟨d,rfl,he⟩
end Go.Proofs.YtdmeldhlbpdeeaaGreatDoor
namespace Go.Proofs.YtdmeldhlbpdeeaaGreatDoor
open Go Go.Abs Go.RowKit Go.Proofs.YtdmeldhlbpdeeaaGreatDoor.Ty
theorem acM {q T:Int}(hq:gT q){t:eX}{a k s:Int}{ak:List UInt8}(hl:(bytesT t).length<=1048576)(ha:ak.length<=1048576):JZ (oneL k s {zeroMsg with kind:=a,pk:=pkOf q t T,ack:=ak}):=by
 have n0:gT 0:=by unfold gT;decide
 exact⟨⟨zeroMsg_sm.kn,zeroMsg_sm.up,zeroMsg_sm.up2,zeroMsg_sm.tn,zeroMsg_sm.td,zeroMsg_sm.ts,zeroMsg_sm.tr,n0,n0,hl,ha⟩,⟨n0,n0,n0,hq⟩⟩
theorem SG:∀e∈tickL,JZ e:=by
 have n0:gT 0:=by unfold gT;decide
 intro e he;simp only[tickL,List.mem_cons,List.not_mem_nil,or_false]at he;rcases he with rfl|rfl|rfl|rfl<;>exact⟨zeroMsg_sm,⟨n0,n0,n0,n0⟩⟩
end Go.Proofs.YtdmeldhlbpdeeaaGreatDoor
