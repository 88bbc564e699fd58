/- Merged texts: TpC, TpD, TpE. -/
import Derived.Test.YtoifllbioldomaaGreatDoorGTp
import Derived.Test.YtoifllbioldomaaGreatDoorR2N
set_option linter.all false
set_option maxHeartbeats 16000000
set_option maxRecDepth 20000
namespace Go.Proofs.YtoifllbioldomaaGreatDoor
open Go Go.Abs Go.RowKit Go.Proofs.YtoifllbioldomaaGreatDoor.Ty
def plT (l:List bW)(v:bW):Nat:=(l.takeWhile λx=>decide (x.k<v.k)).length
def TM (l:List bW)(v:bW):List bW:=l.take (plT l v)++v::l.drop (plT l v)
theorem VF (l:List bW)(v:bW):plT l v<=l.length:=(List.takeWhile_prefix _).length_le
theorem SK (a:bW)(t:List bW)(v:bW):plT (a::t) v=if a.k<v.k then 1+plT t v else 0:=by
 unfold plT;rw[List.takeWhile_cons];by_cases h:a.k<v.k
 ·rw[if_pos h,decide_eq_true h];simp;omega
 ·rw[if_neg h,decide_eq_false h];simp
theorem TL (l:List bW)(v:bW):(TM l v).length=l.length+1:=by unfold TM;have:=VF l v;simp;omega
def sdT (i:Nat):List UInt8:=[118,UInt8.ofNat i]
def tV:Nat->List bW
 |0=>[]
 |i+1=>TM (tV i) ⟨keyF (sdT i),1⟩
def Sw (i:Nat):List (List UInt8):=(List.range i).map sdT
theorem Vt:∀i,(tV i).length=i
 |0=>rfl
 |i+1=>by rw[tV,TL,Vt i]
theorem afT (i:Nat)(h:i<256):((UInt8.ofNat i).toNat:Int)=(i:Int):=by rw[UInt8.toNat_ofNat'];omega
theorem ahc:tV 3=valT:=by have k0:keyF (sdT 0)=793780602667230372:=acL;have k1:keyF (sdT 1)=121976488748964836:=acK;have k2:keyF (sdT 2)=275679471111030274:=acJ;simp[tV,TM,plT,k0,k1,k2,valT]
theorem abj:Sw 3=seedsT:=rfl
attribute [local go_sem] List.map_cons List.map_nil
theorem aaX (s:StateD)(hs:StSm s)(ok:StOk s):PureD Tryz.prog 18 [stateD s] (.tup [dO (cT (fG s).1),boolD true]):=by
 refine af λR hR=>?_;have hr:=rV ok;have c4:=lM valT (by decide) (by decide);have c5:=Qm s hs;rw[hr.1]at c5;have c6:=Xc nmB 50 kT ⟨by rw[Zj.r];decide,by rw[Zj.n];decide⟩;rw[RX]at c6;have hm:QV (hdT (fG s).1):=⟨(show nmB.size<=1048576 by decide),by rw[show(hdT (fG s).1).root.length=32 from hr.2.2];decide,by rw[show(hdT (fG s).1).vals.length=32 from xI _];decide,by rw[show(hdT (fG s).1).next.length=32 from xI _];decide⟩
 have c7:=Ou (hdT (fG s).1) valT seedsT hm (by decide) (by decide) ⟨by decide,by decide⟩;rw[LK hr.2.2]at c7;have c8:=CX c0T ⟨1,sgT (fG s).1,[]⟩ 3 (by decide) ⟨⟨hm,by show valT.length<=_;decide,by show ∀v∈valT,_;decide,λx hx=>by obtain⟨v,_,rfl⟩:=List.mem_map.1 hx;exact FI _ _ _⟩,(show([]:List bW).length<=1048576 by decide),by simp,by rw[show(sgT (fG s).1).hdr.next.length=32 from xI _];decide⟩
 rw[DT hr.2.2]at c8;refine aa 101 Tryz.func18 ?_;refine wkl ?_;clear hR;intro hR
 repeat' (intro _)
 refine aF (ι:=Nat) (λi=>i<=3)
  (λi=>cO [(1,.pt 104 0 0 0),(2,.pt 105 0 0 0),(6,.i (.s (.int .u8 (i:Int)))),(4,.os 100 2 0 i),(5,.os 101 1 0 i)]
   [(100,.arr 2 ((tV i).map eQ)),(101,.arr 1 ((Sw i).map λb=>[bI b])),(104,.box ((encSt s).map .i)),(105,.box [.i (.s (.string ⟨#[]⟩)),.i (.s (.int .i64 0)),.i (.s (.bool false)),.i (.s (.slice none 0 0))])]) (λi=>3-i) 0 (Nat.zero_le _) ?_ ?_
 ·simp only[show tV 0=[]from rfl,show Sw 0=[]from rfl,List.map_nil];exact bO [] [(104,1000),(105,1001)]
 ·rintro i hi RL hL;rw[ae];by_cases h:i<3
  ·have c1:=Yl (sdT i) (by simp[sdT]);have hb:=afT i (by omega);have g1:(i:Int)<3:=by omega
   have hl:=Vt i;have hnx:tV (i+1)=TM (tV i) ⟨keyF (sdT i),1⟩:=rfl;have hsd:Sw (i+1)=Sw i++[sdT i]:=by unfold Sw;rw[List.range_succ,List.map_append];rfl
   have hsl:(Sw i).length=i:=by simp[Sw]
   clear c4 c5 c6 c7 c8;generalize keyF (sdT i)=K at*;simp only[sdT,bI,List.map_cons,List.map_nil,aL,hb]at c1;generalize tV i=L at*;generalize Sw i=S at*;have hpl:=VF L ⟨K,1⟩;refine wkl ?_;clear hR;intro hR;intros;clear c1;refine aF (ι:=Nat) (λk=>k<=L.length/\plT L ⟨K,1⟩=k+plT (L.drop k) ⟨K,1⟩)
    (λk=>cO [(1,.pt 104 0 0 0),(2,.pt 105 0 0 0),(6,.i (.s (.int .u8 (i:Int)))),(4,.os 100 2 0 i),(5,.os 101 1 0 i),(7,.os 102 1 0 2),(8,.pt 103 0 0 0),(9,intD k)]
     [(100,.arr 2 (L.map eQ)),(101,.arr 1 (S.map λb=>[bI b])),(102,.arr 1 [[.s (.int .u8 118)],[.s (.int .u8 (i:Int))]]),(103,.box [.i (.s (.int .u64 K)),.i (.s (.int .u64 1))]),(104,.box ((encSt s).map .i)),(105,.box [.i (.s (.string ⟨#[]⟩)),.i (.s (.int .i64 0)),.i (.s (.bool false)),.i (.s (.slice none 0 0))])]) (λk=>L.length-k) 0 ⟨Nat.zero_le _,by simp⟩ ?_ ?_
   ·exact bO [] [(100,100),(101,101),(102,2537),(103,2795),(104,104),(105,105)]
   ·rintro k ⟨hk,hp⟩ RL2 hL2;rw[ae];by_cases h2:k<L.length
    ·have e2:=ay (f:=eQ) h2;rw[List.drop_eq_getElem_cons h2,SK]at hp;generalize hvv:L[k]=v at*;by_cases hv:v.k<K
     ·rw[if_pos hv]at hp;have hv2:(v.k:Int)<(K:Int):=by omega
      have b1:=λσ'=>bk [] [(100,100),(101,101),(102,102),(103,103),(104,104),(105,105)] (hL2 (k+1) σ' ⟨h2,by omega⟩);clear hL hL2 hnx hsd hpl hp;exact wkl trivial
     ·rw[if_neg hv]at hp;have hv2:¬(v.k:Int)<(K:Int):=by omega
      simp only[Nat.add_zero]at hp;have hin:TM L ⟨K,1⟩=L.take k++⟨K,1⟩::L.drop k:=by unfold TM;rw[hp]
      rw[hin]at hnx;have b1:=λσ'=>bk [] [(100,3827),(101,4075),(104,104),(105,105)] (hL (i+1) σ' h);rw[hnx,hsd]at b1;simp only[List.map_append,List.map_cons,List.map_nil,List.map_take,List.map_drop,sdT,bI,aL,hb]at b1;have a2:(L.map eQ).take i=L.map eQ:=List.take_of_length_le (by simp[hl]);have a3:((L.map eQ).drop k).take (i-k)=(L.map eQ).drop k:=List.take_of_length_le (by simp[hl]);have a4:k<=i:=by omega
      have d1':((L.map eQ).take k).length=k:=by simp[hl];omega
      have d2':((L.map eQ).drop k).length=i-k:=by simp[hl]
      have lm:(L.map eQ).length=i:=by simp[hl]
      have f7:k+1+(i-k)=i+1:=by omega
      have u1:uni 2 ((L.map eQ).take k)=true:=by rw[<- List.map_take];exact iw (s:=2) (f:=eQ) (λ_=>rfl) _
      have u2:uni 2 ((L.map eQ).drop k)=true:=by rw[<- List.map_drop];exact iw (s:=2) (f:=eQ) (λ_=>rfl) _
      have u3:uni 2 (L.map eQ)=true:=iw (s:=2) (f:=eQ) (λ_=>rfl) _;have us:uni 1 (S.map λb=>[bI b])=true:=iw (s:=1) (f:=λb=>[bI b]) (λ_=>rfl) _;have w8:IntKind.u8.wrap ((i:Int)+1)=(i:Int)+1:=by rw[IntKind.wrap_u8];omega
      have h256:(i:Int)%256=(i:Int):=by omega
      have lS:(S.map λb=>[bI b]).length=i:=by simp[hsl]
      simp only[bI]at us lS;clear hin hp hpl hnx hsd hL hL2;exact wkl trivial
    ·have hki:k=L.length:=by omega
     rw[List.drop_eq_nil_of_le (by omega)]at hp;simp only[show plT [] ⟨K,1⟩=0 from rfl,Nat.add_zero]at hp;have hin:TM L ⟨K,1⟩=L.take k++⟨K,1⟩::L.drop k:=by unfold TM;rw[hp]
     rw[hin]at hnx;have b1:=λσ'=>bk [] [(100,3827),(101,4075),(104,104),(105,105)] (hL (i+1) σ' h);rw[hnx,hsd]at b1;simp only[List.map_append,List.map_cons,List.map_nil,List.map_take,List.map_drop,sdT,bI,aL,hb]at b1;have a2:(L.map eQ).take i=L.map eQ:=List.take_of_length_le (by simp[hl]);have a3:((L.map eQ).drop k).take (i-k)=(L.map eQ).drop k:=List.take_of_length_le (by simp[hl]);have a4:k<=i:=by omega
     have d1':((L.map eQ).take k).length=k:=by simp[hl];omega
     have d2':((L.map eQ).drop k).length=i-k:=by simp[hl]
     have lm:(L.map eQ).length=i:=by simp[hl]
     have f7:k+1+(i-k)=i+1:=by omega
     have z1:(L.map eQ).drop i=[]:=List.drop_eq_nil_of_le (by simp[hl]);have z2:((L.map eQ).drop i).take (i-i)=[]:=by rw[z1];simp
     have z3:uni 2 ([]:List (List I))=true:=rfl;have z4:i-i=0:=by omega
     have u1:uni 2 ((L.map eQ).take k)=true:=by rw[<- List.map_take];exact iw (s:=2) (f:=eQ) (λ_=>rfl) _
     have u2:uni 2 ((L.map eQ).drop k)=true:=by rw[<- List.map_drop];exact iw (s:=2) (f:=eQ) (λ_=>rfl) _
     have u3:uni 2 (L.map eQ)=true:=iw (s:=2) (f:=eQ) (λ_=>rfl) _;have us:uni 1 (S.map λb=>[bI b])=true:=iw (s:=1) (f:=λb=>[bI b]) (λ_=>rfl) _;have w8:IntKind.u8.wrap ((i:Int)+1)=(i:Int)+1:=by rw[IntKind.wrap_u8];omega
     have h256:(i:Int)%256=(i:Int):=by omega
     have lS:(S.map λb=>[bI b]).length=i:=by simp[hsl]
     simp only[bI]at us lS;clear hin hp hpl hnx hsd hL hL2;exact wkl trivial
  ·have hi3:i=3:=by omega
   subst hi3;rw[ahc,abj];have tv:(valT.map eQ).take 3=valT.map eQ:=rfl;have lv:(valT.map eQ).length=3:=rfl;have ts:(seedsT.map λb=>[I.sl (b.map aL)]).take 3=seedsT.map λb=>[I.sl (b.map aL)]:=rfl;have ls:(seedsT.map λb=>[I.sl (b.map aL)]).length=3:=rfl;clear hL;simp only[nmB,sD,intD,hdT,sgT,kT,cT,c0T,dO,x_,Oy,pR,aaN,valsI,votesI,bbI,bI,kM,List.map_cons,List.map_nil,jL]at*;generalize(seedsT.map λb=>[I.sl (b.map aL)])=SS at*;generalize valT.map eQ=VV at*;exact wkl trivial
end Go.Proofs.YtoifllbioldomaaGreatDoor
namespace Go.Proofs.YtoifllbioldomaaGreatDoor
open Go Go.Abs Go.RowKit Go.Proofs.YtoifllbioldomaaGreatDoor.Ty
attribute [local go_sem] List.map_cons List.map_nil
def LW:StateD:=⟨nmB,0,0,[],[],[],[],[],[],[]⟩
theorem Br:StOk LW:=⟨(show fO nmB=true by decide),(show N12 0 0 by unfold N12;decide),(show N12 0 0 by unfold N12;decide),(show([]:List ax).length<=4 by decide),(show([]:List ConnD).length<=8 by decide),(show([]:List ChanD).length<=8 by decide),(show([]:List MarkD).length<=50 by decide),(show([]:List MarkD).length<=50 by decide),(show([]:List MarkD).length<=50 by decide),(show([]:List PurseD).length<=60 by decide),
 λ_ h=>(nomatch h),λ_ h=>(nomatch h),λ_ h=>(nomatch h),pX,pX,pX,⟨λ_ h=>(nomatch h),List.Pairwise.nil⟩⟩
theorem oM:PureD Tryz.prog 9 [] (boolD true):=by
 refine af λR hR=>?_;have c1:=aaX LW Br.sm Br;have c2:=Wv false 50;have c3:=nI (iR false 50) (by rw[nM];decide) (Ht false 50);rw[if_neg (by rw[nM];decide)]at c3;obtain⟨ho,hk⟩:=link_run (trust:=50) false (by decide);have eb:=hk.b.ends;have hl:(mh (iR false 50)).2.length=44:=by rw[show(mh (iR false 50)).2=(fV ja (iR false 50)).2 from rfl,oz,nM]
 clear hk;generalize iR false 50=LL at*;generalize mh LL=W at*;obtain⟨⟨A,B⟩,ds⟩:=W;have rb:B.s.chs=[⟨3,false,0,0,1,1,1⟩]:=congrArg EndsD.chs eb;clear eb ho;generalize LL.map encEv=es at*;simp only[nmB,LW,stateD,cT,dO,kM,List.map_cons,List.map_nil]at c1;generalize(fG _).1=rr at c1;simp only at c3 hl;refine aa 40 Tryz.func9 ?_;exact wkl trivial
theorem sent_play {r:Bool}{t:dP}{T:Int}{w0 w:jw}{d:jm}(ow:Out ja (iR r 100) w0 RA)(hs:fK w0 (oneL 4 0 (sendM t T))=(w,d)):∃ds,mh (gI r t T)=(w,ds)/\ds.length=45/\ds[44]?=some d:=by
 have hl:(fV ja (iR r 100)).2.length=44:=by rw[oz,nM]
 refine⟨(fV ja (iR r 100)).2++[d],?_,by simp[hl],by rw[List.getElem?_append_right (by omega),hl];rfl⟩;unfold mh gI;rw[qH,ow.fst,hs]
theorem play_more {L m:List EvD}{w w':jw}{ds:List jm}{es:List Int}(h:mh L=(w,ds))(o:Out w m w' es):∃ds',mh (L++m)=(w',ds++ds')/\ds'.map (·.err)=es/\ds'.length=m.length:=by refine⟨(fV w m).2,?_,o.snd,oz m w⟩;unfold mh at h⊢;rw[jS,h,o.fst]
theorem err_at {ds:List jm}{es:List Int}(h:ds.map (·.err)=es){j:Nat}{e:Int}(he:es[j]?=some e):∃d,ds[j]?=some d/\d.err=e:=by
 rw[<- h,List.getElem?_map]at he;cases hd:ds[j]? with
 |none=>rw[hd]at he;cases he
 |some d=>rw[hd]at he;injection he with he;exact⟨d,rfl,he⟩
end Go.Proofs.YtoifllbioldomaaGreatDoor
namespace Go.Proofs.YtoifllbioldomaaGreatDoor
open Go Go.Abs Go.RowKit Go.Proofs.YtoifllbioldomaaGreatDoor.Ty
theorem mK {q T:Int}(hq:fe q){t:dP}{a k s:Int}{ak:List UInt8}(hl:(bytesT t).length<=1048576)(ha:ak.length<=1048576):oZ (oneL k s {zeroMsg with kind:=a,pk:=pkOf q t T,ack:=ak}):=by
 have n0:fe 0:=by unfold fe;decide
 exact⟨⟨zeroMsg_sm.kn,zeroMsg_sm.up,zeroMsg_sm.up2,zeroMsg_sm.tn,zeroMsg_sm.td,zeroMsg_sm.ts,zeroMsg_sm.tr,n0,n0,hl,ha⟩,⟨n0,n0,n0,hq⟩⟩
theorem eX:∀e∈tickL,oZ e:=by
 have n0:fe 0:=by unfold fe;decide
 intro e he;simp only[tickL,List.mem_cons,List.not_mem_nil,or_false]at he;rcases he with rfl|rfl|rfl|rfl<;>exact⟨zeroMsg_sm,⟨n0,n0,n0,n0⟩⟩
theorem Fx {a k s:Int}:oZ (oneL k s {zeroMsg with kind:=a}):=by
 have n0:fe 0:=by unfold fe;decide
 exact⟨⟨zeroMsg_sm.kn,zeroMsg_sm.up,zeroMsg_sm.up2,zeroMsg_sm.tn,zeroMsg_sm.td,zeroMsg_sm.ts,zeroMsg_sm.tr,n0,n0,Nat.zero_le _,Nat.zero_le _⟩,⟨n0,n0,n0,n0⟩⟩
theorem BO {L:List EvD}{e:EvD}{w w':jw}{ds:List jm}{d:jm}(h:mh L=(w,ds))(hs:fK w e=(w',d)):mh (L++[e])=(w',ds++[d]):=by unfold mh at h⊢;rw[qH,h,hs]
end Go.Proofs.YtoifllbioldomaaGreatDoor
