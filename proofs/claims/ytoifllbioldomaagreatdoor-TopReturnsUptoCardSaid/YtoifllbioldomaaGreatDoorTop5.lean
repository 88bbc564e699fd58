/- The law TopReturns: the walk. -/
import Derived.Test.YtoifllbioldomaaGreatDoorGTq
import Derived.Test.YtoifllbioldomaaGreatDoorLkW
set_option linter.all false
set_option maxHeartbeats 16000000
set_option maxRecDepth 20000
namespace Go.Proofs.YtoifllbioldomaaGreatDoor
open Go Go.Abs Go.RowKit Go.Proofs.YtoifllbioldomaaGreatDoor.Ty
attribute [local go_sem] List.map_cons List.map_nil
attribute [local simp,local go_sem] recvM sendM
theorem walk_TopReturns (y0:I)(r:Bool)(e0:y0=.s (.bool r))(y1:I)(n:Nat)(e1:y1=.s (.int .u64 (n:Int))/\n<18446744073709551616)(y2:I)(m:Nat)(e2:y2=.s (.int .u64 (m:Int))/\m<18446744073709551616)(y3:I)(tw:ByteArray)(e3:y3=.s (.string tw)/\tw.size<=maxLen)(hb:bkI y0+bkI y1+bkI y2+bkI y3<=1048576):
  ∃Ds,PureD Tryz.prog 4 Ds (.i (.s (.bool true)))/\Ds=[.i y0,.i y1,.i y2,.i y3]:=by
 obtain rfl:=e0;obtain⟨rfl,h64⟩:=e1;obtain⟨rfl,h65⟩:=e2;obtain⟨rfl,_⟩:=e3;refine⟨_,?_,rfl⟩;have hsz:tw.size<=1048576:=by simp[bkI]at hb;omega
 clear hb;refine af λR hR=>?_;have c1:=oM;have c2:=nO n eveA;have we:wordOk eveA=true:=by decide
 by_cases hn:1<=n/\n<=1000
 rotate_left
 ·obtain⟨w0,d,ow,hs,hd⟩:=sc_unsent (tw:=eveA) (T:=900) r h64 (λq=>hn q.1) (by decide);obtain⟨ds,p1,p2,p3⟩:=sent_play ow hs;have c3:=jY r (goldT n eveA) 900 p1 p2 p3 h64 (show goldA.size<=1048576 by decide) (show ownA.size<=1048576 by decide) (show eveA.size<=1048576 by decide);rw[if_neg hd]at c3;clear ow hs hd p1 p2 p3 we;simp only[trD,goldT,eveA]at c2 c3;refine aa 145 Tryz.func4 ?_;exact wkl trivial
 ·obtain⟨w,w0,d,ow,hs,hd,hpk,l1⟩:=sc_sent (T:=900) r hn we (by decide);obtain⟨ds,p1,p2,p3⟩:=sent_play ow hs;have c3:=jY r (goldT n eveA) 900 p1 p2 p3 h64 (show goldA.size<=1048576 by decide) (show ownA.size<=1048576 by decide) (show eveA.size<=1048576 by decide);rw[if_pos hd,hpk]at c3;clear ow hs hd p3 hpk;by_cases hq:(1<=m/\m<=n)/\wordOk tw=true
  rotate_left
  ·rw[wordOk_iff]at hq;clear l1 p1 we;simp only[trD,goldT,eveA]at c2 c3;generalize(gI r _ 900).map encEv=LE at*;have ix9:tw.size=0\/idQ Tryz.prog 9 (.i (.s (.string tw))) (some .string) (some (.int .i64 0))=some (.i (.s (.int .u8 ((byS tw 0).toNat:Int)))):=by
    by_cases h0:tw.size=0
    ·exact .inl h0
    ·exact .inr (yg (by kernel_rfl) (by decide) (show 0<tw.size by omega))
   refine aa 145 Tryz.func4 ?_;rcases ix9 with h0|ix9
   ·exact wkl trivial
   ·exact wkl trivial
  ·obtain⟨hm,wt⟩:=hq;obtain⟨wt3,wt4⟩:=wordOk_iff.1 wt;have ix9:idQ Tryz.prog 9 (.i (.s (.string tw))) (some .string) (some (.int .i64 0))=some (.i (.s (.int .u8 ((byS tw 0).toNat:Int)))):=yg (by kernel_rfl) (by decide) (show 0<tw.size by omega);by_cases hbad:((byS tw 0).toNat:Int)=35\/tw=ownA
   ·clear l1 p1 we;obtain⟨hm1,hm2⟩:=hm;obtain⟨hn1,hn2⟩:=hn;simp only[trD,goldT,eveA]at c2 c3;generalize(gI r _ 900).map encEv=LE at*;refine aa 145 Tryz.func4 ?_;rcases hbad with h35|h36
    ·exact wkl trivial
    ·have h37:(tw==(⟨#[97,110,110]⟩:ByteArray))=true:=(Qs _ _).mpr h36;clear h36;exact wkl trivial
   ·have h35:¬((byS tw 0).toNat:Int)=35:=λq=>hbad (.inl q);have h36:¬tw=ownA:=λq=>hbad (.inr q);clear hbad;have hsf:eY tw=false:=zC λq=>h35 (by
     unfold byS;rw[List.getD_eq_getElem?_getD,Array.getElem?_toList,q];rfl)
    have h38:¬tw=safeA:=λq=>h35 (by rw[q];decide);obtain⟨w0,w1,d1,o,t1,t2,t3,l2⟩:=sc_back r hn hm wt l1;obtain⟨ds',p4,p5,p6⟩:=play_more p1 o;have p7:=BO p4 t1;obtain⟨w',o',q1,q2,q3,r1,r2⟩:=sc_home r hn hm wt hsf h36 h38 l2;obtain⟨ds'',p8,p9,p10⟩:=play_more p7 o';have h37:(tw==(⟨#[97,110,110]⟩:ByteArray))=false:=by
     cases hz:(tw==(⟨#[97,110,110]⟩:ByteArray))with
     |false=>rfl
     |true=>exact absurd ((Qs _ _).mp hz) h36
    obtain⟨hm1,hm2⟩:=hm;obtain⟨hn1,hn2⟩:=hn;have hla:(bytesT (goldT n eveA)).length<=1048576:=Nat.le_trans (fP (t:=goldT n eveA) (show goldA.size<=40 by decide) (show ownA.size<=40 by decide) (show eveA.size<=40 by decide)) (by decide);have hlb:(bytesT (vouT m tw)).length<=1048576:=Nat.le_trans (fP (t:=vouT m tw) (show vouA.size<=40 by decide) (show eveA.size<=40 by decide) wt4) (by decide);have n1:fe 1:=by unfold fe;decide
    have sR:oZ (oneL 5 1 (recvM (pkOf 1 (goldT n eveA) 900))):=mK n1 hla (by simp[zeroMsg]);have sQ:oZ (oneL 5 0 (recvM (pkOf 1 (vouT m tw) 900))):=mK n1 hlb (by simp[zeroMsg]);have sS:oZ (oneL 4 1 (sendM (vouT m tw) 900)):=zB h65 (show vouA.size<=1048576 by decide) (show eveA.size<=1048576 by decide) hsz;have hS:∀e∈gI r (goldT n eveA) 900,oZ e:=ma h64 (show goldA.size<=1048576 by decide) (show ownA.size<=1048576 by decide) (show eveA.size<=1048576 by decide);have k4:=ik 4 1 (sendM (vouT m tw) 900);have k5:=ik 5 1 (recvM (pkOf 1 (goldT n eveA) 900));have k6:=ik 5 0 (recvM (pkOf 1 (vouT m tw) 900));have hL':=fw r (goldT n eveA) 900;generalize pkOf 1 (goldT n eveA) 900=P at*;generalize pkOf 1 (vouT m tw) 900=Q at*;generalize oneL 4 1 (sendM (vouT m tw) 900)=ES at*;simp only[trD,goldT,vouT,eveA,vouA]at c2 c3 p1 p4 p7 p8 hL' hS k4;simp only[List.map_cons,List.map_nil]at k4 k5 k6;generalize gI r _ 900=SL at*;generalize oneL 5 1 (recvM P)=EP at*;generalize oneL 5 0 (recvM Q)=EQ at*;have k7:=lh [SL,tickL,[EP],[ES]] (by simp) (by simp[hL',tickL]);have hf:[SL,tickL,[EP],[ES]].flatten=SL++(tickL++[EP])++[ES]:=by simp
    rw[hf]at k7;have hS1:∀e∈SL++(tickL++[EP])++[ES],oZ e:=λe he=>by
     simp only[List.mem_append,List.mem_singleton]at he;rcases he with(he|he|he)|he
     ·exact hS e he
     ·exact eX e he
     ·rw[he];exact sR
     ·rw[he];exact sS
    have k8:=nI (SL++(tickL++[EP])++[ES]) (by simp[hL',tickL]) hS1;rw[if_neg (by simp[hL',tickL]),p7]at k8;have hL1:(SL++(tickL++[EP])++[ES]).length=51:=by simp[hL',tickL]
    generalize SL++(tickL++[EP])++[ES]=L1 at*;have k10:=lh [L1,tickL,[EQ]] (by simp) (by simp[hL1,tickL]);have hf2:[L1,tickL,[EQ]].flatten=L1++(tickL++[EQ]):=by simp
    rw[hf2]at k10;have k11:=nI (L1++(tickL++[EQ])) (by simp[hL1,tickL]) (λe he=>by
     simp only[List.mem_append,List.mem_singleton]at he;rcases he with he|he|he
     ·exact hS1 e he
     ·exact eX e he
     ·rw[he];exact sQ)
    rw[if_neg (by simp[hL1,tickL]),p8]at k11;have lds:ds'.length=5:=p6;have lds2:ds''.length=5:=p10;have s0:((ds++ds'++[d1]).map aO)[50]?=some (aO d1):=by rw[List.getElem?_map,List.getElem?_append_right (by simp[p2,lds]),List.length_append,p2,lds];rfl
    have h0:((ds++ds'++[d1]).map aO).length=51:=by simp[p2,lds]
    obtain⟨d2,g1,f2⟩:=err_at p9 (j:=4) (e:=0) rfl;have s2:((ds++ds'++[d1]++ds'').map aO)[55]?=some (aO d2):=by rw[List.getElem?_map,List.getElem?_append_right (by simp[p2,lds]),List.length_append,List.length_append,p2,lds];exact congrArg (Option.map aO) g1
    have hm':((ds++ds'++[d1]++ds'').map aO).length=56:=by simp[p2,lds,lds2]
    have w2:(51:Int)-1=50:=by decide
    have w3:(56:Int)-1=55:=by decide
    have w10:IntKind.u64.wrap ((n:Int)-(m:Int))=((n-m:Nat):Int):=by rw[IntKind.wrap_u64];omega
    have k12:=iN w'.1.s.pus tw goldA (by have:=r1.len;omega) r1.srt;have k13:=iN w'.1.s.pus safeA goldA (by have:=r1.len;omega) r1.srt;have k14:=iN w'.2.s.pus eveA vouA (by have:=r2.len;omega) r2.srt;rw[q1]at k12;rw[q2]at k13;rw[q3]at k14;simp only[eveA,vouA,safeA,goldA]at k12 k13 k14;have k9:=sF;generalize(ds++ds'++[d1]++ds'').map aO=dd at*;generalize(ds++ds'++[d1]).map aO=d0 at*;generalize(L1++(tickL++[EQ])).map encEv=LA at*;clear p1 p2 p4 p5 p6 p7 p8 p9 p10 o o' l1 l2 lds lds2 hf hf2 hS hS1 sR sQ sS hla hlb wt we n1 q1 q2 q3 r1 r2 t1 g1 hsf h36 h38;simp only[List.map_cons,List.map_nil]at k7 k10;generalize tickL.map encEv=LT at*;generalize SL.map encEv=LE at*;generalize L1.map encEv=LF at*;clear hL' hL1;generalize encEv EP=E1 at*;generalize encEv EQ=E2 at*;generalize encEv ES=E3 at*;clear w w0;obtain⟨A,B⟩:=w';obtain⟨A1,B1⟩:=w1;simp only at*;have k3:=c3;clear c3;refine aa 145 Tryz.func4 ?_;refine wkl ?_;clear hR;intro hR;intros;clear c1 c2;have c1:=k13;have c2:=k14;have c3:=k3;have c4:=k4;have c5:=k5;have c6:=k6;have c7:=k7;have c8:=k8;have c9:=k9;have c10:=k10;have c11:=k11;have c12:=k12;clear k3 k4 k5 k6 k7 k8 k9 k10 k11 k12 k13 k14;exact wkl trivial
end Go.Proofs.YtoifllbioldomaaGreatDoor
