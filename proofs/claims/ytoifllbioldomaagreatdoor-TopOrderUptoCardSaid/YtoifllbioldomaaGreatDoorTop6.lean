/- The law TopOrder: the walk. -/
import Derived.Test.YtoifllbioldomaaGreatDoorGTq
import Derived.Test.YtoifllbioldomaaGreatDoorLkW
set_option linter.all false
set_option maxHeartbeats 16000000
set_option maxRecDepth 20000
namespace Go.Proofs.YtoifllbioldomaaGreatDoor
open Go Go.Abs Go.RowKit Go.Proofs.YtoifllbioldomaaGreatDoor.Ty
attribute [local go_sem] List.map_cons List.map_nil
attribute [local simp,local go_sem] recvM sendM
theorem walk_TopOrder (y0:I)(r:Bool)(e0:y0=.s (.bool r))(y1:I)(a:Nat)(e1:y1=.s (.int .u64 (a:Int))/\a<18446744073709551616)(y2:I)(b:Nat)(e2:y2=.s (.int .u64 (b:Int))/\b<18446744073709551616)(_hb:bkI y0+bkI y1+bkI y2<=1048576):
  ∃Ds,PureD Tryz.prog 7 Ds (.i (.s (.bool true)))/\Ds=[.i y0,.i y1,.i y2]:=by
 clear _hb;obtain rfl:=e0;obtain⟨rfl,h64⟩:=e1;obtain⟨rfl,h65⟩:=e2;refine⟨_,?_,rfl⟩;refine af λR hR=>?_;have c1:=oM;by_cases hq:(1<=a/\a<=500)/\(1<=b/\b<=500)
 rotate_left
 ·refine aa 137 Tryz.func7 ?_;exact wkl trivial
 ·obtain⟨ha,hb⟩:=hq;have wt:wordOk eveA=true:=by decide
  obtain⟨w,w0,d,ow,hs,hd,hpk,l1⟩:=sc_sent (T:=900) r (show 1<=a/\a<=1000 by omega) wt (by decide);obtain⟨ds,p1,p2,p3⟩:=sent_play ow hs;have k3:=jY r (goldT a eveA) 900 p1 p2 p3 h64 (show goldA.size<=1048576 by decide) (show ownA.size<=1048576 by decide) (show eveA.size<=1048576 by decide);rw[if_pos hd,hpk]at k3;clear ow hs hd p3 hpk;obtain⟨w1,d1,t1,t2,t3,l2⟩:=sc_two r ha hb l1;have p4:=BO p1 t1;obtain⟨w',o,q4,r1⟩:=sc_order r ha hb l2;obtain⟨ha1,ha2⟩:=ha;obtain⟨hb1,hb2⟩:=hb;obtain⟨ds',p5,p6,p7⟩:=play_more p4 o;have hla:(bytesT (goldT a eveA)).length<=1048576:=Nat.le_trans (fP (t:=goldT a eveA) (show goldA.size<=40 by decide) (show ownA.size<=40 by decide) (show eveA.size<=40 by decide)) (by decide);have hlb:(bytesT (goldT b eveA)).length<=1048576:=Nat.le_trans (fP (t:=goldT b eveA) (show goldA.size<=40 by decide) (show ownA.size<=40 by decide) (show eveA.size<=40 by decide)) (by decide);have n1:fe 1:=by unfold fe;decide
  have n2:fe 2:=by unfold fe;decide
  have sR:oZ (oneL 5 1 (recvM (pkOf 1 (goldT a eveA) 900))):=mK n1 hla (by simp[zeroMsg]);have sQ:oZ (oneL 5 1 (recvM (pkOf 2 (goldT b eveA) 900))):=mK n2 hlb (by simp[zeroMsg]);have sS:oZ (oneL 4 0 (sendM (goldT b eveA) 900)):=zB h65 (show goldA.size<=1048576 by decide) (show ownA.size<=1048576 by decide) (show eveA.size<=1048576 by decide);have hS:∀e∈gI r (goldT a eveA) 900,oZ e:=ma h64 (show goldA.size<=1048576 by decide) (show ownA.size<=1048576 by decide) (show eveA.size<=1048576 by decide);have k1:=nO a eveA;have k2:=nO b eveA;have k4:=ik 4 0 (sendM (goldT b eveA) 900);have k5:=ik 5 1 (recvM (pkOf 1 (goldT a eveA) 900));have k6:=ik 5 1 (recvM (pkOf 2 (goldT b eveA) 900));have hL':=fw r (goldT a eveA) 900;generalize pkOf 1 (goldT a eveA) 900=P at*;generalize pkOf 2 (goldT b eveA) 900=Q at*;generalize oneL 4 0 (sendM (goldT b eveA) 900)=ES at*;simp only[trD,goldT,eveA]at k1 k2 k3 p1 p4 p5 hL' hS k4;simp only[List.map_cons,List.map_nil]at k4 k5 k6;generalize gI r _ 900=SL at*;generalize oneL 5 1 (recvM P)=EP at*;generalize oneL 5 1 (recvM Q)=EQ at*;have k7:=lh [SL,[ES]] (by simp) (by simp[hL']);have hf:[SL,[ES]].flatten=SL++[ES]:=by simp
  rw[hf]at k7;have hS1:∀e∈SL++[ES],oZ e:=λe he=>by
   simp only[List.mem_append,List.mem_singleton]at he;rcases he with he|he
   ·exact hS e he
   ·rw[he];exact sS
  have k8:=nI (SL++[ES]) (by simp[hL']) hS1;rw[if_neg (by simp[hL']),p4]at k8;have hL1:(SL++[ES]).length=46:=by simp[hL']
  generalize SL++[ES]=L1 at*;have k10:=lh [L1,tickL,[EQ],[EP],[EQ]] (by simp) (by simp[hL1,tickL]);have hf2:[L1,tickL,[EQ],[EP],[EQ]].flatten=L1++(tickL++([EQ]++([EP]++[EQ]))):=by simp
  rw[hf2]at k10;have k11:=nI (L1++(tickL++([EQ]++([EP]++[EQ])))) (by simp[hL1,tickL]) (λe he=>by
   simp only[List.mem_append,List.mem_singleton]at he;rcases he with he|he|he|he|he
   ·exact hS1 e he
   ·exact eX e he
   ·rw[he];exact sQ
   ·rw[he];exact sR
   ·rw[he];exact sQ)
  rw[if_neg (by simp[hL1,tickL]),p5]at k11;have lds:ds'.length=7:=p7;have s0:((ds++[d1]).map aO)[45]?=some (aO d1):=by rw[List.getElem?_map,List.getElem?_append_right (by omega),p2];rfl
  have h0:((ds++[d1]).map aO).length=46:=by rw[List.length_map,List.length_append,p2];rfl
  have at_:∀{j:Nat}{e:Int},([0,0,0,0]++([if r=true then 12 else 0]++([0]++[if r=true then 0 else 12])):List Int)[j]?=some e->∃d,((ds++[d1]++ds').map aO)[46+j]?=some (aO d)/\d.err=e:=λ{j e} h=>by obtain⟨d,g1,g2⟩:=err_at p6 h;refine⟨d,?_,g2⟩;rw[List.getElem?_map,List.getElem?_append_right (by simp<;>omega),List.length_append,p2,show 46+j-(45+[d1].length)=j by simp<;>omega,g1];rfl
  obtain⟨d2,s2,f2⟩:=at_ (j:=4) (e:=if r=true then 12 else 0) rfl;obtain⟨d3,s3,f3⟩:=at_ (j:=5) (e:=0) rfl;obtain⟨d4,s4,f4⟩:=at_ (j:=6) (e:=if r=true then 0 else 12) rfl;simp only[Nat.reduceAdd]at s2 s3 s4;have hm:((ds++[d1]++ds').map aO).length=53:=by simp[p2,lds]
  have w1':(53:Int)-3=50:=by decide
  have w2:(53:Int)-2=51:=by decide
  have w3:(53:Int)-1=52:=by decide
  have w4:(46:Int)-1=45:=by decide
  have w10:IntKind.u64.wrap ((a:Int)+(b:Int))=((a+b:Nat):Int):=by rw[IntKind.wrap_u64];omega
  have k12:=iN w'.2.s.pus eveA vouA (by have:=r1.len;omega) r1.srt;rw[q4]at k12;simp only[eveA,vouA]at k12;have k9:=sF;generalize(ds++[d1]++ds').map aO=dd at*;generalize(ds++[d1]).map aO=d0 at*;generalize(L1++(tickL++([EQ]++([EP]++[EQ])))).map encEv=LA at*;clear p1 p2 p4 p5 p6 p7 o l1 l2 lds hf hf2 at_ hS hS1 sR sQ sS hla hlb wt n1 n2 q4 r1 t1;simp only[List.map_cons,List.map_nil]at k7 k10;generalize tickL.map encEv=LT at*;generalize SL.map encEv=LE at*;generalize L1.map encEv=LF at*;clear hL' hL1;generalize encEv EP=E1 at*;generalize encEv EQ=E2 at*;generalize encEv ES=E3 at*;clear w w0;obtain⟨A,B⟩:=w';obtain⟨A1,B1⟩:=w1;simp only at*;refine aa 137 Tryz.func7 ?_;refine wkl ?_;clear hR;intro hR;intros;clear c1;have c1:=k1;have c2:=k2;have c3:=k3;have c4:=k4;have c5:=k5;have c6:=k6;have c7:=k7;have c8:=k8;have c9:=k9;have c10:=k10;have c11:=k11;have c12:=k12;clear k1 k2 k3 k4 k5 k6 k7 k8 k9 k10 k11 k12;cases r
  ·simp only[reduceIte,Bool.false_eq_true]at f2 f4;exact wkl trivial
  ·simp only[reduceIte]at f2 f4;exact wkl trivial
end Go.Proofs.YtoifllbioldomaaGreatDoor
