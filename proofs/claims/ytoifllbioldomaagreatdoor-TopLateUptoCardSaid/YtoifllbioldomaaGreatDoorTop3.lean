/- The law TopLate: the walk. (NOT BUILT YET.) -/
import Derived.Test.YtoifllbioldomaaGreatDoorGTq
import Derived.Test.YtoifllbioldomaaGreatDoorGRW
set_option linter.all false
set_option maxHeartbeats 16000000
set_option maxRecDepth 20000
namespace Go.Proofs.YtoifllbioldomaaGreatDoor
open Go Go.Abs Go.RowKit Go.Proofs.YtoifllbioldomaaGreatDoor.Ty
attribute [local go_sem] List.map_cons List.map_nil
attribute [local simp,local go_sem] recvM lateM
theorem walk_TopLate (y0:I)(r:Bool)(e0:y0=.s (.bool r))(y1:I)(n:Nat)(e1:y1=.s (.int .u64 (n:Int))/\n<18446744073709551616)(_hb:bkI y0+bkI y1<=1048576):
  ∃Ds,PureD Tryz.prog 5 Ds (.i (.s (.bool true)))/\Ds=[.i y0,.i y1]:=by
 clear _hb;obtain rfl:=e0;obtain⟨rfl,h64⟩:=e1;refine⟨_,?_,rfl⟩;refine af λR hR=>?_;have c1:=oM;have c2:=nO n eveA;have wt:wordOk eveA=true:=by decide
 by_cases hn:1<=n/\n<=1000
 rotate_left
 ·obtain⟨w0,d,ow,hs,hd⟩:=sc_unsent (tw:=eveA) (T:=12) r h64 (λq=>hn q.1) (by decide);obtain⟨ds,p1,p2,p3⟩:=sent_play ow hs;have c3:=jY r (goldT n eveA) 12 p1 p2 p3 h64 (show goldA.size<=1048576 by decide) (show ownA.size<=1048576 by decide) (show eveA.size<=1048576 by decide);rw[if_neg hd]at c3;clear ow hs hd p1 p2 p3 wt;simp only[trD,goldT,eveA]at c2 c3;refine aa 112 Tryz.func5 ?_;exact wkl trivial
 ·obtain⟨w,w0,d,ow,hs,hd,hpk,l1⟩:=sc_sent (T:=12) r hn wt (by decide);obtain⟨ds,p1,p2,p3⟩:=sent_play ow hs;have c3:=jY r (goldT n eveA) 12 p1 p2 p3 h64 (show goldA.size<=1048576 by decide) (show ownA.size<=1048576 by decide) (show eveA.size<=1048576 by decide);rw[if_pos hd,hpk]at c3;clear ow hs hd p3 hpk;obtain⟨w1,w',o,o',q4,r1,q5,q6,ok⟩:=sc_late r hn l1;obtain⟨hn1,hn2⟩:=hn;obtain⟨ds',p4,p5,p6⟩:=play_more p1 o;obtain⟨ds'',p7,p8,p9⟩:=play_more p4 o';have hlen:(bytesT (goldT n eveA)).length<=1048576:=Nat.le_trans (fP (t:=goldT n eveA) (show goldA.size<=40 by decide) (show ownA.size<=40 by decide) (show eveA.size<=40 by decide)) (by decide);have n1:fe 1:=by unfold fe;decide
  have sR:oZ (oneL 5 1 (recvM (pkOf 1 (goldT n eveA) 12))):=mK n1 hlen (by simp[zeroMsg]);have sA:oZ (oneL 5 0 (lateM (pkOf 1 (goldT n eveA) 12))):=mK n1 hlen (by simp[zeroMsg]);have hS:∀e∈gI r (goldT n eveA) 12,oZ e:=ma h64 (show goldA.size<=1048576 by decide) (show ownA.size<=1048576 by decide) (show eveA.size<=1048576 by decide);have k4:=ik 5 1 (recvM (pkOf 1 (goldT n eveA) 12));have k5:=ik 5 0 (lateM (pkOf 1 (goldT n eveA) 12));have hL':=fw r (goldT n eveA) 12;generalize pkOf 1 (goldT n eveA) 12=P at*;simp only[trD,goldT,eveA]at c2 c3 p1 p4 p7 hL' hS;simp only[List.map_cons,List.map_nil]at k4 k5;generalize gI r _ 12=SL at*;generalize oneL 5 1 (recvM P)=ER at*;generalize oneL 5 0 (lateM P)=EA at*;have hS1:∀e∈SL++(tickL++(tickL++(tickL++[ER]))),oZ e:=λe he=>by
   simp only[List.mem_append,List.mem_singleton]at he;rcases he with he|he|he|he|he
   ·exact hS e he
   ·exact eX e he
   ·exact eX e he
   ·exact eX e he
   ·rw[he];exact sR
  have k8:=nI (SL++(tickL++(tickL++(tickL++[ER])))) (by simp[hL',tickL]) hS1;rw[if_neg (by simp[hL',tickL]),p4]at k8;have k7:=lh [SL,tickL,tickL,tickL,[ER]] (by simp) (by simp[hL',tickL]);have hf:[SL,tickL,tickL,tickL,[ER]].flatten=SL++(tickL++(tickL++(tickL++[ER]))):=by simp
  rw[hf]at k7;have hL1:(SL++(tickL++(tickL++(tickL++[ER])))).length=58:=by simp[hL',tickL]
  generalize SL++(tickL++(tickL++(tickL++[ER])))=L1 at*;have k10:=lh [L1,[EA]] (by simp) (by simp[hL1]);have hf2:[L1,[EA]].flatten=L1++[EA]:=by simp
  rw[hf2]at k10;have k11:=nI (L1++[EA]) (by simp[hL1]) (λe he=>by
   simp only[List.mem_append,List.mem_singleton]at he;rcases he with he|he
   ·exact hS1 e he
   ·rw[he];exact sA)
  rw[if_neg (by simp[hL1]),p7]at k11;have lds:ds'.length=13:=p6;have lds2:ds''.length=1:=p9;obtain⟨d1,g1,f1⟩:=err_at p5 (j:=12) (e:=11) rfl;obtain⟨d2,g2,f2⟩:=err_at p8 (j:=0) (e:=0) rfl;have s1:((ds++ds').map aO)[57]?=some (aO d1):=by rw[List.getElem?_map,List.getElem?_append_right (by omega),p2];exact congrArg (Option.map aO) g1
  have h1:((ds++ds').map aO).length=58:=by simp[p2,lds]
  have s2:((ds++ds'++ds'').map aO)[58]?=some (aO d2):=by rw[List.getElem?_map,List.getElem?_append_right (by simp[p2,lds]),List.length_append,p2,lds];exact congrArg (Option.map aO) g2
  have h2:((ds++ds'++ds'').map aO).length=59:=by simp[p2,lds,lds2]
  have w2:(58:Int)-1=57:=by decide
  have w3:(59:Int)-1=58:=by decide
  have w5:((1000:Nat):Int)=1000:=rfl;have k12:=iN w'.1.s.pus ownA goldA (by have:=r1.len;omega) r1.srt;rw[q4]at k12;simp only[ownA,goldA]at k12;have k13:=Mo w'.1.s ok.sm;rw[az.2 ok]at k13;have k9:=sF;generalize(ds++ds'++ds'').map aO=dd at*;generalize(ds++ds').map aO=d0 at*;generalize(L1++[EA]).map encEv=LA at*;clear p1 p2 p4 p5 p6 p7 p8 p9 o o' l1 lds lds2 hf hf2 hS hS1 sR sA hlen wt n1 q4 r1 g1 g2 ok;simp only[List.map_cons,List.map_nil]at k7 k10;generalize tickL.map encEv=LT at*;generalize SL.map encEv=LE at*;generalize L1.map encEv=LF at*;clear hL' hL1;generalize encEv ER=E1 at*;generalize encEv EA=E2 at*;clear w w0;obtain⟨A,B⟩:=w';obtain⟨A1,B1⟩:=w1;simp only at*;have k2:=c2;have k3:=c3;clear c2 c3;refine aa 112 Tryz.func5 ?_;refine wkl ?_;clear hR;intro hR;intros;clear c1;have c1:=k2;have c2:=k3;have c3:=k13;have c4:=k4;have c5:=k5;have c7:=k7;have c8:=k8;have c9:=k9;have c10:=k10;have c11:=k11;have c12:=k12;clear k2 k3 k4 k5 k7 k8 k9 k10 k11 k12 k13;cases r
  ·simp only[reduceIte,Bool.false_eq_true]at q6;exact wkl trivial
  ·simp only[reduceIte]at q6;exact wkl trivial
end Go.Proofs.YtoifllbioldomaaGreatDoor
