/- The law TopClosed: the walk. -/
import Derived.Test.YtoifllbioldomaaGreatDoorGTq
import Derived.Test.YtoifllbioldomaaGreatDoorLkW
set_option linter.all false
set_option maxHeartbeats 16000000
set_option maxRecDepth 20000
namespace Go.Proofs.YtoifllbioldomaaGreatDoor
open Go Go.Abs Go.RowKit Go.Proofs.YtoifllbioldomaaGreatDoor.Ty
attribute [local go_sem] List.map_cons List.map_nil Int.natCast_one
attribute [local simp,local go_sem] recvM lateM closeM closedM sendM
theorem walk_TopClosed (y0:I)(r:Bool)(e0:y0=.s (.bool r))(y1:I)(n:Nat)(e1:y1=.s (.int .u64 (n:Int))/\n<18446744073709551616)(_hb:bkI y0+bkI y1<=1048576):
  ∃Ds,PureD Tryz.prog 8 Ds (.i (.s (.bool true)))/\Ds=[.i y0,.i y1]:=by
 clear _hb;obtain rfl:=e0;obtain⟨rfl,h64⟩:=e1;refine⟨_,?_,rfl⟩;refine af λR hR=>?_;have c1:=oM;have c2:=nO n eveA;have wt:wordOk eveA=true:=by decide
 by_cases hn:1<=n/\n<=1000
 rotate_left
 ·obtain⟨w0,d,ow,hs,hd⟩:=sc_unsent (tw:=eveA) (T:=12) r h64 (λq=>hn q.1) (by decide);obtain⟨ds,p1,p2,p3⟩:=sent_play ow hs;have c3:=jY r (goldT n eveA) 12 p1 p2 p3 h64 (show goldA.size<=1048576 by decide) (show ownA.size<=1048576 by decide) (show eveA.size<=1048576 by decide);rw[if_neg hd]at c3;clear ow hs hd p1 p2 p3 wt;simp only[trD,goldT,eveA]at c2 c3;refine aa 120 Tryz.func8 ?_;exact wkl trivial
 ·obtain⟨w,w0,d,ow,hs,hd,hpk,l1⟩:=sc_sent (T:=12) r hn wt (by decide);obtain⟨ds,p1,p2,p3⟩:=sent_play ow hs;have c3:=jY r (goldT n eveA) 12 p1 p2 p3 h64 (show goldA.size<=1048576 by decide) (show ownA.size<=1048576 by decide) (show eveA.size<=1048576 by decide);rw[if_pos hd,hpk]at c3;clear ow hs hd p3 hpk;obtain⟨w',o,⟨cA,hA,fA⟩,⟨cB,hB,fB⟩,q4,r1⟩:=sc_closed r hn l1;obtain⟨hn1,hn2⟩:=hn;obtain⟨ds',p4,p5,p6⟩:=play_more p1 o;have hlen:(bytesT (goldT n eveA)).length<=1048576:=Nat.le_trans (fP (t:=goldT n eveA) (show goldA.size<=40 by decide) (show ownA.size<=40 by decide) (show eveA.size<=40 by decide)) (by decide);have n1:fe 1:=by unfold fe;decide
  have sR:oZ (oneL 5 1 (recvM (pkOf 1 (goldT n eveA) 12))):=mK n1 hlen (by simp[zeroMsg]);have sA:oZ (oneL 5 0 (lateM (pkOf 1 (goldT n eveA) 12))):=mK n1 hlen (by simp[zeroMsg]);have sC:oZ (oneL 4 1 closeM):=Fx;have sD:oZ (oneL 5 0 closedM):=Fx;have sS:oZ (oneL 4 0 (sendM (goldT 1 eveA) 900)):=zB (show(1:Nat)<18446744073709551616 by decide) (show goldA.size<=1048576 by decide) (show ownA.size<=1048576 by decide) (show eveA.size<=1048576 by decide);have hS:∀e∈gI r (goldT n eveA) 12,oZ e:=ma h64 (show goldA.size<=1048576 by decide) (show ownA.size<=1048576 by decide) (show eveA.size<=1048576 by decide);have c4:=ik 5 1 (recvM (pkOf 1 (goldT n eveA) 12));have c5:=ik 5 0 (lateM (pkOf 1 (goldT n eveA) 12));have c9:=ik 4 1 closeM;have c10:=ik 5 0 closedM;have c11:=ik 4 0 (sendM (goldT 1 eveA) 900);have c12:=nO 1 eveA;have hL':=fw r (goldT n eveA) 12;generalize pkOf 1 (goldT n eveA) 12=P at*;generalize oneL 4 0 (sendM (goldT 1 eveA) 900)=ES at*;simp only[trD,goldT,eveA,Int.natCast_one]at c2 c3 p1 p4 hL' hS c11 c12;simp only[List.map_cons,List.map_nil]at c4 c5 c9 c10 c11;generalize gI r _ 12=SL at*;generalize oneL 5 1 (recvM P)=ER at*;generalize oneL 5 0 (lateM P)=EA at*;generalize oneL 4 1 closeM=EC at*;generalize oneL 5 0 closedM=ED at*;have c8:=nI (SL++([EC]++(tickL++([ED]++([ES]++([ER]++(tickL++(tickL++[EA])))))))) (by simp[hL',tickL]) (λe he=>by
   simp only[List.mem_append,List.mem_singleton]at he;rcases he with he|he|he|he|he|he|he|he|he
   ·exact hS e he
   ·rw[he];exact sC
   ·exact eX e he
   ·rw[he];exact sD
   ·rw[he];exact sS
   ·rw[he];exact sR
   ·exact eX e he
   ·exact eX e he
   ·rw[he];exact sA)
  rw[if_neg (by simp[hL',tickL]),p4]at c8;have c7:=lh [SL,[EC],tickL,[ED],[ES],[ER],tickL,tickL,[EA]] (by simp) (by simp[hL',tickL]);have hf:[SL,[EC],tickL,[ED],[ES],[ER],tickL,tickL,[EA]].flatten=SL++([EC]++(tickL++([ED]++([ES]++([ER]++(tickL++(tickL++[EA]))))))):=by simp
  rw[hf]at c7;have lds:ds'.length=17:=p6;have at_:∀{j:Nat}{e:Int},([0]++([0,0,0,0]++([0]++([12]++([12]++([0,0,0,0]++([0,0,0,0]++[0])))))):List Int)[j]?=some e->∃d,((ds++ds').map aO)[45+j]?=some (aO d)/\d.err=e:=λ{j e} h=>by obtain⟨d,g1,g2⟩:=err_at p5 h;refine⟨d,?_,g2⟩;rw[List.getElem?_map,List.getElem?_append_right (by omega),p2,show 45+j-45=j by omega,g1];rfl
  obtain⟨d1,s1,f1⟩:=at_ (j:=5) (e:=0) rfl;obtain⟨d2,s2,f2⟩:=at_ (j:=6) (e:=12) rfl;obtain⟨d3,s3,f3⟩:=at_ (j:=7) (e:=12) rfl;obtain⟨d4,s4,f4⟩:=at_ (j:=16) (e:=0) rfl;simp only[Nat.reduceAdd]at s1 s2 s3 s4;have hm:((ds++ds').map aO).length=62:=by rw[List.length_map,List.length_append,p2,lds]
  have w1:(62:Int)-12=50:=by decide
  have w2:(50:Int)+1=51:=by decide
  have w3:(50:Int)+2=52:=by decide
  have w4:(50:Int)+11=61:=by decide
  have w5:((1000:Nat):Int)=1000:=rfl;have k9:=iN w'.1.s.pus ownA goldA (by have:=r1.len;omega) r1.srt;rw[q4]at k9;simp only[ownA,goldA]at k9;generalize(ds++ds').map aO=dd at*;generalize(SL++([EC]++(tickL++([ED]++([ES]++([ER]++(tickL++(tickL++[EA])))))))).map encEv=LA at*;have c6:=sF;clear p1 p2 p4 p5 p6 o l1 lds hf at_ hS sR sA sC sD sS hlen wt n1 q4 r1;simp only[List.map_cons,List.map_nil]at c7;generalize tickL.map encEv=LT at*;generalize SL.map encEv=LE at*;clear hL';generalize encEv ER=E1 at*;generalize encEv EA=E2 at*;generalize encEv EC=E3 at*;generalize encEv ED=E4 at*;generalize encEv ES=E5 at*;clear w;obtain⟨A,B⟩:=w';simp only at*;have k2:=c2;clear c2;refine aa 120 Tryz.func8 ?_;refine wkl ?_;clear hR;intro hR;intros;clear c1;have c1:=k2;have c2:=k9;clear k2 k9;exact wkl trivial
end Go.Proofs.YtoifllbioldomaaGreatDoor
