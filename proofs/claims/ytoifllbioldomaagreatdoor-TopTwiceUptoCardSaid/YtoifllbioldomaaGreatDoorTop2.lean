/- The law TopTwice: the walk. -/
import Derived.Test.YtoifllbioldomaaGreatDoorGTq
set_option linter.all false
set_option maxHeartbeats 16000000
set_option maxRecDepth 20000
namespace Go.Proofs.YtoifllbioldomaaGreatDoor
open Go Go.Abs Go.RowKit Go.Proofs.YtoifllbioldomaaGreatDoor.Ty
attribute [local go_sem] List.map_cons List.map_nil
attribute [local simp,local go_sem] recvM ackM
theorem walk_TopTwice (y0:I)(r:Bool)(e0:y0=.s (.bool r))(y1:I)(n:Nat)(e1:y1=.s (.int .u64 (n:Int))/\n<18446744073709551616)(_hb:bkI y0+bkI y1<=1048576):
  ∃Ds,PureD Tryz.prog 6 Ds (.i (.s (.bool true)))/\Ds=[.i y0,.i y1]:=by
 clear _hb;obtain rfl:=e0;obtain⟨rfl,h64⟩:=e1;refine⟨_,?_,rfl⟩;refine af λR hR=>?_;have c1:=oM;have c2:=nO n eveA;have wt:wordOk eveA=true:=by decide
 by_cases hn:1<=n/\n<=1000
 rotate_left
 ·obtain⟨w0,d,ow,hs,hd⟩:=sc_unsent (tw:=eveA) (T:=900) r h64 (λq=>hn q.1) (by decide);obtain⟨ds,p1,p2,p3⟩:=sent_play ow hs;have c3:=jY r (goldT n eveA) 900 p1 p2 p3 h64 (show goldA.size<=1048576 by decide) (show ownA.size<=1048576 by decide) (show eveA.size<=1048576 by decide);rw[if_neg hd]at c3;clear ow hs hd p1 p2 p3 wt;simp only[trD,goldT,eveA]at c2 c3;refine aa 115 Tryz.func6 ?_;exact wkl trivial
 ·obtain⟨w,w0,d,ow,hs,hd,hpk,l1⟩:=sc_sent (T:=900) r hn wt (by decide);obtain⟨ds,p1,p2,p3⟩:=sent_play ow hs;have c3:=jY r (goldT n eveA) 900 p1 p2 p3 h64 (show goldA.size<=1048576 by decide) (show ownA.size<=1048576 by decide) (show eveA.size<=1048576 by decide);rw[if_pos hd,hpk]at c3;clear ow hs hd p3 hpk;obtain⟨w',o⟩:=sc_twice r hn l1;obtain⟨hn1,hn2⟩:=hn;obtain⟨ds',p4,p5,p6⟩:=play_more p1 o;have hlen:(bytesT (goldT n eveA)).length<=1048576:=Nat.le_trans (fP (t:=goldT n eveA) (show goldA.size<=40 by decide) (show ownA.size<=40 by decide) (show eveA.size<=40 by decide)) (by decide);have n1:fe 1:=by unfold fe;decide
  have sR:oZ (oneL 5 1 (recvM (pkOf 1 (goldT n eveA) 900))):=mK n1 hlen (by simp[zeroMsg]);have sA:oZ (oneL 5 0 (ackM (pkOf 1 (goldT n eveA) 900))):=mK n1 hlen (by simp);have hS:∀e∈gI r (goldT n eveA) 900,oZ e:=ma h64 (show goldA.size<=1048576 by decide) (show ownA.size<=1048576 by decide) (show eveA.size<=1048576 by decide);have k4:=ik 5 1 (recvM (pkOf 1 (goldT n eveA) 900));have k5:=ik 5 0 (ackM (pkOf 1 (goldT n eveA) 900));have hL:((gI r (goldT n eveA) 900).map encEv).length=45:=by rw[List.length_map,fw]
  have hL':=fw r (goldT n eveA) 900;generalize pkOf 1 (goldT n eveA) 900=P at*;simp only[trD,goldT,eveA]at c2 c3 p1 p4 hL hL' hS;simp only[List.map_cons,List.map_nil]at k4 k5;generalize gI r _ 900=SL at*;generalize oneL 5 1 (recvM P)=ER at*;generalize oneL 5 0 (ackM P)=EA at*;have k8:=nI (SL++(tickL++([ER]++([ER]++(tickL++([ER]++([EA]++([EA]++(tickL++[EA]))))))))) (by simp[hL',tickL]) (λe he=>by
   simp only[List.mem_append,List.mem_singleton]at he;rcases he with he|he|he|he|he|he|he|he|he|he
   ·exact hS e he
   ·exact eX e he
   ·rw[he];exact sR
   ·rw[he];exact sR
   ·exact eX e he
   ·rw[he];exact sR
   ·rw[he];exact sA
   ·rw[he];exact sA
   ·exact eX e he
   ·rw[he];exact sA)
  rw[if_neg (by simp[hL',tickL]),p4]at k8;have k7:=lh [SL,tickL,[ER],[ER],tickL,[ER],[EA],[EA],tickL,[EA]] (by simp) (by simp[hL',tickL]);have hf:[SL,tickL,[ER],[ER],tickL,[ER],[EA],[EA],tickL,[EA]].flatten=SL++(tickL++([ER]++([ER]++(tickL++([ER]++([EA]++([EA]++(tickL++[EA])))))))):=by simp
  rw[hf]at k7;have lds:ds'.length=18:=p6;have at_:∀{j:Nat}{e:Int},([0,0,0,0]++([0]++([12]++([0,0,0,0]++([12]++([0]++([6]++([0,0,0,0]++[6]))))))):List Int)[j]?=some e->∃d,((ds++ds').map aO)[45+j]?=some (aO d)/\d.err=e:=λ{j e} h=>by obtain⟨d,g1,g2⟩:=err_at p5 h;refine⟨d,?_,g2⟩;rw[List.getElem?_map,List.getElem?_append_right (by omega),p2,show 45+j-45=j by omega,g1];rfl
  obtain⟨d1,s1,f1⟩:=at_ (j:=4) (e:=0) rfl;obtain⟨d2,s2,f2⟩:=at_ (j:=5) (e:=12) rfl;obtain⟨d3,s3,f3⟩:=at_ (j:=10) (e:=12) rfl;obtain⟨d4,s4,f4⟩:=at_ (j:=11) (e:=0) rfl;obtain⟨d5,s5,f5⟩:=at_ (j:=12) (e:=6) rfl;obtain⟨d6,s6,f6⟩:=at_ (j:=17) (e:=6) rfl;simp only[Nat.reduceAdd]at s1 s2 s3 s4 s5 s6;have hm:((ds++ds').map aO).length=63:=by rw[List.length_map,List.length_append,p2,lds]
  have w1:(45:Int)+4=49:=by decide
  have w2:(49:Int)+1=50:=by decide
  have w3:(49:Int)+6=55:=by decide
  have w4:(49:Int)+7=56:=by decide
  have w5:(49:Int)+8=57:=by decide
  have w6:(63:Int)-1=62:=by decide
  have w7:((45:Nat):Int)=45:=rfl;generalize(ds++ds').map aO=dd at*;generalize(SL++(tickL++([ER]++([ER]++(tickL++([ER]++([EA]++([EA]++(tickL++[EA]))))))))).map encEv=LA at*;have c4:=k4;have c5:=k5;have c6:=sF;have c7:=k7;have c8:=k8;clear k4 k5 k7 k8 p1 p2 p4 p5 p6 o l1 lds hf at_ hS sR sA hlen wt n1;simp only[List.map_cons,List.map_nil]at c7;generalize tickL.map encEv=LT at*;generalize hSE:SL.map encEv=LE at*;clear hSE hL';generalize encEv ER=E1 at*;generalize encEv EA=E2 at*;clear w;obtain⟨A,B⟩:=w';simp only at*;refine aa 115 Tryz.func6 ?_;exact wkl trivial
end Go.Proofs.YtoifllbioldomaaGreatDoor
