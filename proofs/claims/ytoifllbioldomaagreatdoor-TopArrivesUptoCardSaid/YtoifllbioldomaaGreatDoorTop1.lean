/- The law TopArrives: the walk. -/
import Derived.Test.YtoifllbioldomaaGreatDoorGTq
set_option linter.all false
set_option maxHeartbeats 16000000
set_option maxRecDepth 20000
namespace Go.Proofs.YtoifllbioldomaaGreatDoor
open Go Go.Abs Go.RowKit Go.Proofs.YtoifllbioldomaaGreatDoor.Ty
attribute [local go_sem] List.map_cons List.map_nil
attribute [local simp,local go_sem] recvM ackM
theorem walk_TopArrives (y0:I)(r:Bool)(e0:y0=.s (.bool r))(y1:I)(n:Nat)(e1:y1=.s (.int .u64 (n:Int))/\n<18446744073709551616)(y2:I)(tw:ByteArray)(e2:y2=.s (.string tw)/\tw.size<=maxLen)(hb:bkI y0+bkI y1+bkI y2<=1048576):
  ∃Ds,PureD Tryz.prog 3 Ds (.i (.s (.bool true)))/\Ds=[.i y0,.i y1,.i y2]:=by
 obtain rfl:=e0;obtain⟨rfl,h64⟩:=e1;obtain⟨rfl,_⟩:=e2;refine⟨_,?_,rfl⟩;have hsz:tw.size<=1048576:=by simp[bkI]at hb;omega
 clear hb;refine af λR hR=>?_;have c1:=oM;have c2:=nO n tw;by_cases hq:(1<=n/\n<=1000)/\wordOk tw=true
 rotate_left
 ·obtain⟨w0,d,ow,hs,hd⟩:=sc_unsent (T:=900) r h64 hq (by decide);obtain⟨ds,p1,p2,p3⟩:=sent_play ow hs;have c3:=jY r (goldT n tw) 900 p1 p2 p3 h64 (show goldA.size<=1048576 by decide) (show ownA.size<=1048576 by decide) hsz;rw[if_neg hd]at c3;rw[wordOk_iff]at hq;clear ow hs hd p1 p2 p3;simp only[trD,goldT]at c2 c3;refine aa 113 Tryz.func3 ?_;exact wkl trivial
 ·obtain⟨hn,wt⟩:=hq;obtain⟨w,w0,d,ow,hs,hd,hpk,l1⟩:=sc_sent (T:=900) r hn wt (by decide);obtain⟨ds,p1,p2,p3⟩:=sent_play ow hs;have c3:=jY r (goldT n tw) 900 p1 p2 p3 h64 (show goldA.size<=1048576 by decide) (show ownA.size<=1048576 by decide) hsz;rw[if_pos hd,hpk]at c3;have wt2:=wordOk_iff.1 wt;obtain⟨wt3,wt4⟩:=wt2;obtain⟨hn1,hn2⟩:=hn;clear ow hs hd p3 hpk;simp only[trD,goldT]at c2;have ix:∀(t:TypeId) (u:Option TypeDesc),aA Tryz.prog t=some .string->idQ Tryz.prog t (.i (.s (.string tw))) u (some (.int .i64 0))=some (.i (.s (.int .u8 ((byS tw 0).toNat:Int)))):=λt u h=>yg h (by decide) (show 0<tw.size by omega);have ix9:=ix 9 (some .string) (by kernel_rfl);by_cases h35:((byS tw 0).toNat:Int)=35
  ·clear l1 p1;simp only[trD,goldT]at c3;generalize(gI r _ 900).map encEv=LE at*;refine aa 113 Tryz.func3 ?_;exact wkl trivial
  ·have hsf:eY tw=false:=zC λq=>h35 (by
    unfold byS;rw[List.getD_eq_getElem?_getD,Array.getElem?_toList,q];rfl)
   obtain⟨w',o,q1,q2,q3,q4,r1,r2⟩:=sc_arrives r ⟨hn1,hn2⟩ wt hsf l1;obtain⟨ds',p4,p5,p6⟩:=play_more p1 o;obtain⟨dl,g1,g2⟩:=err_at p5 (j:=9) (e:=0) rfl;have hlen:(bytesT (goldT n tw)).length<=1048576:=Nat.le_trans (fP (t:=goldT n tw) (show goldA.size<=40 by decide) (show ownA.size<=40 by decide) wt4) (by decide);have n1:fe 1:=by unfold fe;decide
   have hev:∀e∈gI r (goldT n tw) 900++(tickL++([oneL 5 1 (recvM (pkOf 1 (goldT n tw) 900))]++(tickL++[oneL 5 0 (ackM (pkOf 1 (goldT n tw) 900))]))),oZ e:=λe he=>by
    simp only[List.mem_append,List.mem_singleton]at he;rcases he with he|he|he|he|he
    ·exact ma h64 (show goldA.size<=1048576 by decide) (show ownA.size<=1048576 by decide) hsz e he
    ·exact eX e he
    ·rw[he];exact mK n1 hlen (by simp[zeroMsg])
    ·exact eX e he
    ·rw[he];exact mK n1 hlen (by simp)
   have lds:ds'.length=10:=p6;have k8:=nI _ (by simp[fw,tickL]) hev;rw[if_neg (by simp[fw,tickL]),p4]at k8;have k7:=lh [gI r (goldT n tw) 900,tickL,[oneL 5 1 (recvM (pkOf 1 (goldT n tw) 900))],tickL,[oneL 5 0 (ackM (pkOf 1 (goldT n tw) 900))]] (by simp) (by simp[fw,tickL]);have hf:[gI r (goldT n tw) 900,tickL,[oneL 5 1 (recvM (pkOf 1 (goldT n tw) 900))],tickL,[oneL 5 0 (ackM (pkOf 1 (goldT n tw) 900))]].flatten=gI r (goldT n tw) 900++(tickL++([oneL 5 1 (recvM (pkOf 1 (goldT n tw) 900))]++(tickL++[oneL 5 0 (ackM (pkOf 1 (goldT n tw) 900))]))):=by simp
   rw[hf]at k7;generalize hAll:gI r (goldT n tw) 900++(tickL++([oneL 5 1 (recvM (pkOf 1 (goldT n tw) 900))]++(tickL++[oneL 5 0 (ackM (pkOf 1 (goldT n tw) 900))])))=All at*;have k5:=ik 5 1 (recvM (pkOf 1 (goldT n tw) 900));have k6:=ik 5 0 (ackM (pkOf 1 (goldT n tw) 900));have k4:=sF;have k9:=iN w'.2.s.pus tw vouA (by have:=r2.len;omega) r2.srt;have k10:=iN w'.1.s.pus safeA goldA (by have:=r1.len;omega) r1.srt;have k11:=iN w'.1.s.pus ownA goldA (by have:=r1.len;omega) r1.srt;rw[q2]at k9;rw[q3]at k10;rw[q4]at k11;have s0:((ds++ds').map aO)[54]?=some (aO dl):=by rw[List.getElem?_map,List.getElem?_append_right (by omega),p2,g1];rfl
   have hm:((ds++ds').map aO).length=55:=by rw[List.length_map,List.length_append,p2,lds]
   have w9:(55:Int)-1=54:=by decide
   have w10:IntKind.u64.wrap (1000-(n:Int))=((1000-n:Nat):Int):=by rw[IntKind.wrap_u64];omega
   have se:w'.1.s.sent.length=0:=by rw[q1];rfl
   clear p1 p2 p4 p5 p6 o l1 q2 q3 q4 r1 r2 g1 lds hev hf hAll hsf wt;simp only[trD,goldT]at c3 k5 k6 k7;generalize(ds++ds').map aO=dd at*;generalize All.map encEv=LA at*;simp only[List.map_cons,List.map_nil]at k7 k5 k6;generalize tickL.map encEv=LT at*;generalize(gI r _ 900).map encEv=LE at*;generalize encEv (oneL 5 1 _)=E1 at*;generalize encEv (oneL 5 0 _)=E2 at*;obtain⟨A,B⟩:=w';simp only at*;simp only[vouA,goldA,safeA,ownA]at k9 k10 k11;have k2:=c2;have k3:=c3;clear c2 c3;refine aa 113 Tryz.func3 ?_;refine wkl ?_;clear hR;intro hR;intros;clear c1;have c1:=k2;have c2:=k3;have c3:=k4;have c4:=k5;have c5:=k6;have c6:=k7;have c7:=k8;have c8:=k9;have c9:=k10;have c10:=k11;clear k2 k3 k4 k5 k6 k7 k8 k9 k10 k11;exact wkl trivial
end Go.Proofs.YtoifllbioldomaaGreatDoor
