/- The law TopCaught: the walk. -/
import Derived.Test.YtdmeldhlbpdeeaaGreatDoorTcQ
set_option linter.all false
set_option maxHeartbeats 16000000
set_option maxRecDepth 20000
namespace Go.Proofs.YtdmeldhlbpdeeaaGreatDoor
open Go Go.Abs Go.RowKit Go.Proofs.YtdmeldhlbpdeeaaGreatDoor.Ty
attribute [local go_sem] List.map_cons List.map_nil
attribute [local simp,local go_sem] qx catM Wm
theorem walk_TopCaught (y0:I)(n:Nat)(e0:y0=.s (.int .u64 (n:Int))/\n<18446744073709551616)(y1:I)(root:List UInt8)(e1:y1=bI root)(_hb:bkI y0+bkI y1<=1048576):
  ∃Ds,PureD Tryz.prog 5 Ds (.i (.s (.bool true)))/\Ds=[.i y0,.i y1]:=by
 clear _hb;obtain⟨rfl,h64⟩:=e0;subst e1;refine⟨_,?_,rfl⟩;refine ai λR hR=>?_;have c1:=zY;by_cases hq:(1<=n/\n<=1000)/\root.length=32
 rotate_left
 ·have hq2:n<1\/1000<n\/¬(root.length:Int)=32:=by omega
  clear hq;refine aa 201 Tryz.func5 ?_;exact wkl trivial
 obtain⟨hn,hr⟩:=hq;have wt:wordOk eveA=true:=by decide
 obtain⟨w,w0,d,ow,hs,hd,hpk,l1⟩:=sc_sent (T:=900) false hn wt (by decide);obtain⟨ds,p1,p2,p3⟩:=sent_play ow hs;have c3:=ZP false (goldT n eveA) 900 p1 p2 p3 h64 (show il.size<=1048576 by decide) (show xn.size<=1048576 by decide) (show eveA.size<=1048576 by decide);rw[if_pos hd,hpk]at c3;have c2:=ZQ n eveA;clear ow hs hd p3 hpk;obtain⟨w1,o1,l2⟩:=o_tick l1 (by decide) (by decide) (by decide);obtain⟨ds1,p4,p5,p6⟩:=play_more p1 o1;obtain⟨q1,q2,q3,⟨K0,q4,q5⟩,⟨K1,q6,q7,q8,q9⟩⟩:=kn_C l2;have sc:=MR (root:=root) hn l2 rfl hr;have hlen:(bytesT (goldT n eveA)).length<=1048576:=Nat.le_trans (Dl (t:=goldT n eveA) (show il.size<=40 by decide) (show xn.size<=40 by decide) (show eveA.size<=40 by decide)) (by decide);have n1:gT 1:=by unfold gT;decide
 have sR:JZ (oneL 5 1 (qx (pkOf 1 (goldT n eveA) 900))):=acM n1 hlen (by simp[zeroMsg]);have sC:JZ (oneL 4 1 (catM (rtC w1) root)):=aaK q3 hr;have sZ:JZ (oneL 3 1 zeroMsg):=by
  have n0:gT 0:=by unfold gT;decide
  exact⟨zeroMsg_sm,⟨n0,n0,n0,n0⟩⟩
 have hS:∀e∈rF false (goldT n eveA) 900,JZ e:=Gl h64 (show il.size<=1048576 by decide) (show xn.size<=1048576 by decide) (show eveA.size<=1048576 by decide);have u1:=aho (rtC w1) q3 K0 K1 q5 q7 q8;have u2:=aho root hr K0 K1 q5 q7 q8;have k5:=Ii 4 1 (catM (rtC w1) root);have k6:=Ii 5 1 (qx (pkOf 1 (goldT n eveA) 900));have k7:=Ii 3 1 zeroMsg;have hL':=vN false (goldT n eveA) 900;have k1:=jW (eY nmA) (by rw[vF];decide) valsA_sm;have k9:=BH root (rtC w1) (by rw[hr];decide);have fin:∃(w2:kY) (ds2:List jE) (a b z:Int),nu (rF false (goldT n eveA) 900++tickL++([oneL 4 1 (catM (rtC w1) root)]++([oneL 5 1 (qx (pkOf 1 (goldT n eveA) 900))]++[oneL 3 1 zeroMsg])))=(w2,ds++ds1++ds2)/\ds2.map (·.err)=[a]++([b]++[z])/\ds2.length=3/\((root=rtC w1/\a=8/\b=0)\/(¬root=rtC w1/\a=0/\b=12/\z=12)):=by
  by_cases hne:rtC w1=root
  ·obtain⟨w2,z,o2⟩:=sc.2 hne;obtain⟨ds2,g1,g2,g3⟩:=play_more p4 o2;exact⟨w2,ds2,8,0,z,g1,g2,g3,.inl ⟨hne.symm,rfl,rfl⟩⟩
  ·obtain⟨w2,o2⟩:=sc.1 hne;obtain⟨ds2,g1,g2,g3⟩:=play_more p4 o2;exact⟨w2,ds2,0,12,12,g1,g2,g3,.inr ⟨λq=>hne q.symm,rfl,rfl,rfl⟩⟩
 obtain⟨w2,ds2,a,b,z,p7,p8,p9,hcase⟩:=fin;clear sc;generalize pkOf 1 (goldT n eveA) 900=P at*;simp only[trD,goldT,eveA]at c2 c3 p1 p4 p7 hL' hS;generalize rF false _ 900=SL at*;generalize rtC w1=r0 at*;generalize hE1:oneL 4 1 (catM r0 root)=E1 at*;generalize hE2:oneL 5 1 (qx P)=E2 at*;generalize hE3:oneL 3 1 zeroMsg=E3 at*;have c4:=ZO;have c5:=EI [SL,tickL] (by simp) (by simp[hL',tickL]);have hf:[SL,tickL].flatten=SL++tickL:=by simp
 rw[hf]at c5;have hS1:∀e∈SL++tickL,JZ e:=λe he=>by
  rcases List.mem_append.1 he with he|he
  ·exact hS e he
  ·exact SG e he
 have c6:=GL (SL++tickL) (by simp[hL',tickL]) hS1;rw[if_neg (by simp[hL',tickL]),p4]at c6;have hL1:(SL++tickL).length=49:=by simp[hL',tickL]
 have k8:=EI [SL++tickL,[E1],[E2],[E3]] (by simp) (by simp[hL',tickL]);have hf2:[SL++tickL,[E1],[E2],[E3]].flatten=SL++tickL++([E1]++([E2]++[E3])):=by simp
 rw[hf2]at k8;have k10:=GL (SL++tickL++([E1]++([E2]++[E3]))) (by simp[hL',tickL]) (λe he=>by
  rcases List.mem_append.1 he with he|he
  ·exact hS1 e he
  ·simp only[List.mem_append,List.mem_singleton]at he;rcases he with he|he|he
   ·rw[he];exact sC
   ·rw[he];exact sR
   ·rw[he];exact sZ)
 rw[if_neg (by simp[hL',tickL]),p7]at k10;generalize SL++tickL=L1 at*;have lds:ds1.length=4:=p6;have hm1:((ds++ds1).map fZ).length=49:=by simp[p2,lds]
 have at_:∀{j:Nat}{e:Int},([a]++([b]++[z]):List Int)[j]?=some e->∃d,((ds++ds1++ds2).map fZ)[49+j]?=some (fZ d)/\d.err=e:=λ{j e} h=>by obtain⟨d,g1,g2⟩:=err_at p8 h;refine⟨d,?_,g2⟩;rw[List.getElem?_map,List.getElem?_append_right (by simp[p2,lds]<;>omega),List.length_append,p2,lds,show 49+j-(45+4)=j by omega,g1];rfl
 obtain⟨da,s1,f1⟩:=at_ (j:=0) (e:=a) rfl;obtain⟨db,s2,f2⟩:=at_ (j:=1) (e:=b) rfl;obtain⟨dz,s3,f3⟩:=at_ (j:=2) (e:=z) rfl;simp only[Nat.reduceAdd]at s1 s2 s3;have hm:((ds++ds1++ds2).map fZ).length=52:=by simp[p2,lds,p9]
 generalize(ds++ds1++ds2).map fZ=D2 at*;generalize(ds++ds1).map fZ=D1 at*;obtain⟨A,B⟩:=w1;simp only at q1 q2 q4 q6;generalize knl A 10=KL at*;replace q4:(KL.map gL)[8]?=some (gL K0):=by rw[List.getElem?_map,q4];rfl
 replace q6:(KL.map gL)[9]?=some (gL K1):=by rw[List.getElem?_map,q6];rfl
 replace q2:(KL.map gL).length=10:=by rw[List.length_map,q2]
 replace q1:B.s.cls.map gF=[gF ⟨nmA,100,false,KL⟩]:=by rw[q1];rfl
 have w9:(10:Int)-2=8:=by decide
 have w10:(10:Int)-1=9:=by decide
 have w11:(49:Int)+1=50:=by decide
 have w12:(49:Int)+2=51:=by decide
 obtain⟨a0,b0,d0,e0⟩:=K0;obtain⟨a1,b1',r1,e1'⟩:=K1;simp only at q5 q7 q8 q9;subst q5;subst q7;subst q8;subst q9;clear p1 p2 p4 p5 p6 p7 p8 p9 o1 l1 l2 lds hf hf2 at_ hS hS1 sC sR sZ hlen wt n1 q3;simp only[catM]at k5;generalize upC r1=U1 at*;generalize upC root=U2 at*;simp only[List.map_cons,List.map_nil]at k5 k6 k7 c5 k8;simp only[gF,jT,nmA]at q1;generalize KL.map gL=KI at*;generalize(L1++([E1]++([E2]++[E3]))).map encEv=LA at*;generalize tickL.map encEv=LT at*;generalize SL.map encEv=LE at*;have hLF:(L1.map encEv).length=49:=by rw[List.length_map,hL1]
 generalize L1.map encEv=LF at*;generalize encEv E1=I1 at*;generalize encEv E2=I2 at*;generalize encEv E3=I3 at*;clear hL' hL1 hE1 hE2 hE3;obtain⟨A2,B2⟩:=w2;simp only at*;refine aa 201 Tryz.func5 ?_;refine wkl ?_;clear hR;intro hR;intros;clear c1 c2 c3 c4 c5 c6;refine aS (ι:=Nat) (λi=>i<=3)
  (λi=>if i<3 then dP [(1,.i (bI root)),(5,.i (.sl LF)),(6,.pt 100 0 0 0),(12,.pt 101 0 0 0),(13,.pt 102 0 0 0),(14,.pt 103 0 0 0),(15,.pt 104 0 0 0),(78,.os 107 1 0 3),(79,intD 3),(80,intD i)]
   [(100,.box ((PL P).map .i)),(101,.box [.i (.s (.int .i64 9)),.i (.s (.int .i64 b0)),.i (bI d0),.i (bI e0)]),(102,.box [.i (.s (.int .i64 10)),.i (.s (.int .i64 10)),.i (bI r1),.i (bI e1')]),(103,.box [.os 105 2 0 i]),(104,.box [.os 106 1 0 i]),(105,.arr 2 ((tVA i).map bW)),(106,.arr 1 ((RP i).map λb=>[bI b])),(107,.arr 1 [[.s (.string ⟨#[97,48]⟩)],[.s (.string ⟨#[97,49]⟩)],[.s (.string ⟨#[97,50]⟩)]])]
  else dP [(1,.i (bI root)),(5,.i (.sl LF)),(6,.pt 100 0 0 0),(12,.pt 101 0 0 0),(13,.pt 102 0 0 0),(14,.pt 103 0 0 0),(15,.pt 104 0 0 0),(79,intD 3),(80,intD i)]
   [(100,.box ((PL P).map .i)),(101,.box [.i (.s (.int .i64 9)),.i (.s (.int .i64 b0)),.i (bI d0),.i (bI e0)]),(102,.box [.i (.s (.int .i64 10)),.i (.s (.int .i64 10)),.i (bI r1),.i (bI e1')]),(103,.box [.i (.sl ((tVA i).map bW))]),(104,.box [.i (.sl ((RP i).map λb=>[bI b]))])]) (λi=>3-i) 0 (Nat.zero_le _) ?_ ?_
 ·rw[if_pos (by decide)];simp only[show tVA 0=[]from rfl,show RP 0=[]from rfl,List.map_nil];exact dB [] [(100,2287),(101,4340),(102,4341),(103,4584),(104,4840),(107,5096)]
 ·rintro i hi RL hL;by_cases h:i<3
  ·rw[if_pos h,ag];have c1:=Nc (unB (xsA i)) (by show 2<=1048576;decide);have s0:([[I.s (.string ⟨#[97,48]⟩)],[.s (.string ⟨#[97,49]⟩)],[.s (.string ⟨#[97,50]⟩)]]:List (List I))[i]?=some [.s (.string (xsA i))]:=by
    have:i=0\/i=1\/i=2:=by omega
    rcases this with rfl|rfl|rfl<;>rfl
   generalize([[I.s (.string ⟨#[97,48]⟩)],[.s (.string ⟨#[97,49]⟩)],[.s (.string ⟨#[97,50]⟩)]]:List (List I))=AR at*;have hl:=Mt i;have hnx:tVA (i+1)=Dz (tVA i) ⟨keyF (unB (xsA i)),1⟩:=rfl;have hsd:RP (i+1)=RP i++[unB (xsA i)]:=by unfold RP;rw[List.range_succ,List.map_append];rfl
   have hsl:(RP i).length=i:=by simp[RP]
   clear k1 u1 u2 k5 k6 k7 k8 k9 k10;have hX:(xsA i).size<=140737488355328:=by show 2<=140737488355328;decide
   have hst:bI (unB (xsA i))=.sl (List.map aH (xsA i).data.toList):=rfl;rw[hst]at c1;generalize keyF (unB (xsA i))=K at*;generalize xsA i=X at*;generalize tVA i=L at*;generalize RP i=S at*;have hpl:=Nk L ⟨K,1⟩;refine wkl ?_;clear hR;intro hR;intros;clear c1;refine aS (ι:=Nat) (λk=>k<=L.length/\plT L ⟨K,1⟩=k+plT (L.drop k) ⟨K,1⟩)
    (λk=>dP [(1,.i (bI root)),(5,.i (.sl LF)),(6,.pt 100 0 0 0),(12,.pt 101 0 0 0),(13,.pt 102 0 0 0),(14,.pt 103 0 0 0),(15,.pt 104 0 0 0),(78,.os 107 1 0 3),(79,intD 3),(80,intD i),(17,.i (.s (.string X))),(18,.pt 108 0 0 0),(19,intD k)]
     [(100,.box ((PL P).map .i)),(101,.box [.i (.s (.int .i64 9)),.i (.s (.int .i64 b0)),.i (bI d0),.i (bI e0)]),(102,.box [.i (.s (.int .i64 10)),.i (.s (.int .i64 10)),.i (bI r1),.i (bI e1')]),(103,.box [.os 105 2 0 i]),(104,.box [.os 106 1 0 i]),(105,.arr 2 (L.map bW)),(106,.arr 1 (S.map λb=>[bI b])),(107,.arr 1 AR),(108,.box [.i (.s (.int .u64 K)),.i (.s (.int .u64 1))])]) (λk=>L.length-k) 0 ⟨Nat.zero_le _,by simp⟩ ?_ ?_
   ·exact dB [] [(100,100),(101,101),(102,102),(103,103),(104,104),(105,105),(106,106),(107,107),(108,5868)]
   ·rintro k ⟨hk,hp⟩ RL2 hL2;rw[ag];by_cases h2:k<L.length
    ·have e2:=aI (f:=bW) h2;rw[List.drop_eq_getElem_cons h2,GM]at hp;generalize hvv:L[k]=v at*;by_cases hv:v.k<K
     ·rw[if_pos hv]at hp;have hv2:(v.k:Int)<(K:Int):=by omega
      have b1:=λσ'=>bk [] [(100,100),(101,101),(102,102),(103,103),(104,104),(105,105),(106,106),(107,107),(108,108)] (hL2 (k+1) σ' ⟨h2,by omega⟩);clear hL hL2 hnx hsd hpl hp;exact wkl trivial
     ·rw[if_neg hv]at hp;have hv2:¬(v.k:Int)<(K:Int):=by omega
      simp only[Nat.add_zero]at hp;have hin:Dz L ⟨K,1⟩=L.take k++⟨K,1⟩::L.drop k:=by unfold Dz;rw[hp]
      rw[hin]at hnx;have lm:(L.map bW).length=i:=by simp[hl]
      have us:uni 1 (S.map λb=>[bI b])=true:=eG (s:=1) (f:=λb=>[bI b]) (λ_=>rfl) _;have u1:uni 2 ((L.map bW).take k)=true:=by rw[<- List.map_take];exact eG (s:=2) (f:=bW) (λ_=>rfl) _
      have u2:uni 2 ((L.map bW).drop k)=true:=by rw[<- List.map_drop];exact eG (s:=2) (f:=bW) (λ_=>rfl) _
      have u3:uni 2 (L.map bW)=true:=eG (s:=2) (f:=bW) (λ_=>rfl) _;have a2:(L.map bW).take i=L.map bW:=List.take_of_length_le (by simp[hl]);have a3:((L.map bW).drop k).take (i-k)=(L.map bW).drop k:=List.take_of_length_le (by simp[hl]);have a4:k<=i:=by omega
      have d1':((L.map bW).take k).length=k:=by simp[hl];omega
      have d2':((L.map bW).drop k).length=i-k:=by simp[hl]
      have f7:k+1+(i-k)=i+1:=by omega
      have lS:(S.map λb=>[bI b]).length=i:=by simp[hsl]
      have h1:=λσ'=>hL (i+1) σ' h;by_cases h3:i+1<3
      ·simp only[if_pos h3]at h1;have b1:=λσ'=>bk [] [(100,100),(101,101),(102,102),(103,103),(104,104),(105,6899),(106,7148),(107,107)] (h1 σ');rw[hnx,hsd]at b1;simp only[List.map_append,List.map_cons,List.map_nil,List.map_take,List.map_drop,hst]at b1;simp only[bI]at us lS;clear hin hp hpl hnx hsd hL hL2 h1;exact wkl trivial
      ·have f9:i+1<=k+(i-k+1):=by omega
       have ta:(List.take k (List.map bW L)++[I.s (.int .u64 (K:Int)),.s (.int .u64 1)]::List.drop k (List.map bW L)).take (i+1)=List.take k (List.map bW L)++[I.s (.int .u64 (K:Int)),.s (.int .u64 1)]::List.drop k (List.map bW L):=List.take_of_length_le (by simp[hl];omega);have tb:(List.map (λb=>[I.sl (List.map aH b)]) S++[[I.sl (List.map aH X.data.toList)]]).take (i+1)=List.map (λb=>[I.sl (List.map aH b)]) S++[[I.sl (List.map aH X.data.toList)]]:=List.take_of_length_le (by simp[hsl]);simp only[if_neg h3]at h1;have b1:=λσ'=>bk [6899,7148] [(100,100),(101,101),(102,102),(103,103),(104,104)] (h1 σ');rw[hnx,hsd]at b1;simp only[List.map_append,List.map_cons,List.map_nil,List.map_take,List.map_drop,hst]at b1;simp only[bI]at us lS;clear hin hp hpl hnx hsd hL hL2 h1;exact wkl trivial
    ·have hki:k=L.length:=by omega
     rw[List.drop_eq_nil_of_le (by omega)]at hp;simp only[show plT [] ⟨K,1⟩=0 from rfl,Nat.add_zero]at hp;have hin:Dz L ⟨K,1⟩=L.take k++⟨K,1⟩::L.drop k:=by unfold Dz;rw[hp]
     rw[hin]at hnx;have lm:(L.map bW).length=i:=by simp[hl]
     have us:uni 1 (S.map λb=>[bI b])=true:=eG (s:=1) (f:=λb=>[bI b]) (λ_=>rfl) _;have u1:uni 2 ((L.map bW).take k)=true:=by rw[<- List.map_take];exact eG (s:=2) (f:=bW) (λ_=>rfl) _
     have u2:uni 2 ((L.map bW).drop k)=true:=by rw[<- List.map_drop];exact eG (s:=2) (f:=bW) (λ_=>rfl) _
     have u3:uni 2 (L.map bW)=true:=eG (s:=2) (f:=bW) (λ_=>rfl) _;have a2:(L.map bW).take i=L.map bW:=List.take_of_length_le (by simp[hl]);have a3:((L.map bW).drop k).take (i-k)=(L.map bW).drop k:=List.take_of_length_le (by simp[hl]);have a4:k<=i:=by omega
     have d1':((L.map bW).take k).length=k:=by simp[hl];omega
     have d2':((L.map bW).drop k).length=i-k:=by simp[hl]
     have f7:k+1+(i-k)=i+1:=by omega
     have z1:(L.map bW).drop i=[]:=List.drop_eq_nil_of_le (by simp[hl]);have z2:((L.map bW).drop i).take (i-i)=[]:=by rw[z1];simp
     have z3:uni 2 ([]:List (List I))=true:=rfl;have z4:i-i=0:=by omega
     have lS:(S.map λb=>[bI b]).length=i:=by simp[hsl]
     have h1:=λσ'=>hL (i+1) σ' h;by_cases h3:i+1<3
     ·simp only[if_pos h3]at h1;have b1:=λσ'=>bk [] [(100,100),(101,101),(102,102),(103,103),(104,104),(105,6899),(106,7148),(107,107)] (h1 σ');rw[hnx,hsd]at b1;simp only[List.map_append,List.map_cons,List.map_nil,List.map_take,List.map_drop,hst]at b1;simp only[bI]at us lS;clear hin hp hpl hnx hsd hL hL2 h1;exact wkl trivial
     ·have ta:(List.map bW L++[[I.s (.int .u64 (K:Int)),.s (.int .u64 1)]]).take (i+1)=List.map bW L++[[I.s (.int .u64 (K:Int)),.s (.int .u64 1)]]:=List.take_of_length_le (by simp[hl]);have tb:(List.map (λb=>[I.sl (List.map aH b)]) S++[[I.sl (List.map aH X.data.toList)]]).take (i+1)=List.map (λb=>[I.sl (List.map aH b)]) S++[[I.sl (List.map aH X.data.toList)]]:=List.take_of_length_le (by simp[hsl]);simp only[if_neg h3]at h1;have b1:=λσ'=>bk [6899,7148] [(100,100),(101,101),(102,102),(103,103),(104,104)] (h1 σ');rw[hnx,hsd]at b1;simp only[List.map_append,List.map_cons,List.map_nil,List.map_take,List.map_drop,hst]at b1;simp only[bI]at us lS;clear hin hp hpl hnx hsd hL hL2 h1;exact wkl trivial
  ·rw[if_neg h,ag];have hi3:i=3:=by omega
   subst hi3;rw[afY,show RP 3=gQ nmA from BG.symm];have c1:=k1;clear k1 hL h;simp only[valsI,bbI]at c1 u1 u2;generalize(eY nmA).map bW=VV at*;generalize List.map (λb=>[bI b]) (gQ nmA)=SS at*;generalize digestV (eY nmA)=DV at*;refine wkl ?_;clear hR;intro hR;intros;clear c1;refine Kb [102,7658,103,104,101] u1 (by decide) (by simp[wV,upd,hO,lk]) rfl (λH' s'=>by simp[cv,cvT,cv1,cvL,cv0]) rfl ?_;refine wkl ?_;clear hR;intro hR;intros;refine Kb [102,7658,103,104,101] u2 (by decide) (by simp[wV,upd,hO,lk]) rfl (λH' s'=>by simp[cv,cvT,cv1,cvL,cv0]) rfl ?_;clear u1 u2;have c1:=k5;have c2:=k6;have c3:=k7;have c4:=k8;have c5:=k9;have c6:=k10;clear k5 k6 k7 k8 k9 k10;rcases hcase with⟨x1,x2,x3⟩|⟨x1,x2,x3,x4⟩
   ·subst x1;subst x2;subst x3;exact wkl trivial
   ·rw[decide_eq_false x1]at c5;subst x2;subst x3;subst x4;exact wkl trivial
end Go.Proofs.YtdmeldhlbpdeeaaGreatDoor
