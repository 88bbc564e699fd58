/- bridge.Play: by value. (Printed by bin/genplay.py.) -/
import Derived.Test.YtoifllbioldomaaGreatDoorGDec
set_option linter.all false
set_option maxHeartbeats 32000000
set_option maxRecDepth 20000
namespace Go.Proofs.YtoifllbioldomaaGreatDoor
open Go Go.Abs Go.RowKit Go.Proofs.YtoifllbioldomaaGreatDoor.Ty
def aO (d:jm):List I:=[.s (.int .i64 d.err),.s (.int .i64 d.num),.s (.int .i64 d.pk.fr),.s (.int .i64 d.pk.de),.s (.int .i64 d.pk.seq),bI d.pk.data,.s (.int .i64 d.pk.tout)]
attribute [simp,go_sem] aO FB
def Dv:av:=⟨zeroSt,[],[],[]⟩
attribute [simp,go_sem] Dv
theorem acP:keyF (seedB nmA 0)=137372978395941003:=by rw[mr];kernel_rfl
theorem Zi:keyF (seedB nmA 1)=328794099354644600:=by rw[mr];kernel_rfl
theorem acO:keyF (seedB nmA 2)=939190343215927135:=by rw[mr];kernel_rfl
theorem acN:keyF (seedB nmB 0)=346443137126998972:=by rw[mr];kernel_rfl
theorem Zh:keyF (seedB nmB 1)=952108000916374563:=by rw[mr];kernel_rfl
theorem acM:keyF (seedB nmB 2)=1070152423115203311:=by rw[mr];kernel_rfl
def plS (n:Nat)(l:List EvD)(w:jw)(ds:List jm)(i:Nat):St:=cO [(2,.pt 106 0 0 0),(5,.pt 100 0 0 0),(6,.os 105 7 0 ds.length),(19,.i (.sl (l.map encEv))),(20,intD n),(21,intD i)]
 [(100,.box [.pt 101 0 0 0,.pt 102 0 0 0]),(101,.box (oW w.1 103)),(102,.box (oW w.2 104)),(103,.arr 18 (w.1.past.map bC)),(104,.arr 18 (w.2.past.map bC)),(105,.arr 7 (ds.map aO)),
  (106,.box [.i (.s (.string ⟨#[]⟩)),.i (.s (.int .i64 0)),.i (.s (.int .i64 0)),.i (.s (.slice none 0 0)),.i (.s (.slice none 0 0)),.i (.s (.slice none 0 0)),.i (.s (.slice none 0 0)),.i (.s (.slice none 0 0)),.i (.s (.slice none 0 0)),.i (.s (.slice none 0 0)),.i (.s (.string ⟨#[]⟩)),.i (.s (.int .i64 0)),.i (.s (.int .i64 0)),.i (.s (.slice none 0 0)),.i (.s (.slice none 0 0)),.i (.s (.slice none 0 0)),.i (.s (.slice none 0 0)),.i (.s (.slice none 0 0)),.i (.s (.slice none 0 0)),.i (.s (.slice none 0 0))])]
theorem rR {w:jw}{e:EvD}(h:e.side=0):fK w e=(((oneB w.1 w.2 e).1,w.2),(oneB w.1 w.2 e).2):=by unfold fK;rw[if_pos h]
theorem rQ {w:jw}{e:EvD}(h:e.side=1):fK w e=((w.1,(oneB w.2 w.1 e).1),(oneB w.2 w.1 e).2):=by unfold fK;rw[if_neg (by omega),if_pos h]
theorem afi {w:jw}{e:EvD}(h:¬e.side=0)(h1:¬e.side=1):fK w e=(w,dE 1):=by unfold fK;rw[if_neg h,if_neg h1]
theorem nI (l:List EvD)(hl:l.length<=2097152)(he:∀e∈l,oZ e):PureD Tryz.prog 12 [.i (.sl (l.map encEv))]
  (if(120:Int)<l.length then .tup [FB (Dv,Dv),.i (.sl []),intD 5]else .tup [FB (mh l).1,.i (.sl ((mh l).2.map aO)),intD 0]):=by
 refine af λR hR=>?_;by_cases h120:(120:Int)<l.length
 ·rw[if_pos h120]at hR;clear he;refine aa 97 Tryz.func12 ?_;exact wkl trivial
 ·rw[if_neg h120]at hR;have hA:=iZ.a;have e1:=Jp nmA ownA goldA (by decide) (by rw[acP,Zi];decide) (by rw[Zi,acO];decide);have e2:=Jp nmB zO qD (by decide) (by rw[acN,Zh];decide) (by rw[Zh,acM];decide);have hb:ja=(bQ nmA ownA goldA,bQ nmB zO qD):=rfl;have hpa:(bQ nmA ownA goldA).past=[]:=rfl;have hpb:(bQ nmB zO qD).past=[]:=rfl;unfold mh at hR;have hok:∀i,i<=l.length->KI (fV ja (l.take i)).1 i:=λi hi=>by
   have:=Vx (l.take i) iZ (by simp;omega);simpa[Nat.min_eq_left hi]using this
  rw[hb]at hR hok;simp only[nmA,ownA,goldA,nmB,zO,qD]at e1 e2;simp only[nmA,ownA,goldA,nmB,zO,qD]at hR hok hpa hpb;generalize hA0:bQ ⟨#[97]⟩ ⟨#[97,110,110]⟩ ⟨#[103,111,108,100]⟩=A0 at*;generalize hB0:bQ ⟨#[98]⟩ ⟨#[98,111,98]⟩ ⟨#[115,105,108,118,101,114]⟩=B0 at*;clear hA hb hA0 hB0;refine aa 97 Tryz.func12 ?_;refine wkl ?_;clear hR;intro hR
  repeat' (intro _)
  have hR':Hr (D.tup [FB (fV (A0,B0) l).1,.i (.sl ((fV (A0,B0) l).2.map aO)),intD 0]) R:=hR;clear hR;refine aF (ι:=Nat) (λi=>i<=l.length) (λi=>plS l.length l (fV (A0,B0) (l.take i)).1 (fV (A0,B0) (l.take i)).2 i) (λi=>l.length-i) 0 (Nat.zero_le _) ?_ ?_
  ·simp only[List.take_zero,fV,plS,hpa,hpb,List.map_nil,List.length_nil,oW];exact bO [] [(100,1771),(101,901),(103,902),(102,911),(104,912),(106,1000)]
  ·rintro i hi RL hL;clear e1 e2 hpa hpb;by_cases h:i<l.length
   ·have hsn:fV (A0,B0) (l.take (i+1))=((fK (fV (A0,B0) (l.take i)).1 l[i]).1,(fV (A0,B0) (l.take i)).2++[(fK (fV (A0,B0) (l.take i)).1 l[i]).2]):=by rw[List.take_succ_eq_append_getElem h,qH]
    have hL2:=λσ'=>hL (i+1) σ' h;rw[hsn]at hL2;have hw:=hok i (by omega);have hev:=he _ (List.getElem_mem h);have s0:=ay (f:=encEv) h;have hdl:(fV (A0,B0) (l.take i)).2.length=i:=by rw[oz];simp;omega
    clear hL hok he hsn hR';have hi120:i<120:=by omega
    generalize fV (A0,B0) (l.take i)=r at*;obtain⟨⟨C,O⟩,ds⟩:=r;generalize hee:l[i]=e at*;obtain⟨kind,side,later,trust,cl,m⟩:=e;have hC:=hw.a;have hO:=hw.b;obtain⟨hm,hn⟩:=hev;simp only at hC hO hm hn;clear hw;have m1:∀d:jm,ds.map aO++[aO d]=(ds++[d]).map aO:=λd=>by simp
    have m2:∀d:jm,ds.length+1=(ds++[d]).length:=λd=>by simp
    have md:ds.length<=120:=by simp only at hdl;omega
    clear hdl;by_cases q0:side=0
    ·subst q0;have w9:(1:Int)-0=1:=by decide
     by_cases k1:kind=1
     ·subst k1;have ho1:oneB C O ⟨1,0,later,trust,cl,m⟩=aR C later:=by unfold oneB;simp
      rw[rR (by rfl)]at hL2;simp only[ho1]at hL2;have hD:=Jo C hC later;have hbn:=λ(q:¬(aR C later).2.err=0)=>rA q;generalize aR C later=X at*;clear ho1 hm hn hC hO;by_cases ee:X.2.err=0
      ·clear hbn;rw[if_pos ee]at hD;have b1:=λσ'=>bk [] [(100,100),(101,101),(102,102),(103,920),(104,104),(105,6635),(106,106)] (hL2 σ');clear hL2;simp only[plS]at b1⊢;rw[ae];refine wkl ?_
       repeat' (intro _)
       refine cK [(0,101),(1,103)] [(101,0),(103,1),(920,2)] [(101,.box (oW X.1 920)),(103,.dead),(920,.arr 18 (X.1.past.map bC))] hD ?_;clear hD;exact wkl trivial
      ·rw[if_neg ee]at hD;rw[hbn ee]at hL2;clear hbn;have b1:=λσ'=>bk [] [(100,100),(101,101),(102,102),(103,103),(104,104),(105,6635),(106,106)] (hL2 σ');clear hL2;simp only[plS]at b1⊢;rw[ae];refine wkl ?_
       repeat' (intro _)
       refine cK [(0,101),(1,103)] [(101,0),(103,1)] [(101,.box (oW C 103)),(103,.arr 18 (C.past.map bC))] hD ?_;clear hD;exact wkl trivial
     ·skip
      by_cases k2:kind=2
      ·subst k2;have ho1:oneB C O ⟨2,0,later,trust,cl,m⟩=cu C O trust:=by unfold oneB;simp
       rw[rR (by rfl)]at hL2;simp only[ho1]at hL2;have hD:=Db C O hC hO trust;generalize cu C O trust=X at*;clear ho1 hm hn hC hO;have b1:=λσ'=>bk [] [(100,100),(101,101),(102,102),(103,103),(104,104),(105,6635),(106,106)] (hL2 σ');clear hL2;simp only[plS]at b1⊢;rw[ae];refine wkl ?_
       repeat' (intro _)
       refine cK [(0,101),(1,103),(2,102),(3,104)] [(101,0),(103,1),(102,2),(104,3)] [(101,.box (oW X.1 103)),(103,.arr 18 (X.1.past.map bC)),(102,.box (oW O 104)),(104,.arr 18 (O.past.map bC))] hD ?_;clear hD;exact wkl trivial
      ·skip
       by_cases k3:kind=3
       ·subst k3;have ho1:oneB C O ⟨3,0,later,trust,cl,m⟩=b_ C O cl:=by unfold oneB;simp
        rw[rR (by rfl)]at hL2;simp only[ho1]at hL2;have hD:=Da C O hC hO cl;generalize b_ C O cl=X at*;clear ho1 hm hn hC hO;have b1:=λσ'=>bk [] [(100,100),(101,101),(102,102),(103,103),(104,104),(105,6635),(106,106)] (hL2 σ');clear hL2;simp only[plS]at b1⊢;rw[ae];refine wkl ?_
        repeat' (intro _)
        refine cK [(0,101),(1,103),(2,102),(3,104)] [(101,0),(103,1),(102,2),(104,3)] [(101,.box (oW X.1 103)),(103,.arr 18 (X.1.past.map bC)),(102,.box (oW O 104)),(104,.arr 18 (O.past.map bC))] hD ?_;clear hD;exact wkl trivial
       ·skip
        by_cases k4:kind=4
        ·subst k4;have ho1:oneB C O ⟨4,0,later,trust,cl,m⟩=mU C m:=by unfold oneB;simp
         rw[rR (by rfl)]at hL2;simp only[ho1]at hL2;have hD:=KD C hC.ok hC.p64 m hm;generalize mU C m=X at*;clear ho1 hm hn hC hO;have b1:=λσ'=>bk [] [(100,100),(101,101),(102,102),(103,103),(104,104),(105,6635),(106,106)] (hL2 σ');clear hL2;simp only[plS]at b1⊢;rw[ae];refine wkl ?_
         repeat' (intro _)
         refine cK [(0,101),(1,103)] [(101,0),(103,1)] [(101,.box (oW X.1 103)),(103,.arr 18 (X.1.past.map bC))] hD ?_;clear hD;exact wkl trivial
        ·skip
         by_cases k5:kind=5
         ·subst k5;have ho1:oneB C O ⟨5,0,later,trust,cl,m⟩=mU C (showB C O m):=by unfold oneB;simp
          rw[rR (by rfl)]at hL2;simp only[ho1]at hL2;have hS:=Qk C O hC.ok (by have:=hO.len;omega) hO.st m hn;have hD:=KD C hC.ok hC.p64 (showB C O m) (Mc hm);generalize showB C O m=m2 at*;generalize mU C m2=X at*;clear ho1 hm hn hC hO;have b1:=λσ'=>bk [] [(100,100),(101,101),(102,102),(103,103),(104,104),(105,6635),(106,106)] (hL2 σ');clear hL2;simp only[plS]at b1⊢;rw[ae];refine wkl ?_
          repeat' (intro _)
          refine cK [(0,101),(1,103),(2,102),(3,104)] [(101,0),(103,1),(102,2),(104,3)] [(101,.box (oW C 103)),(103,.arr 18 (C.past.map bC)),(102,.box (oW O 104)),(104,.arr 18 (O.past.map bC))] hS ?_;clear hS;refine wkl ?_
          repeat' (intro _)
          refine cK [(0,101),(1,103)] [(101,0),(103,1)] [(101,.box (oW X.1 103)),(103,.arr 18 (X.1.past.map bC))] hD ?_;clear hD;exact wkl trivial
         ·skip
          have ho1:oneB C O ⟨kind,0,later,trust,cl,m⟩=(C,dE 1):=by unfold oneB;simp only[if_neg k1,if_neg k2,if_neg k3,if_neg k4,if_neg k5]
          rw[rR (by rfl)]at hL2;simp only[ho1]at hL2;clear ho1 hm hn hC hO;have b1:=λσ'=>bk [] [(100,100),(101,101),(102,102),(103,103),(104,104),(105,6635),(106,106)] (hL2 σ');clear hL2;simp only[plS]at b1⊢;rw[ae];exact wkl trivial
    ·by_cases q1:side=1
     ·subst q1;have w9:(1:Int)-1=0:=by decide
      by_cases k1:kind=1
      ·subst k1;have ho1:oneB O C ⟨1,1,later,trust,cl,m⟩=aR O later:=by unfold oneB;simp
       rw[rQ (by rfl)]at hL2;simp only[ho1]at hL2;have hD:=Jo O hO later;have hbn:=λ(q:¬(aR O later).2.err=0)=>rA q;generalize aR O later=X at*;clear ho1 hm hn hC hO;by_cases ee:X.2.err=0
       ·clear hbn;rw[if_pos ee]at hD;have b1:=λσ'=>bk [] [(100,100),(101,101),(102,102),(104,920),(103,103),(105,6635),(106,106)] (hL2 σ');clear hL2;simp only[plS]at b1⊢;rw[ae];refine wkl ?_
        repeat' (intro _)
        refine cK [(0,102),(1,104)] [(102,0),(104,1),(920,2)] [(102,.box (oW X.1 920)),(104,.dead),(920,.arr 18 (X.1.past.map bC))] hD ?_;clear hD;exact wkl trivial
       ·rw[if_neg ee]at hD;rw[hbn ee]at hL2;clear hbn;have b1:=λσ'=>bk [] [(100,100),(101,101),(102,102),(104,104),(103,103),(105,6635),(106,106)] (hL2 σ');clear hL2;simp only[plS]at b1⊢;rw[ae];refine wkl ?_
        repeat' (intro _)
        refine cK [(0,102),(1,104)] [(102,0),(104,1)] [(102,.box (oW O 104)),(104,.arr 18 (O.past.map bC))] hD ?_;clear hD;exact wkl trivial
      ·skip
       by_cases k2:kind=2
       ·subst k2;have ho1:oneB O C ⟨2,1,later,trust,cl,m⟩=cu O C trust:=by unfold oneB;simp
        rw[rQ (by rfl)]at hL2;simp only[ho1]at hL2;have hD:=Db O C hO hC trust;generalize cu O C trust=X at*;clear ho1 hm hn hC hO;have b1:=λσ'=>bk [] [(100,100),(101,101),(102,102),(104,104),(103,103),(105,6635),(106,106)] (hL2 σ');clear hL2;simp only[plS]at b1⊢;rw[ae];refine wkl ?_
        repeat' (intro _)
        refine cK [(0,102),(1,104),(2,101),(3,103)] [(102,0),(104,1),(101,2),(103,3)] [(102,.box (oW X.1 104)),(104,.arr 18 (X.1.past.map bC)),(101,.box (oW C 103)),(103,.arr 18 (C.past.map bC))] hD ?_;clear hD;exact wkl trivial
       ·skip
        by_cases k3:kind=3
        ·subst k3;have ho1:oneB O C ⟨3,1,later,trust,cl,m⟩=b_ O C cl:=by unfold oneB;simp
         rw[rQ (by rfl)]at hL2;simp only[ho1]at hL2;have hD:=Da O C hO hC cl;generalize b_ O C cl=X at*;clear ho1 hm hn hC hO;have b1:=λσ'=>bk [] [(100,100),(101,101),(102,102),(104,104),(103,103),(105,6635),(106,106)] (hL2 σ');clear hL2;simp only[plS]at b1⊢;rw[ae];refine wkl ?_
         repeat' (intro _)
         refine cK [(0,102),(1,104),(2,101),(3,103)] [(102,0),(104,1),(101,2),(103,3)] [(102,.box (oW X.1 104)),(104,.arr 18 (X.1.past.map bC)),(101,.box (oW C 103)),(103,.arr 18 (C.past.map bC))] hD ?_;clear hD;exact wkl trivial
        ·skip
         by_cases k4:kind=4
         ·subst k4;have ho1:oneB O C ⟨4,1,later,trust,cl,m⟩=mU O m:=by unfold oneB;simp
          rw[rQ (by rfl)]at hL2;simp only[ho1]at hL2;have hD:=KD O hO.ok hO.p64 m hm;generalize mU O m=X at*;clear ho1 hm hn hC hO;have b1:=λσ'=>bk [] [(100,100),(101,101),(102,102),(104,104),(103,103),(105,6635),(106,106)] (hL2 σ');clear hL2;simp only[plS]at b1⊢;rw[ae];refine wkl ?_
          repeat' (intro _)
          refine cK [(0,102),(1,104)] [(102,0),(104,1)] [(102,.box (oW X.1 104)),(104,.arr 18 (X.1.past.map bC))] hD ?_;clear hD;exact wkl trivial
         ·skip
          by_cases k5:kind=5
          ·subst k5;have ho1:oneB O C ⟨5,1,later,trust,cl,m⟩=mU O (showB O C m):=by unfold oneB;simp
           rw[rQ (by rfl)]at hL2;simp only[ho1]at hL2;have hS:=Qk O C hO.ok (by have:=hC.len;omega) hC.st m hn;have hD:=KD O hO.ok hO.p64 (showB O C m) (Mc hm);generalize showB O C m=m2 at*;generalize mU O m2=X at*;clear ho1 hm hn hC hO;have b1:=λσ'=>bk [] [(100,100),(101,101),(102,102),(104,104),(103,103),(105,6635),(106,106)] (hL2 σ');clear hL2;simp only[plS]at b1⊢;rw[ae];refine wkl ?_
           repeat' (intro _)
           refine cK [(0,102),(1,104),(2,101),(3,103)] [(102,0),(104,1),(101,2),(103,3)] [(102,.box (oW O 104)),(104,.arr 18 (O.past.map bC)),(101,.box (oW C 103)),(103,.arr 18 (C.past.map bC))] hS ?_;clear hS;refine wkl ?_
           repeat' (intro _)
           refine cK [(0,102),(1,104)] [(102,0),(104,1)] [(102,.box (oW X.1 104)),(104,.arr 18 (X.1.past.map bC))] hD ?_;clear hD;exact wkl trivial
          ·skip
           have ho1:oneB O C ⟨kind,1,later,trust,cl,m⟩=(O,dE 1):=by unfold oneB;simp only[if_neg k1,if_neg k2,if_neg k3,if_neg k4,if_neg k5]
           rw[rQ (by rfl)]at hL2;simp only[ho1]at hL2;clear ho1 hm hn hC hO;have b1:=λσ'=>bk [] [(100,100),(101,101),(102,102),(104,104),(103,103),(105,6635),(106,106)] (hL2 σ');clear hL2;simp only[plS]at b1⊢;rw[ae];exact wkl trivial
     ·rw[afi (by exact q0) (by exact q1)]at hL2;clear hm hn hC hO;have b1:=λσ'=>bk [] [(100,100),(101,101),(102,102),(103,103),(104,104),(105,6635),(106,106)] (hL2 σ');clear hL2;simp only[plS]at b1⊢;rw[ae];exact wkl trivial
   ·have hi2:i=l.length:=by omega
    subst hi2;rw[List.take_length];clear hL hok he;generalize fV (A0,B0) l=r at*;obtain⟨⟨C,O⟩,ds⟩:=r;have hR:=hR';clear hR';simp only[plS];rw[ae];exact wkl trivial
end Go.Proofs.YtoifllbioldomaaGreatDoor
