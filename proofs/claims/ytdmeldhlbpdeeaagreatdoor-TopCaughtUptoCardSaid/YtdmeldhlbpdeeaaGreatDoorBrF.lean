/- bridge.Play: by value. (Printed by bin/genplay.py.) -/
import Derived.Test.YtdmeldhlbpdeeaaGreatDoorGDec
set_option linter.all false
set_option maxHeartbeats 32000000
set_option maxRecDepth 20000
namespace Go.Proofs.YtdmeldhlbpdeeaaGreatDoor
open Go Go.Abs Go.RowKit Go.Proofs.YtdmeldhlbpdeeaaGreatDoor.Ty
def fZ (d:jE):List I:=[.s (.int .i64 d.err),.s (.int .i64 d.num),.s (.int .i64 d.pk.fr),.s (.int .i64 d.pk.de),.s (.int .i64 d.pk.seq),bI d.pk.data,.s (.int .i64 d.pk.tout)]
attribute [simp,go_sem] fZ FL
def DF:ay:=⟨zeroSt,[],[],[]⟩
attribute [simp,go_sem] DF
theorem OL:keyF (seedB nmA 0)=137372978395941003:=by rw[ma];kernel_rfl
theorem EK:keyF (seedB nmA 1)=328794099354644600:=by rw[ma];kernel_rfl
theorem OJ:keyF (seedB nmA 2)=939190343215927135:=by rw[ma];kernel_rfl
theorem adK:keyF (seedB nmB 0)=346443137126998972:=by rw[ma];kernel_rfl
theorem aab:keyF (seedB nmB 1)=952108000916374563:=by rw[ma];kernel_rfl
theorem adJ:keyF (seedB nmB 2)=1070152423115203311:=by rw[ma];kernel_rfl
def plS (n:Nat)(l:List EvD)(w:kY)(ds:List jE)(i:Nat):St:=dP [(2,.pt 106 0 0 0),(5,.pt 100 0 0 0),(6,.os 105 7 0 ds.length),(19,.i (.sl (l.map encEv))),(20,intD n),(21,intD i)]
 [(100,.box [.pt 101 0 0 0,.pt 102 0 0 0]),(101,.box (oJ w.1 103)),(102,.box (oJ w.2 104)),(103,.arr 18 (w.1.past.map bM)),(104,.arr 18 (w.2.past.map bM)),(105,.arr 7 (ds.map fZ)),
  (106,.box [.i (.s (.string ⟨#[]⟩)),.i (.s (.int .i64 0)),.i (.s (.int .i64 0)),.i (.s (.slice none 0 0)),.i (.s (.slice none 0 0)),.i (.s (.slice none 0 0)),.i (.s (.slice none 0 0)),.i (.s (.slice none 0 0)),.i (.s (.slice none 0 0)),.i (.s (.slice none 0 0)),.i (.s (.string ⟨#[]⟩)),.i (.s (.int .i64 0)),.i (.s (.int .i64 0)),.i (.s (.slice none 0 0)),.i (.s (.slice none 0 0)),.i (.s (.slice none 0 0)),.i (.s (.slice none 0 0)),.i (.s (.slice none 0 0)),.i (.s (.slice none 0 0)),.i (.s (.slice none 0 0))])]
theorem ug {w:kY}{e:EvD}(h:e.side=0):iF w e=(((oneB w.1 w.2 e).1,w.2),(oneB w.1 w.2 e).2):=by unfold iF;rw[if_pos h]
theorem ql {w:kY}{e:EvD}(h:e.side=1):iF w e=((w.1,(oneB w.2 w.1 e).1),(oneB w.2 w.1 e).2):=by unfold iF;rw[if_neg (by omega),if_pos h]
theorem aga {w:kY}{e:EvD}(h:¬e.side=0)(h1:¬e.side=1):iF w e=(w,dE 1):=by unfold iF;rw[if_neg h,if_neg h1]
theorem GL (l:List EvD)(hl:l.length<=2097152)(he:∀e∈l,JZ e):PureD Tryz.prog 20 [.i (.sl (l.map encEv))]
  (if(120:Int)<l.length then .tup [FL (DF,DF),.i (.sl []),intD 5]else .tup [FL (nu l).1,.i (.sl ((nu l).2.map fZ)),intD 0]):=by
 refine ai λR hR=>?_;by_cases h120:(120:Int)<l.length
 ·rw[if_pos h120]at hR;clear he;refine aa 97 Tryz.func20 ?_;exact wkl trivial
 ·rw[if_neg h120]at hR;have hA:=lL.a;have e1:=JI nmA xn il (by decide) (by rw[OL,EK];decide) (by rw[EK,OJ];decide);have e2:=JI nmB B_ uh (by decide) (by rw[adK,aab];decide) (by rw[aab,adJ];decide);have hb:kr=(bZ nmA xn il,bZ nmB B_ uh):=rfl;have hpa:(bZ nmA xn il).past=[]:=rfl;have hpb:(bZ nmB B_ uh).past=[]:=rfl;unfold nu at hR;have hok:∀i,i<=l.length->Lg (gJ kr (l.take i)).1 i:=λi hi=>by
   have:=Wu (l.take i) lL (by simp;omega);simpa[Nat.min_eq_left hi]using this
  rw[hb]at hR hok;simp only[nmA,xn,il,nmB,B_,uh]at e1 e2;simp only[nmA,xn,il,nmB,B_,uh]at hR hok hpa hpb;generalize hA0:bZ ⟨#[97]⟩ ⟨#[97,110,110]⟩ ⟨#[103,111,108,100]⟩=A0 at*;generalize hB0:bZ ⟨#[98]⟩ ⟨#[98,111,98]⟩ ⟨#[115,105,108,118,101,114]⟩=B0 at*;clear hA hb hA0 hB0;refine aa 97 Tryz.func20 ?_;refine wkl ?_;clear hR;intro hR
  repeat' (intro _)
  have hR':Hr (D.tup [FL (gJ (A0,B0) l).1,.i (.sl ((gJ (A0,B0) l).2.map fZ)),intD 0]) R:=hR;clear hR;refine aS (ι:=Nat) (λi=>i<=l.length) (λi=>plS l.length l (gJ (A0,B0) (l.take i)).1 (gJ (A0,B0) (l.take i)).2 i) (λi=>l.length-i) 0 (Nat.zero_le _) ?_ ?_
  ·simp only[List.take_zero,gJ,plS,hpa,hpb,List.map_nil,List.length_nil,oJ];exact dB [] [(100,1771),(101,901),(103,902),(102,911),(104,912),(106,1000)]
  ·rintro i hi RL hL;clear e1 e2 hpa hpb;by_cases h:i<l.length
   ·have hsn:gJ (A0,B0) (l.take (i+1))=((iF (gJ (A0,B0) (l.take i)).1 l[i]).1,(gJ (A0,B0) (l.take i)).2++[(iF (gJ (A0,B0) (l.take i)).1 l[i]).2]):=by rw[List.take_succ_eq_append_getElem h,vR]
    have hL2:=λσ'=>hL (i+1) σ' h;rw[hsn]at hL2;have hw:=hok i (by omega);have hev:=he _ (List.getElem_mem h);have s0:=aI (f:=encEv) h;have hdl:(gJ (A0,B0) (l.take i)).2.length=i:=by rw[nX];simp;omega
    clear hL hok he hsn hR';have hi120:i<120:=by omega
    generalize gJ (A0,B0) (l.take i)=r at*;obtain⟨⟨C,O⟩,ds⟩:=r;generalize hee:l[i]=e at*;obtain⟨kind,side,later,trust,cl,m⟩:=e;have hC:=hw.a;have hO:=hw.b;obtain⟨hm,hn⟩:=hev;simp only at hC hO hm hn;clear hw;have m1:∀d:jE,ds.map fZ++[fZ d]=(ds++[d]).map fZ:=λd=>by simp
    have m2:∀d:jE,ds.length+1=(ds++[d]).length:=λd=>by simp
    have md:ds.length<=120:=by simp only at hdl;omega
    clear hdl;by_cases q0:side=0
    ·subst q0;have w9:(1:Int)-0=1:=by decide
     by_cases k1:kind=1
     ·subst k1;have ho1:oneB C O ⟨1,0,later,trust,cl,m⟩=aV C later:=by unfold oneB;simp
      rw[ug (by rfl)]at hL2;simp only[ho1]at hL2;have hD:=JH C hC later;have hbn:=λ(q:¬(aV C later).2.err=0)=>qY q;generalize aV C later=X at*;clear ho1 hm hn hC hO;by_cases ee:X.2.err=0
      ·clear hbn;rw[if_pos ee]at hD;have b1:=λσ'=>bk [] [(100,100),(101,101),(102,102),(103,920),(104,104),(105,6635),(106,106)] (hL2 σ');clear hL2;simp only[plS]at b1⊢;rw[ag];refine wkl ?_
       repeat' (intro _)
       refine dK [(0,101),(1,103)] [(101,0),(103,1),(920,2)] [(101,.box (oJ X.1 920)),(103,.dead),(920,.arr 18 (X.1.past.map bM))] hD ?_;clear hD;exact wkl trivial
      ·rw[if_neg ee]at hD;rw[hbn ee]at hL2;clear hbn;have b1:=λσ'=>bk [] [(100,100),(101,101),(102,102),(103,103),(104,104),(105,6635),(106,106)] (hL2 σ');clear hL2;simp only[plS]at b1⊢;rw[ag];refine wkl ?_
       repeat' (intro _)
       refine dK [(0,101),(1,103)] [(101,0),(103,1)] [(101,.box (oJ C 103)),(103,.arr 18 (C.past.map bM))] hD ?_;clear hD;exact wkl trivial
     ·skip
      by_cases k2:kind=2
      ·subst k2;have ho1:oneB C O ⟨2,0,later,trust,cl,m⟩=dH C O trust:=by unfold oneB;simp
       rw[ug (by rfl)]at hL2;simp only[ho1]at hL2;have hD:=Dp C O hC hO trust;generalize dH C O trust=X at*;clear ho1 hm hn hC hO;have b1:=λσ'=>bk [] [(100,100),(101,101),(102,102),(103,103),(104,104),(105,6635),(106,106)] (hL2 σ');clear hL2;simp only[plS]at b1⊢;rw[ag];refine wkl ?_
       repeat' (intro _)
       refine dK [(0,101),(1,103),(2,102),(3,104)] [(101,0),(103,1),(102,2),(104,3)] [(101,.box (oJ X.1 103)),(103,.arr 18 (X.1.past.map bM)),(102,.box (oJ O 104)),(104,.arr 18 (O.past.map bM))] hD ?_;clear hD;exact wkl trivial
      ·skip
       by_cases k3:kind=3
       ·subst k3;have ho1:oneB C O ⟨3,0,later,trust,cl,m⟩=dw C O cl:=by unfold oneB;simp
        rw[ug (by rfl)]at hL2;simp only[ho1]at hL2;have hD:=Dn C O hC hO cl;generalize dw C O cl=X at*;clear ho1 hm hn hC hO;have b1:=λσ'=>bk [] [(100,100),(101,101),(102,102),(103,103),(104,104),(105,6635),(106,106)] (hL2 σ');clear hL2;simp only[plS]at b1⊢;rw[ag];refine wkl ?_
        repeat' (intro _)
        refine dK [(0,101),(1,103),(2,102),(3,104)] [(101,0),(103,1),(102,2),(104,3)] [(101,.box (oJ X.1 103)),(103,.arr 18 (X.1.past.map bM)),(102,.box (oJ O 104)),(104,.arr 18 (O.past.map bM))] hD ?_;clear hD;exact wkl trivial
       ·skip
        by_cases k4:kind=4
        ·subst k4;have ho1:oneB C O ⟨4,0,later,trust,cl,m⟩=kX C m:=by unfold oneB;simp
         rw[ug (by rfl)]at hL2;simp only[ho1]at hL2;have hD:=Lc C hC.ok hC.p64 m hm;generalize kX C m=X at*;clear ho1 hm hn hC hO;have b1:=λσ'=>bk [] [(100,100),(101,101),(102,102),(103,103),(104,104),(105,6635),(106,106)] (hL2 σ');clear hL2;simp only[plS]at b1⊢;rw[ag];refine wkl ?_
         repeat' (intro _)
         refine dK [(0,101),(1,103)] [(101,0),(103,1)] [(101,.box (oJ X.1 103)),(103,.arr 18 (X.1.past.map bM))] hD ?_;clear hD;exact wkl trivial
        ·skip
         by_cases k5:kind=5
         ·subst k5;have ho1:oneB C O ⟨5,0,later,trust,cl,m⟩=kX C (showB C O m):=by unfold oneB;simp
          rw[ug (by rfl)]at hL2;simp only[ho1]at hL2;have hS:=QK C O hC.ok (by have:=hO.len;omega) hO.st m hn;have hD:=Lc C hC.ok hC.p64 (showB C O m) (MH hm);generalize showB C O m=m2 at*;generalize kX C m2=X at*;clear ho1 hm hn hC hO;have b1:=λσ'=>bk [] [(100,100),(101,101),(102,102),(103,103),(104,104),(105,6635),(106,106)] (hL2 σ');clear hL2;simp only[plS]at b1⊢;rw[ag];refine wkl ?_
          repeat' (intro _)
          refine dK [(0,101),(1,103),(2,102),(3,104)] [(101,0),(103,1),(102,2),(104,3)] [(101,.box (oJ C 103)),(103,.arr 18 (C.past.map bM)),(102,.box (oJ O 104)),(104,.arr 18 (O.past.map bM))] hS ?_;clear hS;refine wkl ?_
          repeat' (intro _)
          refine dK [(0,101),(1,103)] [(101,0),(103,1)] [(101,.box (oJ X.1 103)),(103,.arr 18 (X.1.past.map bM))] hD ?_;clear hD;exact wkl trivial
         ·skip
          have ho1:oneB C O ⟨kind,0,later,trust,cl,m⟩=(C,dE 1):=by unfold oneB;simp only[if_neg k1,if_neg k2,if_neg k3,if_neg k4,if_neg k5]
          rw[ug (by rfl)]at hL2;simp only[ho1]at hL2;clear ho1 hm hn hC hO;have b1:=λσ'=>bk [] [(100,100),(101,101),(102,102),(103,103),(104,104),(105,6635),(106,106)] (hL2 σ');clear hL2;simp only[plS]at b1⊢;rw[ag];exact wkl trivial
    ·by_cases q1:side=1
     ·subst q1;have w9:(1:Int)-1=0:=by decide
      by_cases k1:kind=1
      ·subst k1;have ho1:oneB O C ⟨1,1,later,trust,cl,m⟩=aV O later:=by unfold oneB;simp
       rw[ql (by rfl)]at hL2;simp only[ho1]at hL2;have hD:=JH O hO later;have hbn:=λ(q:¬(aV O later).2.err=0)=>qY q;generalize aV O later=X at*;clear ho1 hm hn hC hO;by_cases ee:X.2.err=0
       ·clear hbn;rw[if_pos ee]at hD;have b1:=λσ'=>bk [] [(100,100),(101,101),(102,102),(104,920),(103,103),(105,6635),(106,106)] (hL2 σ');clear hL2;simp only[plS]at b1⊢;rw[ag];refine wkl ?_
        repeat' (intro _)
        refine dK [(0,102),(1,104)] [(102,0),(104,1),(920,2)] [(102,.box (oJ X.1 920)),(104,.dead),(920,.arr 18 (X.1.past.map bM))] hD ?_;clear hD;exact wkl trivial
       ·rw[if_neg ee]at hD;rw[hbn ee]at hL2;clear hbn;have b1:=λσ'=>bk [] [(100,100),(101,101),(102,102),(104,104),(103,103),(105,6635),(106,106)] (hL2 σ');clear hL2;simp only[plS]at b1⊢;rw[ag];refine wkl ?_
        repeat' (intro _)
        refine dK [(0,102),(1,104)] [(102,0),(104,1)] [(102,.box (oJ O 104)),(104,.arr 18 (O.past.map bM))] hD ?_;clear hD;exact wkl trivial
      ·skip
       by_cases k2:kind=2
       ·subst k2;have ho1:oneB O C ⟨2,1,later,trust,cl,m⟩=dH O C trust:=by unfold oneB;simp
        rw[ql (by rfl)]at hL2;simp only[ho1]at hL2;have hD:=Dp O C hO hC trust;generalize dH O C trust=X at*;clear ho1 hm hn hC hO;have b1:=λσ'=>bk [] [(100,100),(101,101),(102,102),(104,104),(103,103),(105,6635),(106,106)] (hL2 σ');clear hL2;simp only[plS]at b1⊢;rw[ag];refine wkl ?_
        repeat' (intro _)
        refine dK [(0,102),(1,104),(2,101),(3,103)] [(102,0),(104,1),(101,2),(103,3)] [(102,.box (oJ X.1 104)),(104,.arr 18 (X.1.past.map bM)),(101,.box (oJ C 103)),(103,.arr 18 (C.past.map bM))] hD ?_;clear hD;exact wkl trivial
       ·skip
        by_cases k3:kind=3
        ·subst k3;have ho1:oneB O C ⟨3,1,later,trust,cl,m⟩=dw O C cl:=by unfold oneB;simp
         rw[ql (by rfl)]at hL2;simp only[ho1]at hL2;have hD:=Dn O C hO hC cl;generalize dw O C cl=X at*;clear ho1 hm hn hC hO;have b1:=λσ'=>bk [] [(100,100),(101,101),(102,102),(104,104),(103,103),(105,6635),(106,106)] (hL2 σ');clear hL2;simp only[plS]at b1⊢;rw[ag];refine wkl ?_
         repeat' (intro _)
         refine dK [(0,102),(1,104),(2,101),(3,103)] [(102,0),(104,1),(101,2),(103,3)] [(102,.box (oJ X.1 104)),(104,.arr 18 (X.1.past.map bM)),(101,.box (oJ C 103)),(103,.arr 18 (C.past.map bM))] hD ?_;clear hD;exact wkl trivial
        ·skip
         by_cases k4:kind=4
         ·subst k4;have ho1:oneB O C ⟨4,1,later,trust,cl,m⟩=kX O m:=by unfold oneB;simp
          rw[ql (by rfl)]at hL2;simp only[ho1]at hL2;have hD:=Lc O hO.ok hO.p64 m hm;generalize kX O m=X at*;clear ho1 hm hn hC hO;have b1:=λσ'=>bk [] [(100,100),(101,101),(102,102),(104,104),(103,103),(105,6635),(106,106)] (hL2 σ');clear hL2;simp only[plS]at b1⊢;rw[ag];refine wkl ?_
          repeat' (intro _)
          refine dK [(0,102),(1,104)] [(102,0),(104,1)] [(102,.box (oJ X.1 104)),(104,.arr 18 (X.1.past.map bM))] hD ?_;clear hD;exact wkl trivial
         ·skip
          by_cases k5:kind=5
          ·subst k5;have ho1:oneB O C ⟨5,1,later,trust,cl,m⟩=kX O (showB O C m):=by unfold oneB;simp
           rw[ql (by rfl)]at hL2;simp only[ho1]at hL2;have hS:=QK O C hO.ok (by have:=hC.len;omega) hC.st m hn;have hD:=Lc O hO.ok hO.p64 (showB O C m) (MH hm);generalize showB O C m=m2 at*;generalize kX O m2=X at*;clear ho1 hm hn hC hO;have b1:=λσ'=>bk [] [(100,100),(101,101),(102,102),(104,104),(103,103),(105,6635),(106,106)] (hL2 σ');clear hL2;simp only[plS]at b1⊢;rw[ag];refine wkl ?_
           repeat' (intro _)
           refine dK [(0,102),(1,104),(2,101),(3,103)] [(102,0),(104,1),(101,2),(103,3)] [(102,.box (oJ O 104)),(104,.arr 18 (O.past.map bM)),(101,.box (oJ C 103)),(103,.arr 18 (C.past.map bM))] hS ?_;clear hS;refine wkl ?_
           repeat' (intro _)
           refine dK [(0,102),(1,104)] [(102,0),(104,1)] [(102,.box (oJ X.1 104)),(104,.arr 18 (X.1.past.map bM))] hD ?_;clear hD;exact wkl trivial
          ·skip
           have ho1:oneB O C ⟨kind,1,later,trust,cl,m⟩=(O,dE 1):=by unfold oneB;simp only[if_neg k1,if_neg k2,if_neg k3,if_neg k4,if_neg k5]
           rw[ql (by rfl)]at hL2;simp only[ho1]at hL2;clear ho1 hm hn hC hO;have b1:=λσ'=>bk [] [(100,100),(101,101),(102,102),(104,104),(103,103),(105,6635),(106,106)] (hL2 σ');clear hL2;simp only[plS]at b1⊢;rw[ag];exact wkl trivial
     ·rw[aga (by exact q0) (by exact q1)]at hL2;clear hm hn hC hO;have b1:=λσ'=>bk [] [(100,100),(101,101),(102,102),(103,103),(104,104),(105,6635),(106,106)] (hL2 σ');clear hL2;simp only[plS]at b1⊢;rw[ag];exact wkl trivial
   ·have hi2:i=l.length:=by omega
    subst hi2;rw[List.take_length];clear hL hok he;generalize gJ (A0,B0) l=r at*;obtain⟨⟨C,O⟩,ds⟩:=r;have hR:=hR';clear hR';simp only[plS];rw[ag];exact wkl trivial
end Go.Proofs.YtdmeldhlbpdeeaaGreatDoor
