/- Merged texts: RW8, RW9. -/
import Derived.Test.YtoifllbioldomaaGreatDoorGR8
import Derived.Test.YtoifllbioldomaaGreatDoorRClA
set_option linter.all false
set_option maxHeartbeats 16000000
set_option maxRecDepth 20000
namespace Go.Proofs.YtoifllbioldomaaGreatDoor
open Go Go.Abs Go.RowKit Go.Proofs.YtoifllbioldomaaGreatDoor.Ty
def YR:Option MarkD->List MarkD->Int
 |_,[]=>0
 |o,m::t=>if ¬nm m.ch 0=true\/¬nm m.seq 1=true then 3 else if ¬(m.dg.length:Int)=32 then 2 else if(o.any λq=>decide (¬(q.ch<m.ch\/q.ch=m.ch/\q.seq<m.seq)))=true then 2 else YR (some m) t
theorem NL:∀(l:List MarkD)(o:Option MarkD),(∀q,o=some q->nm q.ch 0=true/\nm q.seq 1=true)->YR o l=mZ o l
 |[],_,_=>rfl
 |m::t,o,h=>by
  rw[YR,mZ];by_cases a:¬nm m.ch 0=true\/¬nm m.seq 1=true
  ·rw[if_pos a,if_pos a]
  ·rw[if_neg a,if_neg a];have a1:nm m.ch 0=true:=Classical.byContradiction λe=>a (.inl e);have a2:nm m.seq 1=true:=Classical.byContradiction λe=>a (.inr e);rw[NL t (some m) (by intro q hq;injection hq with hq;subst hq;exact⟨a1,a2⟩)];have ho:(o.any λq=>decide (¬(q.ch<m.ch\/q.ch=m.ch/\q.seq<m.seq)))=(o.any λq=>decide (0<=jr q m.ch m.seq)):=by
    cases o with
    |none=>rfl
    |some q =>
     obtain⟨b1,b2⟩:=h q rfl;simp only[nm,decide_eq_true_eq]at a1 a2 b1 b2;simp only[Option.any_some];congr 1;unfold jr;by_cases e:q.ch=m.ch
     ·rw[if_pos e,ai (by omega) (by omega)];exact propext (by omega)
     ·rw[if_neg e,ai (by omega) (by omega)];exact propext (by omega)
   rw[ho]
def manyE (p:Nat×Nat):Int:=if(p.2:Int)<p.1 then 5 else 0
def Pe (p:Nat×Nat):List I:=[.s (.int .i64 p.1),.s (.int .i64 p.2)]
def manyL (s:StateD):List (Nat×Nat):=[(s.cls.length,4),(s.cns.length,8),(s.chs.length,8),(s.sent.length,50),(s.got.length,50),(s.acks.length,50),(s.pus.length,60)]
theorem afA (a1 a2 a3 a4 a5 a6 a7:Nat)(X:Int):(if(4:Int)<a1\/(8:Int)<a2\/(8:Int)<a3\/(50:Int)<a4\/(50:Int)<a5\/(50:Int)<a6\/(60:Int)<a7 then(5:Int)else X) =
  if fstE manyE [(a1,4),(a2,8),(a3,8),(a4,50),(a5,50),(a6,50),(a7,60)]=0 then X else fstE manyE [(a1,4),(a2,8),(a3,8),(a4,50),(a5,50),(a6,50),(a7,60)]:=by
 have e1:(4:Int)<a1↔4<a1:=by omega
 have e2:(8:Int)<a2↔8<a2:=by omega
 have e3:(8:Int)<a3↔8<a3:=by omega
 have e4:(50:Int)<a4↔50<a4:=by omega
 have e5:(50:Int)<a5↔50<a5:=by omega
 have e6:(50:Int)<a6↔50<a6:=by omega
 have e7:(60:Int)<a7↔60<a7:=by omega
 simp only[fstE,manyE,Int.ofNat_lt,e1,e2,e3,e4,e5,e6,e7];clear e1 e2 e3 e4 e5 e6 e7;by_cases h1:4<a1
 ·simp[h1]
 by_cases h2:8<a2
 ·simp[h1,h2]
 by_cases h3:8<a3
 ·simp[h1,h2,h3]
 by_cases h4:50<a4
 ·simp[h1,h2,h3,h4]
 by_cases h5:50<a5
 ·simp[h1,h2,h3,h4,h5]
 by_cases h6:50<a6
 ·simp[h1,h2,h3,h4,h5,h6]
 by_cases h7:60<a7<;>simp[h1,h2,h3,h4,h5,h6,h7]
theorem YV (s:StateD)(X:Int):(if(4:Int)<s.cls.length\/(8:Int)<s.cns.length\/(8:Int)<s.chs.length\/(50:Int)<s.sent.length\/(50:Int)<s.got.length\/(50:Int)<s.acks.length\/(60:Int)<s.pus.length then(5:Int)else X) =
  if fstE manyE (manyL s)=0 then X else fstE manyE (manyL s):=afA ..
theorem Nz (n:Int):kz n=nm n 0:=rfl
theorem zG (l:List MarkD)(hl:l.length<=1048576):PureD Tryz.prog 30 [.i (.sl (l.map bB))] (intD (mZ none l)):=by
 rw[<- NL l none (by intro q hq;cases hq)];refine af λR hR=>?_;refine aa 67 Tryz.func30 ?_;refine wkl ?_;clear hR;intro hR;have hR':Hr (intD (YR (rF l 0) (l.drop 0))) R:=hR;clear hR;refine aF (ι:=Nat) (λi=>i<=l.length/\Hr (intD (YR (rF l i) (l.drop i))) R)
  (λi=>cO [(0,.i (.sl (l.map bB))),(5,.i (.sl (l.map bB))),(6,intD l.length),(7,intD i)] []) (λi=>l.length-i) 0 ⟨Nat.zero_le _,hR'⟩ ?_ ?_
 ·exact bO [] []
 ·rintro i ⟨hi,hR⟩ RL hL;clear hR';rw[ae];by_cases h:i<l.length
  ·have e1:=ay (f:=bB) h;rw[List.drop_eq_getElem_cons h,YR]at hR;have hnx:rF l (i+1)=some l[i]:=by simp[rF,h]
   rw[<- hnx]at hR;have c1:=wP 0 l[i].ch;have c2:=wP 1 l[i].seq;have b1:=λσ' (hq:Hr _ R)=>bk [] [] (hL (i+1) σ' ⟨h,hq⟩);clear hL;cases i with
   |zero =>have hp:rF l 0=none:=rfl;rw[hp]at hR;simp only[Option.any_none,Bool.false_eq_true,if_false]at hR;clear hp hnx;generalize hv0:l[0]=v at*;exact wkl trivial
   |succ j =>
    have hj:j<l.length:=by omega
    have hp:rF l (j+1)=some l[j]:=by simp[rF,hj]
    have e2:=ay (f:=bB) hj;rw[hp]at hR;simp only[Option.any_some,decide_eq_true_eq]at hR;have hg0:(0:Int)<((j+1:Nat):Int):=by omega
    have w0:IntKind.i64.wrap (((j+1:Nat):Int)-1)=(j:Int):=by rw[ai (by omega) (by omega)];omega
    have n0:(((j+1:Nat):Int)).toNat=j+1:=by omega
    clear hnx hp;generalize hv0:l[j+1]=v at*;generalize hq0:l[j]=q at*;exact wkl trivial
  ·rw[List.drop_eq_nil_of_le (by omega),YR]at hR;exact wkl trivial
theorem afQ {c:ConnD}(a:c.st<1\/3<c.st):cnE c=1:=by unfold cnE;rw[if_pos a]
theorem afP {c:ConnD}(a:¬(c.st<1\/3<c.st)):cnE c=if(nm c.cl 0&&nm c.oc 0)=true then(if nm c.on (-1)=true then 0 else 3)else 3:=by unfold cnE;rw[if_neg a];cases nm c.cl 0<;>cases nm c.oc 0<;>cases nm c.on (-1)<;>simp
theorem afS {c:ChanD}(a:c.st<1\/4<c.st):chE c=1:=by unfold chE;rw[if_pos a]
theorem afR {c:ChanD}(a:¬(c.st<1\/4<c.st)):chE c=if nm c.cn 0=true then(if nm c.oc (-1)=true then(if(nm c.snd 1&&(nm c.rcv 1&&nm c.ack 1))=true then 0 else 3)else 3)else 3:=by unfold chE;rw[if_neg a];cases nm c.cn 0<;>cases nm c.oc (-1)<;>cases nm c.snd 1<;>cases nm c.rcv 1<;>cases nm c.ack 1<;>simp
theorem acC {n:Nat}:((n:Int)<1)=((n:Int)=0):=propext (by omega)
theorem Mo (s:StateD)(hs:StSm s):PureD Tryz.prog 17 [stateD s] (intD (bf s)):=by
 refine af λR hR=>?_;have c1:PureD Tryz.prog 27 [sD s.name] (boolD (fO s.name)):=Wn s.name;have c2:=OH 0 s.h s.t;have l1:=hs.cls;have l2:=hs.cns;have l3:=hs.chs;have l4:=hs.sent;have l5:=hs.got;have l6:=hs.acks;have l7:=hs.pus;unfold bf at hR;rw[YV]at hR;have hh:(¬kz s.h=true\/¬kz s.t=true)=¬(nm s.h 0&&nm s.t 0)=true:=by rw[Nz,Nz];cases nm s.h 0<;>cases nm s.t 0<;>simp
 simp only[hh]at hR;clear hh;generalize(nm s.h 0&&nm s.t 0)=B at*;generalize fO s.name=B1 at*;have hLn:(manyL s).length=7:=rfl;refine aa 230 Tryz.func17 ?_;refine wkl ?_;clear hR c1 c2;intro hR
 repeat' (intro _)
 have hR':Hr (intD (if fstE manyE ((manyL s).drop 0)=0 then(if fstE wrongC s.cls=0 then Rq s else fstE wrongC s.cls)else fstE manyE ((manyL s).drop 0))) R:=hR;clear hR;refine aF (ι:=Nat) (λi=>i<=7/\Hr (intD (if fstE manyE ((manyL s).drop i)=0 then(if fstE wrongC s.cls=0 then Rq s else fstE wrongC s.cls)else fstE manyE ((manyL s).drop i))) R)
  (λi=>cO [(1,.pt 100 0 0 0),(57,.os 101 2 0 7),(58,intD 7),(59,intD i)] [(100,.box ((encSt s).map .i)),(101,.arr 2 ((manyL s).map Pe))]) (λi=>7-i) 0 ⟨Nat.zero_le _,hR'⟩ ?_ ?_
 ·simp only[manyL,List.map_cons,List.map_nil,Pe];exact bO [] [(100,1000),(101,2308)]
 ·rintro i ⟨hi,hR⟩ RL hL;clear hR';rw[ae];by_cases h:i<(manyL s).length
  ·have e1:=ay (f:=Pe) h;rw[pY h]at hR;have b1:=λσ' (hq:Hr _ R)=>bk [] [(100,100),(101,101)] (hL (i+1) σ' ⟨by omega,hq⟩);have hi7:i<7:=by omega
   clear hL hs;generalize hM:(manyL s).map Pe=M at*;generalize(manyL s)[i]=v at*;obtain⟨v1,v2⟩:=v;simp only[Pe]at e1;by_cases hz:(v2:Int)<v1
   ·rw[show manyE (v1,v2)=5 from if_pos hz,if_neg (show ¬(5:Int)=0 by decide),if_neg (show ¬(5:Int)=0 by decide)]at hR;exact wkl trivial
   ·rw[show manyE (v1,v2)=0 from if_neg hz,if_pos rfl]at hR;exact wkl trivial
  ·rw[p_ h,if_pos rfl]at hR;have hi7:¬i<7:=by omega
   clear hL hLn;refine wkl ?_;clear hR;intro hR;have hR':Hr (intD (if fstE wrongC (s.cls.drop 0)=0 then Rq s else fstE wrongC (s.cls.drop 0))) R:=hR;clear hR;refine aF (ι:=Nat) (λi=>i<=s.cls.length/\Hr (intD (if fstE wrongC (s.cls.drop i)=0 then Rq s else fstE wrongC (s.cls.drop i))) R)
    (λi=>cO [(1,.pt 100 0 0 0),(70,.i (.sl (s.cls.map gJ))),(71,intD s.cls.length),(72,intD i)] [(100,.box ((encSt s).map .i))]) (λi=>s.cls.length-i) 0 ⟨Nat.zero_le _,hR'⟩ ?_ ?_
   ·exact bO [] [(100,100)]
   ·rintro i ⟨hi,hR⟩ RL hL;clear hR';rw[ae];by_cases h:i<s.cls.length
    ·have e1:=ay (f:=gJ) h;rw[pY h]at hR;have b1:=λσ' (hq:Hr _ R)=>bk [] [(100,100)] (hL (i+1) σ' ⟨h,hq⟩);have c1:=Mm s.cls[i] (hs.cl _ (List.getElem_mem h)).l;clear hL hs;generalize s.cls[i]=v at*;by_cases hz:wrongC v=0
     ·rw[if_pos hz]at hR;rw[hz]at c1;exact wkl trivial
     ·rw[if_neg hz,if_neg hz]at hR;generalize wrongC v=W at*;exact wkl trivial
    ·rw[p_ h,if_pos rfl]at hR;clear hL;unfold Rq at hR;refine wkl ?_;clear hR;intro hR;have hR':Hr (intD (if fstE cnE (s.cns.drop 0)=0 then(if fstE chE s.chs=0 then mksS s else fstE chE s.chs)else fstE cnE (s.cns.drop 0))) R:=hR;clear hR;refine aF (ι:=Nat) (λi=>i<=s.cns.length/\Hr (intD (if fstE cnE (s.cns.drop i)=0 then(if fstE chE s.chs=0 then mksS s else fstE chE s.chs)else fstE cnE (s.cns.drop i))) R)
      (λi=>cO [(1,.pt 100 0 0 0),(83,.i (.sl (s.cns.map dN))),(84,intD s.cns.length),(85,intD i)] [(100,.box ((encSt s).map .i))]) (λi=>s.cns.length-i) 0 ⟨Nat.zero_le _,hR'⟩ ?_ ?_
     ·exact bO [] [(100,100)]
     ·rintro i ⟨hi,hR⟩ RL hL;clear hR';rw[ae];by_cases h:i<s.cns.length
      ·have e1:=ay (f:=dN) h;rw[pY h]at hR;have b1:=λσ' (hq:Hr _ R)=>bk [] [(100,100)] (hL (i+1) σ' ⟨h,hq⟩);have c1:=OH 0 s.cns[i].cl s.cns[i].oc;have c2:=wP (-1) s.cns[i].on;clear hL hs;generalize s.cns[i]=v at*;by_cases a:v.st<1\/3<v.st
       ·rw[afQ a,if_neg (show ¬(1:Int)=0 by decide),if_neg (show ¬(1:Int)=0 by decide)]at hR;exact wkl trivial
       ·rw[afP a]at hR;generalize(nm v.cl 0&&nm v.oc 0)=B1 at*;generalize nm v.on (-1)=B2 at*;cases B1<;>cases B2;all_goals
         simp only[Bool.false_eq_true,if_true,if_false,reduceIte,eq_self,show ¬(3:Int)=0 by decide]at hR;exact wkl trivial
      ·rw[p_ h,if_pos rfl]at hR;clear hL;refine wkl ?_;clear hR;intro hR;have hR':Hr (intD (if fstE chE (s.chs.drop 0)=0 then mksS s else fstE chE (s.chs.drop 0))) R:=hR;clear hR;refine aF (ι:=Nat) (λi=>i<=s.chs.length/\Hr (intD (if fstE chE (s.chs.drop i)=0 then mksS s else fstE chE (s.chs.drop i))) R)
        (λi=>cO [(1,.pt 100 0 0 0),(113,.i (.sl (s.chs.map bA))),(114,intD s.chs.length),(115,intD i)] [(100,.box ((encSt s).map .i))]) (λi=>s.chs.length-i) 0 ⟨Nat.zero_le _,hR'⟩ ?_ ?_
       ·exact bO [] [(100,100)]
       ·rintro i ⟨hi,hR⟩ RL hL;clear hR';rw[ae];by_cases h:i<s.chs.length
        ·have e1:=ay (f:=bA) h;rw[pY h]at hR;have b1:=λσ' (hq:Hr _ R)=>bk [] [(100,100)] (hL (i+1) σ' ⟨h,hq⟩);have c1:=wP 0 s.chs[i].cn;have c2:=wP (-1) s.chs[i].oc;have c3:=Zv 1 s.chs[i].snd s.chs[i].rcv s.chs[i].ack;clear hL hs;generalize s.chs[i]=v at*;by_cases a:v.st<1\/4<v.st
         ·rw[afS a,if_neg (show ¬(1:Int)=0 by decide),if_neg (show ¬(1:Int)=0 by decide)]at hR;exact wkl trivial
         ·rw[afR a]at hR;generalize nm v.cn 0=B1 at*;generalize nm v.oc (-1)=B2 at*;generalize(nm v.snd 1&&(nm v.rcv 1&&nm v.ack 1))=B3 at*;cases B1<;>cases B2<;>cases B3;all_goals
           simp only[Bool.false_eq_true,if_true,if_false,reduceIte,eq_self,show ¬(3:Int)=0 by decide]at hR;exact wkl trivial
        ·rw[p_ h,if_pos rfl]at hR;clear hL;unfold mksS at hR;refine wkl ?_;clear hR;intro hR;have hR':Hr (intD (mrk s 0)) R:=hR;clear hR;refine aF (ι:=Nat) (λi=>i<=3/\Hr (intD (mrk s i)) R)
          (λi=>cO [(1,.pt 100 0 0 0),(157,.os 101 1 0 3),(158,intD 3),(159,intD i)] [(100,.box ((encSt s).map .i)),(101,.arr 1 [[.sl (s.sent.map bB)],[.sl (s.got.map bB)],[.sl (s.acks.map bB)]])]) (λi=>3-i) 0 ⟨Nat.zero_le _,hR'⟩ ?_ ?_
         ·exact bO [] [(100,100),(101,9710)]
         ·rintro i ⟨hi,hR⟩ RL hL;clear hR' hs;rw[ae];have b1:=λσ' (h:i+1<=3) (hq:Hr _ R)=>bk [] [(100,100),(101,101)] (hL (i+1) σ' ⟨h,hq⟩);clear hL
          match i,hi with
          |0,_ =>
           have c1:=zG s.sent l4;have b1:=λσ' (hq:Hr (intD (mrk s 1)) R)=>b1 σ' (by omega) hq;simp only[mrk]at b1;by_cases hz:mZ none s.sent=0
           ·simp only[mrk,mksS,hz,if_true]at hR;rw[hz]at c1;exact wkl trivial
           ·simp only[mrk,mksS,hz,if_false]at hR;generalize mZ none s.sent=W at*;exact wkl trivial
          |1,_ =>
           have c1:=zG s.got l5;have b1:=λσ' (hq:Hr (intD (mrk s 2)) R)=>b1 σ' (by omega) hq;simp only[mrk]at b1;by_cases hz:mZ none s.got=0
           ·simp only[mrk,hz,if_true]at hR;rw[hz]at c1;exact wkl trivial
           ·simp only[mrk,hz,if_false]at hR;generalize mZ none s.got=W at*;exact wkl trivial
          |2,_ =>
           have c1:=zG s.acks l6;have b1:=λσ' (hq:Hr (intD (mrk s 3)) R)=>b1 σ' (by omega) hq;simp only[mrk]at b1;by_cases hz:mZ none s.acks=0
           ·simp only[mrk,hz,if_true]at hR;rw[hz]at c1;exact wkl trivial
           ·simp only[mrk,hz,if_false]at hR;generalize mZ none s.acks=W at*;exact wkl trivial
          |3,_ =>
           clear b1;simp only[mrk]at hR;refine wkl ?_;clear hR;intro hR;have hR':Hr (intD (BL (rF s.pus 0) (s.pus.drop 0))) R:=hR;clear hR;refine aF (ι:=Nat) (λi=>i<=s.pus.length/\Hr (intD (BL (rF s.pus i) (s.pus.drop i))) R)
            (λi=>cO [(1,.pt 100 0 0 0),(170,.i (oF s.pus)),(171,intD s.pus.length),(172,intD i)] [(100,.box ((encSt s).map .i))]) (λi=>s.pus.length-i) 0 ⟨Nat.zero_le _,hR'⟩ ?_ ?_
           ·exact bO [] [(100,100)]
           ·rintro i ⟨hi,hR⟩ RL hL;clear hR';rw[ae];by_cases h:i<s.pus.length
            ·have e1:=ay (f:=aZ) h;rw[List.drop_eq_getElem_cons h,BL]at hR;have hnx:rF s.pus (i+1)=some s.pus[i]:=by simp[rF,h]
             rw[<- hnx]at hR;have b1:=λσ' (hq:Hr _ R)=>bk [] [(100,100)] (hL (i+1) σ' ⟨h,hq⟩);clear hL;cases i with
             |zero =>
              have hp:rF s.pus 0=none:=rfl;rw[hp]at hR;simp only[Option.any_none,Bool.false_eq_true,if_false]at hR;clear hp hnx;generalize hv0:s.pus[0]=v at*;simp only[acC]at hR;by_cases a1:(v.o.size:Int)=0
              ·simp only[a1,true_or,or_true,false_or,or_false,if_true,if_false]at hR;exact wkl trivial
              by_cases a2:(40:Int)<v.o.size
              ·simp only[a1,a2,true_or,or_true,false_or,or_false,if_true,if_false]at hR;exact wkl trivial
              by_cases a3:(v.d.size:Int)=0
              ·simp only[a1,a2,a3,true_or,or_true,false_or,or_false,if_true,if_false]at hR;exact wkl trivial
              by_cases a4:(40:Int)<v.d.size
              ·simp only[a1,a2,a3,a4,true_or,or_true,false_or,or_false,if_true,if_false]at hR;exact wkl trivial
              by_cases a5:v.n=0
              ·simp only[a1,a2,a3,a4,a5,true_or,or_true,false_or,or_false,if_true,if_false]at hR;exact wkl trivial
              simp only[a1,a2,a3,a4,a5,false_or,or_false,if_false]at hR;exact wkl trivial
             |succ j =>
              have hj:j<s.pus.length:=by omega
              have hp:rF s.pus (j+1)=some s.pus[j]:=by simp[rF,hj]
              have e2:=ay (f:=aZ) hj;rw[hp]at hR;simp only[Option.any_some,decide_eq_true_eq]at hR;have hg0:(0:Int)<((j+1:Nat):Int):=by omega
              have w0:IntKind.i64.wrap (((j+1:Nat):Int)-1)=(j:Int):=by rw[ai (by omega) (by omega)];omega
              have n0:(((j+1:Nat):Int)).toNat=j+1:=by omega
              clear hnx hp;generalize hv0:s.pus[j+1]=v at*;generalize hq0:s.pus[j]=q at*;simp only[acC]at hR;by_cases a1:(v.o.size:Int)=0
              ·simp only[a1,true_or,or_true,false_or,or_false,if_true,if_false]at hR;exact wkl trivial
              by_cases a2:(40:Int)<v.o.size
              ·simp only[a1,a2,true_or,or_true,false_or,or_false,if_true,if_false]at hR;exact wkl trivial
              by_cases a3:(v.d.size:Int)=0
              ·simp only[a1,a2,a3,true_or,or_true,false_or,or_false,if_true,if_false]at hR;exact wkl trivial
              by_cases a4:(40:Int)<v.d.size
              ·simp only[a1,a2,a3,a4,true_or,or_true,false_or,or_false,if_true,if_false]at hR;exact wkl trivial
              by_cases a5:v.n=0
              ·simp only[a1,a2,a3,a4,a5,true_or,or_true,false_or,or_false,if_true,if_false]at hR;exact wkl trivial
              simp only[a1,a2,a3,a4,a5,false_or,or_false,if_false]at hR;by_cases hqo:q.o=v.o
              ·have h0:m_ v.o v.o=0:=cmpS_zero.2 rfl;simp only[hqo,h0,Int.lt_irrefl,true_and,false_or]at hR;exact wkl trivial
              ·have hqb:(q.o==v.o)=false:=by rw[Qr];exact hqo
               simp only[hqo,false_and,or_false]at hR;exact wkl trivial
            ·rw[List.drop_eq_nil_of_le (by omega),BL]at hR;exact wkl trivial
end Go.Proofs.YtoifllbioldomaaGreatDoor
