/- Merged texts: ProofA, ProofB, ProofC, ProofT, R1Same, GapA, GapB. -/
import Derived.Test.YtoifllbioldomaaGreatDoorGBook
set_option linter.all false
set_option maxHeartbeats 4000000
set_option maxRecDepth 20000
namespace Go.Proofs.YtoifllbioldomaaGreatDoor
open Go Go.Abs Go.RowKit Go.Proofs.YtoifllbioldomaaGreatDoor.Ty
def gQ:=an7 @Ty.T1 @Ty.T3 @Ty.T5 @Ty.T25 @Ty.T59 @Ty.ahN @Ty.ahC
structure gG where
 i:Int
 n:Int
 k:List UInt8
 v:List UInt8
 path:List (List UInt8)
def fC (p:gG):D:=.agg [intD p.i,intD p.n,.i (bI p.k),.i (bI p.v),.i (bbI p.path)]
def uF:=an4 @bbI.eq_1 @bL.eq_1 @psI.eq_1 @fC.eq_1
def lK (l:List aP)(i:Nat):List (List UInt8) :=
 if h:l.length<=1 then[]
 else if i<aD l.length then lK (l.take (aD l.length)) i++[gH (l.drop (aD l.length))]
 else lK (l.drop (aD l.length)) (i-aD l.length)++[gH (l.take (aD l.length))]
termination_by l.length
decreasing_by
 all_goals
  have:=gT (n:=l.length) (by omega);simp only[List.length_take,List.length_drop];omega
theorem lJ {l:List aP}(i:Nat)(h:l.length<=1):lK l i=[]:=by rw[lK,dif_pos h]
theorem qM {l:List aP}{i:Nat}(h:2<=l.length)(hi:i<aD l.length):lK l i=lK (l.take (aD l.length)) i++[gH (l.drop (aD l.length))]:=by rw[lK,dif_neg (by omega),if_pos hi]
theorem qO {l:List aP}{i:Nat}(h:2<=l.length)(hi:¬i<aD l.length):lK l i=lK (l.drop (aD l.length)) (i-aD l.length)++[gH (l.take (aD l.length))]:=by rw[lK,dif_neg (by omega),if_neg hi]
theorem BS:∀(n:Nat)(l:List aP)(i:Nat),l.length=n->(lK l i).length<=n:=by
 intro n;induction n using Nat.strongRecOn with
 |_ n ih =>
  intro l i hn;by_cases h:l.length<=1
  ·rw[lJ i h];simp
  ·have hs:=gT (n:=l.length) (by omega);by_cases hi:i<aD l.length
   ·rw[qM (by omega) hi];have:=ih (l.take (aD l.length)).length (by simp;omega) _ i rfl;simp at this⊢;omega
   ·rw[qO (by omega) hi];have:=ih (l.drop (aD l.length)).length (by simp;omega) _ (i-aD l.length) rfl;simp at this⊢;omega
def bbE (b:List UInt8):List I:=[bI b]
theorem abN:∀(n:Nat)(l:List aP)(i:Nat),l.length=n->i<l.length->l.length<=1048576->(∀p∈l,p.k.length<=1048576/\p.v.length<=1048576) ->
  aI Tryz.prog 179 [.i (.sl (l.map bL)),.i (.s (.int .i64 (i:Int)))] noH (.os 1 1 0 (lK l i).length) (hOf noH [(1,.arr 1 ((lK l i).map bbE))]):=by
 intro n;induction n using Nat.strongRecOn with
 |_ n ih =>
  intro l i hn hi hl hb;by_cases h1:l.length=1
  ·have g1:decide ((l.length:Int)=1)=true:=by simp;omega
   rw[lJ i (by omega)];refine aa 39 Tryz.func179 ?_;refine gx (an gQ g1) ?_;refine dh _ [] [] rfl ?_ ?_ rfl ?_ rfl
   ·simp[cv,cv1,cv0,upd,jd,lk,noH]
   ·simp[aV,jd,lk,cvO,frz,upd,noH]
   ·simp
  ·have h2:2<=l.length:=by omega
   have hs:=gT h2;have hsp:=DW l.length (by omega) hl;have hpl:=BS l.length l i rfl;have hlo:=λh=>qM (l:=l) (i:=i) h2 h;have hhi:=λh=>qO (l:=l) (i:=i) h2 h;generalize aD l.length=k at*;have n1:l.take k≠[]:=by intro hc;have:=congrArg List.length hc;simp only[List.length_take,List.length_drop,List.length_nil]at this;omega
   have n2:l.drop k≠[]:=by intro hc;have:=congrArg List.length hc;simp only[List.length_take,List.length_drop,List.length_nil]at this;omega
   have t1:=LJ _ (l.take k) rfl n1 (by simp;omega) (λp hp=>hb p (List.mem_of_mem_take hp));have t2:=LJ _ (l.drop k) rfl n2 (by simp;omega) (λp hp=>hb p (List.mem_of_mem_drop hp));have i1:=λh=>ih (l.take k).length (by simp;omega) (l.take k) i rfl h (by simp;omega) (λp hp=>hb p (List.mem_of_mem_take hp));have i2:=λh=>ih (l.drop k).length (by simp;omega) (l.drop k) (i-k) rfl h (by simp;omega) (λp hp=>hb p (List.mem_of_mem_drop hp));simp only[psI]at t1 t2;have g1:decide ((l.length:Int)=1)=false:=by simp;omega
   have g2:((k:Int)<=(l.length:Int))=True:=eq_true (by omega);have u1:uni 2 (l.map bL)=true:=by simp[uni,bL]
   by_cases hc:i<k
   ·have hpi:=hlo hc;have g3:decide ((i:Int)<(k:Int))=true:=by simp;omega
    have ip:=i1 (by simp;omega);rw[hpi]at hpl;simp only[List.length_append,List.length_cons,List.length_nil]at hpl;generalize gH (l.drop k)=T at*;generalize hP:lK (l.take k) i=P at*;have e3:P.length+1<=140737488355328:=by omega
    have e4:(P.length+1)*24<=140737488355328:=by omega
    rw[hpi];refine aa 39 Tryz.func179 ?_
    (refine gy (an gQ g1) ?_;try intro ops hops)
    (refine fq uF (hsp) ?_)
    (refine gy (an7 gQ @intD.eq_1 g3 g2 u1 @mtk @mdr) ?_;try intro ops hops)
    refine rE 2284 ip (by simp[upd,noH]) rfl ?_
    (refine gy (an5 gQ g2 u1 @mtk @mdr) ?_;try intro ops hops)
    (refine fqz uF (t2) ?_)
    have u2:uni 1 (P.map bbE)=true:=by simp[uni,bbE]
    refine gx (an5 gQ @bI.eq_1 e3 e4 u2) ?_;refine dh _ [] [(1,2290)] rfl ?_ ?_ rfl ?_ rfl
    ·simp[cv,cv1,cv0,upd,jd,lk,noH]
    ·simp[aV,jd,lk,cvO,frz,upd,noH,bbE,bI]
    ·simp[noH]
   ·have hpi:=hhi hc;have g3:decide ((i:Int)<(k:Int))=false:=by simp;omega
    have ip:=i2 (by simp;omega);have w1:IntKind.i64.wrap ((i:Int)-(k:Int))=((i-k:Nat):Int):=by rw[ai (by omega) (by omega)];omega
    rw[hpi]at hpl;simp only[List.length_append,List.length_cons,List.length_nil]at hpl;generalize gH (l.take k)=T at*;generalize i-k=j at*;generalize hP:lK (l.drop k) j=P at*;have e3:P.length+1<=140737488355328:=by omega
    have e4:(P.length+1)*24<=140737488355328:=by omega
    rw[hpi];refine aa 39 Tryz.func179 ?_
    (refine gy (an gQ g1) ?_;try intro ops hops)
    (refine fq uF (hsp) ?_)
    (refine gy (an8 gQ @intD.eq_1 g3 g2 u1 w1 @mtk @mdr) ?_;try intro ops hops)
    refine rE 2542 ip (by simp[upd,noH]) rfl ?_
    (refine gy (an5 gQ g2 u1 @mtk @mdr) ?_;try intro ops hops)
    (refine fqz uF (t1) ?_)
    have u2:uni 1 (P.map bbE)=true:=by simp[uni,bbE]
    refine gx (an5 gQ @bI.eq_1 e3 e4 u2) ?_;refine dh _ [] [(1,2548)] rfl ?_ ?_ rfl ?_ rfl
    ·simp[cv,cv1,cv0,upd,jd,lk,noH]
    ·simp[aV,jd,lk,cvO,frz,upd,noH,bbE,bI]
    ·simp[noH]
def qz:=an7 @Ty.T3 @Ty.T5 @Ty.T25 @Ty.T59 @Ty.T61 @Ty.ahN @Ty.ahC
def eF:=an9 @Ty.T3 @Ty.T4 @Ty.T5 @Ty.T25 @Ty.T43 @Ty.T59 @Ty.T61 @Ty.ahN (an @Ty.agI @Ty.ahC)
def iH:=an5 @bbI.eq_1 @bL.eq_1 @psI.eq_1 @fC.eq_1 @rH.eq_1
theorem pE {P:Program}{fn:Func}{sl:Nat->D}{H:Nat->Ob}{t:TypeId}{p i:Tmp}{k:Nat}{cs:List D}{r:D}(F:List Nat)(h:fn.results=#[.cell p t,.tmp i])(ha:qg P t=some true)(hs:iy P t=some k)(hr:aW H (sl p) k=some cs)(hv:cv H F (λ_=>none) (.tup [.agg cs,sl i]) r):Fin P fn noH r noH .ret ⟨sl,H⟩ :=
 ⟨_,by simp[Dp,h,iP,ha,hs,hr],mq F hv⟩
def atF (l:List aP)(i:Nat)(h:i<l.length):gG:=⟨i,l.length,l[i].k,l[i].v,lK l i⟩
theorem agD (l:List aP)(i:Nat)(hi:i<l.length)(hl:l.length<=1048576)(hb:∀p∈l,p.k.length<=1048576/\p.v.length<=1048576):
  PureD Tryz.prog 113 [.i (psI l),intD i] (fC (atF l i hi)):=by
 have hp:=abN _ l i rfl hi hl hb;have hbi:=hb _ (List.getElem_mem hi);have e1:(l.map bL)[i]?=some [bI l[i].k,bI l[i].v]:=by rw[List.getElem?_map,List.getElem?_eq_getElem hi];rfl
 have c1:=dU l[i].k (by omega);have c2:=dU l[i].v (by omega);have hpl:=BS l.length l i rfl;simp only[atF];generalize l[i]=p at*;generalize lK l i=Q at*;refine aa 24 Tryz.func113 ?_
 (refine gy (an5 qz @psI.eq_1 @intD.eq_1 e1 @bI.eq_1) ?_;try intro ops hops)
 (refine fqz iH (c1) ?_)
 (refine gy (an5 qz @psI.eq_1 @intD.eq_1 e1 @bI.eq_1) ?_;try intro ops hops)
 (refine fqz iH (c2) ?_)
 (refine gy (an5 qz @psI.eq_1 @intD.eq_1 e1 @bI.eq_1) ?_;try intro ops hops)
 refine rE 1273 hp (by simp[upd,noH]) rfl ?_;refine gx (an qz @bI.eq_1) ?_;refine EK [1273] rfl aev aa_ (by simp[upd,aW,aG];rfl) ?_;simp[cv,cv1,cvL,cv0,upd,fC,intD,bbI,aJ,hO,noH,lk,gz,bbE,bI]
def pK:gG:=⟨0,0,[],[],[]⟩
def kD (l:List aP)(key:List UInt8):gG×Nat :=
 if(dQ l).1=0 then(if h:placeF l key<l.length then(if l[placeF l key].k=key then(atF l (placeF l key) h,0)else(pK,6))else(pK,6))else(pK,(dQ l).1)
theorem abh (l:List aP)(key:List UInt8)(hl:l.length<=1048576):
  PureD Tryz.prog 54 [.i (psI l),.i (bI key)] (.tup [fC (kD l key).1,intD (kD l key).2]):=by
 have hw:=Dy l hl;unfold kD;by_cases h0:(dQ l).1=0
 ·have hr:=uR h0;have hz:=rM h0;rw[if_pos h0];rw[hz]at hw;simp only at hw;have hf:=WM l key hr;unfold nu at hf;have hat:=λ(h:placeF l key<l.length)=>agD l (placeF l key) h hl (λp hp=>by have:=hr.big p hp;omega);by_cases h1:placeF l key<l.length
  ·rw[dif_pos h1]at hf⊢;have hat:=hat h1;by_cases h2:l[placeF l key].k=key
   ·rw[if_pos h2];rw[decide_eq_true h2]at hf;simp only;generalize atF l (placeF l key) h1=A at*;generalize placeF l key=j at*;refine aa 29 Tryz.func54 ?_
    (refine gy (an3 eF @psI.eq_1 @bI.eq_1) ?_;try intro ops hops)
    (refine fq iH (hw) ?_)
    (refine gy (an5 eF @rH.eq_1 @intD.eq_1 @psI.eq_1 @bI.eq_1) ?_;try intro ops hops)
    (refine fq iH (hf) ?_)
    (refine gy (an5 eF @boolD.eq_1 @intD.eq_1 @psI.eq_1 @bI.eq_1) ?_;try intro ops hops)
    (refine fqz iH (hat) ?_)
    refine gx (an3 eF @fC.eq_1 @intD.eq_1) ?_;refine pE [] rfl aev aa_ (by simp[upd,aW,aG];rfl) ?_;simp[cv,cvT,cv1,cvL,cv0,upd,fC,intD]
   ·rw[if_neg h2];rw[decide_eq_false h2]at hf;simp only;generalize placeF l key=j at*;refine aa 29 Tryz.func54 ?_
    (refine gy (an3 eF @psI.eq_1 @bI.eq_1) ?_;try intro ops hops)
    (refine fq iH (hw) ?_)
    (refine gy (an5 eF @rH.eq_1 @intD.eq_1 @psI.eq_1 @bI.eq_1) ?_;try intro ops hops)
    (refine fq iH (hf) ?_)
    refine gx (an5 eF @boolD.eq_1 @intD.eq_1 @psI.eq_1 @bI.eq_1) ?_;refine pE [] rfl aev aa_ (by simp[upd,aW,aG];rfl) ?_;simp[cv,cvT,cv1,cvL,cv0,upd,fC,pK,intD,bI,bbI]
  ·rw[dif_neg h1]at hf⊢;simp only;generalize placeF l key=j at*;refine aa 29 Tryz.func54 ?_
   (refine gy (an3 eF @psI.eq_1 @bI.eq_1) ?_;try intro ops hops)
   (refine fq iH (hw) ?_)
   (refine gy (an5 eF @rH.eq_1 @intD.eq_1 @psI.eq_1 @bI.eq_1) ?_;try intro ops hops)
   (refine fq iH (hf) ?_)
   refine gx (an5 eF @boolD.eq_1 @intD.eq_1 @psI.eq_1 @bI.eq_1) ?_;refine pE [] rfl aev aa_ (by simp[upd,aW,aG];rfl) ?_;simp[cv,cvT,cv1,cvL,cv0,upd,fC,pK,intD,bI,bbI]
 ·rw[if_neg h0];generalize dQ l=W at*;have g1:decide ((W.1:Int)=0)=false:=by simp;omega
  refine aa 29 Tryz.func54 ?_
  (refine gy (an3 eF @psI.eq_1 @bI.eq_1) ?_;try intro ops hops)
  (refine fq iH (hw) ?_)
  refine gx (an4 eF @rH.eq_1 @intD.eq_1 g1) ?_;refine pE [] rfl aev aa_ (by simp[upd,aW,aG];rfl) ?_;simp[cv,cvT,cv1,cvL,cv0,upd,fC,pK,intD,bI,bbI]
def dS:=an5 @Ty.T3 @Ty.T5 @Ty.T25 @Ty.T59 @Ty.T61
def wQ (p:gG):List I:=[.s (.int .i64 p.i),.s (.int .i64 p.n),bI p.k,bI p.v,bbI p.path]
def OQ (p:gG):Bool:=decide (p.n<1)||decide (200<p.n)||decide (p.i<0)||decide (p.n<=p.i)||decide (60<p.k.length)||decide (200<p.v.length)||decide (40<p.path.length)
def sK (p:gG):Bool:=!OQ p&&p.path.all λd=>decide (d.length=32)
theorem TY {p:gG}(h:OQ p=true):sK p=false:=by simp[sK,h]
theorem UY {l:List (List UInt8)}{i:Nat}(h:i<l.length):(l.drop i).all (λd=>decide (d.length=32))=(decide (l[i].length=32)&&(l.drop (i+1)).all λd=>decide (d.length=32)):=by rw[List.drop_eq_getElem_cons h];rfl
theorem adz (p:gG):PureD Tryz.prog 284 [.rp (wQ p) 0] (boolD (sK p)):=by
 have hN:=TY (p:=p);unfold OQ at hN;obtain⟨i,n,k,v,q⟩:=p;have hl:(q.map λb=>[bI b]).length=q.length:=by simp
 have e0:∀j (h:j<q.length),(q.map λb=>[bI b])[j]?=some [bI q[j]]:=λj h=>by rw[List.getElem?_map,List.getElem?_eq_getElem h];rfl
 cases g1:decide (n<1);case true =>rw[hN (by simp[g1])];refine aa 72 Tryz.func284 ?_;refine gx (an3 dS @wQ.eq_1 g1) ?_;refine au [] rfl ?_;simp[cv,cv1,cv0,upd,boolD]
 cases g2:decide ((200:Int)<n);case true =>rw[hN (by simp[g2])];refine aa 72 Tryz.func284 ?_;refine gx (an4 dS @wQ.eq_1 g1 g2) ?_;refine au [] rfl ?_;simp[cv,cv1,cv0,upd,boolD]
 cases g3:decide (i<0);case true =>rw[hN (by simp[g3])];refine aa 72 Tryz.func284 ?_;refine gx (an5 dS @wQ.eq_1 g1 g2 g3) ?_;refine au [] rfl ?_;simp[cv,cv1,cv0,upd,boolD]
 cases g4:decide (n<=i);case true =>rw[hN (by simp[g4])];refine aa 72 Tryz.func284 ?_;refine gx (an6 dS @wQ.eq_1 g1 g2 g3 g4) ?_;refine au [] rfl ?_;simp[cv,cv1,cv0,upd,boolD]
 cases g5:decide ((60:Int)<(k.length:Int));case true =>rw[hN (by simp at g5;simp;omega)];refine aa 72 Tryz.func284 ?_;refine gx (an8 dS @wQ.eq_1 g1 g2 g3 g4 g5 @bI.eq_1) ?_;refine au [] rfl ?_;simp[cv,cv1,cv0,upd,boolD]
 cases g6:decide ((200:Int)<(v.length:Int));case true =>rw[hN (by simp at g6;simp;omega)];refine aa 72 Tryz.func284 ?_;refine gx (an9 dS @wQ.eq_1 g1 g2 g3 g4 g5 g6 @bI.eq_1) ?_;refine au [] rfl ?_;simp[cv,cv1,cv0,upd,boolD]
 cases g7:decide ((40:Int)<(q.length:Int));case true =>rw[hN (by simp at g7;simp;omega)];refine aa 72 Tryz.func284 ?_;refine gx (an9 dS @wQ.eq_1 g1 g2 g3 g4 g5 g6 (an4 g7 @bI.eq_1 @bbI.eq_1 @hl)) ?_;refine au [] rfl ?_;simp[cv,cv1,cv0,upd,boolD]
 have hF:sK ⟨i,n,k,v,q⟩=(q.drop 0).all λd=>decide (d.length=32):=by
  have b5:decide (60<k.length)=false:=by simp at g5⊢;omega
  have b6:decide (200<v.length)=false:=by simp at g6⊢;omega
  have b7:decide (40<q.length)=false:=by simp at g7⊢;omega
  simp[sK,OQ,g1,g2,g3,g4,b5,b6,b7]
 have hq:q.length<=40:=by simp at g7;omega
 generalize sK ⟨i,n,k,v,q⟩=R at hF;clear hN;refine aa 72 Tryz.func284 ?_;refine gx (an9 dS @wQ.eq_1 g1 g2 g3 g4 g5 g6 (an4 g7 @bI.eq_1 @bbI.eq_1 @hl)) ?_;refine bu (ι:=Nat) (λj=>j<=q.length/\R=(q.drop j).all λd=>decide (d.length=32))
  (λj=>cO [(62,.i (bbI q)),(63,intD q.length),(64,intD j)] []) (λj=>q.length-j) 0 ⟨Nat.zero_le _,hF⟩ ?_ ?_
 ·refine ag _ _ [] [] ?_ ?_ rfl rfl
  ·simp[cv,cvL,cv1,cv0,upd,lk,ah,intD,bbI,bI]
  ·simp
 ·rintro j ⟨hj,hR⟩;rw[ae];refine gx (an dS @intD.eq_1) ?_;refine aM (λh=>?_) (λh=>?_)
  ·have h2:j<q.length:=by simp at h;omega
   clear h;have e1:=e0 j h2;simp only[bI]at e1;rw[UY h2]at hR;have w1:IntKind.i64.wrap ((j:Int)+1)=((j+1:Nat):Int):=by rw[ai (by omega) (by omega)];omega
   generalize q[j]=d at*;refine gx (an4 dS @bbI.eq_1 e1 @bI.eq_1) ?_;refine aM (λh=>?_) (λh=>?_)
   ·have h3:d.length≠32:=by simp at h;omega
    simp only[h3,decide_false,Bool.false_and]at hR;refine gx dS ?_;refine au [] rfl ?_;simp[cv,cv1,cv0,upd,hR,boolD]
   ·have h3:d.length=32:=by simp at h;omega
    simp only[h3,decide_true,Bool.true_and]at hR;refine gx (an dS w1) ?_;refine⟨j+1,⟨h2,hR⟩,ag _ _ [] [] ?_ ?_ rfl rfl,by simp;omega⟩
    ·simp[cv,cvL,cv1,cv0,upd,lk,ah,intD,bbI,bI]
    ·simp
  ·have h2:¬j<q.length:=by simp at h;omega
   clear h;rw[List.drop_eq_nil_of_le (by omega)]at hR;refine gx dS ?_;refine au [] rfl ?_;simp[cv,cv1,cv0,upd,hR,boolD]
def fo:=an4 @Ty.T3 @Ty.T5 @Ty.T25 @Ty.T59
def gP:=an7 @Ty.T3 @Ty.T4 @Ty.T5 @Ty.T25 @Ty.T59 @Ty.T61 @Ty.ahs
def iG:=an @bbI.eq_1 @fC.eq_1
def iE (leaf:List UInt8):Nat->Nat->List (List UInt8)->List UInt8×Bool
 |_,n,[]=>if n=1 then(leaf,true)else([],false)
 |i,n,d::r=>if n=1 then(leaf,false)else if i<aD n then(sj (iE leaf i (aD n) r).1 d,(iE leaf i (aD n) r).2)
   else(sj d (iE leaf (i-aD n) (n-aD n) r).1,(iE leaf (i-aD n) (n-aD n) r).2)
theorem wR (leaf:List UInt8)(h:leaf.length<=32):∀(r:List (List UInt8))(i n:Nat),(iE leaf i n r).1.length<=32:=by
 intro r;induction r with
 |nil=>intro i n;simp only[iE];split<;>simp[h]
 |cons d r ih =>
  intro i n;simp only[iE];split
  ·exact h
  ·split<;>simp only[sj]<;>exact Nat.le_of_eq (bX _)
theorem Yt (leaf:List UInt8)(hlf:leaf.length<=32):∀(r:List (List UInt8))(i n:Nat),(∀d∈r,d.length=32)->r.length<=1048576->i<=1048576->1<=n->n<=1048576 ->
  PureD Tryz.prog 285 [.i (bI leaf),intD i,intD n,.i (bbI r.reverse)] (.tup [.i (bI (iE leaf i n r).1),boolD (iE leaf i n r).2]):=by
 intro r;induction r with
 |nil =>
  intro i n _ _ _ h1 h2;by_cases hn:n=1
  ·subst hn;simp only[iE,if_true];refine aa 71 Tryz.func285 ?_;refine gx (an6 fo @intD.eq_1 @bI.eq_1 @bbI.eq_1 @List.reverse_nil.{0} @List.map_nil.{0,0}) ?_;refine bY [] rfl ?_;simp[cv,cvT,cv1,cv0,upd,intD,boolD,bI]
  ·simp only[iE,hn,if_false];have g1:decide ((n:Int)=1)=false:=by simp;omega
   refine aa 71 Tryz.func285 ?_;refine gx (an7 fo @intD.eq_1 @bI.eq_1 @bbI.eq_1 @List.reverse_nil.{0} @List.map_nil.{0,0} g1) ?_;refine bY [] rfl ?_;simp[cv,cvT,cv1,cv0,upd,intD,boolD,bI]
 |cons d r ih =>
  intro i n hd hr hi h1 h2;have hd0:d.length=32:=hd d (by simp);simp only[List.length_cons]at hr;have L1:((d::r).reverse.map λb=>[bI b]).length=r.length+1:=by simp
  have L2:((d::r).reverse.map λb=>[bI b])[r.length]?=some [bI d]:=by simp
  have L3:((d::r).reverse.map λb=>[bI b]).take r.length=r.reverse.map λb=>[bI b]:=by simp
  have L4:uni 1 ((d::r).reverse.map λb=>[bI b])=true:=by simp[uni]
  have hq:bbI (d::r).reverse=.sl ((d::r).reverse.map λb=>[bI b]):=rfl;rw[hq];generalize((d::r).reverse.map λb=>[bI b])=L at*;clear hq;by_cases hn:n=1
  ·subst hn;simp only[iE,if_true];have g1:decide (((r.length+1:Nat):Int)=0)=false:=by simp;omega
   refine aa 71 Tryz.func285 ?_;refine gx (an4 fo @intD.eq_1 @L1 g1) ?_;refine bY [] rfl ?_;simp[cv,cvT,cv1,cv0,upd,intD,boolD,bI]
  ·have hs:=gT (n:=n) (by omega);have hsp:=DW n h1 h2;have i1:=ih i (aD n) (λd hd'=>hd d (by simp[hd'])) (by omega) hi (by omega) (by omega);have i2:=ih (i-aD n) (n-aD n) (λd hd'=>hd d (by simp[hd'])) (by omega) (by omega) (by omega) (by omega);have n1:=wR leaf hlf r i (aD n);have n2:=wR leaf hlf r (i-aD n) (n-aD n);have g1:decide ((n:Int)=1)=false:=by simp;omega
   have g2:decide (((r.length+1:Nat):Int)=0)=false:=by simp;omega
   have g4:((r.length:Int)<=((r.length+1:Nat):Int))=True:=eq_true (by omega);have w1:IntKind.i64.wrap (((r.length+1:Nat):Int)-1)=(r.length:Int):=by rw[ai (by omega) (by omega)];omega
   have hc1:i<aD n->iE leaf i n (d::r)=(sj (iE leaf i (aD n) r).1 d,(iE leaf i (aD n) r).2):=λh=>by simp only[iE,if_neg hn,if_pos h]
   have hc2:¬i<aD n->iE leaf i n (d::r)=(sj d (iE leaf (i-aD n) (n-aD n) r).1,(iE leaf (i-aD n) (n-aD n) r).2):=λh=>by simp only[iE,if_neg hn,if_neg h]
   clear hd;generalize aD n=k at*;simp only[bbI]at i1 i2;rw[<- L3]at i1 i2;by_cases hc:i<k
   ·have g3:decide ((i:Int)<(k:Int))=true:=by simp;omega
    rw[hc1 hc];clear i2 hc1 hc2;generalize iE leaf i k r=T at*;have hnd:=NE T.1 d (by omega) (by omega);generalize sj T.1 d=R at*;refine aa 71 Tryz.func285 ?_
    (refine gy (an6 fo @intD.eq_1 @L1 g1 g2 w1) ?_;try intro ops hops)
    (refine fq iG (hsp) ?_)
    (refine gy (an6 fo @intD.eq_1 g3 @L1 @L4 g4) ?_;try intro ops hops)
    (refine fqz iG (i1) ?_)
    (refine gy (an3 fo @boolD.eq_1 @L2) ?_;try intro ops hops)
    (refine fqz iG (hnd) ?_)
    refine gx (an fo @bI.eq_1) ?_;refine bY [] rfl ?_;simp[cv,cvT,cv1,cv0,upd,intD,boolD,bI]
   ·have g3:decide ((i:Int)<(k:Int))=false:=by simp;omega
    have w2:IntKind.i64.wrap ((i:Int)-(k:Int))=((i-k:Nat):Int):=by rw[ai (by omega) (by omega)];omega
    have w3:IntKind.i64.wrap ((n:Int)-(k:Int))=((n-k:Nat):Int):=by rw[ai (by omega) (by omega)];omega
    rw[hc2 hc];clear i1 hc1 hc2;generalize iE leaf (i-k) (n-k) r=T at*;have hnd:=NE d T.1 (by omega) (by omega);generalize sj d T.1=R at*;refine aa 71 Tryz.func285 ?_
    (refine gy (an6 fo @intD.eq_1 @L1 g1 g2 w1) ?_;try intro ops hops)
    (refine fq iG (hsp) ?_)
    (refine gy (an8 fo @intD.eq_1 g3 @L1 @L4 g4 w2 w3) ?_;try intro ops hops)
    (refine fqz iG (i2) ?_)
    (refine gy (an3 fo @boolD.eq_1 @L2) ?_;try intro ops hops)
    (refine fqz iG (hnd) ?_)
    refine gx (an fo @bI.eq_1) ?_;refine bY [] rfl ?_;simp[cv,cvT,cv1,cv0,upd,intD,boolD,bI]
def Bo (p:gG):List UInt8×Bool:=iE (xG p.k p.v) p.i.toNat p.n.toNat p.path.reverse
def gU (root:List UInt8)(p:gG):Bool:=sK p&&(Bo p).2&&decide (JQ p.n.toNat (Bo p).1=root)
theorem formF_yes {p:gG}(h:sK p=true):1<=p.n/\p.n<=200/\0<=p.i/\p.i<p.n/\p.k.length<=60/\p.v.length<=200/\p.path.length<=40/\∀d∈p.path,d.length=32:=by simp[sK,OQ]at h;exact⟨by omega,by omega,by omega,by omega,by omega,by omega,by omega,h.2⟩
theorem DX (root:List UInt8)(p:gG):PureD Tryz.prog 268 [.i (bI root),fC p] (boolD (gU root p)):=by
 have hfm:=adz p;unfold gU Bo;cases hf:sK p
 ·rw[hf]at hfm;simp only[Bool.false_and];refine aa 33 Tryz.func268 ?_;refine gx (an3 gP @fC.eq_1 @intD.eq_1) ?_;refine jc [] [1000] hfm ⟨.inr ⟨1000,_,_,rfl,.inl ⟨by simp,rfl,_,by simp[upd];rfl,by simp[wQ,EX,cv0]⟩⟩,trivial⟩ rfl ?_;refine gx (an gP @boolD.eq_1) ?_;refine au [] rfl ?_;simp[cv,cv1,cv0,upd,boolD]
 ·rw[hf]at hfm;simp only[Bool.true_and];obtain⟨a1,a2,a3,a4,a5,a6,a7,a8⟩:=formF_yes hf;clear hf;have hl:=Ww p.k p.v (by omega) (by omega);have hlen:(xG p.k p.v).length=32:=bX _;generalize xG p.k p.v=F at*;have ht:=Yt F (by omega) p.path.reverse p.i.toNat p.n.toNat (λd hd=>a8 d (by simpa using hd)) (by simp;omega) (by omega) (by omega) (by omega);have hT:=wR F (by omega) p.path.reverse p.i.toNat p.n.toNat;rw[List.reverse_reverse,Int.toNat_of_nonneg a3,Int.toNat_of_nonneg (by omega)]at ht;generalize iE F p.i.toNat p.n.toNat p.path.reverse=T at*;have htp:=RV p.n.toNat T.1 (by omega);rw[Int.toNat_of_nonneg (by omega)]at htp;generalize JQ p.n.toNat T.1=R at*;clear a1 a2 a3 a4 a5 a6 a7 a8;obtain⟨i,n,k,v,q⟩:=p;obtain⟨t,ok⟩:=T;simp only at*;refine aa 33 Tryz.func268 ?_;refine gx (an3 gP @fC.eq_1 @intD.eq_1) ?_;refine jc [] [1000] hfm ⟨.inr ⟨1000,_,_,rfl,.inl ⟨by simp,rfl,_,by simp[upd];rfl,by simp[wQ,EX,cv0]⟩⟩,trivial⟩ rfl ?_
  (refine gy (an gP @boolD.eq_1) ?_;try intro ops hops)
  (refine fqz iG (hl) ?_)
  (refine gy gP ?_;try intro ops hops)
  (refine fqz iG (ht) ?_)
  cases ok
  ·refine gx (an gP @boolD.eq_1) ?_;refine au [] rfl ?_;simp[cv,cv1,cv0,upd,boolD]
  ·(refine gy (an gP @boolD.eq_1) ?_;try intro ops hops)
   (refine fqz iG (htp) ?_)
   (refine gy gP ?_;try intro ops hops)
   (refine fq iG (iF R root) ?_)
   refine gx gP ?_;refine au [] rfl ?_;simp[cv,cv1,cv0,upd,boolD]
def dM:=an9 @Ty.T3 @Ty.T4 @Ty.T5 @Ty.T25 @Ty.T43 @Ty.T59 @Ty.T61 @Ty.T63 (an3 @Ty.ahN @Ty.agI @Ty.ahC)
def jQ:=an4 @bbI.eq_1 @psI.eq_1 @fC.eq_1 @rH.eq_1
structure XM where
 hl:Bool
 hr:Bool
 left:gG
 right:gG
def K_ (g:XM):D:=.agg [boolD g.hl,boolD g.hr,intD g.left.i,intD g.left.n,.i (bI g.left.k),.i (bI g.left.v),.i (bbI g.left.path),intD g.right.i,intD g.right.n,.i (bI g.right.k),.i (bI g.right.v),.i (bbI g.right.path)]
def Rz:XM:=⟨false,false,pK,pK⟩
def atZ (l:List aP)(b:Bool)(i:Nat):gG:=if h:b=true/\i<l.length then atF l i h.2 else pK
def Rp (l:List aP)(key:List UInt8):XM×Nat :=
 if(dQ l).1=0 then(if nu l key then(Rz,7)else(⟨decide (0<placeF l key),decide (placeF l key<l.length),atZ l (decide (0<placeF l key)) (placeF l key-1),atZ l (decide (placeF l key<l.length)) (placeF l key)⟩,0))else(Rz,(dQ l).1)
theorem afK (l:List aP)(key:List UInt8)(hl:l.length<=1048576):PureD Tryz.prog 53 [.i (psI l),.i (bI key)] (.tup [K_ (Rp l key).1,intD (Rp l key).2]):=by
 have hw:=Dy l hl;unfold Rp;by_cases h0:(dQ l).1=0
 ·have hr:=uR h0;have hz:=rM h0;rw[if_pos h0];rw[hz]at hw;simp only at hw;have hf:=WM l key hr;have hat:=λ(i:Nat) (h:i<l.length)=>agD l i h hl (λp hp=>by have:=hr.big p hp;omega);have hple:=vX l key;cases ht:nu l key
  ·rw[ht]at hf;simp only[Bool.false_eq_true,if_false];generalize placeF l key=j at*;have z1:∀b i (h:i<l.length),b=true->atZ l b i=atF l i h:=λb i h hb=>dif_pos ⟨hb,h⟩;have z2:∀i,atZ l false i=pK:=λi=>dif_neg (by simp);by_cases h1:0<j
   ·have g1:decide ((0:Int)<(j:Int))=true:=decide_eq_true (by omega);have w1:IntKind.i64.wrap ((j:Int)-1)=((j-1:Nat):Int):=by rw[ai (by omega) (by omega)];omega
    have a1:=hat (j-1) (by omega);rw[decide_eq_true h1,z1 true (j-1) (by omega) rfl];by_cases h2:j<l.length
    ·have g2:decide ((j:Int)<(l.length:Int))=true:=decide_eq_true (by omega);have a2:=hat j h2;rw[decide_eq_true h2,z1 true j h2 rfl];generalize atF l (j-1) _=A at*;generalize atF l j _=B at*;generalize j-1=j1 at*;refine aa 44 Tryz.func53 ?_
     (refine gy (an3 dM @psI.eq_1 @bI.eq_1) ?_;try intro ops hops)
     (refine fq jQ (hw) ?_)
     (refine gy (an5 dM @rH.eq_1 @intD.eq_1 @psI.eq_1 @bI.eq_1) ?_;try intro ops hops)
     (refine fq jQ (hf) ?_)
     (refine gy (an7 dM @boolD.eq_1 @intD.eq_1 @psI.eq_1 @bI.eq_1 g1 w1) ?_;try intro ops hops)
     (refine fqz jQ (a1) ?_)
     (refine gy (an4 dM @fC.eq_1 @intD.eq_1 g2) ?_;try intro ops hops)
     (refine fqz jQ (a2) ?_)
     refine gx (an3 dM @fC.eq_1 @intD.eq_1) ?_;refine pE [] rfl aaE aav (by simp[upd,aW,aG];rfl) ?_;simp[cv,cvT,cv1,cvL,cv0,upd,K_,intD,boolD]
    ·have g2:decide ((j:Int)<(l.length:Int))=false:=decide_eq_false (by omega);rw[decide_eq_false h2,z2 j];generalize atF l (j-1) _=A at*;generalize j-1=j1 at*;refine aa 44 Tryz.func53 ?_
     (refine gy (an3 dM @psI.eq_1 @bI.eq_1) ?_;try intro ops hops)
     (refine fq jQ (hw) ?_)
     (refine gy (an5 dM @rH.eq_1 @intD.eq_1 @psI.eq_1 @bI.eq_1) ?_;try intro ops hops)
     (refine fq jQ (hf) ?_)
     (refine gy (an7 dM @boolD.eq_1 @intD.eq_1 @psI.eq_1 @bI.eq_1 g1 w1) ?_;try intro ops hops)
     (refine fqz jQ (a1) ?_)
     refine gx (an4 dM @fC.eq_1 @intD.eq_1 g2) ?_;refine pE [] rfl aaE aav (by simp[upd,aW,aG];rfl) ?_;simp[cv,cvT,cv1,cvL,cv0,upd,K_,intD,boolD,pK,bI,bbI]
   ·have hj:j=0:=by omega
    subst hj;rw[decide_eq_false h1,z2];by_cases h2:0<l.length
    ·have g2:decide ((0:Int)<(l.length:Int))=true:=decide_eq_true (by omega);have a2:=hat 0 h2;rw[decide_eq_true h2,z1 true 0 h2 rfl];generalize atF l 0 _=B at*;refine aa 44 Tryz.func53 ?_
     (refine gy (an3 dM @psI.eq_1 @bI.eq_1) ?_;try intro ops hops)
     (refine fq jQ (hw) ?_)
     (refine gy (an5 dM @rH.eq_1 @intD.eq_1 @psI.eq_1 @bI.eq_1) ?_;try intro ops hops)
     (refine fq jQ (hf) ?_)
     (refine gy (an7 dM @boolD.eq_1 @intD.eq_1 @psI.eq_1 @bI.eq_1 g2 @Int.natCast_zero) ?_;try intro ops hops)
     (refine fqz jQ (a2) ?_)
     refine gx (an3 dM @fC.eq_1 @intD.eq_1) ?_;refine pE [] rfl aaE aav (by simp[upd,aW,aG];rfl) ?_;simp[cv,cvT,cv1,cvL,cv0,upd,K_,intD,boolD,pK,bI,bbI]
    ·have g2:decide ((0:Int)<(l.length:Int))=false:=decide_eq_false (by omega);rw[decide_eq_false h2,z2];refine aa 44 Tryz.func53 ?_
     (refine gy (an3 dM @psI.eq_1 @bI.eq_1) ?_;try intro ops hops)
     (refine fq jQ (hw) ?_)
     (refine gy (an5 dM @rH.eq_1 @intD.eq_1 @psI.eq_1 @bI.eq_1) ?_;try intro ops hops)
     (refine fq jQ (hf) ?_)
     refine gx (an7 dM @boolD.eq_1 @intD.eq_1 @psI.eq_1 @bI.eq_1 g2 @Int.natCast_zero) ?_;refine pE [] rfl aaE aav (by simp[upd,aW,aG];rfl) ?_;simp[cv,cvT,cv1,cvL,cv0,upd,K_,intD,boolD,pK,bI,bbI]
  ·rw[ht]at hf;simp only[if_true];generalize placeF l key=j at*;refine aa 44 Tryz.func53 ?_
   (refine gy (an3 dM @psI.eq_1 @bI.eq_1) ?_;try intro ops hops)
   (refine fq jQ (hw) ?_)
   (refine gy (an5 dM @rH.eq_1 @intD.eq_1 @psI.eq_1 @bI.eq_1) ?_;try intro ops hops)
   (refine fq jQ (hf) ?_)
   refine gx (an5 dM @boolD.eq_1 @intD.eq_1 @psI.eq_1 @bI.eq_1) ?_;refine pE [] rfl aaE aav (by simp[upd,aW,aG];rfl) ?_;simp[cv,cvT,cv1,cvL,cv0,upd,K_,intD,boolD,Rz,pK,bI,bbI]
 ·rw[if_neg h0];generalize dQ l=W at*;have g1:decide ((W.1:Int)=0)=false:=by simp;omega
  refine aa 44 Tryz.func53 ?_
  (refine gy (an3 dM @psI.eq_1 @bI.eq_1) ?_;try intro ops hops)
  (refine fq jQ (hw) ?_)
  refine gx (an4 dM @rH.eq_1 @intD.eq_1 g1) ?_;refine pE [] rfl aaE aav (by simp[upd,aW,aG];rfl) ?_;simp[cv,cvT,cv1,cvL,cv0,upd,K_,intD,boolD,Rz,pK,bI,bbI]
def lq (root key:List UInt8)(g:XM):Bool :=
 match g.hl,g.hr with
 |false,false=>decide (JQ 0 []=root)
 |true,false=>gU root g.left&&decide (Lib.compareBytes g.left.k key<0)&&decide (g.left.i=g.left.n-1)
 |false,true=>gU root g.right&&decide (Lib.compareBytes key g.right.k<0)&&decide (g.right.i=0)
 |true,true=>gU root g.left&&decide (Lib.compareBytes g.left.k key<0)&&(gU root g.right&&decide (Lib.compareBytes key g.right.k<0))&&(decide (g.left.n=g.right.n)&&decide (g.left.i+1=g.right.i))
theorem shownF_form {r:List UInt8}{p:gG}(h:gU r p=true):sK p=true:=by unfold gU at h;simp only[Bool.and_eq_true]at h;exact h.1.1
attribute [local simp,local go_sem] fC K_ bbI
theorem U_ (root key:List UInt8)(g:XM):PureD Tryz.prog 270 [.i (bI root),.i (bI key),K_ g] (boolD (lq root key g)):=by
 refine af λR hR=>?_;obtain⟨hl,hr,⟨li,ln,lk,lv,lp⟩,⟨ri,rn,rk,rv,rp⟩⟩:=g;have c1:=DX root ⟨li,ln,lk,lv,lp⟩;have c2:=DX root ⟨ri,rn,rk,rv,rp⟩;have c3:=Us lk key;have c4:=Us key rk;have c5:=RV 0 [] (by simp);have c6:=iF (JQ 0 []) root;have fL:gU root ⟨li,ln,lk,lv,lp⟩=true->1<=ln/\ln<=200/\0<=li/\li<ln:=λh=>by obtain⟨a1,a2,a3,a4,_⟩:=formF_yes (shownF_form h);exact⟨a1,a2,a3,a4⟩
 cases hl<;>cases hr<;>simp only[lq]at hR
 ·clear c1 c2 fL;generalize JQ 0 []=T at*;refine aa 89 Tryz.func270 ?_;exact wkl trivial
 ·clear c1 fL;generalize gU root ⟨ri,rn,rk,rv,rp⟩=S at*;generalize Lib.compareBytes key rk=C at*;cases S<;>by_cases q:C<0<;>simp only[q,decide_true,decide_false,Bool.true_and,Bool.false_and,Bool.and_false,Bool.and_true]at hR;all_goals
   refine aa 89 Tryz.func270 ?_;exact wkl trivial
 ·clear c2;generalize gU root ⟨li,ln,lk,lv,lp⟩=S at*;generalize Lib.compareBytes lk key=C at*;cases S<;>by_cases q:C<0<;>simp only[q,decide_true,decide_false,Bool.true_and,Bool.false_and,Bool.and_false,Bool.and_true]at hR;all_goals
   try(have fL:=fL rfl)
   refine aa 89 Tryz.func270 ?_;exact wkl trivial
 ·generalize gU root ⟨li,ln,lk,lv,lp⟩=S at*;generalize gU root ⟨ri,rn,rk,rv,rp⟩=S' at*;generalize Lib.compareBytes lk key=C at*;generalize Lib.compareBytes key rk=C' at*;cases S
  ·simp only[Bool.false_and]at hR;refine aa 89 Tryz.func270 ?_;exact wkl trivial
  ·have fL:=fL rfl;by_cases q:C<0
   ·cases S'<;>by_cases q':C'<0<;>simp only[q,q',decide_true,decide_false,Bool.true_and,Bool.false_and,Bool.and_false,Bool.and_true]at hR;all_goals
     refine aa 89 Tryz.func270 ?_;exact wkl trivial
   ·simp only[q,decide_false,Bool.and_false,Bool.false_and]at hR;refine aa 89 Tryz.func270 ?_;exact wkl trivial
end Go.Proofs.YtoifllbioldomaaGreatDoor
