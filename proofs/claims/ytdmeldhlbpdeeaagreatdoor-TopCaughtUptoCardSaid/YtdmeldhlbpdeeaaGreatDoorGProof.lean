/- Merged texts: ProofA, ProofB, ProofC, ProofT, R1Same, GapA, GapB. -/
import Derived.Test.YtdmeldhlbpdeeaaGreatDoorGBook
set_option linter.all false
set_option maxHeartbeats 4000000
set_option maxRecDepth 20000
namespace Go.Proofs.YtdmeldhlbpdeeaaGreatDoor
open Go Go.Abs Go.RowKit Go.Proofs.YtdmeldhlbpdeeaaGreatDoor.Ty
def g_:=an7 @Ty.T1 @Ty.T3 @Ty.T5 @Ty.T29 @Ty.T31 @Ty.T41 @Ty.T42
structure b_ where
 i:Int
 n:Int
 k:List UInt8
 v:List UInt8
 path:List (List UInt8)
def bR (p:b_):D:=.agg [intD p.i,intD p.n,.i (bI p.k),.i (bI p.v),.i (bbI p.path)]
def uB:=an4 @bbI.eq_1 @bu.eq_1 @psI.eq_1 @bR.eq_1
def lu (l:List aN)(i:Nat):List (List UInt8) :=
 if h:l.length<=1 then[]
 else if i<ae l.length then lu (l.take (ae l.length)) i++[aZ (l.drop (ae l.length))]
 else lu (l.drop (ae l.length)) (i-ae l.length)++[aZ (l.take (ae l.length))]
termination_by l.length
decreasing_by
 all_goals
  have:=fT (n:=l.length) (by omega);simp only[List.length_take,List.length_drop];omega
theorem lq {l:List aN}(i:Nat)(h:l.length<=1):lu l i=[]:=by rw[lu,dif_pos h]
theorem qB {l:List aN}{i:Nat}(h:2<=l.length)(hi:i<ae l.length):lu l i=lu (l.take (ae l.length)) i++[aZ (l.drop (ae l.length))]:=by rw[lu,dif_neg (by omega),if_pos hi]
theorem qC {l:List aN}{i:Nat}(h:2<=l.length)(hi:¬i<ae l.length):lu l i=lu (l.drop (ae l.length)) (i-ae l.length)++[aZ (l.take (ae l.length))]:=by rw[lu,dif_neg (by omega),if_neg hi]
theorem BX:∀(n:Nat)(l:List aN)(i:Nat),l.length=n->(lu l i).length<=n:=by
 intro n;induction n using Nat.strongRecOn with
 |_ n ih =>
  intro l i hn;by_cases h:l.length<=1
  ·rw[lq i h];simp
  ·have hs:=fT (n:=l.length) (by omega);by_cases hi:i<ae l.length
   ·rw[qB (by omega) hi];have:=ih (l.take (ae l.length)).length (by simp;omega) _ i rfl;simp at this⊢;omega
   ·rw[qC (by omega) hi];have:=ih (l.drop (ae l.length)).length (by simp;omega) _ (i-ae l.length) rfl;simp at this⊢;omega
def bbE (b:List UInt8):List I:=[bI b]
theorem acO:∀(n:Nat)(l:List aN)(i:Nat),l.length=n->i<l.length->l.length<=1048576->(∀p∈l,p.k.length<=1048576/\p.v.length<=1048576) ->
  aL Tryz.prog 103 [.i (.sl (l.map bu)),.i (.s (.int .i64 (i:Int)))] noH (.os 1 1 0 (lu l i).length) (hOf noH [(1,.arr 1 ((lu l i).map bbE))]):=by
 intro n;induction n using Nat.strongRecOn with
 |_ n ih =>
  intro l i hn hi hl hb;by_cases h1:l.length=1
  ·have g1:decide ((l.length:Int)=1)=true:=by simp;omega
   rw[lq i (by omega)];refine aa 39 Tryz.func103 ?_;refine gx (an g_ g1) ?_;refine dN _ [] [] rfl ?_ ?_ rfl ?_ rfl
   ·simp[cv,cv1,cv0,upd,jc,lk,noH]
   ·simp[aX,jc,lk,cvO,frz,upd,noH]
   ·simp
  ·have h2:2<=l.length:=by omega
   have hs:=fT h2;have hsp:=zq l.length (by omega) hl;have hpl:=BX l.length l i rfl;have hlo:=λh=>qB (l:=l) (i:=i) h2 h;have hhi:=λh=>qC (l:=l) (i:=i) h2 h;generalize ae l.length=k at*;have n1:l.take k≠[]:=by intro hc;have:=congrArg List.length hc;simp only[List.length_take,List.length_drop,List.length_nil]at this;omega
   have n2:l.drop k≠[]:=by intro hc;have:=congrArg List.length hc;simp only[List.length_take,List.length_drop,List.length_nil]at this;omega
   have t1:=xI _ (l.take k) rfl n1 (by simp;omega) (λp hp=>hb p (List.mem_of_mem_take hp));have t2:=xI _ (l.drop k) rfl n2 (by simp;omega) (λp hp=>hb p (List.mem_of_mem_drop hp));have i1:=λh=>ih (l.take k).length (by simp;omega) (l.take k) i rfl h (by simp;omega) (λp hp=>hb p (List.mem_of_mem_take hp));have i2:=λh=>ih (l.drop k).length (by simp;omega) (l.drop k) (i-k) rfl h (by simp;omega) (λp hp=>hb p (List.mem_of_mem_drop hp));simp only[psI]at t1 t2;have g1:decide ((l.length:Int)=1)=false:=by simp;omega
   have g2:((k:Int)<=(l.length:Int))=True:=eq_true (by omega);have u1:uni 2 (l.map bu)=true:=by simp[uni,bu]
   by_cases hc:i<k
   ·have hpi:=hlo hc;have g3:decide ((i:Int)<(k:Int))=true:=by simp;omega
    have ip:=i1 (by simp;omega);rw[hpi]at hpl;simp only[List.length_append,List.length_cons,List.length_nil]at hpl;generalize aZ (l.drop k)=T at*;generalize hP:lu (l.take k) i=P at*;have e3:P.length+1<=140737488355328:=by omega
    have e4:(P.length+1)*24<=140737488355328:=by omega
    rw[hpi];refine aa 39 Tryz.func103 ?_
    (refine gy (an g_ g1) ?_;try intro ops hops)
    (refine fq uB (hsp) ?_)
    (refine gy (an7 g_ @intD.eq_1 g3 g2 u1 @mtk @mdr) ?_;try intro ops hops)
    refine rq 2284 ip (by simp[upd,noH]) rfl ?_
    (refine gy (an5 g_ g2 u1 @mtk @mdr) ?_;try intro ops hops)
    (refine fqz uB (t2) ?_)
    have u2:uni 1 (P.map bbE)=true:=by simp[uni,bbE]
    refine gx (an5 g_ @bI.eq_1 e3 e4 u2) ?_;refine dN _ [] [(1,2290)] rfl ?_ ?_ rfl ?_ rfl
    ·simp[cv,cv1,cv0,upd,jc,lk,noH]
    ·simp[aX,jc,lk,cvO,frz,upd,noH,bbE,bI]
    ·simp[noH]
   ·have hpi:=hhi hc;have g3:decide ((i:Int)<(k:Int))=false:=by simp;omega
    have ip:=i2 (by simp;omega);have w1:IntKind.i64.wrap ((i:Int)-(k:Int))=((i-k:Nat):Int):=by rw[au (by omega) (by omega)];omega
    rw[hpi]at hpl;simp only[List.length_append,List.length_cons,List.length_nil]at hpl;generalize aZ (l.take k)=T at*;generalize i-k=j at*;generalize hP:lu (l.drop k) j=P at*;have e3:P.length+1<=140737488355328:=by omega
    have e4:(P.length+1)*24<=140737488355328:=by omega
    rw[hpi];refine aa 39 Tryz.func103 ?_
    (refine gy (an g_ g1) ?_;try intro ops hops)
    (refine fq uB (hsp) ?_)
    (refine gy (an8 g_ @intD.eq_1 g3 g2 u1 w1 @mtk @mdr) ?_;try intro ops hops)
    refine rq 2542 ip (by simp[upd,noH]) rfl ?_
    (refine gy (an5 g_ g2 u1 @mtk @mdr) ?_;try intro ops hops)
    (refine fqz uB (t1) ?_)
    have u2:uni 1 (P.map bbE)=true:=by simp[uni,bbE]
    refine gx (an5 g_ @bI.eq_1 e3 e4 u2) ?_;refine dN _ [] [(1,2548)] rfl ?_ ?_ rfl ?_ rfl
    ·simp[cv,cv1,cv0,upd,jc,lk,noH]
    ·simp[aX,jc,lk,cvO,frz,upd,noH,bbE,bI]
    ·simp[noH]
def p_:=an7 @Ty.T3 @Ty.T5 @Ty.T29 @Ty.T31 @Ty.T41 @Ty.T42 @Ty.T44
def fC:=an9 @Ty.T3 @Ty.T4 @Ty.T5 @Ty.T29 @Ty.T31 @Ty.T32 @Ty.T41 @Ty.T42 (an @Ty.T44 @Ty.ahO)
def iK:=an5 @bbI.eq_1 @bu.eq_1 @psI.eq_1 @bR.eq_1 @lQ.eq_1
theorem oP {P:Program}{fn:Func}{sl:Nat->D}{H:Nat->Ob}{t:TypeId}{p i:Tmp}{k:Nat}{cs:List D}{r:D}(F:List Nat)(h:fn.results=#[.cell p t,.tmp i])(ha:pM P t=some true)(hs:iE P t=some k)(hr:aW H (sl p) k=some cs)(hv:cv H F (λ_=>none) (.tup [.agg cs,sl i]) r):Fin P fn noH r noH .ret ⟨sl,H⟩ :=
 ⟨_,by simp[BN,h,iC,ha,hs,hr],kJ F hv⟩
def atF (l:List aN)(i:Nat)(h:i<l.length):b_:=⟨i,l.length,l[i].k,l[i].v,lu l i⟩
theorem ahJ (l:List aN)(i:Nat)(hi:i<l.length)(hl:l.length<=1048576)(hb:∀p∈l,p.k.length<=1048576/\p.v.length<=1048576):
  PureD Tryz.prog 45 [.i (psI l),intD i] (bR (atF l i hi)):=by
 have hp:=acO _ l i rfl hi hl hb;have hbi:=hb _ (List.getElem_mem hi);have e1:(l.map bu)[i]?=some [bI l[i].k,bI l[i].v]:=by rw[List.getElem?_map,List.getElem?_eq_getElem hi];rfl
 have c1:=eT l[i].k (by omega);have c2:=eT l[i].v (by omega);have hpl:=BX l.length l i rfl;simp only[atF];generalize l[i]=p at*;generalize lu l i=Q at*;refine aa 24 Tryz.func45 ?_
 (refine gy (an5 p_ @psI.eq_1 @intD.eq_1 e1 @bI.eq_1) ?_;try intro ops hops)
 (refine fqz iK (c1) ?_)
 (refine gy (an5 p_ @psI.eq_1 @intD.eq_1 e1 @bI.eq_1) ?_;try intro ops hops)
 (refine fqz iK (c2) ?_)
 (refine gy (an5 p_ @psI.eq_1 @intD.eq_1 e1 @bI.eq_1) ?_;try intro ops hops)
 refine rq 1273 hp (by simp[upd,noH]) rfl ?_;refine gx (an p_ @bI.eq_1) ?_;refine E_ [1273] rfl afn aca (by simp[upd,aW,aR];rfl) ?_;simp[cv,cv1,cvL,cv0,upd,bR,intD,bbI,aO,hO,noH,lk,fQ,bbE,bI]
def mJ:b_:=⟨0,0,[],[],[]⟩
def iQ (l:List aN)(key:List UInt8):b_×Nat :=
 if(dQ l).1=0 then(if h:placeF l key<l.length then(if l[placeF l key].k=key then(atF l (placeF l key) h,0)else(mJ,6))else(mJ,6))else(mJ,(dQ l).1)
theorem Wq (l:List aN)(key:List UInt8)(hl:l.length<=1048576):
  PureD Tryz.prog 9 [.i (psI l),.i (bI key)] (.tup [bR (iQ l key).1,intD (iQ l key).2]):=by
 have hw:=DK l hl;unfold iQ;by_cases h0:(dQ l).1=0
 ·have hr:=nZ h0;have hz:=nP h0;rw[if_pos h0];rw[hz]at hw;simp only at hw;have hf:=Xw l key hr;unfold oL at hf;have hat:=λ(h:placeF l key<l.length)=>ahJ l (placeF l key) h hl (λp hp=>by have:=hr.big p hp;omega);by_cases h1:placeF l key<l.length
  ·rw[dif_pos h1]at hf⊢;have hat:=hat h1;by_cases h2:l[placeF l key].k=key
   ·rw[if_pos h2];rw[decide_eq_true h2]at hf;simp only;generalize atF l (placeF l key) h1=A at*;generalize placeF l key=j at*;refine aa 29 Tryz.func9 ?_
    (refine gy (an3 fC @psI.eq_1 @bI.eq_1) ?_;try intro ops hops)
    (refine fq iK (hw) ?_)
    (refine gy (an5 fC @lQ.eq_1 @intD.eq_1 @psI.eq_1 @bI.eq_1) ?_;try intro ops hops)
    (refine fq iK (hf) ?_)
    (refine gy (an5 fC @boolD.eq_1 @intD.eq_1 @psI.eq_1 @bI.eq_1) ?_;try intro ops hops)
    (refine fqz iK (hat) ?_)
    refine gx (an3 fC @bR.eq_1 @intD.eq_1) ?_;refine oP [] rfl afn aca (by simp[upd,aW,aR];rfl) ?_;simp[cv,cvT,cv1,cvL,cv0,upd,bR,intD]
   ·rw[if_neg h2];rw[decide_eq_false h2]at hf;simp only;generalize placeF l key=j at*;refine aa 29 Tryz.func9 ?_
    (refine gy (an3 fC @psI.eq_1 @bI.eq_1) ?_;try intro ops hops)
    (refine fq iK (hw) ?_)
    (refine gy (an5 fC @lQ.eq_1 @intD.eq_1 @psI.eq_1 @bI.eq_1) ?_;try intro ops hops)
    (refine fq iK (hf) ?_)
    refine gx (an5 fC @boolD.eq_1 @intD.eq_1 @psI.eq_1 @bI.eq_1) ?_;refine oP [] rfl afn aca (by simp[upd,aW,aR];rfl) ?_;simp[cv,cvT,cv1,cvL,cv0,upd,bR,mJ,intD,bI,bbI]
  ·rw[dif_neg h1]at hf⊢;simp only;generalize placeF l key=j at*;refine aa 29 Tryz.func9 ?_
   (refine gy (an3 fC @psI.eq_1 @bI.eq_1) ?_;try intro ops hops)
   (refine fq iK (hw) ?_)
   (refine gy (an5 fC @lQ.eq_1 @intD.eq_1 @psI.eq_1 @bI.eq_1) ?_;try intro ops hops)
   (refine fq iK (hf) ?_)
   refine gx (an5 fC @boolD.eq_1 @intD.eq_1 @psI.eq_1 @bI.eq_1) ?_;refine oP [] rfl afn aca (by simp[upd,aW,aR];rfl) ?_;simp[cv,cvT,cv1,cvL,cv0,upd,bR,mJ,intD,bI,bbI]
 ·rw[if_neg h0];generalize dQ l=W at*;have g1:decide ((W.1:Int)=0)=false:=by simp;omega
  refine aa 29 Tryz.func9 ?_
  (refine gy (an3 fC @psI.eq_1 @bI.eq_1) ?_;try intro ops hops)
  (refine fq iK (hw) ?_)
  refine gx (an4 fC @lQ.eq_1 @intD.eq_1 g1) ?_;refine oP [] rfl afn aca (by simp[upd,aW,aR];rfl) ?_;simp[cv,cvT,cv1,cvL,cv0,upd,bR,mJ,intD,bI,bbI]
def eQ:=an5 @Ty.T3 @Ty.T5 @Ty.T29 @Ty.T42 @Ty.T44
def qM (p:b_):List I:=[.s (.int .i64 p.i),.s (.int .i64 p.n),bI p.k,bI p.v,bbI p.path]
def Pv (p:b_):Bool:=decide (p.n<1)||decide (200<p.n)||decide (p.i<0)||decide (p.n<=p.i)||decide (60<p.k.length)||decide (200<p.v.length)||decide (40<p.path.length)
def pz (p:b_):Bool:=!Pv p&&p.path.all λd=>decide (d.length=32)
theorem UB {p:b_}(h:Pv p=true):pz p=false:=by simp[pz,h]
theorem VF {l:List (List UInt8)}{i:Nat}(h:i<l.length):(l.drop i).all (λd=>decide (d.length=32))=(decide (l[i].length=32)&&(l.drop (i+1)).all λd=>decide (d.length=32)):=by rw[List.drop_eq_getElem_cons h];rfl
theorem aex (p:b_):PureD Tryz.prog 106 [.rp (qM p) 0] (boolD (pz p)):=by
 have hN:=UB (p:=p);unfold Pv at hN;obtain⟨i,n,k,v,q⟩:=p;have hl:(q.map λb=>[bI b]).length=q.length:=by simp
 have e0:∀j (h:j<q.length),(q.map λb=>[bI b])[j]?=some [bI q[j]]:=λj h=>by rw[List.getElem?_map,List.getElem?_eq_getElem h];rfl
 cases g1:decide (n<1);case true =>rw[hN (by simp[g1])];refine aa 72 Tryz.func106 ?_;refine gx (an3 eQ @qM.eq_1 g1) ?_;refine aA [] rfl ?_;simp[cv,cv1,cv0,upd,boolD]
 cases g2:decide ((200:Int)<n);case true =>rw[hN (by simp[g2])];refine aa 72 Tryz.func106 ?_;refine gx (an4 eQ @qM.eq_1 g1 g2) ?_;refine aA [] rfl ?_;simp[cv,cv1,cv0,upd,boolD]
 cases g3:decide (i<0);case true =>rw[hN (by simp[g3])];refine aa 72 Tryz.func106 ?_;refine gx (an5 eQ @qM.eq_1 g1 g2 g3) ?_;refine aA [] rfl ?_;simp[cv,cv1,cv0,upd,boolD]
 cases g4:decide (n<=i);case true =>rw[hN (by simp[g4])];refine aa 72 Tryz.func106 ?_;refine gx (an6 eQ @qM.eq_1 g1 g2 g3 g4) ?_;refine aA [] rfl ?_;simp[cv,cv1,cv0,upd,boolD]
 cases g5:decide ((60:Int)<(k.length:Int));case true =>rw[hN (by simp at g5;simp;omega)];refine aa 72 Tryz.func106 ?_;refine gx (an8 eQ @qM.eq_1 g1 g2 g3 g4 g5 @bI.eq_1) ?_;refine aA [] rfl ?_;simp[cv,cv1,cv0,upd,boolD]
 cases g6:decide ((200:Int)<(v.length:Int));case true =>rw[hN (by simp at g6;simp;omega)];refine aa 72 Tryz.func106 ?_;refine gx (an9 eQ @qM.eq_1 g1 g2 g3 g4 g5 g6 @bI.eq_1) ?_;refine aA [] rfl ?_;simp[cv,cv1,cv0,upd,boolD]
 cases g7:decide ((40:Int)<(q.length:Int));case true =>rw[hN (by simp at g7;simp;omega)];refine aa 72 Tryz.func106 ?_;refine gx (an9 eQ @qM.eq_1 g1 g2 g3 g4 g5 g6 (an4 g7 @bI.eq_1 @bbI.eq_1 @hl)) ?_;refine aA [] rfl ?_;simp[cv,cv1,cv0,upd,boolD]
 have hF:pz ⟨i,n,k,v,q⟩=(q.drop 0).all λd=>decide (d.length=32):=by
  have b5:decide (60<k.length)=false:=by simp at g5⊢;omega
  have b6:decide (200<v.length)=false:=by simp at g6⊢;omega
  have b7:decide (40<q.length)=false:=by simp at g7⊢;omega
  simp[pz,Pv,g1,g2,g3,g4,b5,b6,b7]
 have hq:q.length<=40:=by simp at g7;omega
 generalize pz ⟨i,n,k,v,q⟩=R at hF;clear hN;refine aa 72 Tryz.func106 ?_;refine gx (an9 eQ @qM.eq_1 g1 g2 g3 g4 g5 g6 (an4 g7 @bI.eq_1 @bbI.eq_1 @hl)) ?_;refine bO (ι:=Nat) (λj=>j<=q.length/\R=(q.drop j).all λd=>decide (d.length=32))
  (λj=>dP [(62,.i (bbI q)),(63,intD q.length),(64,intD j)] []) (λj=>q.length-j) 0 ⟨Nat.zero_le _,hF⟩ ?_ ?_
 ·refine aj _ _ [] [] ?_ ?_ rfl rfl
  ·simp[cv,cvL,cv1,cv0,upd,lk,az,intD,bbI,bI]
  ·simp
 ·rintro j ⟨hj,hR⟩;rw[ag];refine gx (an eQ @intD.eq_1) ?_;refine aK (λh=>?_) (λh=>?_)
  ·have h2:j<q.length:=by simp at h;omega
   clear h;have e1:=e0 j h2;simp only[bI]at e1;rw[VF h2]at hR;have w1:IntKind.i64.wrap ((j:Int)+1)=((j+1:Nat):Int):=by rw[au (by omega) (by omega)];omega
   generalize q[j]=d at*;refine gx (an4 eQ @bbI.eq_1 e1 @bI.eq_1) ?_;refine aK (λh=>?_) (λh=>?_)
   ·have h3:d.length≠32:=by simp at h;omega
    simp only[h3,decide_false,Bool.false_and]at hR;refine gx eQ ?_;refine aA [] rfl ?_;simp[cv,cv1,cv0,upd,hR,boolD]
   ·have h3:d.length=32:=by simp at h;omega
    simp only[h3,decide_true,Bool.true_and]at hR;refine gx (an eQ w1) ?_;refine⟨j+1,⟨h2,hR⟩,aj _ _ [] [] ?_ ?_ rfl rfl,by simp;omega⟩
    ·simp[cv,cvL,cv1,cv0,upd,lk,az,intD,bbI,bI]
    ·simp
  ·have h2:¬j<q.length:=by simp at h;omega
   clear h;rw[List.drop_eq_nil_of_le (by omega)]at hR;refine gx eQ ?_;refine aA [] rfl ?_;simp[cv,cv1,cv0,upd,hR,boolD]
def fO:=an4 @Ty.T3 @Ty.T5 @Ty.T29 @Ty.T42
def gZ:=an7 @Ty.T3 @Ty.T4 @Ty.T5 @Ty.T29 @Ty.T42 @Ty.T44 @Ty.aiN
def iJ:=an @bbI.eq_1 @bR.eq_1
def bV (leaf:List UInt8):Nat->Nat->List (List UInt8)->List UInt8×Bool
 |_,n,[]=>if n=1 then(leaf,true)else([],false)
 |i,n,d::r=>if n=1 then(leaf,false)else if i<ae n then(rR (bV leaf i (ae n) r).1 d,(bV leaf i (ae n) r).2)
   else(rR d (bV leaf (i-ae n) (n-ae n) r).1,(bV leaf (i-ae n) (n-ae n) r).2)
theorem lH (leaf:List UInt8)(h:leaf.length<=32):∀(r:List (List UInt8))(i n:Nat),(bV leaf i n r).1.length<=32:=by
 intro r;induction r with
 |nil=>intro i n;simp only[bV];split<;>simp[h]
 |cons d r ih =>
  intro i n;simp only[bV];split
  ·exact h
  ·split<;>simp only[rR]<;>exact Nat.le_of_eq (bg _)
theorem zF (leaf:List UInt8)(hlf:leaf.length<=32):∀(r:List (List UInt8))(i n:Nat),(∀d∈r,d.length=32)->r.length<=1048576->i<=1048576->1<=n->n<=1048576 ->
  PureD Tryz.prog 54 [.i (bI leaf),intD i,intD n,.i (bbI r.reverse)] (.tup [.i (bI (bV leaf i n r).1),boolD (bV leaf i n r).2]):=by
 intro r;induction r with
 |nil =>
  intro i n _ _ _ h1 h2;by_cases hn:n=1
  ·subst hn;simp only[bV,if_true];refine aa 71 Tryz.func54 ?_;refine gx (an6 fO @intD.eq_1 @bI.eq_1 @bbI.eq_1 @List.reverse_nil.{0} @List.map_nil.{0,0}) ?_;refine dC [] rfl ?_;simp[cv,cvT,cv1,cv0,upd,intD,boolD,bI]
  ·simp only[bV,hn,if_false];have g1:decide ((n:Int)=1)=false:=by simp;omega
   refine aa 71 Tryz.func54 ?_;refine gx (an7 fO @intD.eq_1 @bI.eq_1 @bbI.eq_1 @List.reverse_nil.{0} @List.map_nil.{0,0} g1) ?_;refine dC [] rfl ?_;simp[cv,cvT,cv1,cv0,upd,intD,boolD,bI]
 |cons d r ih =>
  intro i n hd hr hi h1 h2;have hd0:d.length=32:=hd d (by simp);simp only[List.length_cons]at hr;have L1:((d::r).reverse.map λb=>[bI b]).length=r.length+1:=by simp
  have L2:((d::r).reverse.map λb=>[bI b])[r.length]?=some [bI d]:=by simp
  have L3:((d::r).reverse.map λb=>[bI b]).take r.length=r.reverse.map λb=>[bI b]:=by simp
  have L4:uni 1 ((d::r).reverse.map λb=>[bI b])=true:=by simp[uni]
  have hq:bbI (d::r).reverse=.sl ((d::r).reverse.map λb=>[bI b]):=rfl;rw[hq];generalize((d::r).reverse.map λb=>[bI b])=L at*;clear hq;by_cases hn:n=1
  ·subst hn;simp only[bV,if_true];have g1:decide (((r.length+1:Nat):Int)=0)=false:=by simp;omega
   refine aa 71 Tryz.func54 ?_;refine gx (an4 fO @intD.eq_1 @L1 g1) ?_;refine dC [] rfl ?_;simp[cv,cvT,cv1,cv0,upd,intD,boolD,bI]
  ·have hs:=fT (n:=n) (by omega);have hsp:=zq n h1 h2;have i1:=ih i (ae n) (λd hd'=>hd d (by simp[hd'])) (by omega) hi (by omega) (by omega);have i2:=ih (i-ae n) (n-ae n) (λd hd'=>hd d (by simp[hd'])) (by omega) (by omega) (by omega) (by omega);have n1:=lH leaf hlf r i (ae n);have n2:=lH leaf hlf r (i-ae n) (n-ae n);have g1:decide ((n:Int)=1)=false:=by simp;omega
   have g2:decide (((r.length+1:Nat):Int)=0)=false:=by simp;omega
   have g4:((r.length:Int)<=((r.length+1:Nat):Int))=True:=eq_true (by omega);have w1:IntKind.i64.wrap (((r.length+1:Nat):Int)-1)=(r.length:Int):=by rw[au (by omega) (by omega)];omega
   have hc1:i<ae n->bV leaf i n (d::r)=(rR (bV leaf i (ae n) r).1 d,(bV leaf i (ae n) r).2):=λh=>by simp only[bV,if_neg hn,if_pos h]
   have hc2:¬i<ae n->bV leaf i n (d::r)=(rR d (bV leaf (i-ae n) (n-ae n) r).1,(bV leaf (i-ae n) (n-ae n) r).2):=λh=>by simp only[bV,if_neg hn,if_neg h]
   clear hd;generalize ae n=k at*;simp only[bbI]at i1 i2;rw[<- L3]at i1 i2;by_cases hc:i<k
   ·have g3:decide ((i:Int)<(k:Int))=true:=by simp;omega
    rw[hc1 hc];clear i2 hc1 hc2;generalize bV leaf i k r=T at*;have hnd:=Oe T.1 d (by omega) (by omega);generalize rR T.1 d=R at*;refine aa 71 Tryz.func54 ?_
    (refine gy (an6 fO @intD.eq_1 @L1 g1 g2 w1) ?_;try intro ops hops)
    (refine fq iJ (hsp) ?_)
    (refine gy (an6 fO @intD.eq_1 g3 @L1 @L4 g4) ?_;try intro ops hops)
    (refine fqz iJ (i1) ?_)
    (refine gy (an3 fO @boolD.eq_1 @L2) ?_;try intro ops hops)
    (refine fqz iJ (hnd) ?_)
    refine gx (an fO @bI.eq_1) ?_;refine dC [] rfl ?_;simp[cv,cvT,cv1,cv0,upd,intD,boolD,bI]
   ·have g3:decide ((i:Int)<(k:Int))=false:=by simp;omega
    have w2:IntKind.i64.wrap ((i:Int)-(k:Int))=((i-k:Nat):Int):=by rw[au (by omega) (by omega)];omega
    have w3:IntKind.i64.wrap ((n:Int)-(k:Int))=((n-k:Nat):Int):=by rw[au (by omega) (by omega)];omega
    rw[hc2 hc];clear i1 hc1 hc2;generalize bV leaf (i-k) (n-k) r=T at*;have hnd:=Oe d T.1 (by omega) (by omega);generalize rR d T.1=R at*;refine aa 71 Tryz.func54 ?_
    (refine gy (an6 fO @intD.eq_1 @L1 g1 g2 w1) ?_;try intro ops hops)
    (refine fq iJ (hsp) ?_)
    (refine gy (an8 fO @intD.eq_1 g3 @L1 @L4 g4 w2 w3) ?_;try intro ops hops)
    (refine fqz iJ (i2) ?_)
    (refine gy (an3 fO @boolD.eq_1 @L2) ?_;try intro ops hops)
    (refine fqz iJ (hnd) ?_)
    refine gx (an fO @bI.eq_1) ?_;refine dC [] rfl ?_;simp[cv,cvT,cv1,cv0,upd,intD,boolD,bI]
def eZ (p:b_):List UInt8×Bool:=bV (dU p.k p.v) p.i.toNat p.n.toNat p.path.reverse
def dV (root:List UInt8)(p:b_):Bool:=pz p&&(eZ p).2&&decide (Gc p.n.toNat (eZ p).1=root)
theorem formF_yes {p:b_}(h:pz p=true):1<=p.n/\p.n<=200/\0<=p.i/\p.i<p.n/\p.k.length<=60/\p.v.length<=200/\p.path.length<=40/\∀d∈p.path,d.length=32:=by simp[pz,Pv]at h;exact⟨by omega,by omega,by omega,by omega,by omega,by omega,by omega,h.2⟩
theorem zu (root:List UInt8)(p:b_):PureD Tryz.prog 50 [.i (bI root),bR p] (boolD (dV root p)):=by
 have hfm:=aex p;unfold dV eZ;cases hf:pz p
 ·rw[hf]at hfm;simp only[Bool.false_and];refine aa 33 Tryz.func50 ?_;refine gx (an3 gZ @bR.eq_1 @intD.eq_1) ?_;refine ja [] [1000] hfm ⟨.inr ⟨1000,_,_,rfl,.inl ⟨by simp,rfl,_,by simp[upd];rfl,by simp[qM,Fj,cv0]⟩⟩,trivial⟩ rfl ?_;refine gx (an gZ @boolD.eq_1) ?_;refine aA [] rfl ?_;simp[cv,cv1,cv0,upd,boolD]
 ·rw[hf]at hfm;simp only[Bool.true_and];obtain⟨a1,a2,a3,a4,a5,a6,a7,a8⟩:=formF_yes hf;clear hf;have hl:=OA p.k p.v (by omega) (by omega);have hlen:(dU p.k p.v).length=32:=bg _;generalize dU p.k p.v=F at*;have ht:=zF F (by omega) p.path.reverse p.i.toNat p.n.toNat (λd hd=>a8 d (by simpa using hd)) (by simp;omega) (by omega) (by omega) (by omega);have hT:=lH F (by omega) p.path.reverse p.i.toNat p.n.toNat;rw[List.reverse_reverse,Int.toNat_of_nonneg a3,Int.toNat_of_nonneg (by omega)]at ht;generalize bV F p.i.toNat p.n.toNat p.path.reverse=T at*;have htp:=SC p.n.toNat T.1 (by omega);rw[Int.toNat_of_nonneg (by omega)]at htp;generalize Gc p.n.toNat T.1=R at*;clear a1 a2 a3 a4 a5 a6 a7 a8;obtain⟨i,n,k,v,q⟩:=p;obtain⟨t,ok⟩:=T;simp only at*;refine aa 33 Tryz.func50 ?_;refine gx (an3 gZ @bR.eq_1 @intD.eq_1) ?_;refine ja [] [1000] hfm ⟨.inr ⟨1000,_,_,rfl,.inl ⟨by simp,rfl,_,by simp[upd];rfl,by simp[qM,Fj,cv0]⟩⟩,trivial⟩ rfl ?_
  (refine gy (an gZ @boolD.eq_1) ?_;try intro ops hops)
  (refine fqz iJ (hl) ?_)
  (refine gy gZ ?_;try intro ops hops)
  (refine fqz iJ (ht) ?_)
  cases ok
  ·refine gx (an gZ @boolD.eq_1) ?_;refine aA [] rfl ?_;simp[cv,cv1,cv0,upd,boolD]
  ·(refine gy (an gZ @boolD.eq_1) ?_;try intro ops hops)
   (refine fqz iJ (htp) ?_)
   (refine gy gZ ?_;try intro ops hops)
   (refine fq iJ (iq R root) ?_)
   refine gx gZ ?_;refine aA [] rfl ?_;simp[cv,cv1,cv0,upd,boolD]
def iO:=an3 @Ty.T3 @Ty.T5 @Ty.T29
theorem BH (x y:List UInt8)(hx:x.length<=1099511627776):PureD Tryz.prog 13 [.i (bI x),.i (bI y)] (.i (.s (.bool (decide (x=y))))):=by
 refine aP 26 Tryz.func13 rfl rfl rfl (λ_ _=>rfl) ?_;refine gx (an iO @bI.eq_1) ?_;refine aK (λh=>?_) (λh=>?_)
 ·refine gx (an iO @bI.eq_1) ?_;refine aA [] rfl ?_;have:x≠y:=by intro e;subst e;simp at h
  simp[cv,cv1,cv0,upd,this]
 ·have hl:x.length=y.length:=by simp at h;omega
  clear h;refine gx (an iO @bI.eq_1) ?_;refine xg (ι:={k:Nat // k<=x.length/\x.take k=y.take k}) (λk=>dP [(0,.i (.sl (x.map aH))),(1,.i (.sl (y.map aH))),(12,.i (.s (.int .i64 x.length))),(13,.i (.s (.int .i64 (k.1:Nat))))] []) (λk=>x.length-k.1) ⟨0,by simp⟩ ?_ ?_
  ·refine aj _ _ [] [] ?_ ?_ rfl rfl
   ·simp[cv,cv1,cv0,upd,lk]
   ·simp
  ·rintro⟨k,hk,ht⟩;rw[ag];refine gx iO ?_;refine aK (λh=>?_) (λh=>?_)
   ·have hlt:k<x.length:=by simp at h;omega
    clear h;have e1:(x.map aH)[k]?=some [.s (.int .u8 (x[k].toNat:Int))]:=by simp[hlt,aH]
    have e2:(y.map aH)[k]?=some [.s (.int .u8 ((y[k]'(by omega)).toNat:Int))]:=by simp[show k<y.length by omega,aH]
    refine gx (an3 iO e1 e2) ?_;refine aK (λh=>?_) (λh=>?_)
    ·refine gx iO ?_;refine aA [] rfl ?_;have:x≠y:=by intro e;subst e;simp at h
     simp[cv,cv1,cv0,upd,this]
    ·have hb:x[k]=y[k]:=UInt8.toNat_inj.1 (by simp at h;omega);clear h;have hw:IntKind.i64.wrap ((k:Int)+1)=((k+1:Nat):Int):=by rw[au (by omega) (by omega)];omega
     refine gx (an iO @hw) ?_;refine⟨⟨k+1,hlt,?_⟩,aj _ _ [] [] ?_ ?_ rfl rfl,?_⟩
     ·rw[List.take_succ_eq_append_getElem hlt,List.take_succ_eq_append_getElem (by omega),ht,hb]
     ·simp[cv,cv1,cv0,upd,lk]
     ·simp
     ·simp;omega
   ·have hk':k=x.length:=by simp at h;omega
    subst hk';refine gx iO ?_;refine aA [] rfl ?_;have:x=y:=by rw[List.take_length,hl,List.take_length]at ht;exact ht
    simp[cv,cv1,cv0,upd,this]
def eH:=an9 @Ty.T3 @Ty.T4 @Ty.T5 @Ty.T29 @Ty.T31 @Ty.T32 @Ty.T41 @Ty.T42 (an3 @Ty.T44 @Ty.T49 @Ty.ahO)
def jM:=an4 @bbI.eq_1 @psI.eq_1 @bR.eq_1 @lQ.eq_1
structure YA where
 hl:Bool
 hr:Bool
 left:b_
 right:b_
def LG (g:YA):D:=.agg [boolD g.hl,boolD g.hr,intD g.left.i,intD g.left.n,.i (bI g.left.k),.i (bI g.left.v),.i (bbI g.left.path),intD g.right.i,intD g.right.n,.i (bI g.right.k),.i (bI g.right.v),.i (bbI g.right.path)]
def Sj:YA:=⟨false,false,mJ,mJ⟩
def atZ (l:List aN)(b:Bool)(i:Nat):b_:=if h:b=true/\i<l.length then atF l i h.2 else mJ
def LD (l:List aN)(key:List UInt8):YA×Nat :=
 if(dQ l).1=0 then(if oL l key then(Sj,7)else(⟨decide (0<placeF l key),decide (placeF l key<l.length),atZ l (decide (0<placeF l key)) (placeF l key-1),atZ l (decide (placeF l key<l.length)) (placeF l key)⟩,0))else(Sj,(dQ l).1)
theorem aet (l:List aN)(key:List UInt8)(hl:l.length<=1048576):PureD Tryz.prog 11 [.i (psI l),.i (bI key)] (.tup [LG (LD l key).1,intD (LD l key).2]):=by
 have hw:=DK l hl;unfold LD;by_cases h0:(dQ l).1=0
 ·have hr:=nZ h0;have hz:=nP h0;rw[if_pos h0];rw[hz]at hw;simp only at hw;have hf:=Xw l key hr;have hat:=λ(i:Nat) (h:i<l.length)=>ahJ l i h hl (λp hp=>by have:=hr.big p hp;omega);have hple:=vV l key;cases ht:oL l key
  ·rw[ht]at hf;simp only[Bool.false_eq_true,if_false];generalize placeF l key=j at*;have z1:∀b i (h:i<l.length),b=true->atZ l b i=atF l i h:=λb i h hb=>dif_pos ⟨hb,h⟩;have z2:∀i,atZ l false i=mJ:=λi=>dif_neg (by simp);by_cases h1:0<j
   ·have g1:decide ((0:Int)<(j:Int))=true:=decide_eq_true (by omega);have w1:IntKind.i64.wrap ((j:Int)-1)=((j-1:Nat):Int):=by rw[au (by omega) (by omega)];omega
    have a1:=hat (j-1) (by omega);rw[decide_eq_true h1,z1 true (j-1) (by omega) rfl];by_cases h2:j<l.length
    ·have g2:decide ((j:Int)<(l.length:Int))=true:=decide_eq_true (by omega);have a2:=hat j h2;rw[decide_eq_true h2,z1 true j h2 rfl];generalize atF l (j-1) _=A at*;generalize atF l j _=B at*;generalize j-1=j1 at*;refine aa 44 Tryz.func11 ?_
     (refine gy (an3 eH @psI.eq_1 @bI.eq_1) ?_;try intro ops hops)
     (refine fq jM (hw) ?_)
     (refine gy (an5 eH @lQ.eq_1 @intD.eq_1 @psI.eq_1 @bI.eq_1) ?_;try intro ops hops)
     (refine fq jM (hf) ?_)
     (refine gy (an7 eH @boolD.eq_1 @intD.eq_1 @psI.eq_1 @bI.eq_1 g1 w1) ?_;try intro ops hops)
     (refine fqz jM (a1) ?_)
     (refine gy (an4 eH @bR.eq_1 @intD.eq_1 g2) ?_;try intro ops hops)
     (refine fqz jM (a2) ?_)
     refine gx (an3 eH @bR.eq_1 @intD.eq_1) ?_;refine oP [] rfl abF abu (by simp[upd,aW,aR];rfl) ?_;simp[cv,cvT,cv1,cvL,cv0,upd,LG,intD,boolD]
    ·have g2:decide ((j:Int)<(l.length:Int))=false:=decide_eq_false (by omega);rw[decide_eq_false h2,z2 j];generalize atF l (j-1) _=A at*;generalize j-1=j1 at*;refine aa 44 Tryz.func11 ?_
     (refine gy (an3 eH @psI.eq_1 @bI.eq_1) ?_;try intro ops hops)
     (refine fq jM (hw) ?_)
     (refine gy (an5 eH @lQ.eq_1 @intD.eq_1 @psI.eq_1 @bI.eq_1) ?_;try intro ops hops)
     (refine fq jM (hf) ?_)
     (refine gy (an7 eH @boolD.eq_1 @intD.eq_1 @psI.eq_1 @bI.eq_1 g1 w1) ?_;try intro ops hops)
     (refine fqz jM (a1) ?_)
     refine gx (an4 eH @bR.eq_1 @intD.eq_1 g2) ?_;refine oP [] rfl abF abu (by simp[upd,aW,aR];rfl) ?_;simp[cv,cvT,cv1,cvL,cv0,upd,LG,intD,boolD,mJ,bI,bbI]
   ·have hj:j=0:=by omega
    subst hj;rw[decide_eq_false h1,z2];by_cases h2:0<l.length
    ·have g2:decide ((0:Int)<(l.length:Int))=true:=decide_eq_true (by omega);have a2:=hat 0 h2;rw[decide_eq_true h2,z1 true 0 h2 rfl];generalize atF l 0 _=B at*;refine aa 44 Tryz.func11 ?_
     (refine gy (an3 eH @psI.eq_1 @bI.eq_1) ?_;try intro ops hops)
     (refine fq jM (hw) ?_)
     (refine gy (an5 eH @lQ.eq_1 @intD.eq_1 @psI.eq_1 @bI.eq_1) ?_;try intro ops hops)
     (refine fq jM (hf) ?_)
     (refine gy (an7 eH @boolD.eq_1 @intD.eq_1 @psI.eq_1 @bI.eq_1 g2 @Int.natCast_zero) ?_;try intro ops hops)
     (refine fqz jM (a2) ?_)
     refine gx (an3 eH @bR.eq_1 @intD.eq_1) ?_;refine oP [] rfl abF abu (by simp[upd,aW,aR];rfl) ?_;simp[cv,cvT,cv1,cvL,cv0,upd,LG,intD,boolD,mJ,bI,bbI]
    ·have g2:decide ((0:Int)<(l.length:Int))=false:=decide_eq_false (by omega);rw[decide_eq_false h2,z2];refine aa 44 Tryz.func11 ?_
     (refine gy (an3 eH @psI.eq_1 @bI.eq_1) ?_;try intro ops hops)
     (refine fq jM (hw) ?_)
     (refine gy (an5 eH @lQ.eq_1 @intD.eq_1 @psI.eq_1 @bI.eq_1) ?_;try intro ops hops)
     (refine fq jM (hf) ?_)
     refine gx (an7 eH @boolD.eq_1 @intD.eq_1 @psI.eq_1 @bI.eq_1 g2 @Int.natCast_zero) ?_;refine oP [] rfl abF abu (by simp[upd,aW,aR];rfl) ?_;simp[cv,cvT,cv1,cvL,cv0,upd,LG,intD,boolD,mJ,bI,bbI]
  ·rw[ht]at hf;simp only[if_true];generalize placeF l key=j at*;refine aa 44 Tryz.func11 ?_
   (refine gy (an3 eH @psI.eq_1 @bI.eq_1) ?_;try intro ops hops)
   (refine fq jM (hw) ?_)
   (refine gy (an5 eH @lQ.eq_1 @intD.eq_1 @psI.eq_1 @bI.eq_1) ?_;try intro ops hops)
   (refine fq jM (hf) ?_)
   refine gx (an5 eH @boolD.eq_1 @intD.eq_1 @psI.eq_1 @bI.eq_1) ?_;refine oP [] rfl abF abu (by simp[upd,aW,aR];rfl) ?_;simp[cv,cvT,cv1,cvL,cv0,upd,LG,intD,boolD,Sj,mJ,bI,bbI]
 ·rw[if_neg h0];generalize dQ l=W at*;have g1:decide ((W.1:Int)=0)=false:=by simp;omega
  refine aa 44 Tryz.func11 ?_
  (refine gy (an3 eH @psI.eq_1 @bI.eq_1) ?_;try intro ops hops)
  (refine fq jM (hw) ?_)
  refine gx (an4 eH @lQ.eq_1 @intD.eq_1 g1) ?_;refine oP [] rfl abF abu (by simp[upd,aW,aR];rfl) ?_;simp[cv,cvT,cv1,cvL,cv0,upd,LG,intD,boolD,Sj,mJ,bI,bbI]
def mq (root key:List UInt8)(g:YA):Bool :=
 match g.hl,g.hr with
 |false,false=>decide (Gc 0 []=root)
 |true,false=>dV root g.left&&decide (Lib.compareBytes g.left.k key<0)&&decide (g.left.i=g.left.n-1)
 |false,true=>dV root g.right&&decide (Lib.compareBytes key g.right.k<0)&&decide (g.right.i=0)
 |true,true=>dV root g.left&&decide (Lib.compareBytes g.left.k key<0)&&(dV root g.right&&decide (Lib.compareBytes key g.right.k<0))&&(decide (g.left.n=g.right.n)&&decide (g.left.i+1=g.right.i))
theorem shownF_form {r:List UInt8}{p:b_}(h:dV r p=true):pz p=true:=by unfold dV at h;simp only[Bool.and_eq_true]at h;exact h.1.1
attribute [local simp,local go_sem] bR LG bbI
theorem VH (root key:List UInt8)(g:YA):PureD Tryz.prog 51 [.i (bI root),.i (bI key),LG g] (boolD (mq root key g)):=by
 refine ai λR hR=>?_;obtain⟨hl,hr,⟨li,ln,lk,lv,lp⟩,⟨ri,rn,rk,rv,rp⟩⟩:=g;have c1:=zu root ⟨li,ln,lk,lv,lp⟩;have c2:=zu root ⟨ri,rn,rk,rv,rp⟩;have c3:=UY lk key;have c4:=UY key rk;have c5:=SC 0 [] (by simp);have c6:=iq (Gc 0 []) root;have fL:dV root ⟨li,ln,lk,lv,lp⟩=true->1<=ln/\ln<=200/\0<=li/\li<ln:=λh=>by obtain⟨a1,a2,a3,a4,_⟩:=formF_yes (shownF_form h);exact⟨a1,a2,a3,a4⟩
 cases hl<;>cases hr<;>simp only[mq]at hR
 ·clear c1 c2 fL;generalize Gc 0 []=T at*;refine aa 89 Tryz.func51 ?_;exact wkl trivial
 ·clear c1 fL;generalize dV root ⟨ri,rn,rk,rv,rp⟩=S at*;generalize Lib.compareBytes key rk=C at*;cases S<;>by_cases q:C<0<;>simp only[q,decide_true,decide_false,Bool.true_and,Bool.false_and,Bool.and_false,Bool.and_true]at hR;all_goals
   refine aa 89 Tryz.func51 ?_;exact wkl trivial
 ·clear c2;generalize dV root ⟨li,ln,lk,lv,lp⟩=S at*;generalize Lib.compareBytes lk key=C at*;cases S<;>by_cases q:C<0<;>simp only[q,decide_true,decide_false,Bool.true_and,Bool.false_and,Bool.and_false,Bool.and_true]at hR;all_goals
   try(have fL:=fL rfl)
   refine aa 89 Tryz.func51 ?_;exact wkl trivial
 ·generalize dV root ⟨li,ln,lk,lv,lp⟩=S at*;generalize dV root ⟨ri,rn,rk,rv,rp⟩=S' at*;generalize Lib.compareBytes lk key=C at*;generalize Lib.compareBytes key rk=C' at*;cases S
  ·simp only[Bool.false_and]at hR;refine aa 89 Tryz.func51 ?_;exact wkl trivial
  ·have fL:=fL rfl;by_cases q:C<0
   ·cases S'<;>by_cases q':C'<0<;>simp only[q,q',decide_true,decide_false,Bool.true_and,Bool.false_and,Bool.and_false,Bool.and_true]at hR;all_goals
     refine aa 89 Tryz.func51 ?_;exact wkl trivial
   ·simp only[q,decide_false,Bool.and_false,Bool.false_and]at hR;refine aa 89 Tryz.func51 ?_;exact wkl trivial
end Go.Proofs.YtdmeldhlbpdeeaaGreatDoor
