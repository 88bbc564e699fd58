/- Merged texts: Find, BookA, BookB, BookO, BookC. -/
import Derived.Test.YtoifllbioldomaaGreatDoorGHd
set_option linter.all false
set_option maxHeartbeats 2000000
namespace Go.Proofs.YtoifllbioldomaaGreatDoor
open Go Go.Abs Go.RowKit Go.Proofs.YtoifllbioldomaaGreatDoor.Ty
def LG:=an3 @Ty.T5 @Ty.T25 @Ty.ahC
def lX:=an6 @Ty.T3 @Ty.T5 @Ty.T25 @Ty.ahN @Ty.ahF @Ty.ahC
structure aP where
 k:List UInt8
 v:List UInt8
def bL (p:aP):List I:=[bI p.k,bI p.v]
def prD (p:aP):D:=.agg [.i (bI p.k),.i (bI p.v)]
def psI (l:List aP):I:=.sl (l.map bL)
def Ld:=an3 @bL.eq_1 @prD.eq_1 @psI.eq_1
theorem OY (p:aP)(k:List UInt8):PureD Tryz.prog 178 [prD p,.i (bI k)] (intD (Lib.compareBytes p.k k)):=by
 refine aa 9 Tryz.func178 ?_
 (refine gy (an3 LG @prD.eq_1 @bI.eq_1) ?_;try intro ops hops)
 (refine fq Ld (Us p.k k) ?_)
 refine gx LG ?_;refine au [] rfl ?_;simp[cv,cv1,cv0,upd,intD]
theorem Sv (l:List aP)(key:List UInt8)(p:Nat)(hl:l.length<=1048576)(hp:p<=l.length)(hm:∀a (h:a<l.length),Lib.compareBytes l[a].k key<0↔a<p):
  PureD Tryz.prog 177 [.i (psI l),.i (bI key),.fn 178 []]
   (.tup [intD p,boolD (if h:p<l.length then decide (Lib.compareBytes l[p].k key=0)else false)]):=by
 refine aa 49 Tryz.func177 ?_;refine gx (an3 lX @psI.eq_1 @bI.eq_1) ?_;refine bu (ι:=Nat×Nat) (λq=>q.1<=p/\p<=q.2/\q.2<=l.length)
  (λq=>cO [(0,.i (.sl (l.map bL))),(1,.i (.sl (key.map aL))),(2,.fn 178 []),(8,intD l.length),(9,intD q.1),(10,intD q.2)] []) (λq=>q.2-q.1) (0,l.length) ⟨Nat.zero_le _,hp,Nat.le_refl _⟩ ?_ ?_
 ·refine ag _ _ [] [] ?_ ?_ rfl rfl
  ·simp[cv,cvL,cv1,cv0,upd,lk,ah,intD]
  ·simp
 ·rintro⟨i,j⟩ ⟨h1,h2,h3⟩;simp only at h1 h2 h3;rw[ae];refine gx (an lX @intD.eq_1) ?_;refine aM (λh=>?_) (λh=>?_)
  ·have hij:i<j:=by simp at h;omega
   clear h;have hml:(i+j)/2<l.length:=by omega
   have e1:(l.map bL)[(i+j)/2]?=some [bI l[(i+j)/2].k,bI l[(i+j)/2].v]:=by rw[List.getElem?_map,List.getElem?_eq_getElem hml];rfl
   have hmm:=hm _ hml;have w1:IntKind.i64.wrap ((i:Int)+(j:Int))=((i+j:Nat):Int):=by rw[ai (by omega) (by omega)];omega
   have w2:IntKind.u64.wrap ((i+j:Nat):Int)=((i+j:Nat):Int):=by rw[IntKind.wrap_u64];omega
   have w3:((i+j:Nat):Int).fdiv (2^min 1 (IntKind.bits .u64))=(((i+j)/2:Nat):Int):=by rw[show min 1 (IntKind.bits .u64)=1 from rfl,Int.fdiv_eq_ediv_of_nonneg _ (by decide)];omega
   have w4:IntKind.i64.wrap (((i+j)/2:Nat):Int)=(((i+j)/2:Nat):Int):=by rw[ai (by omega) (by omega)]
   have w5:IntKind.i64.wrap ((((i+j)/2:Nat):Int)+1)=(((i+j)/2+1:Nat):Int):=by rw[ai (by omega) (by omega)];omega
   have hmid1:i<=(i+j)/2:=by omega
   have hmid2:(i+j)/2<j:=by omega
   generalize l[(i+j)/2]=q at e1 hmm;generalize(i+j)/2=m at*
   (refine gy (an6 lX w1 w2 w3 w4 e1) ?_;try intro ops hops)
   (refine fq Ld (OY q key) ?_)
   refine gx (an lX @intD.eq_1) ?_;refine aM (λh=>?_) (λh=>?_)
   ·have hlt:m<p:=hmm.1 (by simpa using h);refine gx (an lX w5) ?_;refine⟨(m+1,j),⟨hlt,h2,h3⟩,ag _ _ [] [] ?_ ?_ rfl rfl,by simp;omega⟩
    ·simp[cv,cvL,cv1,cv0,upd,lk,ah,intD]
    ·simp
   ·have hlt:¬m<p:=λhc=>by have:=hmm.2 hc;simp at h;omega
    refine gx lX ?_;refine⟨(i,m),⟨h1,Nat.le_of_not_lt hlt,by omega⟩,ag _ _ [] [] ?_ ?_ rfl rfl,by simp;omega⟩
    ·simp[cv,cvL,cv1,cv0,upd,lk,ah,intD]
    ·simp
  ·have hij:i=p:=by simp at h;omega
   subst hij;by_cases hlt:i<l.length
   ·rw[dif_pos hlt];have e1:(l.map bL)[i]?=some [bI l[i].k,bI l[i].v]:=by rw[List.getElem?_map,List.getElem?_eq_getElem hlt];rfl
    generalize l[i]=q at e1;have g:decide ((i:Int)<(l.length:Int))=true:=decide_eq_true (by omega)
    (refine gy (an3 lX g e1) ?_;try intro ops hops)
    (refine fq Ld (OY q key) ?_)
    refine gx (an lX @intD.eq_1) ?_;refine bY [] rfl ?_;simp[cv,cvT,cv1,cv0,upd,intD,boolD]
   ·rw[dif_neg hlt];have g:decide ((i:Int)<(l.length:Int))=false:=decide_eq_false (by omega);refine gx (an lX g) ?_;refine bY [] rfl ?_;simp[cv,cvT,cv1,cv0,upd,intD,boolD]
def eU:=an7 @Ty.T3 @Ty.T5 @Ty.T25 @Ty.T43 @Ty.ahN @Ty.agI @Ty.ahC
def uO:=an4 @Ty.T3 @Ty.T5 @Ty.T25 @Ty.ahC
def rH (e i:Nat):D:=.agg [intD e,intD i]
def Dx:=an4 @bL.eq_1 @prD.eq_1 @psI.eq_1 @rH.eq_1
def Rt (p:aP):Bool:=decide (60<p.k.length)||decide (200<p.v.length)
def je (l:List aP)(i:Nat):Nat×Nat :=
 if h:i<l.length then
  if Rt l[i]then(4,i)
  else if 0<i/\0<=Lib.compareBytes (l[i-1]'(by omega)).k l[i].k then(2,i)
  else je l (i+1)
 else(0,0)
termination_by l.length-i
def dQ (l:List aP):Nat×Nat:=if 200<l.length then(5,0)else je l 0
theorem abO (p:aP):PureD Tryz.prog 176 [prD p] (intD (if Rt p then 4 else 0)):=by
 unfold Rt;refine aa 13 Tryz.func176 ?_;cases g1:decide ((60:Int)<(p.k.length:Int))
 ·have h1:decide (60<p.k.length)=false:=by simp at g1⊢;omega
  refine gx (an4 uO @prD.eq_1 @bI.eq_1 g1) ?_;refine aM (λh=>?_) (λh=>?_)
  ·have h2:decide (200<p.v.length)=true:=by simp at h⊢;omega
   refine gx uO ?_;refine au [] rfl ?_;simp[cv,cv1,cv0,upd,intD,h1,h2]
  ·have h2:decide (200<p.v.length)=false:=by simp at h⊢;omega
   refine gx uO ?_;refine au [] rfl ?_;simp[cv,cv1,cv0,upd,intD,h1,h2]
 ·have h1:decide (60<p.k.length)=true:=by simp at g1⊢;omega
  refine gx (an4 uO @prD.eq_1 @bI.eq_1 g1) ?_;refine au [] rfl ?_;simp[cv,cv1,cv0,upd,intD,h1]
theorem Dy (l:List aP)(hl:l.length<=1048576):PureD Tryz.prog 111 [.i (psI l)] (rH (dQ l).1 (dQ l).2):=by
 refine aa 42 Tryz.func111 ?_;refine gx (an eU @psI.eq_1) ?_;refine aM (λh=>?_) (λh=>?_)
 ·have h1:200<l.length:=by simp at h;omega
  clear h;refine gx eU ?_;refine EK [] rfl tF rP (by simp[upd,aW,aG];rfl) ?_;simp[cv,cv1,cvL,cv0,upd,dQ,h1,rH,intD]
 ·have h1:¬200<l.length:=by simp at h;omega
  clear h;have hw:dQ l=je l 0:=by rw[dQ,if_neg h1]
  generalize dQ l=R at hw;refine gx eU ?_;refine bu (ι:=Nat) (λi=>i<=l.length/\R=je l i)
   (λi=>cO [(0,.i (.sl (l.map bL))),(2,.pt 100 0 0 0),(10,.i (.sl (l.map bL))),(11,intD l.length),(12,intD i)] [(100,.box [intD 0,intD 0])]) (λi=>l.length-i) 0 ⟨Nat.zero_le _,hw⟩ ?_ ?_
  ·refine ag _ _ [] [(100,1000)] ?_ ?_ rfl rfl
   ·simp[cv,cvL,cv1,cv0,upd,lk,ah,intD]
   ·simp[aV,ah,lk,cvO,cvL,cv0,frz,upd,D.one,intD,hO]
  ·rintro i ⟨hi,hR⟩;rw[ae];refine gx (an eU @intD.eq_1) ?_;refine aM (λh=>?_) (λh=>?_)
   ·have h2:i<l.length:=by simp at h;omega
    clear h;rw[je,dif_pos h2]at hR;have e1:(l.map bL)[i]?=some [bI l[i].k,bI l[i].v]:=by rw[List.getElem?_map,List.getElem?_eq_getElem h2];rfl
    have w1:IntKind.i64.wrap ((i:Int)+1)=((i+1:Nat):Int):=by rw[ai (by omega) (by omega)];omega
    have hpr:=abO l[i];cases i with
    |zero =>
     have w0:IntKind.i64.wrap 1=1:=by decide
     generalize l[0]=p at*
     (refine gy (an eU e1) ?_;try intro ops hops)
     (refine fq Dx (hpr) ?_)
     cases hb:Rt p
     ·simp only[hb,Bool.false_eq_true,if_false,Nat.lt_irrefl,false_and]at hR;refine gx (an3 eU @intD.eq_1 w1) ?_;refine⟨0+1,⟨h2,hR⟩,ag _ _ [] [(100,100)] ?_ ?_ rfl rfl,by simp;omega⟩
      ·simp[cv,cvL,cv1,cv0,upd,lk,ah,intD,w0]
      ·simp[aV,ah,lk,cvO,cvL,cv0,frz,upd,D.one,intD,hO]
     ·simp only[hb,if_true]at hR;refine gx (an eU @intD.eq_1) ?_;refine EK [] rfl tF rP (by simp[upd,aW,aG];rfl) ?_;simp[cv,cv1,cvL,cv0,upd,hR,rH,intD]
    |succ i =>
     have h3:i<l.length:=by omega
     have e2:(l.map bL)[i]?=some [bI l[i].k,bI l[i].v]:=by rw[List.getElem?_map,List.getElem?_eq_getElem h3];rfl
     have w2:IntKind.i64.wrap (((i+1:Nat):Int)-1)=(i:Int):=by rw[ai (by omega) (by omega)];omega
     have g1:decide ((0:Int)<((i+1:Nat):Int))=true:=decide_eq_true (by omega);have hR':R=if Rt l[i+1]then(4,i+1)else if 0<=Lib.compareBytes l[i].k l[i+1].k then(2,i+1)else je l (i+1+1):=by rw[hR];simp
     clear hR;generalize l[i+1]=p at*;generalize l[i]=q at*
     (refine gy (an eU e1) ?_;try intro ops hops)
     (refine fq Dx (hpr) ?_)
     cases hb:Rt p
     ·simp only[hb,Bool.false_eq_true,if_false]at hR'
      (refine gy (an6 eU @intD.eq_1 g1 w2 e2 @bI.eq_1) ?_;try intro ops hops)
      (refine fq Dx (Us q.k p.k) ?_)
      refine gx eU ?_;refine aM (λh=>?_) (λh=>?_)
      ·have h4:0<=Lib.compareBytes q.k p.k:=by simpa using h
       rw[if_pos h4]at hR';refine gx eU ?_;refine EK [] rfl tF rP (by simp[upd,aW,aG];rfl) ?_;simp[cv,cv1,cvL,cv0,upd,hR',rH,intD]
      ·have h4:¬0<=Lib.compareBytes q.k p.k:=by simpa using h
       rw[if_neg h4]at hR';refine gx (an eU w1) ?_;refine⟨i+1+1,⟨h2,hR'⟩,ag _ _ [] [(100,100)] ?_ ?_ rfl rfl,by simp;omega⟩
       ·simp[cv,cvL,cv1,cv0,upd,lk,ah,intD]
       ·simp[aV,ah,lk,cvO,cvL,cv0,frz,upd,D.one,intD,hO]
     ·simp only[hb,if_true]at hR';refine gx (an eU @intD.eq_1) ?_;refine EK [] rfl tF rP (by simp[upd,aW,aG];rfl) ?_;simp[cv,cv1,cvL,cv0,upd,hR',rH,intD]
   ·have h2:¬i<l.length:=by simp at h;omega
    clear h;rw[je,dif_neg h2]at hR;refine gx eU ?_;refine EK [] rfl tF rP (by simp[upd,aW,aG];rfl) ?_;simp[cv,cv1,cvL,cv0,upd,hR,rH,intD]
def zm:=an6 @Ty.T1 @Ty.T3 @Ty.T4 @Ty.T5 @Ty.T25 @Ty.T59
def FT:=an5 @Ty.T1 @Ty.T3 @Ty.T5 @Ty.T25 @Ty.T59
def zl:=an5 @Ty.T1 @Ty.T3 @Ty.T5 @Ty.T25 @Ty.T59
def lY:=an5 @Ty.T3 @Ty.T5 @Ty.T25 @Ty.ahN @Ty.ahC
def RU:=an4 @Ty.T3 @Ty.T4 @Ty.T5 @Ty.T25
def uL:=@Ty.T3
def pO:=an3 @bbI.eq_1 @bL.eq_1 @psI.eq_1
def four (n:Nat):List UInt8:=[aN n 16777216,aN n 65536,aN n 256,aN n 1]
def xG (k v:List UInt8):List UInt8:=sha (0::(four k.length++(k++v)))
def sj (a b:List UInt8):List UInt8:=sha (1::(a++b))
def JQ (n:Nat)(t:List UInt8):List UInt8:=sha (2::(four n++t))
def aD (n:Nat):Nat:=2^Nat.log2 (n-1)
theorem gT {n:Nat}(h:2<=n):0<aD n/\aD n<n:=by have:=Nat.log2_self_le (n:=n-1) (by omega);have h2:0<2^Nat.log2 (n-1):=Nat.pow_pos (by decide);simp only[aD];omega
theorem LY {n:Nat}:n<=2*aD n:=by have:=Nat.lt_log2_self (n:=n-1);rw[Nat.pow_succ]at this;simp only[aD];omega
def gH (l:List aP):List UInt8 :=
 match l with
 |[]=>[]
 |[p]=>xG p.k p.v
 |p::q::r=>sj (gH ((p::q::r).take (aD (p::q::r).length))) (gH ((p::q::r).drop (aD (p::q::r).length)))
termination_by l.length
decreasing_by
 all_goals
  have:=gT (n:=(p::q::r).length) (by simp);simp only[List.length_take,List.length_drop];omega
theorem vL (p:aP):gH [p]=xG p.k p.v:=by rw[gH]
theorem vK {l:List aP}(h:2<=l.length):gH l=sj (gH (l.take (aD l.length))) (gH (l.drop (aD l.length))):=by
 match l,h with
 |p::q::r,_=>conv=>lhs;rw[gH]
theorem nk (l:List aP)(h:l≠[]):(gH l).length=32:=by
 match l,h with
 |[p],_=>rw[vL];exact bX _
 |p::q::r,_=>rw[vK (by simp)];exact bX _
def pU (l:List aP):List UInt8:=JQ l.length (gH l)
theorem Qh (n d k:Nat)(hd:d=2^k)(hk:k<64):IntKind.u8.wrap ((n:Int).fdiv (2^min k (IntKind.bits .i64)))=((aN n d).toNat:Int):=by
 have hm:min k (IntKind.bits .i64)=k:=by simp[IntKind.bits];omega
 rw[hm,Int.fdiv_eq_ediv_of_nonneg _ (by exact_mod_cast Nat.zero_le _),IntKind.wrap_u8];have:(n:Int)/2^k=((n/2^k:Nat):Int):=by rw[Int.natCast_ediv,Int.natCast_pow];rfl
 rw[this,aN,hd];generalize n/2^k=x;rw[UInt8.toNat_ofNat'];omega
theorem afU (n:Nat):IntKind.u8.wrap (n:Int)=((aN n 1).toNat:Int):=by rw[IntKind.wrap_u8,aN,Nat.div_one,UInt8.toNat_ofNat'];omega
theorem WL (n:Nat):PureD Tryz.prog 186 [intD n] (.i (bI (four n))):=by have b1:=Qh n 16777216 24 (by decide) (by decide);have b2:=Qh n 65536 16 (by decide) (by decide);have b3:=Qh n 256 8 (by decide) (by decide);have b4:=afU n;simp only[four];generalize aN n 16777216=c1 at*;generalize aN n 65536=c2 at*;generalize aN n 256=c3 at*;generalize aN n 1=c4 at*;refine aa 15 Tryz.func186 ?_;refine gx (an6 RU @intD.eq_1 @b1 @b2 @b3 @b4) ?_;refine au [1267] rfl ?_;simp[cv,cv1,cv0,upd,aJ,bI,aL]
theorem Ww (k v:List UInt8)(hk:k.length<=1048576)(hv:v.length<=1048576):PureD Tryz.prog 187 [.i (bI k),.i (bI v)] (.i (bI (xG k v))):=by
 have hp:=zM [[0],four k.length,k,v] (by simp) (by intro b hb;simp at hb;rcases hb with rfl|rfl|rfl|rfl;simp;(simp[four]);omega;omega);have hf:[[0],four k.length,k,v].flatten=0::(four k.length++(k++v)):=by simp
 rw[hf]at hp;rw[show sha (0::(four k.length++(k++v)))=xG k v from rfl]at hp;generalize xG k v=R at*;refine aa 13 Tryz.func187 ?_
 (refine gy (an zm @bI.eq_1) ?_;try intro ops hops)
 (refine fqz pO (WL k.length) ?_)
 (refine gy (an zm @bI.eq_1) ?_;try intro ops hops)
 (first|refine rD [1262] (hp) (by simp[bbI,bL,psI,frz,bbI]) ?_|refine og [1262] [1262] (hp) (λG hG=>by(have hG1262:=hG 1262 (by simp);simp[bbI,bL,psI,frz,bbI,hG1262])) (by simp) ?_)
 refine gx (an zm @bI.eq_1) ?_;refine au [] rfl ?_;simp[cv,cv1,cv0,upd]
theorem NE (a b:List UInt8)(ha:a.length<=1048576)(hb:b.length<=1048576):PureD Tryz.prog 189 [.i (bI a),.i (bI b)] (.i (bI (sj a b))):=by
 have hp:=zM [[1],a,b] (by simp) (by intro x hx;simp at hx;rcases hx with rfl|rfl|rfl;simp;omega;omega);have hf:[[1],a,b].flatten=1::(a++b):=by simp
 rw[hf]at hp;rw[show sha (1::(a++b))=sj a b from rfl]at hp;generalize sj a b=R at*;refine aa 10 Tryz.func189 ?_
 (refine gy (an FT @bI.eq_1) ?_;try intro ops hops)
 (first|refine rD [1259] (hp) (by simp[bbI,bL,psI,frz,bbI]) ?_|refine og [1259] [1259] (hp) (λG hG=>by(have hG1259:=hG 1259 (by simp);simp[bbI,bL,psI,frz,bbI,hG1259])) (by simp) ?_)
 refine gx (an FT @bI.eq_1) ?_;refine au [] rfl ?_;simp[cv,cv1,cv0,upd]
theorem RV (n:Nat)(t:List UInt8)(ht:t.length<=1048576):PureD Tryz.prog 120 [intD n,.i (bI t)] (.i (bI (JQ n t))):=by
 have hp:=zM [[2],four n,t] (by simp) (by intro x hx;simp at hx;rcases hx with rfl|rfl|rfl;simp;(simp[four]);omega);have hf:[[2],four n,t].flatten=2::(four n++t):=by simp
 rw[hf]at hp;rw[show sha (2::(four n++t))=JQ n t from rfl]at hp;generalize JQ n t=R at*;refine aa 11 Tryz.func120 ?_
 (refine gy (an3 zl @bI.eq_1 @intD.eq_1) ?_;try intro ops hops)
 (refine fqz pO (WL n) ?_)
 (refine gy (an zl @bI.eq_1) ?_;try intro ops hops)
 (first|refine rD [1260] (hp) (by simp[bbI,bL,psI,frz,bbI]) ?_|refine og [1260] [1260] (hp) (λG hG=>by(have hG1260:=hG 1260 (by simp);simp[bbI,bL,psI,frz,bbI,hG1260])) (by simp) ?_)
 refine gx (an zl @bI.eq_1) ?_;refine au [] rfl ?_;simp[cv,cv1,cv0,upd]
theorem Ka {n i:Nat}(h1:2^i=1\/2^i<n)(h2:n<=2*2^i)(hn:1<=n):2^i=aD n:=by
 unfold aD;congr 1;have hle:i<=Nat.log2 (n-1)\/n-1=0:=by
  by_cases h0:n-1=0
  ·exact .inr h0
  ·refine .inl ((Nat.le_log2 h0).2 ?_);rcases h1 with h1|h1<;>omega
 have hge:n-1=0\/Nat.log2 (n-1)<i+1:=by
  by_cases h0:n-1=0
  ·exact .inl h0
  ·refine .inr ((Nat.log2_lt h0).2 ?_);rw[Nat.pow_succ];omega
 rcases hle with hle|hle
 ·rcases hge with hge|hge
  ·rw[hge]at hle⊢;simp at hle⊢;omega
  ·omega
 ·rw[hle];have:n=1:=by omega
  subst this;simp;rcases h1 with h1|h1
  ·cases i with
   |zero=>rfl
   |succ i=>rw[Nat.pow_succ]at h1;omega
  ·have:0<2^i:=Nat.pow_pos (by decide);omega
theorem DW (n:Nat)(h0:1<=n)(hn:n<=1048576):PureD Tryz.prog 188 [intD n] (intD (aD n)):=by
 refine aa 11 Tryz.func188 ?_;refine gx (an uL @intD.eq_1) ?_;refine bu (ι:=Nat) (λi=>2^i=1\/2^i<n)
  (λi=>cO [(0,intD n),(3,intD (2^i:Nat))] []) (λi=>n-2^i) 0 (.inl rfl) ?_ ?_
 ·refine ag _ _ [] [] ?_ ?_ rfl rfl
  ·simp[cv,cv1,cv0,upd,lk,ah,intD]
  ·simp
 ·rintro i hi;rw[ae];have hp:0<2^i:=Nat.pow_pos (by decide);have hs:2^(i+1)=2*2^i:=by rw[Nat.pow_succ];omega
  have hfin:=Ka hi;have w1:IntKind.i64.wrap (2*((2^i:Nat):Int))=((2^(i+1):Nat):Int):=by rw[hs,ai (by omega) (by omega)];omega
  have w2:IntKind.i64.wrap (((2^i:Nat):Int)*2)=((2^(i+1):Nat):Int):=by rw[hs,ai (by omega) (by omega)];omega
  generalize hx:2^i=x at*;generalize hy:2^(i+1)=y at*;refine gx (an3 uL @intD.eq_1 w1) ?_;refine aM (λh=>?_) (λh=>?_)
  ·have h1:y<n:=by simp at h;omega
   clear h;refine gx (an uL w2) ?_;refine⟨i+1,by show 2^(i+1)=1\/2^(i+1)<n;rw[hy];exact .inr h1,ag _ _ [] [] ?_ ?_ rfl rfl,by simp only[hx,hy];omega⟩
   ·simp only[hy];simp[cv,cv1,cv0,upd,lk,ah,intD]
   ·simp
  ·have h1:n<=2*x:=by simp at h;omega
   clear h;refine gx uL ?_;refine au [] rfl ?_;simp[cv,cv1,cv0,upd,intD,hfin h1 h0]
theorem LJ:∀(n:Nat)(l:List aP),l.length=n->l≠[]->l.length<=1048576->(∀p∈l,p.k.length<=1048576/\p.v.length<=1048576)->PureD Tryz.prog 121 [.i (psI l)] (.i (bI (gH l))):=by
 intro n;induction n using Nat.strongRecOn with
 |_ n ih =>
  intro l hn hne hl hb;by_cases h1:l.length=1
  ·obtain⟨p,rfl⟩:=List.length_eq_one_iff.1 h1;have hp:=hb p (by simp);have hlf:=Ww p.k p.v hp.1 hp.2;rw[vL];generalize xG p.k p.v=R at*;refine aa 28 Tryz.func121 ?_
   (refine gy (an6 lY @psI.eq_1 @List.map_cons.{0,0} @List.map_nil.{0,0} @bL.eq_1 @bI.eq_1) ?_;try intro ops hops)
   (refine fqz pO (hlf) ?_)
   refine gx (an lY @bI.eq_1) ?_;refine au [] rfl ?_;simp[cv,cv1,cv0,upd]
  ·have h2:2<=l.length:=by have:=List.length_pos_iff.2 hne;omega
   have hs:=gT h2;rw[vK h2];have hsp:=DW l.length (by omega) hl;generalize aD l.length=k at*;have t1:=ih (l.take k).length (by simp;omega) (l.take k) rfl (by intro hc;have:=congrArg List.length hc;simp only[List.length_take,List.length_drop,List.length_nil]at this;omega) (by simp;omega) (λp hp=>hb p (List.mem_of_mem_take hp));have t2:=ih (l.drop k).length (by simp;omega) (l.drop k) rfl (by intro hc;have:=congrArg List.length hc;simp only[List.length_take,List.length_drop,List.length_nil]at this;omega) (by simp;omega) (λp hp=>hb p (List.mem_of_mem_drop hp));have l1:(gH (l.take k)).length=32:=nk _ (by intro hc;have:=congrArg List.length hc;simp only[List.length_take,List.length_drop,List.length_nil]at this;omega);have l2:(gH (l.drop k)).length=32:=nk _ (by intro hc;have:=congrArg List.length hc;simp only[List.length_take,List.length_drop,List.length_nil]at this;omega);have hnd:=NE (gH (l.take k)) (gH (l.drop k)) (by omega) (by omega);generalize gH (l.take k)=T1 at*;generalize gH (l.drop k)=T2 at*;generalize sj T1 T2=R at*;have g1:decide ((l.length:Int)=1)=false:=by simp;omega
   have g2:((k:Int)<=(l.length:Int))=True:=eq_true (by omega);have u1:uni 2 (l.map bL)=true:=by simp[uni,bL]
   refine aa 28 Tryz.func121 ?_
   (refine gy (an3 lY @psI.eq_1 g1) ?_;try intro ops hops)
   (refine fq pO (hsp) ?_)
   (refine gy (an7 lY @intD.eq_1 @psI.eq_1 g2 u1 @mtk @mdr) ?_;try intro ops hops)
   (refine fqz pO (t1) ?_)
   (refine gy (an7 lY @bI.eq_1 @psI.eq_1 g2 u1 @mtk @mdr) ?_;try intro ops hops)
   (refine fqz pO (t2) ?_)
   (refine gy (an lY @bI.eq_1) ?_;try intro ops hops)
   (refine fqz pO (hnd) ?_)
   refine gx (an lY @bI.eq_1) ?_;refine au [] rfl ?_;simp[cv,cv1,cv0,upd]
structure AY (l:List aP):Prop where
 len:l.length<=200
 big:∀p∈l,p.k.length<=60/\p.v.length<=200
 ord:∀i j (hi:i<l.length) (hj:j<l.length),i<j->Lib.compareBytes l[i].k l[j].k<0
theorem ZY {p:aP}(h:Rt p=false):p.k.length<=60/\p.v.length<=200:=by simp[Rt]at h;omega
theorem JH (l:List aP):∀(d i:Nat),l.length-i=d->(je l i).1=0->∀a (ha:a<l.length),i<=a->Rt l[a]=false/\(∀h:0<a,Lib.compareBytes (l[a-1]'(by omega)).k l[a].k<0):=by
 intro d;induction d with
 |zero=>intro i hd _ a ha hia;omega
 |succ d ih =>
  intro i hd hw a ha hia;rw[je,dif_pos (by omega)]at hw;split at hw
  ·cases hw
  ·rename_i hb;split at hw
   ·cases hw
   ·rename_i hc;by_cases hai:a=i
    ·subst hai;refine⟨by simpa using hb,λh=>?_⟩;have:¬0<=Lib.compareBytes (l[a-1]'(by omega)).k l[a].k:=λh'=>hc ⟨h,h'⟩;omega
    ·exact ih (i+1) (by omega) hw a ha (by omega)
theorem uR {l:List aP}(h:(dQ l).1=0):AY l:=by
 unfold dQ at h;split at h
 ·cases h
 ·rename_i hl;have hw:=JH l _ 0 rfl h;refine⟨by omega,λp hp=>?_,?_⟩
  ·obtain⟨a,ha,rfl⟩:=List.getElem_of_mem hp;exact ZY (hw a ha (Nat.zero_le _)).1
  ·intro i j;induction j with
   |zero=>intro _ _ h;omega
   |succ j ih =>
    intro hi hj hij;have h1:=(hw (j+1) hj (Nat.zero_le _)).2 (by omega);simp only[Nat.add_sub_cancel]at h1;by_cases hc:i=j
    ·subst hc;exact h1
    ·exact kr _ _ _ (ih hi (by omega) (by omega)) h1
theorem yT {l:List aP}(h:AY l):∀(d i:Nat),l.length-i=d->je l i=(0,0):=by
 intro d;induction d with
 |zero=>intro i hd;rw[je,dif_neg (by omega)]
 |succ d ih =>
  intro i hd;have hi:i<l.length:=by omega
  rw[je,dif_pos hi];have hb:=h.big _ (List.getElem_mem hi);rw[if_neg (by simp[Rt];omega),if_neg,ih (i+1) (by omega)];rintro⟨h1,h2⟩;have:=h.ord (i-1) i (by omega) hi (by omega);omega
theorem lW {l:List aP}(h:AY l):dQ l=(0,0):=by rw[dQ,if_neg (by have:=h.len;omega)];exact yT h _ 0 rfl
theorem rM {l:List aP}(h:(dQ l).1=0):dQ l=(0,0):=lW (uR h)
def placeF (l:List aP)(key:List UInt8):Nat:=(l.takeWhile λp=>decide (Lib.compareBytes p.k key<0)).length
def nu (l:List aP)(key:List UInt8):Bool:=if h:placeF l key<l.length then decide (l[placeF l key].k=key)else false
theorem vX (l:List aP)(key:List UInt8):placeF l key<=l.length:=(List.takeWhile_sublist _).length_le
theorem BP (key:List UInt8):∀(l:List aP)(a:Nat)(ha:a<l.length),a<placeF l key->Lib.compareBytes l[a].k key<0
 |[],a,ha,_=>by simp at ha
 |p::t,a,ha,h=>by
  unfold placeF at h;rw[List.takeWhile_cons]at h;split at h
  ·rename_i hp;cases a with
   |zero=>simpa using hp
   |succ a=>exact BP key t a (by simpa using ha) (by simpa[placeF]using h)
  ·simp at h
theorem BQ (key:List UInt8):∀(l:List aP)(h:placeF l key<l.length),¬Lib.compareBytes l[placeF l key].k key<0
 |[],h=>by simp at h
 |p::t,h=>by
  unfold placeF at h;simp only[placeF];by_cases hp:decide (Lib.compareBytes p.k key<0)=true
  ·have e:(List.takeWhile (λp=>decide (Lib.compareBytes p.k key<0)) (p::t)).length=placeF t key+1:=by
    rw[List.takeWhile_cons,if_pos hp];rfl
   simp only[e]at h⊢;have:=BQ key t (by simpa using h);simpa using this
  ·have e:(List.takeWhile (λp=>decide (Lib.compareBytes p.k key<0)) (p::t)).length=0:=by
    rw[List.takeWhile_cons,if_neg hp];rfl
   simp only[e];simpa using hp
theorem lH {l:List aP}(h:AY l)(key:List UInt8):∀a (ha:a<l.length),Lib.compareBytes l[a].k key<0↔a<placeF l key:=by
 intro a ha;refine⟨λh1=>?_,BP key l a ha⟩;apply Decidable.byContradiction;intro hc;have hp:placeF l key<l.length:=by omega
 have h2:=BQ key l hp;by_cases he:a=placeF l key
 ·subst he;exact h2 h1
 ·exact h2 (kr _ _ _ (h.ord _ a hp ha (by omega)) h1)
def FR:=an5 @Ty.T5 @Ty.T25 @Ty.ahN @Ty.ahC @Ty.ahz
def jy:=an7 @Ty.T3 @Ty.T5 @Ty.T25 @Ty.T43 @Ty.ahN @Ty.agI @Ty.ahC
def pM:=an @psI.eq_1 @rH.eq_1
theorem WM (l:List aP)(key:List UInt8)(h:AY l):PureD Tryz.prog 112 [.i (psI l),.i (bI key)] (.tup [intD (placeF l key),boolD (nu l key)]):=by
 have hs:=Sv l key (placeF l key) (by have:=h.len;omega) (vX l key) (lH h key);have e:(if h:placeF l key<l.length then decide (Lib.compareBytes l[placeF l key].k key=0)else false)=nu l key:=by
  unfold nu;split
  ·simp[kP]
  ·rfl
 rw[e]at hs;refine aa 11 Tryz.func112 ?_
 (refine gy (an3 FR @psI.eq_1 @bI.eq_1) ?_;try intro ops hops)
 (refine fq pM (hs) ?_)
 refine gx (an3 FR @intD.eq_1 @boolD.eq_1) ?_;refine bY [] rfl ?_;simp[cv,cvT,cv1,cv0,upd,intD,boolD]
def JX (l:List aP):List UInt8:=if(dQ l).1=0 then pU l else[]
theorem abl (l:List aP)(hl:l.length<=1048576):PureD Tryz.prog 64 [.i (psI l)] (.tup [.i (bI (JX l)),rH (dQ l).1 (dQ l).2]):=by
 have hw:=Dy l hl;unfold JX;by_cases h0:(dQ l).1=0
 ·have hr:=uR h0;have hz:=rM h0;rw[if_pos h0,hz];rw[hz]at hw;simp only at*;cases l with
  |nil =>
   have ht:=RV 0 [] (by simp);rw[show JQ 0 []=pU [] by rw[pU,gH];rfl]at ht;generalize pU []=R at*;refine aa 22 Tryz.func64 ?_
   (refine gy (an jy @psI.eq_1) ?_;try intro ops hops)
   (refine fq pM (hw) ?_)
   (refine gy (an4 jy @rH.eq_1 @intD.eq_1 @List.map_nil.{0,0}) ?_;try intro ops hops)
   (refine fqz pM (ht) ?_)
   refine gx (an jy @bI.eq_1) ?_;refine CG [] rfl tF rP (by simp[upd,aW,aG];rfl) ?_;simp[cv,cvT,cv1,cvL,cv0,upd,rH,intD,bI]
  |cons p t =>
   have htl:=nk (p::t) (by simp);have htr:=LJ _ (p::t) rfl (by simp) hl (λq hq=>by have:=hr.big q hq;omega);have ht:=RV (p::t).length (gH (p::t)) (by omega);rw[show JQ (p::t).length (gH (p::t))=pU (p::t)from rfl]at ht;generalize pU (p::t)=R at*;generalize gH (p::t)=T at*;have g1:decide (((p::t).length:Int)=0)=false:=by simp;omega
   generalize p::t=l at*;refine aa 22 Tryz.func64 ?_
   (refine gy (an jy @psI.eq_1) ?_;try intro ops hops)
   (refine fq pM (hw) ?_)
   (refine gy (an5 jy @rH.eq_1 @intD.eq_1 @psI.eq_1 g1) ?_;try intro ops hops)
   (refine fqz pM (htr) ?_)
   (refine gy (an jy @bI.eq_1) ?_;try intro ops hops)
   (refine fqz pM (ht) ?_)
   refine gx (an jy @bI.eq_1) ?_;refine CG [] rfl tF rP (by simp[upd,aW,aG];rfl) ?_;simp[cv,cvT,cv1,cvL,cv0,upd,rH,intD,bI]
 ·rw[if_neg h0];generalize dQ l=W at*;have g1:decide ((W.1:Int)=0)=false:=by simp;omega
  refine aa 22 Tryz.func64 ?_
  (refine gy (an jy @psI.eq_1) ?_;try intro ops hops)
  (refine fq pM (hw) ?_)
  refine gx (an4 jy @rH.eq_1 @intD.eq_1 g1) ?_;refine CG [] rfl tF rP (by simp[upd,aW,aG];rfl) ?_;simp[cv,cvT,cv1,cvL,cv0,upd,rH,intD,bI]
end Go.Proofs.YtoifllbioldomaaGreatDoor
