/- Merged texts: Find, BookA, BookB, BookO, BookC. -/
import Derived.Test.YtdmeldhlbpdeeaaGreatDoorGHd
set_option linter.all false
set_option maxHeartbeats 2000000
namespace Go.Proofs.YtdmeldhlbpdeeaaGreatDoor
open Go Go.Abs Go.RowKit Go.Proofs.YtdmeldhlbpdeeaaGreatDoor.Ty
def Mj:=an3 @Ty.T5 @Ty.T29 @Ty.T41
def lU:=an6 @Ty.T3 @Ty.T5 @Ty.T29 @Ty.T31 @Ty.T41 @Ty.aiQ
structure aN where
 k:List UInt8
 v:List UInt8
def bu (p:aN):List I:=[bI p.k,bI p.v]
def prD (p:aN):D:=.agg [.i (bI p.k),.i (bI p.v)]
def psI (l:List aN):I:=.sl (l.map bu)
def LM:=an3 @bu.eq_1 @prD.eq_1 @psI.eq_1
theorem PE (p:aN)(k:List UInt8):PureD Tryz.prog 102 [prD p,.i (bI k)] (intD (Lib.compareBytes p.k k)):=by
 refine aa 9 Tryz.func102 ?_
 (refine gy (an3 Mj @prD.eq_1 @bI.eq_1) ?_;try intro ops hops)
 (refine fq LM (UY p.k k) ?_)
 refine gx Mj ?_;refine aA [] rfl ?_;simp[cv,cv1,cv0,upd,intD]
theorem Ti (l:List aN)(key:List UInt8)(p:Nat)(hl:l.length<=1048576)(hp:p<=l.length)(hm:∀a (h:a<l.length),Lib.compareBytes l[a].k key<0↔a<p):
  PureD Tryz.prog 101 [.i (psI l),.i (bI key),.fn 102 []]
   (.tup [intD p,boolD (if h:p<l.length then decide (Lib.compareBytes l[p].k key=0)else false)]):=by
 refine aa 49 Tryz.func101 ?_;refine gx (an3 lU @psI.eq_1 @bI.eq_1) ?_;refine bO (ι:=Nat×Nat) (λq=>q.1<=p/\p<=q.2/\q.2<=l.length)
  (λq=>dP [(0,.i (.sl (l.map bu))),(1,.i (.sl (key.map aH))),(2,.fn 102 []),(8,intD l.length),(9,intD q.1),(10,intD q.2)] []) (λq=>q.2-q.1) (0,l.length) ⟨Nat.zero_le _,hp,Nat.le_refl _⟩ ?_ ?_
 ·refine aj _ _ [] [] ?_ ?_ rfl rfl
  ·simp[cv,cvL,cv1,cv0,upd,lk,az,intD]
  ·simp
 ·rintro⟨i,j⟩ ⟨h1,h2,h3⟩;simp only at h1 h2 h3;rw[ag];refine gx (an lU @intD.eq_1) ?_;refine aK (λh=>?_) (λh=>?_)
  ·have hij:i<j:=by simp at h;omega
   clear h;have hml:(i+j)/2<l.length:=by omega
   have e1:(l.map bu)[(i+j)/2]?=some [bI l[(i+j)/2].k,bI l[(i+j)/2].v]:=by rw[List.getElem?_map,List.getElem?_eq_getElem hml];rfl
   have hmm:=hm _ hml;have w1:IntKind.i64.wrap ((i:Int)+(j:Int))=((i+j:Nat):Int):=by rw[au (by omega) (by omega)];omega
   have w2:IntKind.u64.wrap ((i+j:Nat):Int)=((i+j:Nat):Int):=by rw[IntKind.wrap_u64];omega
   have w3:((i+j:Nat):Int).fdiv (2^min 1 (IntKind.bits .u64))=(((i+j)/2:Nat):Int):=by rw[show min 1 (IntKind.bits .u64)=1 from rfl,Int.fdiv_eq_ediv_of_nonneg _ (by decide)];omega
   have w4:IntKind.i64.wrap (((i+j)/2:Nat):Int)=(((i+j)/2:Nat):Int):=by rw[au (by omega) (by omega)]
   have w5:IntKind.i64.wrap ((((i+j)/2:Nat):Int)+1)=(((i+j)/2+1:Nat):Int):=by rw[au (by omega) (by omega)];omega
   have hmid1:i<=(i+j)/2:=by omega
   have hmid2:(i+j)/2<j:=by omega
   generalize l[(i+j)/2]=q at e1 hmm;generalize(i+j)/2=m at*
   (refine gy (an6 lU w1 w2 w3 w4 e1) ?_;try intro ops hops)
   (refine fq LM (PE q key) ?_)
   refine gx (an lU @intD.eq_1) ?_;refine aK (λh=>?_) (λh=>?_)
   ·have hlt:m<p:=hmm.1 (by simpa using h);refine gx (an lU w5) ?_;refine⟨(m+1,j),⟨hlt,h2,h3⟩,aj _ _ [] [] ?_ ?_ rfl rfl,by simp;omega⟩
    ·simp[cv,cvL,cv1,cv0,upd,lk,az,intD]
    ·simp
   ·have hlt:¬m<p:=λhc=>by have:=hmm.2 hc;simp at h;omega
    refine gx lU ?_;refine⟨(i,m),⟨h1,Nat.le_of_not_lt hlt,by omega⟩,aj _ _ [] [] ?_ ?_ rfl rfl,by simp;omega⟩
    ·simp[cv,cvL,cv1,cv0,upd,lk,az,intD]
    ·simp
  ·have hij:i=p:=by simp at h;omega
   subst hij;by_cases hlt:i<l.length
   ·rw[dif_pos hlt];have e1:(l.map bu)[i]?=some [bI l[i].k,bI l[i].v]:=by rw[List.getElem?_map,List.getElem?_eq_getElem hlt];rfl
    generalize l[i]=q at e1;have g:decide ((i:Int)<(l.length:Int))=true:=decide_eq_true (by omega)
    (refine gy (an3 lU g e1) ?_;try intro ops hops)
    (refine fq LM (PE q key) ?_)
    refine gx (an lU @intD.eq_1) ?_;refine dC [] rfl ?_;simp[cv,cvT,cv1,cv0,upd,intD,boolD]
   ·rw[dif_neg hlt];have g:decide ((i:Int)<(l.length:Int))=false:=decide_eq_false (by omega);refine gx (an lU g) ?_;refine dC [] rfl ?_;simp[cv,cvT,cv1,cv0,upd,intD,boolD]
def fK:=an7 @Ty.T3 @Ty.T5 @Ty.T29 @Ty.T31 @Ty.T32 @Ty.T41 @Ty.ahO
def uH:=an4 @Ty.T3 @Ty.T5 @Ty.T29 @Ty.T41
def lQ (e i:Nat):D:=.agg [intD e,intD i]
def DJ:=an4 @bu.eq_1 @prD.eq_1 @psI.eq_1 @lQ.eq_1
def RY (p:aN):Bool:=decide (60<p.k.length)||decide (200<p.v.length)
def jd (l:List aN)(i:Nat):Nat×Nat :=
 if h:i<l.length then
  if RY l[i]then(4,i)
  else if 0<i/\0<=Lib.compareBytes (l[i-1]'(by omega)).k l[i].k then(2,i)
  else jd l (i+1)
 else(0,0)
termination_by l.length-i
def dQ (l:List aN):Nat×Nat:=if 200<l.length then(5,0)else jd l 0
theorem acP (p:aN):PureD Tryz.prog 100 [prD p] (intD (if RY p then 4 else 0)):=by
 unfold RY;refine aa 13 Tryz.func100 ?_;cases g1:decide ((60:Int)<(p.k.length:Int))
 ·have h1:decide (60<p.k.length)=false:=by simp at g1⊢;omega
  refine gx (an4 uH @prD.eq_1 @bI.eq_1 g1) ?_;refine aK (λh=>?_) (λh=>?_)
  ·have h2:decide (200<p.v.length)=true:=by simp at h⊢;omega
   refine gx uH ?_;refine aA [] rfl ?_;simp[cv,cv1,cv0,upd,intD,h1,h2]
  ·have h2:decide (200<p.v.length)=false:=by simp at h⊢;omega
   refine gx uH ?_;refine aA [] rfl ?_;simp[cv,cv1,cv0,upd,intD,h1,h2]
 ·have h1:decide (60<p.k.length)=true:=by simp at g1⊢;omega
  refine gx (an4 uH @prD.eq_1 @bI.eq_1 g1) ?_;refine aA [] rfl ?_;simp[cv,cv1,cv0,upd,intD,h1]
theorem DK (l:List aN)(hl:l.length<=1048576):PureD Tryz.prog 43 [.i (psI l)] (lQ (dQ l).1 (dQ l).2):=by
 refine aa 42 Tryz.func43 ?_;refine gx (an fK @psI.eq_1) ?_;refine aK (λh=>?_) (λh=>?_)
 ·have h1:200<l.length:=by simp at h;omega
  clear h;refine gx fK ?_;refine E_ [] rfl sK rC (by simp[upd,aW,aR];rfl) ?_;simp[cv,cv1,cvL,cv0,upd,dQ,h1,lQ,intD]
 ·have h1:¬200<l.length:=by simp at h;omega
  clear h;have hw:dQ l=jd l 0:=by rw[dQ,if_neg h1]
  generalize dQ l=R at hw;refine gx fK ?_;refine bO (ι:=Nat) (λi=>i<=l.length/\R=jd l i)
   (λi=>dP [(0,.i (.sl (l.map bu))),(2,.pt 100 0 0 0),(10,.i (.sl (l.map bu))),(11,intD l.length),(12,intD i)] [(100,.box [intD 0,intD 0])]) (λi=>l.length-i) 0 ⟨Nat.zero_le _,hw⟩ ?_ ?_
  ·refine aj _ _ [] [(100,1000)] ?_ ?_ rfl rfl
   ·simp[cv,cvL,cv1,cv0,upd,lk,az,intD]
   ·simp[aX,az,lk,cvO,cvL,cv0,frz,upd,D.one,intD,hO]
  ·rintro i ⟨hi,hR⟩;rw[ag];refine gx (an fK @intD.eq_1) ?_;refine aK (λh=>?_) (λh=>?_)
   ·have h2:i<l.length:=by simp at h;omega
    clear h;rw[jd,dif_pos h2]at hR;have e1:(l.map bu)[i]?=some [bI l[i].k,bI l[i].v]:=by rw[List.getElem?_map,List.getElem?_eq_getElem h2];rfl
    have w1:IntKind.i64.wrap ((i:Int)+1)=((i+1:Nat):Int):=by rw[au (by omega) (by omega)];omega
    have hpr:=acP l[i];cases i with
    |zero =>
     have w0:IntKind.i64.wrap 1=1:=by decide
     generalize l[0]=p at*
     (refine gy (an fK e1) ?_;try intro ops hops)
     (refine fq DJ (hpr) ?_)
     cases hb:RY p
     ·simp only[hb,Bool.false_eq_true,if_false,Nat.lt_irrefl,false_and]at hR;refine gx (an3 fK @intD.eq_1 w1) ?_;refine⟨0+1,⟨h2,hR⟩,aj _ _ [] [(100,100)] ?_ ?_ rfl rfl,by simp;omega⟩
      ·simp[cv,cvL,cv1,cv0,upd,lk,az,intD,w0]
      ·simp[aX,az,lk,cvO,cvL,cv0,frz,upd,D.one,intD,hO]
     ·simp only[hb,if_true]at hR;refine gx (an fK @intD.eq_1) ?_;refine E_ [] rfl sK rC (by simp[upd,aW,aR];rfl) ?_;simp[cv,cv1,cvL,cv0,upd,hR,lQ,intD]
    |succ i =>
     have h3:i<l.length:=by omega
     have e2:(l.map bu)[i]?=some [bI l[i].k,bI l[i].v]:=by rw[List.getElem?_map,List.getElem?_eq_getElem h3];rfl
     have w2:IntKind.i64.wrap (((i+1:Nat):Int)-1)=(i:Int):=by rw[au (by omega) (by omega)];omega
     have g1:decide ((0:Int)<((i+1:Nat):Int))=true:=decide_eq_true (by omega);have hR':R=if RY l[i+1]then(4,i+1)else if 0<=Lib.compareBytes l[i].k l[i+1].k then(2,i+1)else jd l (i+1+1):=by rw[hR];simp
     clear hR;generalize l[i+1]=p at*;generalize l[i]=q at*
     (refine gy (an fK e1) ?_;try intro ops hops)
     (refine fq DJ (hpr) ?_)
     cases hb:RY p
     ·simp only[hb,Bool.false_eq_true,if_false]at hR'
      (refine gy (an6 fK @intD.eq_1 g1 w2 e2 @bI.eq_1) ?_;try intro ops hops)
      (refine fq DJ (UY q.k p.k) ?_)
      refine gx fK ?_;refine aK (λh=>?_) (λh=>?_)
      ·have h4:0<=Lib.compareBytes q.k p.k:=by simpa using h
       rw[if_pos h4]at hR';refine gx fK ?_;refine E_ [] rfl sK rC (by simp[upd,aW,aR];rfl) ?_;simp[cv,cv1,cvL,cv0,upd,hR',lQ,intD]
      ·have h4:¬0<=Lib.compareBytes q.k p.k:=by simpa using h
       rw[if_neg h4]at hR';refine gx (an fK w1) ?_;refine⟨i+1+1,⟨h2,hR'⟩,aj _ _ [] [(100,100)] ?_ ?_ rfl rfl,by simp;omega⟩
       ·simp[cv,cvL,cv1,cv0,upd,lk,az,intD]
       ·simp[aX,az,lk,cvO,cvL,cv0,frz,upd,D.one,intD,hO]
     ·simp only[hb,if_true]at hR';refine gx (an fK @intD.eq_1) ?_;refine E_ [] rfl sK rC (by simp[upd,aW,aR];rfl) ?_;simp[cv,cv1,cvL,cv0,upd,hR',lQ,intD]
   ·have h2:¬i<l.length:=by simp at h;omega
    clear h;rw[jd,dif_neg h2]at hR;refine gx fK ?_;refine E_ [] rfl sK rC (by simp[upd,aW,aR];rfl) ?_;simp[cv,cv1,cvL,cv0,upd,hR,lQ,intD]
def zh:=an6 @Ty.T1 @Ty.T3 @Ty.T4 @Ty.T5 @Ty.T29 @Ty.T42
def Gb:=an5 @Ty.T1 @Ty.T3 @Ty.T5 @Ty.T29 @Ty.T42
def zg:=an5 @Ty.T1 @Ty.T3 @Ty.T5 @Ty.T29 @Ty.T42
def lV:=an5 @Ty.T3 @Ty.T5 @Ty.T29 @Ty.T31 @Ty.T41
def SB:=an4 @Ty.T3 @Ty.T4 @Ty.T5 @Ty.T29
def uG:=@Ty.T3
def oZ:=an3 @bbI.eq_1 @bu.eq_1 @psI.eq_1
def four (n:Nat):List UInt8:=[aQ n 16777216,aQ n 65536,aQ n 256,aQ n 1]
def dU (k v:List UInt8):List UInt8:=sha (0::(four k.length++(k++v)))
def rR (a b:List UInt8):List UInt8:=sha (1::(a++b))
def Gc (n:Nat)(t:List UInt8):List UInt8:=sha (2::(four n++t))
def ae (n:Nat):Nat:=2^Nat.log2 (n-1)
theorem fT {n:Nat}(h:2<=n):0<ae n/\ae n<n:=by have:=Nat.log2_self_le (n:=n-1) (by omega);have h2:0<2^Nat.log2 (n-1):=Nat.pow_pos (by decide);simp only[ae];omega
theorem ME {n:Nat}:n<=2*ae n:=by have:=Nat.lt_log2_self (n:=n-1);rw[Nat.pow_succ]at this;simp only[ae];omega
def aZ (l:List aN):List UInt8 :=
 match l with
 |[]=>[]
 |[p]=>dU p.k p.v
 |p::q::r=>rR (aZ ((p::q::r).take (ae (p::q::r).length))) (aZ ((p::q::r).drop (ae (p::q::r).length)))
termination_by l.length
decreasing_by
 all_goals
  have:=fT (n:=(p::q::r).length) (by simp);simp only[List.length_take,List.length_drop];omega
theorem qc (p:aN):aZ [p]=dU p.k p.v:=by rw[aZ]
theorem qb {l:List aN}(h:2<=l.length):aZ l=rR (aZ (l.take (ae l.length))) (aZ (l.drop (ae l.length))):=by
 match l,h with
 |p::q::r,_=>conv=>lhs;rw[aZ]
theorem fP (l:List aN)(h:l≠[]):(aZ l).length=32:=by
 match l,h with
 |[p],_=>rw[qc];exact bg _
 |p::q::r,_=>rw[qb (by simp)];exact bg _
def h_ (l:List aN):List UInt8:=Gc l.length (aZ l)
theorem ym (n d k:Nat)(hd:d=2^k)(hk:k<64):IntKind.u8.wrap ((n:Int).fdiv (2^min k (IntKind.bits .i64)))=((aQ n d).toNat:Int):=by
 have hm:min k (IntKind.bits .i64)=k:=by simp[IntKind.bits];omega
 rw[hm,Int.fdiv_eq_ediv_of_nonneg _ (by exact_mod_cast Nat.zero_le _),IntKind.wrap_u8];have:(n:Int)/2^k=((n/2^k:Nat):Int):=by rw[Int.natCast_ediv,Int.natCast_pow];rfl
 rw[this,aQ,hd];generalize n/2^k=x;rw[UInt8.toNat_ofNat'];omega
theorem ae_ (n:Nat):IntKind.u8.wrap (n:Int)=((aQ n 1).toNat:Int):=by rw[IntKind.wrap_u8,aQ,Nat.div_one,UInt8.toNat_ofNat'];omega
theorem Xv (n:Nat):PureD Tryz.prog 109 [intD n] (.i (bI (four n))):=by have b1:=ym n 16777216 24 (by decide) (by decide);have b2:=ym n 65536 16 (by decide) (by decide);have b3:=ym n 256 8 (by decide) (by decide);have b4:=ae_ n;simp only[four];generalize aQ n 16777216=c1 at*;generalize aQ n 65536=c2 at*;generalize aQ n 256=c3 at*;generalize aQ n 1=c4 at*;refine aa 15 Tryz.func109 ?_;refine gx (an6 SB @intD.eq_1 @b1 @b2 @b3 @b4) ?_;refine aA [1267] rfl ?_;simp[cv,cv1,cv0,upd,aO,bI,aH]
theorem OA (k v:List UInt8)(hk:k.length<=1048576)(hv:v.length<=1048576):PureD Tryz.prog 55 [.i (bI k),.i (bI v)] (.i (bI (dU k v))):=by
 have hp:=zI [[0],four k.length,k,v] (by simp) (by intro b hb;simp at hb;rcases hb with rfl|rfl|rfl|rfl;simp;(simp[four]);omega;omega);have hf:[[0],four k.length,k,v].flatten=0::(four k.length++(k++v)):=by simp
 rw[hf]at hp;rw[show sha (0::(four k.length++(k++v)))=dU k v from rfl]at hp;generalize dU k v=R at*;refine aa 13 Tryz.func55 ?_
 (refine gy (an zh @bI.eq_1) ?_;try intro ops hops)
 (refine fqz oZ (Xv k.length) ?_)
 (refine gy (an zh @bI.eq_1) ?_;try intro ops hops)
 (first|refine kP [1262] (hp) (by simp[bbI,bu,psI,frz,bbI]) ?_|refine jb [1262] [1262] (hp) (λG hG=>by(have hG1262:=hG 1262 (by simp);simp[bbI,bu,psI,frz,bbI,hG1262])) (by simp) ?_)
 refine gx (an zh @bI.eq_1) ?_;refine aA [] rfl ?_;simp[cv,cv1,cv0,upd]
theorem Oe (a b:List UInt8)(ha:a.length<=1048576)(hb:b.length<=1048576):PureD Tryz.prog 108 [.i (bI a),.i (bI b)] (.i (bI (rR a b))):=by
 have hp:=zI [[1],a,b] (by simp) (by intro x hx;simp at hx;rcases hx with rfl|rfl|rfl;simp;omega;omega);have hf:[[1],a,b].flatten=1::(a++b):=by simp
 rw[hf]at hp;rw[show sha (1::(a++b))=rR a b from rfl]at hp;generalize rR a b=R at*;refine aa 10 Tryz.func108 ?_
 (refine gy (an Gb @bI.eq_1) ?_;try intro ops hops)
 (first|refine kP [1259] (hp) (by simp[bbI,bu,psI,frz,bbI]) ?_|refine jb [1259] [1259] (hp) (λG hG=>by(have hG1259:=hG 1259 (by simp);simp[bbI,bu,psI,frz,bbI,hG1259])) (by simp) ?_)
 refine gx (an Gb @bI.eq_1) ?_;refine aA [] rfl ?_;simp[cv,cv1,cv0,upd]
theorem SC (n:Nat)(t:List UInt8)(ht:t.length<=1048576):PureD Tryz.prog 107 [intD n,.i (bI t)] (.i (bI (Gc n t))):=by
 have hp:=zI [[2],four n,t] (by simp) (by intro x hx;simp at hx;rcases hx with rfl|rfl|rfl;simp;(simp[four]);omega);have hf:[[2],four n,t].flatten=2::(four n++t):=by simp
 rw[hf]at hp;rw[show sha (2::(four n++t))=Gc n t from rfl]at hp;generalize Gc n t=R at*;refine aa 11 Tryz.func107 ?_
 (refine gy (an3 zg @bI.eq_1 @intD.eq_1) ?_;try intro ops hops)
 (refine fqz oZ (Xv n) ?_)
 (refine gy (an zg @bI.eq_1) ?_;try intro ops hops)
 (first|refine kP [1260] (hp) (by simp[bbI,bu,psI,frz,bbI]) ?_|refine jb [1260] [1260] (hp) (λG hG=>by(have hG1260:=hG 1260 (by simp);simp[bbI,bu,psI,frz,bbI,hG1260])) (by simp) ?_)
 refine gx (an zg @bI.eq_1) ?_;refine aA [] rfl ?_;simp[cv,cv1,cv0,upd]
theorem KC {n i:Nat}(h1:2^i=1\/2^i<n)(h2:n<=2*2^i)(hn:1<=n):2^i=ae n:=by
 unfold ae;congr 1;have hle:i<=Nat.log2 (n-1)\/n-1=0:=by
  by_cases h0:n-1=0
  ·exact .inr h0
  ·refine .inl ((Nat.le_log2 h0).2 ?_);rcases h1 with h1|h1<;>omega
 have hge:n-1=0\/Nat.log2 (n-1)<i+1:=by
  by_cases h0:n-1=0
  ·exact .inl h0
  ·refine .inr ((Nat.log2_lt h0).2 ?_);rw[Nat.pow_succ];omega
 rcases hle with hle|hle
 ·rcases hge with hge|hge
  ·rw[hge]at hle⊢;simp at hle⊢;omega
  ·omega
 ·rw[hle];have:n=1:=by omega
  subst this;simp;rcases h1 with h1|h1
  ·cases i with
   |zero=>rfl
   |succ i=>rw[Nat.pow_succ]at h1;omega
  ·have:0<2^i:=Nat.pow_pos (by decide);omega
theorem zq (n:Nat)(h0:1<=n)(hn:n<=1048576):PureD Tryz.prog 58 [intD n] (intD (ae n)):=by
 refine aa 11 Tryz.func58 ?_;refine gx (an uG @intD.eq_1) ?_;refine bO (ι:=Nat) (λi=>2^i=1\/2^i<n)
  (λi=>dP [(0,intD n),(3,intD (2^i:Nat))] []) (λi=>n-2^i) 0 (.inl rfl) ?_ ?_
 ·refine aj _ _ [] [] ?_ ?_ rfl rfl
  ·simp[cv,cv1,cv0,upd,lk,az,intD]
  ·simp
 ·rintro i hi;rw[ag];have hp:0<2^i:=Nat.pow_pos (by decide);have hs:2^(i+1)=2*2^i:=by rw[Nat.pow_succ];omega
  have hfin:=KC hi;have w1:IntKind.i64.wrap (2*((2^i:Nat):Int))=((2^(i+1):Nat):Int):=by rw[hs,au (by omega) (by omega)];omega
  have w2:IntKind.i64.wrap (((2^i:Nat):Int)*2)=((2^(i+1):Nat):Int):=by rw[hs,au (by omega) (by omega)];omega
  generalize hx:2^i=x at*;generalize hy:2^(i+1)=y at*;refine gx (an3 uG @intD.eq_1 w1) ?_;refine aK (λh=>?_) (λh=>?_)
  ·have h1:y<n:=by simp at h;omega
   clear h;refine gx (an uG w2) ?_;refine⟨i+1,by show 2^(i+1)=1\/2^(i+1)<n;rw[hy];exact .inr h1,aj _ _ [] [] ?_ ?_ rfl rfl,by simp only[hx,hy];omega⟩
   ·simp only[hy];simp[cv,cv1,cv0,upd,lk,az,intD]
   ·simp
  ·have h1:n<=2*x:=by simp at h;omega
   clear h;refine gx uG ?_;refine aA [] rfl ?_;simp[cv,cv1,cv0,upd,intD,hfin h1 h0]
theorem xI:∀(n:Nat)(l:List aN),l.length=n->l≠[]->l.length<=1048576->(∀p∈l,p.k.length<=1048576/\p.v.length<=1048576)->PureD Tryz.prog 53 [.i (psI l)] (.i (bI (aZ l))):=by
 intro n;induction n using Nat.strongRecOn with
 |_ n ih =>
  intro l hn hne hl hb;by_cases h1:l.length=1
  ·obtain⟨p,rfl⟩:=List.length_eq_one_iff.1 h1;have hp:=hb p (by simp);have hlf:=OA p.k p.v hp.1 hp.2;rw[qc];generalize dU p.k p.v=R at*;refine aa 28 Tryz.func53 ?_
   (refine gy (an6 lV @psI.eq_1 @List.map_cons.{0,0} @List.map_nil.{0,0} @bu.eq_1 @bI.eq_1) ?_;try intro ops hops)
   (refine fqz oZ (hlf) ?_)
   refine gx (an lV @bI.eq_1) ?_;refine aA [] rfl ?_;simp[cv,cv1,cv0,upd]
  ·have h2:2<=l.length:=by have:=List.length_pos_iff.2 hne;omega
   have hs:=fT h2;rw[qb h2];have hsp:=zq l.length (by omega) hl;generalize ae l.length=k at*;have t1:=ih (l.take k).length (by simp;omega) (l.take k) rfl (by intro hc;have:=congrArg List.length hc;simp only[List.length_take,List.length_drop,List.length_nil]at this;omega) (by simp;omega) (λp hp=>hb p (List.mem_of_mem_take hp));have t2:=ih (l.drop k).length (by simp;omega) (l.drop k) rfl (by intro hc;have:=congrArg List.length hc;simp only[List.length_take,List.length_drop,List.length_nil]at this;omega) (by simp;omega) (λp hp=>hb p (List.mem_of_mem_drop hp));have l1:(aZ (l.take k)).length=32:=fP _ (by intro hc;have:=congrArg List.length hc;simp only[List.length_take,List.length_drop,List.length_nil]at this;omega);have l2:(aZ (l.drop k)).length=32:=fP _ (by intro hc;have:=congrArg List.length hc;simp only[List.length_take,List.length_drop,List.length_nil]at this;omega);have hnd:=Oe (aZ (l.take k)) (aZ (l.drop k)) (by omega) (by omega);generalize aZ (l.take k)=T1 at*;generalize aZ (l.drop k)=T2 at*;generalize rR T1 T2=R at*;have g1:decide ((l.length:Int)=1)=false:=by simp;omega
   have g2:((k:Int)<=(l.length:Int))=True:=eq_true (by omega);have u1:uni 2 (l.map bu)=true:=by simp[uni,bu]
   refine aa 28 Tryz.func53 ?_
   (refine gy (an3 lV @psI.eq_1 g1) ?_;try intro ops hops)
   (refine fq oZ (hsp) ?_)
   (refine gy (an7 lV @intD.eq_1 @psI.eq_1 g2 u1 @mtk @mdr) ?_;try intro ops hops)
   (refine fqz oZ (t1) ?_)
   (refine gy (an7 lV @bI.eq_1 @psI.eq_1 g2 u1 @mtk @mdr) ?_;try intro ops hops)
   (refine fqz oZ (t2) ?_)
   (refine gy (an lV @bI.eq_1) ?_;try intro ops hops)
   (refine fqz oZ (hnd) ?_)
   refine gx (an lV @bI.eq_1) ?_;refine aA [] rfl ?_;simp[cv,cv1,cv0,upd]
structure xC (l:List aN):Prop where
 len:l.length<=200
 big:∀p∈l,p.k.length<=60/\p.v.length<=200
 ord:∀i j (hi:i<l.length) (hj:j<l.length),i<j->Lib.compareBytes l[i].k l[j].k<0
theorem aaS {p:aN}(h:RY p=false):p.k.length<=60/\p.v.length<=200:=by simp[RY]at h;omega
theorem Ke (l:List aN):∀(d i:Nat),l.length-i=d->(jd l i).1=0->∀a (ha:a<l.length),i<=a->RY l[a]=false/\(∀h:0<a,Lib.compareBytes (l[a-1]'(by omega)).k l[a].k<0):=by
 intro d;induction d with
 |zero=>intro i hd _ a ha hia;omega
 |succ d ih =>
  intro i hd hw a ha hia;rw[jd,dif_pos (by omega)]at hw;split at hw
  ·cases hw
  ·rename_i hb;split at hw
   ·cases hw
   ·rename_i hc;by_cases hai:a=i
    ·subst hai;refine⟨by simpa using hb,λh=>?_⟩;have:¬0<=Lib.compareBytes (l[a-1]'(by omega)).k l[a].k:=λh'=>hc ⟨h,h'⟩;omega
    ·exact ih (i+1) (by omega) hw a ha (by omega)
theorem nZ {l:List aN}(h:(dQ l).1=0):xC l:=by
 unfold dQ at h;split at h
 ·cases h
 ·rename_i hl;have hw:=Ke l _ 0 rfl h;refine⟨by omega,λp hp=>?_,?_⟩
  ·obtain⟨a,ha,rfl⟩:=List.getElem_of_mem hp;exact aaS (hw a ha (Nat.zero_le _)).1
  ·intro i j;induction j with
   |zero=>intro _ _ h;omega
   |succ j ih =>
    intro hi hj hij;have h1:=(hw (j+1) hj (Nat.zero_le _)).2 (by omega);simp only[Nat.add_sub_cancel]at h1;by_cases hc:i=j
    ·subst hc;exact h1
    ·exact jY _ _ _ (ih hi (by omega) (by omega)) h1
theorem yO {l:List aN}(h:xC l):∀(d i:Nat),l.length-i=d->jd l i=(0,0):=by
 intro d;induction d with
 |zero=>intro i hd;rw[jd,dif_neg (by omega)]
 |succ d ih =>
  intro i hd;have hi:i<l.length:=by omega
  rw[jd,dif_pos hi];have hb:=h.big _ (List.getElem_mem hi);rw[if_neg (by simp[RY];omega),if_neg,ih (i+1) (by omega)];rintro⟨h1,h2⟩;have:=h.ord (i-1) i (by omega) hi (by omega);omega
theorem gN {l:List aN}(h:xC l):dQ l=(0,0):=by rw[dQ,if_neg (by have:=h.len;omega)];exact yO h _ 0 rfl
theorem nP {l:List aN}(h:(dQ l).1=0):dQ l=(0,0):=gN (nZ h)
def placeF (l:List aN)(key:List UInt8):Nat:=(l.takeWhile λp=>decide (Lib.compareBytes p.k key<0)).length
def oL (l:List aN)(key:List UInt8):Bool:=if h:placeF l key<l.length then decide (l[placeF l key].k=key)else false
theorem vV (l:List aN)(key:List UInt8):placeF l key<=l.length:=(List.takeWhile_sublist _).length_le
theorem BU (key:List UInt8):∀(l:List aN)(a:Nat)(ha:a<l.length),a<placeF l key->Lib.compareBytes l[a].k key<0
 |[],a,ha,_=>by simp at ha
 |p::t,a,ha,h=>by
  unfold placeF at h;rw[List.takeWhile_cons]at h;split at h
  ·rename_i hp;cases a with
   |zero=>simpa using hp
   |succ a=>exact BU key t a (by simpa using ha) (by simpa[placeF]using h)
  ·simp at h
theorem BV (key:List UInt8):∀(l:List aN)(h:placeF l key<l.length),¬Lib.compareBytes l[placeF l key].k key<0
 |[],h=>by simp at h
 |p::t,h=>by
  unfold placeF at h;simp only[placeF];by_cases hp:decide (Lib.compareBytes p.k key<0)=true
  ·have e:(List.takeWhile (λp=>decide (Lib.compareBytes p.k key<0)) (p::t)).length=placeF t key+1:=by
    rw[List.takeWhile_cons,if_pos hp];rfl
   simp only[e]at h⊢;have:=BV key t (by simpa using h);simpa using this
  ·have e:(List.takeWhile (λp=>decide (Lib.compareBytes p.k key<0)) (p::t)).length=0:=by
    rw[List.takeWhile_cons,if_neg hp];rfl
   simp only[e];simpa using hp
theorem ll {l:List aN}(h:xC l)(key:List UInt8):∀a (ha:a<l.length),Lib.compareBytes l[a].k key<0↔a<placeF l key:=by
 intro a ha;refine⟨λh1=>?_,BU key l a ha⟩;apply Decidable.byContradiction;intro hc;have hp:placeF l key<l.length:=by omega
 have h2:=BV key l hp;by_cases he:a=placeF l key
 ·subst he;exact h2 h1
 ·exact h2 (jY _ _ _ (h.ord _ a hp ha (by omega)) h1)
def Ga:=an5 @Ty.T5 @Ty.T29 @Ty.T31 @Ty.T41 @Ty.aiO
def jw:=an7 @Ty.T3 @Ty.T5 @Ty.T29 @Ty.T31 @Ty.T32 @Ty.T41 @Ty.ahO
def oW:=an @psI.eq_1 @lQ.eq_1
theorem Xw (l:List aN)(key:List UInt8)(h:xC l):PureD Tryz.prog 44 [.i (psI l),.i (bI key)] (.tup [intD (placeF l key),boolD (oL l key)]):=by
 have hs:=Ti l key (placeF l key) (by have:=h.len;omega) (vV l key) (ll h key);have e:(if h:placeF l key<l.length then decide (Lib.compareBytes l[placeF l key].k key=0)else false)=oL l key:=by
  unfold oL;split
  ·simp[kL]
  ·rfl
 rw[e]at hs;refine aa 11 Tryz.func44 ?_
 (refine gy (an3 Ga @psI.eq_1 @bI.eq_1) ?_;try intro ops hops)
 (refine fq oW (hs) ?_)
 refine gx (an3 Ga @intD.eq_1 @boolD.eq_1) ?_;refine dC [] rfl ?_;simp[cv,cvT,cv1,cv0,upd,intD,boolD]
def zA (l:List aN):List UInt8:=if(dQ l).1=0 then h_ l else[]
theorem Wv (l:List aN)(hl:l.length<=1048576):PureD Tryz.prog 52 [.i (psI l)] (.tup [.i (bI (zA l)),lQ (dQ l).1 (dQ l).2]):=by
 have hw:=DK l hl;unfold zA;by_cases h0:(dQ l).1=0
 ·have hr:=nZ h0;have hz:=nP h0;rw[if_pos h0,hz];rw[hz]at hw;simp only at*;cases l with
  |nil =>
   have ht:=SC 0 [] (by simp);rw[show Gc 0 []=h_ [] by rw[h_,aZ];rfl]at ht;generalize h_ []=R at*;refine aa 22 Tryz.func52 ?_
   (refine gy (an jw @psI.eq_1) ?_;try intro ops hops)
   (refine fq oW (hw) ?_)
   (refine gy (an4 jw @lQ.eq_1 @intD.eq_1 @List.map_nil.{0,0}) ?_;try intro ops hops)
   (refine fqz oW (ht) ?_)
   refine gx (an jw @bI.eq_1) ?_;refine CP [] rfl sK rC (by simp[upd,aW,aR];rfl) ?_;simp[cv,cvT,cv1,cvL,cv0,upd,lQ,intD,bI]
  |cons p t =>
   have htl:=fP (p::t) (by simp);have htr:=xI _ (p::t) rfl (by simp) hl (λq hq=>by have:=hr.big q hq;omega);have ht:=SC (p::t).length (aZ (p::t)) (by omega);rw[show Gc (p::t).length (aZ (p::t))=h_ (p::t)from rfl]at ht;generalize h_ (p::t)=R at*;generalize aZ (p::t)=T at*;have g1:decide (((p::t).length:Int)=0)=false:=by simp;omega
   generalize p::t=l at*;refine aa 22 Tryz.func52 ?_
   (refine gy (an jw @psI.eq_1) ?_;try intro ops hops)
   (refine fq oW (hw) ?_)
   (refine gy (an5 jw @lQ.eq_1 @intD.eq_1 @psI.eq_1 g1) ?_;try intro ops hops)
   (refine fqz oW (htr) ?_)
   (refine gy (an jw @bI.eq_1) ?_;try intro ops hops)
   (refine fqz oW (ht) ?_)
   refine gx (an jw @bI.eq_1) ?_;refine CP [] rfl sK rC (by simp[upd,aW,aR];rfl) ?_;simp[cv,cvT,cv1,cvL,cv0,upd,lQ,intD,bI]
 ·rw[if_neg h0];generalize dQ l=W at*;have g1:decide ((W.1:Int)=0)=false:=by simp;omega
  refine aa 22 Tryz.func52 ?_
  (refine gy (an jw @psI.eq_1) ?_;try intro ops hops)
  (refine fq oW (hw) ?_)
  refine gx (an4 jw @lQ.eq_1 @intD.eq_1 g1) ?_;refine CP [] rfl sK rC (by simp[upd,aW,aR];rfl) ?_;simp[cv,cvT,cv1,cvL,cv0,upd,lQ,intD,bI]
end Go.Proofs.YtdmeldhlbpdeeaaGreatDoor
