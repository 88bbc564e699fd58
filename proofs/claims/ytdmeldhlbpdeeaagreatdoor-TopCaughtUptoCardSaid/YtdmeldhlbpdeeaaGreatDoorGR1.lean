/- Merged texts: R1A, R1S, R1Sum. -/
import Derived.Test.YtdmeldhlbpdeeaaGreatDoorGDiv
set_option linter.all false
set_option maxHeartbeats 8000000
set_option maxRecDepth 100000
namespace Go.Proofs.YtdmeldhlbpdeeaaGreatDoor
open Go Go.Abs Go.RowKit Go.Proofs.YtdmeldhlbpdeeaaGreatDoor.Ty
def mD:=@Ty.T59
def Bn:=an4 @Ty.T3 @Ty.T4 @Ty.T59 @Ty.aiK
def pW:=an4 @Ty.T1 @Ty.T3 @Ty.T59 @Ty.aiH
def yH (x p:Nat)(two:Bool):Bool :=
 if two then decide ((p:Int)<(x*x/18446744073709551616:Nat))||(decide (((x*x/18446744073709551616:Nat):Int)=(p:Int))&&decide ((0:Int)<(x*x%18446744073709551616:Nat)))
 else
  let h:=x*x/18446744073709551616;let l:=x*x%18446744073709551616;let a:=l*x/18446744073709551616;let b:=l*x%18446744073709551616;let c:=h*x/18446744073709551616;let d:=h*x%18446744073709551616;let mid:=(a+d+0)%18446744073709551616;let top:=(c+(a+d+0)/18446744073709551616)%18446744073709551616;let wt:=p/4294967296;let wm:=p*4294967296%18446744073709551616;decide ((wt:Int)<(top:Int))||(decide ((top:Int)=(wt:Int))&&(decide ((wm:Int)<(mid:Int))||(decide ((mid:Int)=(wm:Int))&&decide ((0:Int)<(b:Int)))))
theorem agb (a:Nat):IntKind.u64.wrap ((a:Int)*2^min 32 (IntKind.bits .u64))=((a*4294967296%18446744073709551616:Nat):Int):=by rw[show min 32 (IntKind.bits .u64)=32 from rfl,IntKind.wrap_u64];omega
theorem abf (x p:Nat)(two:Bool)(hx:x<18446744073709551616)(hp:p<18446744073709551616):
  PureD Tryz.prog 256 [.i (.s (.int .u64 (x:Int))),.i (.s (.int .u64 (p:Int))),.i (.s (.bool two))] (.i (.s (.bool (yH x p two)))):=by
 generalize hq:yH x p two=q;refine aa 84 Tryz.func256 ?_
 (refine gy mD ?_;try intro ops hops)
 (refine fq trivial (zS x x hx hx) ?_)
 cases two with
 |true =>
  unfold yH at hq;rw[if_pos rfl]at hq;generalize x*x/18446744073709551616=h at hq;generalize x*x%18446744073709551616=l at hq;cases g1:decide ((p:Int)<(h:Int))
  ·cases g2:decide ((h:Int)=(p:Int))
   ·refine gx (an3 mD g1 g2) ?_;refine aA [] rfl ?_;rw[g1,g2]at hq;simp[cv,cv1,cv0,upd,<- hq]
   ·cases g3:decide ((0:Int)<(l:Int)) <;>
    ·refine gx (an4 mD g1 g2 g3) ?_;refine aA [] rfl ?_;rw[g1,g2,g3]at hq;simp[cv,cv1,cv0,upd,<- hq]
  ·refine gx (an mD g1) ?_;refine aA [] rfl ?_;rw[g1]at hq;simp[cv,cv1,cv0,upd,<- hq]
 |false =>
  unfold yH at hq;simp only[Bool.false_eq_true,if_false]at hq;have hh:x*x/18446744073709551616<18446744073709551616:=Nat.div_lt_of_lt_mul (Nat.mul_lt_mul'' hx hx);have hl:x*x%18446744073709551616<18446744073709551616:=Nat.mod_lt _ (by decide);generalize x*x/18446744073709551616=h at hq hh;generalize x*x%18446744073709551616=l at hq hl
  (refine gy mD ?_;try intro ops hops)
  (refine fq trivial (zS l x hl hx) ?_)
  have ha:l*x/18446744073709551616<18446744073709551616:=Nat.div_lt_of_lt_mul (Nat.mul_lt_mul'' hl hx);generalize l*x/18446744073709551616=a at hq ha;generalize l*x%18446744073709551616=b at hq
  (refine gy mD ?_;try intro ops hops)
  (refine fq trivial (zS h x hh hx) ?_)
  have hd:h*x%18446744073709551616<18446744073709551616:=Nat.mod_lt _ (by decide);generalize h*x/18446744073709551616=c at hq;generalize h*x%18446744073709551616=d at hq hd;refine gx mD ?_;refine jF (Ba a d 0 ha hd (by decide)) ?_;have w1:IntKind.u64.wrap ((c:Int)+(((a+d+0)/18446744073709551616:Nat):Int))=(((c+(a+d+0)/18446744073709551616)%18446744073709551616:Nat):Int):=by rw[IntKind.wrap_u64];omega
  generalize(c+(a+d+0)/18446744073709551616)%18446744073709551616=top at hq w1;generalize(a+d+0)%18446744073709551616=mid at hq;generalize(a+d+0)/18446744073709551616=carry at w1;have w2:=agb p;have w3:=S_ p;generalize p*4294967296%18446744073709551616=wm at hq w2;generalize p/4294967296=wt at hq w3;cases g1:decide ((wt:Int)<(top:Int))
  ·cases g2:decide ((top:Int)=(wt:Int))
   ·refine gx (an6 mD w1 w2 w3 g1 g2) ?_;refine aA [] rfl ?_;rw[g1,g2]at hq;simp[cv,cv1,cv0,upd,<- hq]
   ·cases g3:decide ((wm:Int)<(mid:Int))
    ·cases g4:decide ((mid:Int)=(wm:Int))
     ·refine gx (an8 mD w1 w2 w3 g1 g2 g3 g4) ?_;refine aA [] rfl ?_;rw[g1,g2,g3,g4]at hq;simp[cv,cv1,cv0,upd,<- hq]
     ·cases g5:decide ((0:Int)<(b:Int)) <;>
      ·refine gx (an9 mD w1 w2 w3 g1 g2 g3 g4 g5) ?_;refine aA [] rfl ?_;rw[g1,g2,g3,g4,g5]at hq;simp[cv,cv1,cv0,upd,<- hq]
    ·refine gx (an7 mD w1 w2 w3 g1 g2 g3) ?_;refine aA [] rfl ?_;rw[g1,g2,g3]at hq;simp[cv,cv1,cv0,upd,<- hq]
  ·refine gx (an5 mD w1 w2 w3 g1) ?_;refine aA [] rfl ?_;rw[g1]at hq;simp[cv,cv1,cv0,upd,<- hq]
def xM (p:Nat)(two:Bool):Nat->Nat->Nat
 |0,x=>x
 |k+1,x=>xM p two k (if yH (x ||| 2^k) p two then x else x ||| 2^k)
def prF (p:Nat)(two:Bool):Nat:=xM p two 41 0%4294967296
theorem Ww (p:Nat)(two:Bool)(hp:p<18446744073709551616):
  PureD Tryz.prog 217 [.i (.s (.int .u64 (p:Int))),.i (.s (.bool two))] (.i (.s (.int .u32 (prF p two:Nat)))):=by
 refine aa 24 Tryz.func217 ?_;refine gx Bn ?_;refine bO (ι:=Nat×Nat) (λq=>q.2<2^41/\q.1<=41/\xM p two q.1 q.2=xM p two 41 0)
  (λq=>dP [(0,.i (.s (.int .u64 (p:Int)))),(1,.i (.s (.bool two))),(5,.i (.s (.int .u64 (q.2:Nat)))),(6,.i (.s (.int .i64 ((q.1:Int)-1))))] []) (λq=>q.1) (41,0) ⟨by decide,by decide,rfl⟩ ?_ ?_
 ·refine aj _ _ [] [] ?_ ?_ rfl rfl
  ·simp[cv,cv1,cv0,upd,lk,az]
  ·simp
 ·rintro⟨k,x⟩ ⟨hx,hk,hq⟩;simp only at hx hk hq;rw[ag];cases k with
  |zero =>
   have g1:decide ((0:Int)<=0-1)=false:=by decide
   have w1:IntKind.u32.wrap (x:Int)=((prF p two:Nat):Int):=by rw[prF,<- hq,xM,IntKind.wrap_u32];omega
   refine gx (an3 Bn g1 w1) ?_;refine aA [] rfl ?_;simp[cv,cv1,cv0,upd]
  |succ k =>
   have hk1:((k+1:Nat):Int)-1=(k:Int):=by omega
   have hp2:(2:Nat)^k<2^41:=Nat.pow_lt_pow_right (by decide) (by omega);have w2:IntKind.u64.wrap ((1:Int)*2^(min k (IntKind.bits .u64)))=((2^k:Nat):Int):=by
    have e:((2:Int)^k)=((2^k:Nat):Int):=by simp
    rw[show min k (IntKind.bits .u64)=k by simp[IntKind.bits];omega,e,Int.one_mul,IntKind.wrap_u64];have h41:(2:Nat)^41=2199023255552:=by decide
    rw[h41]at hp2;generalize(2:Nat)^k=E at hp2⊢;omega
   have w3:bits .or .u64 (x:Int) ((2^k:Nat):Int)=((x ||| 2^k:Nat):Int) :=
    (bits_nat .u64 64 (by decide) (λn g0 g1=>by rw[IntKind.wrap_u64];omega) x (2^k) (Nat.lt_trans hx (by decide)) (Nat.lt_trans hp2 (by decide))).2
   have hy:x ||| 2^k<2^41:=Nat.or_lt_two_pow hx hp2;rw[xM]at hq;generalize hyy:x ||| 2^k=y at hq w3 hy;generalize 2^k=E at w2 w3
   (refine gy (an4 Bn @hk1 w2 w3) ?_;try intro ops hops)
   (refine fq trivial (abf y p two (Nat.lt_trans hy (by decide)) hp) ?_)
   have w4:IntKind.i64.wrap ((k:Int)-1)=(k:Int)-1:=by rw[au (by omega) (by omega)]
   cases g:yH y p two
   ·rw[g]at hq;refine gx (an4 Bn @hk1 g w4) ?_;refine⟨(k,y),⟨hy,by simp at hk⊢;omega,by simpa using hq⟩,aj _ _ [] [] ?_ ?_ rfl rfl,by simp⟩
    ·simp[cv,cv1,cv0,upd,lk,az]
    ·simp
   ·rw[g]at hq;refine gx (an4 Bn @hk1 g w4) ?_;refine⟨(k,x),⟨hx,by simp at hk⊢;omega,by simpa using hq⟩,aj _ _ [] [] ?_ ?_ rfl rfl,by simp⟩
    ·simp[cv,cv1,cv0,upd,lk,az]
    ·simp
def bU:Nat->List Nat
 |0=>[]
 |1=>[]
 |2=>[]
 |p+3=>if(bU (p+2)).all (λq=>(p+2)%q != 0)then bU (p+2)++[p+2]else bU (p+2)
theorem BS:∀p,p<312->(bU p).length<64:=by decide +kernel
theorem rJ:(bU 312).length=64:=by decide +kernel
theorem og:∀p,∀q∈bU p,2<=q/\q<p
 |0,q,h=>by simp[bU]at h
 |1,q,h=>by simp[bU]at h
 |2,q,h=>by simp[bU]at h
 |p+3,q,h=>by
  rw[bU]at h;split at h
  ·rcases List.mem_append.1 h with h|h
   ·have:=og (p+2) q h;omega
   ·simp at h;omega
  ·have:=og (p+2) q h;omega
def Lx (n:Nat):List I:=[.s (.int .u64 (n:Int))]
theorem Tw:aL Tryz.prog 216 [.i (.s (.int .i64 64))] noH (.os 1 1 0 64) (hOf noH [(1,.arr 1 ((bU 312).map Lx))]):=by
 refine aa 34 Tryz.func216 ?_;refine gx pW ?_;refine bO (ι:=Nat) (λp=>2<=p/\p<=312)
  (λp=>dP [(0,.i (.s (.int .i64 64))),(3,.os 100 1 0 (bU p).length),(4,.i (.s (.int .u64 (p:Nat))))] [(100,.arr 1 ((bU p).map Lx))]) (λp=>312-p) 2 ⟨by decide,by decide⟩ ?_ ?_
 ·refine aj _ _ [] [] ?_ ?_ rfl rfl
  ·simp[cv,cv1,cv0,upd,lk,az,bU]
  ·simp[aX,az,lk,bU]
 ·rintro p ⟨hp2,hp⟩;rw[ag];refine gx pW ?_;refine aK (λh=>?_) (λh=>?_)
  ·have hlt:p<312:=by
    rcases Nat.lt_or_ge p 312 with h'|h'
    ·exact h'
    ·have:p=312:=by omega
     subst this;rw[rJ]at h;simp at h
   clear h;have hpp:=og p;have hstep:bU (p+1)=if(bU p).all (λq=>p%q != 0)then bU p++[p]else bU p:=by
    obtain⟨k,rfl⟩:∃k,p=k+2:=⟨p-2,by omega⟩
    rw[bU]
   have hll:=BS p hlt;generalize bU p=l at hstep hpp hll;refine gx pW ?_;refine bO (ι:=Nat) (λk=>k<=l.length)
    (λk=>dP [(0,.i (.s (.int .i64 64))),(3,.os 100 1 0 l.length),(4,.i (.s (.int .u64 (p:Nat)))),(5,.i (.s (.bool ((l.take k).all (λq=>p%q != 0))))),(14,.os 100 1 0 l.length),(15,.i (.s (.int .i64 l.length))),(16,.i (.s (.int .i64 (k:Nat))))] [(100,.arr 1 (l.map Lx))]) (λk=>l.length-k) 0 (by simp) ?_ ?_
   ·refine aj _ _ [] [(100,100)] ?_ ?_ rfl rfl
    ·simp[cv,cv1,cv0,upd,lk,az]
    ·simp[aX,az,lk,cvO,frz,hO]
   ·intro k hk;rw[ag];refine gx pW ?_;refine aK (λh=>?_) (λh=>?_)
    ·have h1:k<l.length:=by simp at h;omega
     clear h;have hk2:=hpp _ (List.getElem_mem h1);have e1:(l.map Lx)[k]?=some [.s (.int .u64 ((l[k]:Nat):Int))]:=by simp[h1,Lx]
     have htk:(l.take (k+1)).all (λq=>p%q != 0)=((l.take k).all (λq=>p%q != 0)&&(p%l[k] != 0)):=by rw[List.take_succ_eq_append_getElem h1,List.all_append];simp only[List.all_cons,List.all_nil,Bool.and_true]
     have l1:((k:Int)<(l.length:Int))=True:=eq_true (by omega);generalize l[k]=q at hk2 e1 htk;have q0:((q:Int)=0)=False:=eq_false (by omega);have r1:(p:Int).tmod (q:Int)=((p%q:Nat):Int):=by rw[Int.tmod_eq_emod_of_nonneg (by omega)];exact(Int.natCast_emod _ _).symm
     have w1:IntKind.i64.wrap ((k:Int)+1)=((k+1:Nat):Int):=by rw[au (by omega) (by omega)];omega
     cases g:(l.take k).all (λq=>p%q != 0)
     ·rw[g]at htk;refine gx (an6 pW e1 l1 @q0 @r1 w1) ?_;refine⟨k+1,h1,aj _ _ [] [(100,100)] ?_ ?_ rfl rfl,by simp;omega⟩
      ·simp[cv,cv1,cv0,upd,lk,az,htk]
      ·simp[aX,az,lk,cvO,frz,hO]
     ·rw[g]at htk;refine gx (an6 pW e1 l1 @q0 @r1 w1) ?_;refine⟨k+1,h1,aj _ _ [] [(100,100)] ?_ ?_ rfl rfl,by simp;omega⟩
      ·simp[cv,cv1,cv0,upd,lk,az,htk];exact Bool.eq_iff_iff.2 (by simp;omega)
      ·simp[aX,az,lk,cvO,frz,hO]
    ·have h1:k=l.length:=by simp at h;omega
     subst h1;rw[jy];have w1:IntKind.u64.wrap ((p:Int)+1)=((p+1:Nat):Int):=by rw[IntKind.wrap_u64];omega
     have e3:l.length+1<=140737488355328:=by omega
     have e4:(l.length+1)*8<=140737488355328:=by omega
     have uu:uni 1 (l.map Lx)=true:=eG (s:=1) (f:=Lx) (λ_=>rfl) l;cases g:l.all (λq=>p%q != 0)
     ·rw[g]at hstep;simp only[Bool.false_eq_true,if_false]at hstep;refine gx (an3 pW g w1) ?_;refine⟨p+1,⟨by omega,by omega⟩,aj _ _ [] [(100,100)] ?_ ?_ rfl rfl,by simp;omega⟩
      ·simp[cv,cv1,cv0,upd,lk,az,hstep]
      ·simp[aX,az,lk,cvO,frz,hO,hstep]
     ·rw[g]at hstep;simp only[if_true]at hstep;refine gx (an6 pW g w1 e3 e4 @uu) ?_;refine⟨p+1,⟨by omega,by omega⟩,aj _ _ [] [(100,4075)] ?_ ?_ rfl rfl,by simp;omega⟩
      ·simp[cv,cv1,cv0,upd,lk,az,hstep]
      ·simp[aX,az,lk,cvO,frz,hO,hstep,upd,Lx]
  ·have:p=312:=by
    rcases Nat.lt_or_ge p 312 with h'|h'
    ·have:=BS p h';simp at h;omega
    ·omega
   subst this;refine gx pW ?_;refine dN _ [] [(1,100)] rfl ?_ ?_ rfl ?_ rfl
   ·simp[cv,cv1,cv0,upd,jc,lk,noH,rJ]
   ·simp[aX,jc,lk,cvO,frz,upd,noH,hO]
   ·simp[noH]
def abX:=an @Ty.T3 @Ty.aiK
@[irreducible] def PR:List Nat:=bU 312
theorem abk:bU 312=PR:=by unfold PR;rfl
theorem Rp:PR.length=64:=by rw[<- abk];exact rJ
theorem ahm:∀p∈PR,p<18446744073709551616:=λp h=>by rw[<- abk]at h;have:=(og 312 p h).2;omega
theorem abl:PR.map (λp=>prF p false)=KS:=by decide +kernel
theorem abg:(PR.take 8).map (λp=>prF p true)=V0.list:=by decide +kernel
theorem Nv {a b:Nat}(k:Nat)(h:b<2^k):(a*2^k) ||| b=a*2^k+b:=by rw[Nat.mul_comm,Nat.two_pow_add_eq_or_of_lt h]
theorem Kh (l:List UInt8)(i:Nat):wordAt l i=hor l i 4:=by
 have h0:=mi l i;have h1:=mi l (i+1);have h2:=mi l (i+2);have h3:=mi l (i+3);simp only[wordAt,hor,Nat.add_zero];generalize bnth l i=a at*;generalize bnth l (i+1)=b at*;generalize bnth l (i+2)=c at*;generalize bnth l (i+3)=d at*;have e0:wshl a 16777216=a*2^24:=by unfold wshl;omega
 have e1:wshl b 65536=b*2^16:=by unfold wshl;omega
 have e2:wshl c 256=c*2^8:=by unfold wshl;omega
 rw[e0,e1,e2];have w:∀x y,x<4294967296->y<4294967296->wor x y=x ||| y:=λx y hx hy=>by unfold wor;rw[Nat.mod_eq_of_lt hx,Nat.mod_eq_of_lt hy]
 have s1:wor (a*2^24) (b*2^16)=(a*2^8+b)*2^16:=by rw[w _ _ (by omega) (by omega),Nv 24 (by omega)];omega
 have s2:wor ((a*2^8+b)*2^16) (c*2^8)=((a*2^8+b)*2^8+c)*2^8:=by rw[w _ _ (by omega) (by omega),Nv 16 (by omega)];omega
 rw[s1,s2,w _ _ (by omega) (by omega),Nv 8 (by omega)];omega
def wandn (a b:Nat):Nat:=wand a (wnot b)
theorem Sw (a b:Nat):wor a b=wor b a:=Nat.or_comm _ _
theorem ab_ (a i:Nat):(wnot a).testBit i=(decide (i<32)&&!(a%4294967296).testBit i):=by
 unfold wnot;rw[show 4294967295=2^32-1 from rfl,Nat.testBit_xor,Nat.testBit_two_pow_sub_one];by_cases h:i<32
 ·simp[h]
 ·have:(a%4294967296).testBit i=false:=Nat.testBit_lt_two_pow (Nat.lt_of_lt_of_le (Nat.mod_lt _ (by decide)) (show 2^32<=2^i from Nat.pow_le_pow_right (by decide) (by omega)));simp[h,this]
theorem FN (a b:Nat):wand a b%4294967296=wand a b:=Nat.mod_eq_of_lt (LY a b)
theorem YF (a:Nat):wnot a<4294967296:=Nat.xor_lt_two_pow (n:=32) (by decide) (Nat.mod_lt _ (by decide))
theorem FM (a:Nat):wnot a%4294967296=wnot a:=Nat.mod_eq_of_lt (YF a)
theorem Sq (a b:Nat):wxor a b%4294967296=wxor a b:=Nat.mod_eq_of_lt (LP a b)
theorem YE (a b:Nat):wor a b%4294967296=wor a b:=Nat.mod_eq_of_lt (VY a b)
theorem Qt (e f g:Nat):wor (wand f e) (wandn g e)=wxor (wand e f) (wand (wnot e) g):=by apply Nat.eq_of_testBit_eq;intro i;simp only[wor,wxor,wandn,Nat.testBit_or,Nat.testBit_xor,FN];simp only[wand,Nat.testBit_and,FM,ab_];cases(e%4294967296).testBit i<;>cases(f%4294967296).testBit i<;>cases(g%4294967296).testBit i<;>cases decide (i<32)<;>rfl
theorem ZI (a b c:Nat):wor (wor (wand a b) (wand a c)) (wand b c)=wxor (wxor (wand a b) (wand a c)) (wand b c):=by apply Nat.eq_of_testBit_eq;intro i;have e1:(wor (wand a b) (wand a c))%4294967296=wor (wand a b) (wand a c):=YE _ _;have e2:(wxor (wand a b) (wand a c))%4294967296=wxor (wand a b) (wand a c):=Sq _ _;rw[show wor (wor (wand a b) (wand a c)) (wand b c)=((wor (wand a b) (wand a c))%4294967296) ||| (wand b c%4294967296)from rfl,show wxor (wxor (wand a b) (wand a c)) (wand b c)=((wxor (wand a b) (wand a c))%4294967296) ^^^ (wand b c%4294967296)from rfl,e1,e2];simp only[wor,wxor,Nat.testBit_or,Nat.testBit_xor,FN];simp only[wand,Nat.testBit_and];cases(a%4294967296).testBit i<;>cases(b%4294967296).testBit i<;>cases(c%4294967296).testBit i<;>rfl
theorem Zz (x y z t:Nat):wadd (wadd (wadd x y) z) t=wadd (wadd (wadd x z) y) t:=by unfold wadd;omega
theorem ran (a b:Nat):bits .andNot .u32 (a:Int) (b:Int)=((wandn a b:Nat):Int):=by
 have e:IntKind.u32.bits=32:=rfl
 simp only [bits,BitVec.ofInt_natCast]
 rw [<- BitVec.xor_allOnes]
 simp only [BitVec.toNat_and,BitVec.toNat_xor,BitVec.toNat_allOnes,BitVec.toNat_ofNat,e,IntKind.wrap_u32]
 have hlt:(a % 2 ^ 32) &&& ((b % 2 ^ 32) ^^^ (2 ^ 32 - 1)) < 4294967296:=Nat.and_lt_two_pow _ (n:=32) (Nat.xor_lt_two_pow (n:=32) (Nat.mod_lt _ (by decide)) (by decide))
 have hw:wandn a b=(a % 2 ^ 32) &&& ((b % 2 ^ 32) ^^^ (2 ^ 32 - 1)):=by
  unfold wandn wand
  rw [FM]
  unfold wnot
  rw [Nat.xor_comm]
 rw [hw]; omega
theorem QN {P:Program}{t:TypeId}{x y:Operand}{k:IntKind}{a b:Int}:gM P .andNot t x y (some (.int k a)) (some (.int k b))=some (.i (.s (.int k (bits .andNot k a b)))):=by simp[gM,eqGuard,Go.binOp,Op.intBits,pv,pure,bind,Sem.bind,bits,ofV]
theorem Ta (x n:Nat)(hn:n<=32):IntKind.u32.wrap ((x:Int)*2^(min n (IntKind.bits .u32)))=((wshl x (2^n):Nat):Int):=by
 have hb:IntKind.bits .u32=32:=rfl;have e:((2:Int)^n)=((2^n:Nat):Int):=by simp
 rw[show min n (IntKind.bits .u32)=n by omega,e,IntKind.wrap_u32,<- Int.natCast_mul];unfold wshl;omega
theorem oK (x n:Nat)(h1:1<=n)(h2:n<=31):
  PureD Tryz.prog 218 [.i (.s (.int .u32 (x:Int))),.i (.s (.int .i64 (n:Int)))] (.i (.s (.int .u32 ((wrot x n:Nat):Int)))):=by
 have w1:IntKind.i64.wrap (32-(n:Int))=((32-n:Nat):Int):=by rw[au (by omega) (by omega)];omega
 have w2:=zw x n .u32 (by simp[IntKind.bits];omega);have w3:=Ta x (32-n) (by omega);have w4:bits .or .u32 ((x/2^n:Nat):Int) ((wshl x (2^(32-n)):Nat):Int)=((wrot x n:Nat):Int):=by rw[ro,wrot,Sw];rfl
 generalize 32-n=m at w1 w3 w4;generalize 2^n=E at w2 w4;generalize 2^m=E' at w3 w4;refine aa 13 Tryz.func218 ?_;refine gx (an5 abX w1 w2 w3 w4) ?_;refine aA [] rfl ?_;simp[cv,cv1,cv0,upd]
def aF:=an9 @Ty.T0 @Ty.T1 @Ty.T2 @Ty.T3 @Ty.T4 @Ty.T5 @Ty.T6 @Ty.T8 (an5 @Ty.T29 @Ty.T59 @Ty.aiK @Ty.aiH @Ty.aiG)
def gV (n:Nat):List I:=[.s (.int .u32 (n:Int))]
def kF (i:Nat):List Nat:=(PR.take i).map λp=>prF p false
def iR (i:Nat):List Nat:=((PR.take i).take 8).map λp=>prF p true
theorem Ei {i:Nat}(h:i<PR.length):kF (i+1)=kF i++[prF PR[i] false]:=by unfold kF;rw[List.take_succ_eq_append_getElem h,List.map_append];rfl
theorem M_ {i:Nat}(h:i<PR.length)(h8:i<8):iR (i+1)=iR i++[prF PR[i] true]:=by unfold iR;rw[List.take_take,List.take_take,Nat.min_eq_right (by omega),Nat.min_eq_right (by omega),List.take_succ_eq_append_getElem h,List.map_append];rfl
theorem Na {i:Nat}(h8:8<=i):iR (i+1)=iR i:=by unfold iR;rw[List.take_take,List.take_take,Nat.min_eq_left (by omega),Nat.min_eq_left (by omega)]
theorem vG (l:List Nat):uni 1 (l.map gV)=true:=eG (s:=1) (f:=gV) (fun _=>rfl) l
def Kc (n:Nat):Nat:=(119-n%64)%64
theorem wq0:IntKind.i64.wrap (0+1)=1:=by decide
theorem wq1:IntKind.i64.wrap (1+1)=2:=by decide
theorem wq2:IntKind.i64.wrap (2+1)=3:=by decide
theorem wq3:IntKind.i64.wrap (3+1)=4:=by decide
theorem wq4:IntKind.i64.wrap (4+1)=5:=by decide
theorem wq5:IntKind.i64.wrap (5+1)=6:=by decide
theorem wq6:IntKind.i64.wrap (6+1)=7:=by decide
theorem wq7:IntKind.i64.wrap (7+1)=8:=by decide
def Ae (v u:V8)(k:Nat):List Nat:=[if 0<k then wadd v.a u.a else v.a,if 1<k then wadd v.b u.b else v.b,if 2<k then wadd v.c u.c else v.c,if 3<k then wadd v.d u.d else v.d,if 4<k then wadd v.e u.e else v.e,if 5<k then wadd v.f u.f else v.f,if 6<k then wadd v.g u.g else v.g,if 7<k then wadd v.h u.h else v.h]
def oN (v:V8)(k:Nat):List UInt8:=((v.list.take k).map vo).flatten
theorem xQ (v:V8)(k:Nat)(h:k<=8):(oN v k).length=4*k:=by
 have:k=0\/k=1\/k=2\/k=3\/k=4\/k=5\/k=6\/k=7\/k=8:=by omega
 rcases this with rfl|rfl|rfl|rfl|rfl|rfl|rfl|rfl|rfl<;>rfl
theorem Ez (v:V8)(k:Nat)(h:k<8):oN v (k+1)=oN v k++vo (v.list.getD k 0):=by have hl:v.list.length=8:=rfl;unfold oN;rw[List.take_succ_eq_append_getElem (by omega),List.map_append,List.flatten_append];simp[List.getD_eq_getElem?_getD,show k<v.list.length by omega]
theorem KE (v:V8):oN v 8=Zo v:=by simp[oN,Zo,V8.list]
theorem Tq (u:V8)(K W:Nat):BL u K W =
  ⟨wadd (wadd (wadd (wadd (wadd u.h (wxor (wxor (wrot u.e 6) (wrot u.e 11)) (wrot u.e 25))) (wor (wand u.f u.e) (wandn u.g u.e))) K) W) (wadd (wxor (wxor (wrot u.a 2) (wrot u.a 13)) (wrot u.a 22)) (wor (wor (wand u.a u.b) (wand u.a u.c)) (wand u.b u.c))),u.a,u.b,u.c,
   wadd u.d (wadd (wadd (wadd (wadd u.h (wxor (wxor (wrot u.e 6) (wrot u.e 11)) (wrot u.e 25))) (wor (wand u.f u.e) (wandn u.g u.e))) K) W),u.e,u.f,u.g⟩:=by
 unfold BL;rw[Qt,ZI]
theorem wad (a b:Nat):IntKind.u32.wrap ((a:Int)+(b:Int))=((wadd a b:Nat):Int):=by rw[IntKind.wrap_u32];unfold wadd;omega
theorem SK (b:List UInt8)(hb:b.length<=1099511627776):PureD Tryz.prog 171 [.i (bI b)] (.i (bI (sha b))):=by
 refine aa 302 Tryz.func171 ?_;refine gx (an aF @bI.eq_1) ?_;have hpr:=Tw;rw[abk]at hpr;refine Ka 1256 hpr (by simp[upd,noH]) rfl ?_;refine gx aF ?_;refine bO (ι:=Nat) (λi=>i<=64)
  (λi=>dP [(0,.i (.sl (b.map aH))),(39,.os 100 1 0 64),(40,.i (.s (.int .i64 64))),(41,.i (.s (.int .i64 (i:Nat)))),(4,.os 101 1 0 (kF i).length),(5,.os 102 1 0 (iR i).length)]
   [(100,.arr 1 (PR.map Lx)),(101,.arr 1 ((kF i).map gV)),(102,.arr 1 ((iR i).map gV))]) (λi=>64-i) 0 (by decide) ?_ ?_
 ·refine aj _ _ [] [(100,1256)] ?_ ?_ rfl rfl
  ·simp[cv,cv1,cv0,upd,lk,az,kF,iR]
  ·simp[aX,az,lk,cvO,frz,upd,kF,iR]
 ·intro i hi;rw[ag];refine gx aF ?_;refine aK (λh=>?_) (λh=>?_)
  ·have h1:i<64:=by simp at h;omega
   clear h;have hip:i<PR.length:=by rw[Rp];exact h1
   have hpl:=ahm _ (List.getElem_mem hip);have e1:(PR.map Lx)[i]?=some [.s (.int .u64 ((PR[i]:Nat):Int))]:=by rw[List.getElem?_map,List.getElem?_eq_getElem hip];rfl
   have hk:=Ei hip;have hh:=λh8=>M_ hip h8;have hh':=λh8=>Na (i:=i) h8;have lk1:(kF i).length=i:=by simp[kF,Rp];omega
   have lh1:(iR i).length<=8:=by simp[iR];omega
   have l1:((i:Int)<64)=True:=eq_true (by omega);have e3:(kF i).length+1<=140737488355328:=by omega
   have e4:((kF i).length+1)*4<=140737488355328:=by omega
   have e5:(iR i).length+1<=140737488355328:=by omega
   have e6:((iR i).length+1)*4<=140737488355328:=by omega
   have w1:IntKind.i64.wrap ((i:Int)+1)=((i+1:Nat):Int):=by rw[au (by omega) (by omega)];omega
   generalize PR[i]=p at hpl e1 hk hh;generalize hR:PR.map Lx=R at e1;generalize kF i=K at hk e3 e4;generalize iR i=Hl at hh hh' e5 e6
   (refine gy (an3 aF e1 l1) ?_;try intro ops hops)
   (refine fq trivial (Ww p false hpl) ?_)
   cases g8:decide ((i:Int)<8)
   ·have h8:8<=i:=by simp at g8;omega
    have hh2:=hh' h8;refine gx (an6 aF g8 e3 e4 @vG w1) ?_;refine⟨i+1,h1,aj _ _ [] [(100,100),(101,2796),(102,102)] ?_ ?_ rfl rfl,by simp;omega⟩
    ·simp[cv,cv1,cv0,upd,lk,az,hk,hh2]
    ·simp[aX,az,lk,cvO,frz,upd,hO,hk,hh2,gV,hR]
   ·have h8:i<8:=by simp at g8;omega
    have hh2:=hh h8
    (refine gy (an5 aF g8 e3 e4 @vG) ?_;try intro ops hops)
    (refine fq trivial (Ww p true hpl) ?_)
    refine gx (an5 aF e5 e6 @vG w1) ?_;refine⟨i+1,h1,aj _ _ [] [(100,100),(101,2796),(102,3308)] ?_ ?_ rfl rfl,by simp;omega⟩
    ·simp[cv,cv1,cv0,upd,lk,az,hk,hh2]
    ·simp[aX,az,lk,cvO,frz,upd,hO,hk,hh2,gV,hR]
  ·have h1:i=64:=by simp at h;omega
   subst h1;have hK:kF 64=KS:=by rw[<- abl,kF,List.take_of_length_le (by rw[Rp];exact Nat.le_refl _)]
   have hH:iR 64=V0.list:=by rw[<- abg,iR,List.take_take];rfl
   rw[hK,hH];generalize PR.map Lx=R;have hKl:KS.length=64:=rfl;have hHl:V0.list.length=8:=rfl;rw[hKl,hHl];have e3:b.length+1<=140737488355328:=by omega
   have e4:b.length<=140737488355328:=by omega
   refine gx (an4 aF e3 e4 @fB) ?_;clear hpr hi h hK hH hKl hHl;refine bO (ι:=Nat) (λj=>j<=Kc b.length)
    (λj=>dP [(0,.i (.sl (b.map aH))),(4,.os 101 1 0 64),(5,.os 102 1 0 8),(8,.os 103 1 0 (b.length+1+j))]
     [(101,.arr 1 (KS.map gV)),(102,.arr 1 (V0.list.map gV)),(103,.arr 1 ((b++128::List.replicate j 0).map aH))]) (λj=>Kc b.length-j) 0 (Nat.zero_le _) ?_ ?_
   ·refine aj _ _ [] [(101,101),(102,102),(103,3820)] ?_ ?_ rfl rfl
    ·simp[cv,cv1,cv0,upd,lk,az]
    ·simp[aX,az,lk,cvO,frz,upd,hO,aH]
   ·intro j hj;rw[ag];have r1:((b.length+1+j:Nat):Int).tmod 64=(((b.length+1+j)%64:Nat):Int):=by rw[Int.tmod_eq_emod_of_nonneg (by omega)];exact(Int.natCast_emod _ _).symm
    refine gx (an aF @r1) ?_;refine aK (λh=>?_) (λh=>?_)
    ·have h1:j<Kc b.length:=by unfold Kc at hj⊢;simp at h;omega
     clear h;have e3:b.length+1+j+1<=140737488355328:=by unfold Kc at h1;omega
     have e7:b.length+(j+1)=b.length+1+j:=by omega
     refine gx (an4 aF e3 e7 @fB) ?_;refine⟨j+1,h1,aj _ _ [] [(101,101),(102,102),(103,4330)] ?_ ?_ rfl rfl,by simp;omega⟩
     ·simp[cv,cv1,cv0,upd,lk,az];omega
     ·simp[aX,az,lk,cvO,frz,upd,hO,aH,List.replicate_succ']
    ·have h1:j=Kc b.length:=by unfold Kc at hj⊢;simp at h;omega
     subst h1;clear h hj r1;have hN:(b.length*8)%18446744073709551616=b.length*8:=Nat.mod_eq_of_lt (by omega);have w1:IntKind.u64.wrap (b.length:Int)=(b.length:Int):=by rw[IntKind.wrap_u64];omega
     have w2:IntKind.u64.wrap (8*(b.length:Int))=((b.length*8:Nat):Int):=by rw[IntKind.wrap_u64];omega
     have hz:Kc b.length<64:=Nat.mod_lt _ (by decide);have hpad:oG b.length=128::(List.replicate (Kc b.length) 0++fF (b.length*8)):=by rw[oG,hN];rfl
     have hlen:b.length+1+Kc b.length+8=64*((b.length+(oG b.length).length)/64):=by rw[ny];unfold Kc;omega
     have hsha:sha b=Zo (cK V0 ((b.length+(oG b.length).length)/64) (b++128::(List.replicate (Kc b.length) 0++fF (b.length*8)))):=by rw[<- hpad];rfl
     rw[hsha];clear hsha hpad hN;generalize(b.length+(oG b.length).length)/64=J at hlen⊢;generalize Kc b.length=z at hz hlen⊢;generalize hNN:b.length*8=N at w2⊢;refine gx (an3 aF w1 w2) ?_;refine bO (ι:=Nat) (λt=>t<=8)
      (λt=>dP [(4,.os 101 1 0 64),(5,.os 102 1 0 8),(8,.os 103 1 0 (b.length+1+z+t)),(9,.i (.s (.int .u64 (N:Nat)))),(10,.i (.s (.int .i64 (7-(t:Int)))))]
       [(101,.arr 1 (KS.map gV)),(102,.arr 1 (V0.list.map gV)),(103,.arr 1 ((b++128::(List.replicate z 0++(fF N).take t)).map aH))]) (λt=>8-t) 0 (Nat.zero_le _) ?_ ?_
     ·refine aj _ _ [] [(101,101),(102,102),(103,103)] ?_ ?_ rfl rfl
      ·simp[cv,cv1,cv0,upd,lk,az]
      ·simp[aX,az,lk,cvO,frz,upd,hO,aH]
     ·intro t ht;rw[ag];refine gx aF ?_;refine aK (λh=>?_) (λh=>?_)
      ·have h1:t<8:=by simp at h;omega
       clear h;have hg:=JF N t h1;have hts:=nT hg;have e7:(7:Int)-(t:Int)=((7-t:Nat):Int):=by omega
       have w3:IntKind.i64.wrap (8*((7-t:Nat):Int))=((8*(7-t):Nat):Int):=by rw[au (by omega) (by omega)];omega
       have w4:=sG (k:=.u64) N (7-t) (by simp[IntKind.bits];omega);have w5:IntKind.i64.wrap (((7-t:Nat):Int)-1)=7-((t+1:Nat):Int):=by rw[au (by omega) (by omega)];omega
       have hl8:(fF N).length=8:=rfl;have e3:b.length+1+z+t+1<=140737488355328:=by omega
       have e8:b.length+(z+(min t (fF N).length)+1)=b.length+1+z+t:=by rw[hl8];omega
       generalize aQ N (256^(7-t))=c at hts w4;generalize 7-t=d at e7 w3 w4 w5;generalize fF N=B8 at hts e8 hl8;refine gx (an9 aF e7 w3 w4 w5 e3 e8 @fB @List.length_take.{0}) ?_;refine⟨t+1,h1,aj _ _ [] [(101,101),(102,102),(103,5615)] ?_ ?_ rfl rfl,by simp;omega⟩
       ·simp[cv,cv1,cv0,upd,lk,az];omega
       ·simp[aX,az,lk,cvO,frz,upd,hO,aH,hts]
      ·have h1:t=8:=by simp at h;omega
       subst h1;have hM:(b++128::(List.replicate z 0++fF N)).length=64*J:=by rw[<- hlen];simp[fF];omega
       rw[show(fF N).take 8=fF N from rfl,hlen];generalize b++128::(List.replicate z 0++fF N)=M at hM⊢;have hJ:J<=17179869190:=by omega
       clear hlen hz w1 w2 hNN ht h hb e3 e4;refine gx aF ?_;refine bO (ι:=Nat) (λk=>k<=J)
        (λk=>dP [(4,.os 101 1 0 64),(5,.os 102 1 0 8),(8,.os 103 1 0 (64*J)),(11,.i (.s (.int .i64 ((64*k:Nat):Int))))]
         [(101,.arr 1 (KS.map gV)),(102,.arr 1 ((cK V0 k M).list.map gV)),(103,.arr 1 (M.map aH))]) (λk=>J-k) 0 (Nat.zero_le _) ?_ ?_
       ·refine aj _ _ [] [(101,101),(102,102),(103,103)] ?_ ?_ rfl rfl
        ·simp[cv,cv1,cv0,upd,lk,az]
        ·simp[aX,az,lk,cvO,frz,upd,hO,cK]
       ·intro k hk;rw[ag];refine gx aF ?_;refine aK (λh=>?_) (λh=>?_)
        ·have h1:k<J:=by simp at h;omega
         clear h;have hbs:=tX k V0 M;have hblk:∀i,i<64->∃c:UInt8,M[64*k+i]?=some c/\c.toNat=bnth ((M.drop (64*k)).take 64) i:=by
          intro i hi;have hlt:64*k+i<M.length:=by omega
          refine⟨M[64*k+i],by simp[hlt],?_⟩;rw[AV (by simp;omega)];simp
         generalize(M.drop (64*k)).take 64=blk at hbs hblk;generalize cK V0 k M=v at hbs;refine gx aF ?_;refine bO (ι:=Nat) (λi=>i<=64)
          (λi=>dP [(4,.os 101 1 0 64),(5,.os 102 1 0 8),(8,.os 103 1 0 (64*J)),(11,.i (.s (.int .i64 ((64*k:Nat):Int)))),(12,.os 104 1 0 i),(13,.i (.s (.int .i64 (i:Nat))))]
           [(101,.arr 1 (KS.map gV)),(102,.arr 1 (v.list.map gV)),(103,.arr 1 (M.map aH)),(104,.arr 1 ((sched blk i).map gV))]) (λi=>64-i) 0 (Nat.zero_le _) ?_ ?_
         ·refine aj _ _ [] [(101,101),(102,102),(103,103)] ?_ ?_ rfl rfl
          ·simp[cv,cv1,cv0,upd,lk,az]
          ·simp[aX,az,lk,cvO,frz,upd,hO,sched]
         ·intro i hi;rw[ag];refine gx aF ?_;refine aK (λh=>?_) (λh=>?_)
          ·have h2:i<64:=by simp at h;omega
           clear h;have hsl:=mX blk i;have hss:sched blk (i+1)=sched blk i++[if i<16 then wordAt blk (4*i)else KH (sched blk i) i]:=rfl;have w9:IntKind.i64.wrap ((i:Int)+1)=((i+1:Nat):Int):=by rw[au (by omega) (by omega)];omega
           have e3:i+1<=140737488355328:=by omega
           have e4:(i+1)*4<=140737488355328:=by omega
           refine gx aF ?_;refine aK (λh=>?_) (λh=>?_)
           ·have h3:i<16:=by simp at h;omega
            clear h;rw[if_pos h3,Kh]at hss;have hby:∀t,t<4->∃c:UInt8,M[64*k+4*i+t]?=some c/\c.toNat=bnth blk (4*i+t):=by intro t ht;have:=hblk (4*i+t) (by omega);rwa[<- Nat.add_assoc]at this
            have w1:IntKind.i64.wrap (4*(i:Int))=((4*i:Nat):Int):=by rw[au (by omega) (by omega)];omega
            have w2:IntKind.i64.wrap (((64*k:Nat):Int)+((4*i:Nat):Int))=((64*k+4*i:Nat):Int):=by rw[au (by omega) (by omega)];omega
            have w3:IntKind.i64.wrap (((64*k+4*i:Nat):Int)+4)=((64*k+4*i+4:Nat):Int):=by rw[au (by omega) (by omega)];omega
            have hol:64*k+4*i+4<=64*J:=by omega
            generalize 64*k+4*i=o at w2 w3 hol hby;have l1:((o:Int)<=((o+4:Nat):Int))=True:=eq_true (by omega);have l2:(((o+4:Nat):Int)<=((64*J:Nat):Int))=True:=eq_true (by omega);have s1:o+4-o=4:=by omega
            refine gx (an7 aF w1 w2 w3 l1 l2 @s1) ?_;refine bO (ι:=Nat) (λt=>t<=4)
             (λt=>dP [(4,.os 101 1 0 64),(5,.os 102 1 0 8),(8,.os 103 1 0 (64*J)),(11,.i (.s (.int .i64 ((64*k:Nat):Int)))),(12,.os 104 1 0 i),(13,.i (.s (.int .i64 (i:Nat)))),(14,.i (.s (.int .u32 (hor blk (4*i) t:Nat)))),(109,.os 103 1 o 4),(110,.i (.s (.int .i64 4))),(111,.i (.s (.int .i64 (t:Nat))))]
              [(101,.arr 1 (KS.map gV)),(102,.arr 1 (v.list.map gV)),(103,.arr 1 (M.map aH)),(104,.arr 1 ((sched blk i).map gV))]) (λt=>4-t) 0 (Nat.zero_le _) ?_ ?_
            ·refine aj _ _ [] [(101,101),(102,102),(103,103),(104,104)] ?_ ?_ rfl rfl
             ·simp[cv,cv1,cv0,upd,lk,az,hor]
             ·simp[aX,az,lk,cvO,frz,upd,hO]
            ·intro t ht;rw[ag];refine gx aF ?_;refine aK (λh=>?_) (λh=>?_)
             ·have h4:t<4:=by simp at h;omega
              clear h;obtain⟨c,hc1,hc2⟩:=hby t h4;have hx:=Cz blk (4*i) t;have hx3:hor blk (4*i) t<16777216:=Nat.lt_of_lt_of_le hx (show 256^t<=256^3 from Nat.pow_le_pow_right (by decide) (by omega));have hs:hor blk (4*i) (t+1)=hor blk (4*i) t*256+c.toNat:=by rw[hor,hc2]
              have hcl:=c.toNat_lt;have ec:(M.map aH)[o+t]?=some [.s (.int .u8 (c.toNat:Int))]:=by simp[hc1,aH]
              have l3:((t:Int)<4)=True:=eq_true (by omega);have w4:IntKind.i64.wrap ((t:Int)+1)=((t+1:Nat):Int):=by rw[au (by omega) (by omega)];omega
              have w7:IntKind.u32.wrap (c.toNat:Int)=(c.toNat:Int):=by rw[IntKind.wrap_u32];omega
              generalize hor blk (4*i) t=x at hx3 hs;have w5:IntKind.u32.wrap ((x:Int)*256)=((x*256:Nat):Int):=by rw[IntKind.wrap_u32];omega
              have w6:IntKind.u32.wrap (((x*256:Nat):Int)+(c.toNat:Int))=((x*256+c.toNat:Nat):Int):=by rw[IntKind.wrap_u32];omega
              refine gx (an7 aF @ec l3 w4 w5 w6 w7) ?_;refine⟨t+1,h4,aj _ _ [] [(101,101),(102,102),(103,103),(104,104)] ?_ ?_ rfl rfl,by simp;omega⟩
              ·simp[cv,cv1,cv0,upd,lk,az,hs]
              ·simp[aX,az,lk,cvO,frz,upd,hO]
             ·have h4:t=4:=by simp at h;omega
              subst h4;clear h hby;generalize hor blk (4*i) 4=x at hss;refine gx (an6 aF e3 e4 @vG @hsl w9) ?_;refine⟨i+1,h2,aj _ _ [] [(101,101),(102,102),(103,103),(104,9451)] ?_ ?_ rfl rfl,by simp;omega⟩
              ·simp[cv,cv1,cv0,upd,lk,az]
              ·simp[aX,az,lk,cvO,frz,upd,hO,hss,gV]
           ·have h3:16<=i:=by simp at h;omega
            clear h;rw[if_neg (by omega)]at hss;generalize sched blk i=l at hss hsl;have hget:∀d,1<=d->d<=16->(l.map gV)[i-d]?=some [.s (.int .u32 ((l.getD (i-d) 0:Nat):Int))]:=by
             intro d h1 h2;have hlt:i-d<l.length:=by omega
             simp[hlt,gV]
            have g15:=hget 15 (by omega) (by omega);have g2:=hget 2 (by omega) (by omega);have g16:=hget 16 (by omega) (by omega);have g7:=hget 7 (by omega) (by omega);have w15:IntKind.i64.wrap ((i:Int)-15)=((i-15:Nat):Int):=by rw[au (by omega) (by omega)];omega
            have w2:IntKind.i64.wrap ((i:Int)-2)=((i-2:Nat):Int):=by rw[au (by omega) (by omega)];omega
            have w16:IntKind.i64.wrap ((i:Int)-16)=((i-16:Nat):Int):=by rw[au (by omega) (by omega)];omega
            have w7:IntKind.i64.wrap ((i:Int)-7)=((i-7:Nat):Int):=by rw[au (by omega) (by omega)];omega
            have l15:(((i-15:Nat):Int)<(i:Int))=True:=eq_true (by omega);have l2:(((i-2:Nat):Int)<(i:Int))=True:=eq_true (by omega);have l16:(((i-16:Nat):Int)<(i:Int))=True:=eq_true (by omega);have l7:(((i-7:Nat):Int)<(i:Int))=True:=eq_true (by omega);have hv:KH l i=wadd (wadd (wadd (l.getD (i-16) 0) (sgA (l.getD (i-15) 0))) (l.getD (i-7) 0)) (sgB (l.getD (i-2) 0)):=by unfold KH;exact Zz _ _ _ _
            rw[hv]at hss;clear hget hv;generalize l.getD (i-15) 0=x at hss g15;generalize l.getD (i-2) 0=y at hss g2;generalize l.getD (i-16) 0=p at hss g16;generalize l.getD (i-7) 0=q at hss g7;unfold sgA sgB at hss;generalize i-15=i15 at*;generalize i-2=i2 at*;generalize i-16=i16 at*;generalize i-7=i7 at*;have sx:(x:Int).fdiv (2^min 3 (IntKind.bits .u32))=((wshr x 8:Nat):Int):=zw x 3 .u32 (by decide);have sy:(y:Int).fdiv (2^min 10 (IntKind.bits .u32))=((wshr y 1024:Nat):Int):=zw y 10 .u32 (by decide)
            (refine gy (an9 aF @g15 g2 @g16 @w15 w2 @w16 @l15 (an l2 @l16)) ?_;try intro ops hops)
            (refine fq trivial (oK x 7 (by decide) (by decide)) ?_)
            (refine gy aF ?_;try intro ops hops)
            (refine fq trivial (oK x 18 (by decide) (by decide)) ?_)
            (refine gy (an7 aF @rx @sx @wad g7 w7 l7) ?_;try intro ops hops)
            (refine fq trivial (oK y 17 (by decide) (by decide)) ?_)
            (refine gy aF ?_;try intro ops hops)
            (refine fq trivial (oK y 19 (by decide) (by decide)) ?_)
            refine gx (an9 aF @rx @sy @wad e3 e4 @vG @hsl w9) ?_;refine⟨i+1,h2,aj _ _ [] [(101,101),(102,102),(103,103),(104,9991)] ?_ ?_ rfl rfl,by simp;omega⟩
            ·simp[cv,cv1,cv0,upd,lk,az]
            ·simp[aX,az,lk,cvO,frz,upd,hO,hss,gV]
          ·have h2:i=64:=by simp at h;omega
           subst h2;clear h;have hWl:=mX blk 64;have hblock:wY v blk=⟨wadd v.a (roundsTo v (sched blk 64) 64).a,wadd v.b (roundsTo v (sched blk 64) 64).b,wadd v.c (roundsTo v (sched blk 64) 64).c,wadd v.d (roundsTo v (sched blk 64) 64).d,wadd v.e (roundsTo v (sched blk 64) 64).e,wadd v.f (roundsTo v (sched blk 64) 64).f,wadd v.g (roundsTo v (sched blk 64) 64).g,wadd v.h (roundsTo v (sched blk 64) 64).h⟩:=rfl;rw[hblock]at hbs;clear hblk hblock hi;generalize sched blk 64=W at hWl hbs⊢;refine gx (an3 aF @V8.list.eq_1 @gV.eq_1) ?_;refine bO (ι:=Nat) (λt=>t<=64)
            (λt=>dP [(4,.os 101 1 0 64),(5,.os 102 1 0 8),(8,.os 103 1 0 (64*J)),(11,.i (.s (.int .i64 ((64*k:Nat):Int)))),(12,.os 104 1 0 64),
             (19,.i (.s (.int .u32 ((roundsTo v W t).a:Nat)))),(20,.i (.s (.int .u32 ((roundsTo v W t).b:Nat)))),(21,.i (.s (.int .u32 ((roundsTo v W t).c:Nat)))),(22,.i (.s (.int .u32 ((roundsTo v W t).d:Nat)))),
             (23,.i (.s (.int .u32 ((roundsTo v W t).e:Nat)))),(24,.i (.s (.int .u32 ((roundsTo v W t).f:Nat)))),(25,.i (.s (.int .u32 ((roundsTo v W t).g:Nat)))),(26,.i (.s (.int .u32 ((roundsTo v W t).h:Nat)))),(27,.i (.s (.int .i64 (t:Nat))))]
             [(101,.arr 1 (KS.map gV)),(102,.arr 1 (v.list.map gV)),(103,.arr 1 (M.map aH)),(104,.arr 1 (W.map gV))]) (λt=>64-t) 0 (Nat.zero_le _) ?_ ?_
           ·refine aj _ _ [] [(101,101),(102,102),(103,103),(104,104)] ?_ ?_ rfl rfl
            ·simp[cv,cv1,cv0,upd,lk,az,roundsTo]
            ·simp[aX,az,lk,cvO,frz,upd,hO,V8.list,gV]
           ·intro t ht;rw[ag];refine gx aF ?_;refine aK (λh=>?_) (λh=>?_)
            ·have h2:t<64:=by simp at h;omega
             clear h;have hs:roundsTo v W (t+1)=BL (roundsTo v W t) (KS.getD t 0) (W.getD t 0):=rfl;rw[Tq]at hs;have hKl:KS.length=64:=rfl;have gK:(KS.map gV)[t]?=some [.s (.int .u32 ((KS.getD t 0:Nat):Int))]:=by simp[show t<KS.length by omega,gV]
             have gW:(W.map gV)[t]?=some [.s (.int .u32 ((W.getD t 0:Nat):Int))]:=by simp[show t<W.length by omega,gV]
             have l1:((t:Int)<64)=True:=eq_true (by omega);have w1:IntKind.i64.wrap ((t:Int)+1)=((t+1:Nat):Int):=by rw[au (by omega) (by omega)];omega
             generalize roundsTo v W t=u at hs;generalize KS.getD t 0=Kt at hs gK;generalize W.getD t 0=Wt at hs gW;generalize hKK:KS.map gV=KK at gK;obtain⟨a,b',c,d,e,f,g,h'⟩:=u;simp only at hs
             (refine gy (an5 aF @QN @ran @ra @ro) ?_;try intro ops hops)
             (refine fq trivial (oK e 6 (by decide) (by decide)) ?_)
             (refine gy aF ?_;try intro ops hops)
             (refine fq trivial (oK e 11 (by decide) (by decide)) ?_)
             (refine gy (an aF @rx) ?_;try intro ops hops)
             (refine fq trivial (oK e 25 (by decide) (by decide)) ?_)
             (refine gy (an6 aF @rx @wad @gK @gW l1) ?_;try intro ops hops)
             (refine fq trivial (oK a 2 (by decide) (by decide)) ?_)
             (refine gy aF ?_;try intro ops hops)
             (refine fq trivial (oK a 13 (by decide) (by decide)) ?_)
             (refine gy (an aF @rx) ?_;try intro ops hops)
             (refine fq trivial (oK a 22 (by decide) (by decide)) ?_)
             refine gx (an4 aF @rx @wad w1) ?_;refine⟨t+1,h2,aj _ _ [] [(101,101),(102,102),(103,103),(104,104)] ?_ ?_ rfl rfl,by simp;omega⟩
             ·simp[cv,cv1,cv0,upd,lk,az,hs]
             ·simp[aX,az,lk,cvO,frz,upd,hO,hKK]
            ·have h2:t=64:=by simp at h;omega
             subst h2;clear h ht;generalize roundsTo v W 64=u at hbs⊢;refine gx (an aF @gV.eq_1) ?_;refine bO (ι:=Nat) (λq=>q<=8)
              (λq=>dP [(4,.os 101 1 0 64),(5,.os 102 1 0 8),(8,.os 103 1 0 (64*J)),(11,.i (.s (.int .i64 ((64*k:Nat):Int)))),(265,.os 105 1 0 8),(266,.i (.s (.int .i64 8))),(267,.i (.s (.int .i64 (q:Nat))))]
               [(101,.arr 1 (KS.map gV)),(102,.arr 1 ((Ae v u q).map gV)),(103,.arr 1 (M.map aH)),(105,.arr 1 (u.list.map gV))]) (λq=>8-q) 0 (Nat.zero_le _) ?_ ?_
             ·refine aj _ _ [] [(101,101),(102,102),(103,103),(105,13552)] ?_ ?_ rfl rfl
              ·simp[cv,cv1,cv0,upd,lk,az]
              ·simp[aX,az,lk,cvO,frz,upd,hO,V8.list,gV,Ae]
             ·intro q hq;rw[ag];have hc:q=0\/q=1\/q=2\/q=3\/q=4\/q=5\/q=6\/q=7\/q=8:=by omega
              generalize hKK:KS.map gV=KK;by_cases h8:q=8
              ·subst h8;have w1:IntKind.i64.wrap (((64*k:Nat):Int)+64)=((64*(k+1):Nat):Int):=by rw[au (by omega) (by omega)];omega
               refine gx (an aF w1) ?_;refine⟨k+1,h1,aj _ _ [] [(101,101),(102,102),(103,103)] ?_ ?_ rfl rfl,by simp;omega⟩
               ·simp[cv,cv1,cv0,upd,lk,az]
               ·simp[aX,az,lk,cvO,frz,upd,hO,hbs,Ae,V8.list,hKK,gV]
              ·rcases hc with rfl|rfl|rfl|rfl|rfl|rfl|rfl|rfl|rfl
               ·refine gx (an8 aF @Ae.eq_1 @V8.list.eq_1 @gV.eq_1 @wad @List.set_cons_zero.{0} @List.set_cons_succ.{0} @wq0) ?_;refine⟨1,by decide,aj _ _ [] [(101,101),(102,102),(103,103),(105,105)] ?_ ?_ rfl rfl,by decide⟩
                ·simp[cv,cv1,cv0,upd,lk,az]
                ·simp[aX,az,lk,cvO,frz,upd,hO,Ae,V8.list,hKK,gV]
               ·refine gx (an8 aF @Ae.eq_1 @V8.list.eq_1 @gV.eq_1 @wad @List.set_cons_zero.{0} @List.set_cons_succ.{0} @wq1) ?_;refine⟨2,by decide,aj _ _ [] [(101,101),(102,102),(103,103),(105,105)] ?_ ?_ rfl rfl,by decide⟩
                ·simp[cv,cv1,cv0,upd,lk,az]
                ·simp[aX,az,lk,cvO,frz,upd,hO,Ae,V8.list,hKK,gV]
               ·refine gx (an8 aF @Ae.eq_1 @V8.list.eq_1 @gV.eq_1 @wad @List.set_cons_zero.{0} @List.set_cons_succ.{0} @wq2) ?_;refine⟨3,by decide,aj _ _ [] [(101,101),(102,102),(103,103),(105,105)] ?_ ?_ rfl rfl,by decide⟩
                ·simp[cv,cv1,cv0,upd,lk,az]
                ·simp[aX,az,lk,cvO,frz,upd,hO,Ae,V8.list,hKK,gV]
               ·refine gx (an8 aF @Ae.eq_1 @V8.list.eq_1 @gV.eq_1 @wad @List.set_cons_zero.{0} @List.set_cons_succ.{0} @wq3) ?_;refine⟨4,by decide,aj _ _ [] [(101,101),(102,102),(103,103),(105,105)] ?_ ?_ rfl rfl,by decide⟩
                ·simp[cv,cv1,cv0,upd,lk,az]
                ·simp[aX,az,lk,cvO,frz,upd,hO,Ae,V8.list,hKK,gV]
               ·refine gx (an8 aF @Ae.eq_1 @V8.list.eq_1 @gV.eq_1 @wad @List.set_cons_zero.{0} @List.set_cons_succ.{0} @wq4) ?_;refine⟨5,by decide,aj _ _ [] [(101,101),(102,102),(103,103),(105,105)] ?_ ?_ rfl rfl,by decide⟩
                ·simp[cv,cv1,cv0,upd,lk,az]
                ·simp[aX,az,lk,cvO,frz,upd,hO,Ae,V8.list,hKK,gV]
               ·refine gx (an8 aF @Ae.eq_1 @V8.list.eq_1 @gV.eq_1 @wad @List.set_cons_zero.{0} @List.set_cons_succ.{0} @wq5) ?_;refine⟨6,by decide,aj _ _ [] [(101,101),(102,102),(103,103),(105,105)] ?_ ?_ rfl rfl,by decide⟩
                ·simp[cv,cv1,cv0,upd,lk,az]
                ·simp[aX,az,lk,cvO,frz,upd,hO,Ae,V8.list,hKK,gV]
               ·refine gx (an8 aF @Ae.eq_1 @V8.list.eq_1 @gV.eq_1 @wad @List.set_cons_zero.{0} @List.set_cons_succ.{0} @wq6) ?_;refine⟨7,by decide,aj _ _ [] [(101,101),(102,102),(103,103),(105,105)] ?_ ?_ rfl rfl,by decide⟩
                ·simp[cv,cv1,cv0,upd,lk,az]
                ·simp[aX,az,lk,cvO,frz,upd,hO,Ae,V8.list,hKK,gV]
               ·refine gx (an8 aF @Ae.eq_1 @V8.list.eq_1 @gV.eq_1 @wad @List.set_cons_zero.{0} @List.set_cons_succ.{0} @wq7) ?_;refine⟨8,by decide,aj _ _ [] [(101,101),(102,102),(103,103),(105,105)] ?_ ?_ rfl rfl,by decide⟩
                ·simp[cv,cv1,cv0,upd,lk,az]
                ·simp[aX,az,lk,cvO,frz,upd,hO,Ae,V8.list,hKK,gV]
               ·exact absurd rfl h8
        ·have h1:k=J:=by simp at h;omega
         subst h1;clear h;generalize cK V0 k M=v;refine gx aF ?_;clear hM hJ hk;refine bO (ι:=Nat) (λq=>q<=8)
          (λq=>dP [(34,.os 106 1 0 (4*q)),(282,.os 102 1 0 8),(283,.i (.s (.int .i64 8))),(284,.i (.s (.int .i64 (q:Nat))))]
           [(102,.arr 1 (v.list.map gV)),(106,.arr 1 ((oN v q).map aH))]) (λq=>8-q) 0 (Nat.zero_le _) ?_ ?_
         ·refine aj _ _ [] [(102,102)] ?_ ?_ rfl rfl
          ·simp[cv,cv1,cv0,upd,lk,az]
          ·simp[aX,az,lk,cvO,frz,upd,hO,oN]
         ·intro q hq;rw[ag];refine gx aF ?_;refine aK (λh=>?_) (λh=>?_)
          ·have h2:q<8:=by simp at h;omega
           clear h;have hol:=xQ v q hq;have hos:=Ez v q h2;have hvl:v.list.length=8:=rfl;have gq:(v.list.map gV)[q]?=some [.s (.int .u32 ((v.list.getD q 0:Nat):Int))]:=by simp[show q<v.list.length by omega,gV]
           have l1:((q:Int)<8)=True:=eq_true (by omega);generalize v.list.getD q 0=x at hos gq;generalize oN v q=ob at hol hos;generalize hVL:v.list.map gV=VL at gq;refine gx (an3 aF @gq l1) ?_;refine bO (ι:=Nat) (λt=>t<=4)
            (λt=>dP [(34,.os 106 1 0 (4*q+t)),(36,.i (.s (.int .u32 (x:Nat)))),(37,.i (.s (.int .i64 (3-(t:Int))))),(282,.os 102 1 0 8),(283,.i (.s (.int .i64 8))),(284,.i (.s (.int .i64 (q:Nat))))]
             [(102,.arr 1 VL),(106,.arr 1 ((ob++(vo x).take t).map aH))]) (λt=>4-t) 0 (Nat.zero_le _) ?_ ?_
           ·refine aj _ _ [] [(102,102),(106,106)] ?_ ?_ rfl rfl
            ·simp[cv,cv1,cv0,upd,lk,az]
            ·simp[aX,az,lk,cvO,frz,upd,hO]
           ·intro t ht;rw[ag];refine gx aF ?_;refine aK (λh=>?_) (λh=>?_)
            ·have h1:t<4:=by simp at h;omega
             clear h;have hts:=nT (Vu x t h1);have e7:(3:Int)-(t:Int)=((3-t:Nat):Int):=by omega
             have w3:IntKind.i64.wrap (8*((3-t:Nat):Int))=((8*(3-t):Nat):Int):=by rw[au (by omega) (by omega)];omega
             have w4:=sG (k:=.u32) x (3-t) (by simp[IntKind.bits];omega);have w5:IntKind.i64.wrap (((3-t:Nat):Int)-1)=3-((t+1:Nat):Int):=by rw[au (by omega) (by omega)];omega
             have hl8:(vo x).length=4:=rfl;have e3:4*q+t+1<=140737488355328:=by omega
             have e8:ob.length+min t (vo x).length=4*q+t:=by rw[hl8];omega
             generalize aQ x (256^(3-t))=c at hts w4;generalize 3-t=d at e7 w3 w4 w5;generalize vo x=B4 at hts e8 hl8;refine gx (an9 aF e7 w3 w4 w5 e3 e8 @fB @List.length_take.{0}) ?_;refine⟨t+1,h1,aj _ _ [] [(102,102),(106,16623)] ?_ ?_ rfl rfl,by simp;omega⟩
             ·simp[cv,cv1,cv0,upd,lk,az];omega
             ·simp[aX,az,lk,cvO,frz,upd,hO,aH,hts]
            ·have h1:t=4:=by simp at h;omega
             subst h1;have w1:IntKind.i64.wrap ((q:Int)+1)=((q+1:Nat):Int):=by rw[au (by omega) (by omega)];omega
             rw[show(vo x).take 4=vo x from rfl,<- hos];refine gx (an aF w1) ?_;refine⟨q+1,h2,aj _ _ [] [(102,102),(106,106)] ?_ ?_ rfl rfl,by simp;omega⟩
             ·simp[cv,cv1,cv0,upd,lk,az];omega
             ·simp[aX,az,lk,cvO,frz,upd,hO,hVL]
          ·have h2:q=8:=by simp at h;omega
           subst h2;have hol:=xQ v 8 (Nat.le_refl _);rw[<- KE];generalize oN v 8=ob at hol;refine gx aF ?_;refine aA [106] rfl ?_;have hof:List.take 32 (ob.map aH)=ob.map aH:=List.take_of_length_le (by simp;omega);simp[cv,cv1,cv0,upd,hO,lk,aO,hol,hof]
end Go.Proofs.YtdmeldhlbpdeeaaGreatDoor
