/- Merged texts: R1A, R1S, R1Sum. -/
import Derived.Test.YtoifllbioldomaaGreatDoorGDiv
set_option linter.all false
set_option maxHeartbeats 8000000
set_option maxRecDepth 100000
namespace Go.Proofs.YtoifllbioldomaaGreatDoor
open Go Go.Abs Go.RowKit Go.Proofs.YtoifllbioldomaaGreatDoor.Ty
def mI:=@Ty.T22
def Bj:=an4 @Ty.T3 @Ty.T4 @Ty.T22 @Ty.ahA
def qw:=an4 @Ty.T1 @Ty.T3 @Ty.T22 @Ty.ahx
def yN (x p:Nat)(two:Bool):Bool :=
 if two then decide ((p:Int)<(x*x/18446744073709551616:Nat))||(decide (((x*x/18446744073709551616:Nat):Int)=(p:Int))&&decide ((0:Int)<(x*x%18446744073709551616:Nat)))
 else
  let h:=x*x/18446744073709551616;let l:=x*x%18446744073709551616;let a:=l*x/18446744073709551616;let b:=l*x%18446744073709551616;let c:=h*x/18446744073709551616;let d:=h*x%18446744073709551616;let mid:=(a+d+0)%18446744073709551616;let top:=(c+(a+d+0)/18446744073709551616)%18446744073709551616;let wt:=p/4294967296;let wm:=p*4294967296%18446744073709551616;decide ((wt:Int)<(top:Int))||(decide ((top:Int)=(wt:Int))&&(decide ((wm:Int)<(mid:Int))||(decide ((mid:Int)=(wm:Int))&&decide ((0:Int)<(b:Int)))))
theorem afj (a:Nat):IntKind.u64.wrap ((a:Int)*2^min 32 (IntKind.bits .u64))=((a*4294967296%18446744073709551616:Nat):Int):=by rw[show min 32 (IntKind.bits .u64)=32 from rfl,IntKind.wrap_u64];omega
theorem aah (x p:Nat)(two:Bool)(hx:x<18446744073709551616)(hp:p<18446744073709551616):
  PureD Tryz.prog 274 [.i (.s (.int .u64 (x:Int))),.i (.s (.int .u64 (p:Int))),.i (.s (.bool two))] (.i (.s (.bool (yN x p two)))):=by
 generalize hq:yN x p two=q;refine aa 84 Tryz.func274 ?_
 (refine gy mI ?_;try intro ops hops)
 (refine fq trivial (zW x x hx hx) ?_)
 cases two with
 |true =>
  unfold yN at hq;rw[if_pos rfl]at hq;generalize x*x/18446744073709551616=h at hq;generalize x*x%18446744073709551616=l at hq;cases g1:decide ((p:Int)<(h:Int))
  ·cases g2:decide ((h:Int)=(p:Int))
   ·refine gx (an3 mI g1 g2) ?_;refine au [] rfl ?_;rw[g1,g2]at hq;simp[cv,cv1,cv0,upd,<- hq]
   ·cases g3:decide ((0:Int)<(l:Int)) <;>
    ·refine gx (an4 mI g1 g2 g3) ?_;refine au [] rfl ?_;rw[g1,g2,g3]at hq;simp[cv,cv1,cv0,upd,<- hq]
  ·refine gx (an mI g1) ?_;refine au [] rfl ?_;rw[g1]at hq;simp[cv,cv1,cv0,upd,<- hq]
 |false =>
  unfold yN at hq;simp only[Bool.false_eq_true,if_false]at hq;have hh:x*x/18446744073709551616<18446744073709551616:=Nat.div_lt_of_lt_mul (Nat.mul_lt_mul'' hx hx);have hl:x*x%18446744073709551616<18446744073709551616:=Nat.mod_lt _ (by decide);generalize x*x/18446744073709551616=h at hq hh;generalize x*x%18446744073709551616=l at hq hl
  (refine gy mI ?_;try intro ops hops)
  (refine fq trivial (zW l x hl hx) ?_)
  have ha:l*x/18446744073709551616<18446744073709551616:=Nat.div_lt_of_lt_mul (Nat.mul_lt_mul'' hl hx);generalize l*x/18446744073709551616=a at hq ha;generalize l*x%18446744073709551616=b at hq
  (refine gy mI ?_;try intro ops hops)
  (refine fq trivial (zW h x hh hx) ?_)
  have hd:h*x%18446744073709551616<18446744073709551616:=Nat.mod_lt _ (by decide);generalize h*x/18446744073709551616=c at hq;generalize h*x%18446744073709551616=d at hq hd;refine gx mI ?_;refine jH (AV a d 0 ha hd (by decide)) ?_;have w1:IntKind.u64.wrap ((c:Int)+(((a+d+0)/18446744073709551616:Nat):Int))=(((c+(a+d+0)/18446744073709551616)%18446744073709551616:Nat):Int):=by rw[IntKind.wrap_u64];omega
  generalize(c+(a+d+0)/18446744073709551616)%18446744073709551616=top at hq w1;generalize(a+d+0)%18446744073709551616=mid at hq;generalize(a+d+0)/18446744073709551616=carry at w1;have w2:=afj p;have w3:=Sk p;generalize p*4294967296%18446744073709551616=wm at hq w2;generalize p/4294967296=wt at hq w3;cases g1:decide ((wt:Int)<(top:Int))
  ·cases g2:decide ((top:Int)=(wt:Int))
   ·refine gx (an6 mI w1 w2 w3 g1 g2) ?_;refine au [] rfl ?_;rw[g1,g2]at hq;simp[cv,cv1,cv0,upd,<- hq]
   ·cases g3:decide ((wm:Int)<(mid:Int))
    ·cases g4:decide ((mid:Int)=(wm:Int))
     ·refine gx (an8 mI w1 w2 w3 g1 g2 g3 g4) ?_;refine au [] rfl ?_;rw[g1,g2,g3,g4]at hq;simp[cv,cv1,cv0,upd,<- hq]
     ·cases g5:decide ((0:Int)<(b:Int)) <;>
      ·refine gx (an9 mI w1 w2 w3 g1 g2 g3 g4 g5) ?_;refine au [] rfl ?_;rw[g1,g2,g3,g4,g5]at hq;simp[cv,cv1,cv0,upd,<- hq]
    ·refine gx (an7 mI w1 w2 w3 g1 g2 g3) ?_;refine au [] rfl ?_;rw[g1,g2,g3]at hq;simp[cv,cv1,cv0,upd,<- hq]
  ·refine gx (an5 mI w1 w2 w3 g1) ?_;refine au [] rfl ?_;rw[g1]at hq;simp[cv,cv1,cv0,upd,<- hq]
def xS (p:Nat)(two:Bool):Nat->Nat->Nat
 |0,x=>x
 |k+1,x=>xS p two k (if yN (x ||| 2^k) p two then x else x ||| 2^k)
def prF (p:Nat)(two:Bool):Nat:=xS p two 41 0%4294967296
theorem Vy (p:Nat)(two:Bool)(hp:p<18446744073709551616):
  PureD Tryz.prog 244 [.i (.s (.int .u64 (p:Int))),.i (.s (.bool two))] (.i (.s (.int .u32 (prF p two:Nat)))):=by
 refine aa 24 Tryz.func244 ?_;refine gx Bj ?_;refine bu (ι:=Nat×Nat) (λq=>q.2<2^41/\q.1<=41/\xS p two q.1 q.2=xS p two 41 0)
  (λq=>cO [(0,.i (.s (.int .u64 (p:Int)))),(1,.i (.s (.bool two))),(5,.i (.s (.int .u64 (q.2:Nat)))),(6,.i (.s (.int .i64 ((q.1:Int)-1))))] []) (λq=>q.1) (41,0) ⟨by decide,by decide,rfl⟩ ?_ ?_
 ·refine ag _ _ [] [] ?_ ?_ rfl rfl
  ·simp[cv,cv1,cv0,upd,lk,ah]
  ·simp
 ·rintro⟨k,x⟩ ⟨hx,hk,hq⟩;simp only at hx hk hq;rw[ae];cases k with
  |zero =>
   have g1:decide ((0:Int)<=0-1)=false:=by decide
   have w1:IntKind.u32.wrap (x:Int)=((prF p two:Nat):Int):=by rw[prF,<- hq,xS,IntKind.wrap_u32];omega
   refine gx (an3 Bj g1 w1) ?_;refine au [] rfl ?_;simp[cv,cv1,cv0,upd]
  |succ k =>
   have hk1:((k+1:Nat):Int)-1=(k:Int):=by omega
   have hp2:(2:Nat)^k<2^41:=Nat.pow_lt_pow_right (by decide) (by omega);have w2:IntKind.u64.wrap ((1:Int)*2^(min k (IntKind.bits .u64)))=((2^k:Nat):Int):=by
    have e:((2:Int)^k)=((2^k:Nat):Int):=by simp
    rw[show min k (IntKind.bits .u64)=k by simp[IntKind.bits];omega,e,Int.one_mul,IntKind.wrap_u64];have h41:(2:Nat)^41=2199023255552:=by decide
    rw[h41]at hp2;generalize(2:Nat)^k=E at hp2⊢;omega
   have w3:bits .or .u64 (x:Int) ((2^k:Nat):Int)=((x ||| 2^k:Nat):Int) :=
    (bits_nat .u64 64 (by decide) (λn g0 g1=>by rw[IntKind.wrap_u64];omega) x (2^k) (Nat.lt_trans hx (by decide)) (Nat.lt_trans hp2 (by decide))).2
   have hy:x ||| 2^k<2^41:=Nat.or_lt_two_pow hx hp2;rw[xS]at hq;generalize hyy:x ||| 2^k=y at hq w3 hy;generalize 2^k=E at w2 w3
   (refine gy (an4 Bj @hk1 w2 w3) ?_;try intro ops hops)
   (refine fq trivial (aah y p two (Nat.lt_trans hy (by decide)) hp) ?_)
   have w4:IntKind.i64.wrap ((k:Int)-1)=(k:Int)-1:=by rw[ai (by omega) (by omega)]
   cases g:yN y p two
   ·rw[g]at hq;refine gx (an4 Bj @hk1 g w4) ?_;refine⟨(k,y),⟨hy,by simp at hk⊢;omega,by simpa using hq⟩,ag _ _ [] [] ?_ ?_ rfl rfl,by simp⟩
    ·simp[cv,cv1,cv0,upd,lk,ah]
    ·simp
   ·rw[g]at hq;refine gx (an4 Bj @hk1 g w4) ?_;refine⟨(k,x),⟨hx,by simp at hk⊢;omega,by simpa using hq⟩,ag _ _ [] [] ?_ ?_ rfl rfl,by simp⟩
    ·simp[cv,cv1,cv0,upd,lk,ah]
    ·simp
def bH:Nat->List Nat
 |0=>[]
 |1=>[]
 |2=>[]
 |p+3=>if(bH (p+2)).all (λq=>(p+2)%q != 0)then bH (p+2)++[p+2]else bH (p+2)
theorem BN:∀p,p<312->(bH p).length<64:=by decide +kernel
theorem rX:(bH 312).length=64:=by decide +kernel
theorem oG:∀p,∀q∈bH p,2<=q/\q<p
 |0,q,h=>by simp[bH]at h
 |1,q,h=>by simp[bH]at h
 |2,q,h=>by simp[bH]at h
 |p+3,q,h=>by
  rw[bH]at h;split at h
  ·rcases List.mem_append.1 h with h|h
   ·have:=oG (p+2) q h;omega
   ·simp at h;omega
  ·have:=oG (p+2) q h;omega
def KW (n:Nat):List I:=[.s (.int .u64 (n:Int))]
theorem SI:aI Tryz.prog 243 [.i (.s (.int .i64 64))] noH (.os 1 1 0 64) (hOf noH [(1,.arr 1 ((bH 312).map KW))]):=by
 refine aa 34 Tryz.func243 ?_;refine gx qw ?_;refine bu (ι:=Nat) (λp=>2<=p/\p<=312)
  (λp=>cO [(0,.i (.s (.int .i64 64))),(3,.os 100 1 0 (bH p).length),(4,.i (.s (.int .u64 (p:Nat))))] [(100,.arr 1 ((bH p).map KW))]) (λp=>312-p) 2 ⟨by decide,by decide⟩ ?_ ?_
 ·refine ag _ _ [] [] ?_ ?_ rfl rfl
  ·simp[cv,cv1,cv0,upd,lk,ah,bH]
  ·simp[aV,ah,lk,bH]
 ·rintro p ⟨hp2,hp⟩;rw[ae];refine gx qw ?_;refine aM (λh=>?_) (λh=>?_)
  ·have hlt:p<312:=by
    rcases Nat.lt_or_ge p 312 with h'|h'
    ·exact h'
    ·have:p=312:=by omega
     subst this;rw[rX]at h;simp at h
   clear h;have hpp:=oG p;have hstep:bH (p+1)=if(bH p).all (λq=>p%q != 0)then bH p++[p]else bH p:=by
    obtain⟨k,rfl⟩:∃k,p=k+2:=⟨p-2,by omega⟩
    rw[bH]
   have hll:=BN p hlt;generalize bH p=l at hstep hpp hll;refine gx qw ?_;refine bu (ι:=Nat) (λk=>k<=l.length)
    (λk=>cO [(0,.i (.s (.int .i64 64))),(3,.os 100 1 0 l.length),(4,.i (.s (.int .u64 (p:Nat)))),(5,.i (.s (.bool ((l.take k).all (λq=>p%q != 0))))),(14,.os 100 1 0 l.length),(15,.i (.s (.int .i64 l.length))),(16,.i (.s (.int .i64 (k:Nat))))] [(100,.arr 1 (l.map KW))]) (λk=>l.length-k) 0 (by simp) ?_ ?_
   ·refine ag _ _ [] [(100,100)] ?_ ?_ rfl rfl
    ·simp[cv,cv1,cv0,upd,lk,ah]
    ·simp[aV,ah,lk,cvO,frz,hO]
   ·intro k hk;rw[ae];refine gx qw ?_;refine aM (λh=>?_) (λh=>?_)
    ·have h1:k<l.length:=by simp at h;omega
     clear h;have hk2:=hpp _ (List.getElem_mem h1);have e1:(l.map KW)[k]?=some [.s (.int .u64 ((l[k]:Nat):Int))]:=by simp[h1,KW]
     have htk:(l.take (k+1)).all (λq=>p%q != 0)=((l.take k).all (λq=>p%q != 0)&&(p%l[k] != 0)):=by rw[List.take_succ_eq_append_getElem h1,List.all_append];simp only[List.all_cons,List.all_nil,Bool.and_true]
     have l1:((k:Int)<(l.length:Int))=True:=eq_true (by omega);generalize l[k]=q at hk2 e1 htk;have q0:((q:Int)=0)=False:=eq_false (by omega);have r1:(p:Int).tmod (q:Int)=((p%q:Nat):Int):=by rw[Int.tmod_eq_emod_of_nonneg (by omega)];exact(Int.natCast_emod _ _).symm
     have w1:IntKind.i64.wrap ((k:Int)+1)=((k+1:Nat):Int):=by rw[ai (by omega) (by omega)];omega
     cases g:(l.take k).all (λq=>p%q != 0)
     ·rw[g]at htk;refine gx (an6 qw e1 l1 @q0 @r1 w1) ?_;refine⟨k+1,h1,ag _ _ [] [(100,100)] ?_ ?_ rfl rfl,by simp;omega⟩
      ·simp[cv,cv1,cv0,upd,lk,ah,htk]
      ·simp[aV,ah,lk,cvO,frz,hO]
     ·rw[g]at htk;refine gx (an6 qw e1 l1 @q0 @r1 w1) ?_;refine⟨k+1,h1,ag _ _ [] [(100,100)] ?_ ?_ rfl rfl,by simp;omega⟩
      ·simp[cv,cv1,cv0,upd,lk,ah,htk];exact Bool.eq_iff_iff.2 (by simp;omega)
      ·simp[aV,ah,lk,cvO,frz,hO]
    ·have h1:k=l.length:=by simp at h;omega
     subst h1;rw[jA];have w1:IntKind.u64.wrap ((p:Int)+1)=((p+1:Nat):Int):=by rw[IntKind.wrap_u64];omega
     have e3:l.length+1<=140737488355328:=by omega
     have e4:(l.length+1)*8<=140737488355328:=by omega
     have uu:uni 1 (l.map KW)=true:=iw (s:=1) (f:=KW) (λ_=>rfl) l;cases g:l.all (λq=>p%q != 0)
     ·rw[g]at hstep;simp only[Bool.false_eq_true,if_false]at hstep;refine gx (an3 qw g w1) ?_;refine⟨p+1,⟨by omega,by omega⟩,ag _ _ [] [(100,100)] ?_ ?_ rfl rfl,by simp;omega⟩
      ·simp[cv,cv1,cv0,upd,lk,ah,hstep]
      ·simp[aV,ah,lk,cvO,frz,hO,hstep]
     ·rw[g]at hstep;simp only[if_true]at hstep;refine gx (an6 qw g w1 e3 e4 @uu) ?_;refine⟨p+1,⟨by omega,by omega⟩,ag _ _ [] [(100,4075)] ?_ ?_ rfl rfl,by simp;omega⟩
      ·simp[cv,cv1,cv0,upd,lk,ah,hstep]
      ·simp[aV,ah,lk,cvO,frz,hO,hstep,upd,KW]
  ·have:p=312:=by
    rcases Nat.lt_or_ge p 312 with h'|h'
    ·have:=BN p h';simp at h;omega
    ·omega
   subst this;refine gx qw ?_;refine dh _ [] [(1,100)] rfl ?_ ?_ rfl ?_ rfl
   ·simp[cv,cv1,cv0,upd,jd,lk,noH,rX]
   ·simp[aV,jd,lk,cvO,frz,upd,noH,hO]
   ·simp[noH]
def aaU:=an @Ty.T3 @Ty.ahA
@[irreducible] def PR:List Nat:=bH 312
theorem aao:bH 312=PR:=by unfold PR;rfl
theorem QP:PR.length=64:=by rw[<- aao];exact rX
theorem agh:∀p∈PR,p<18446744073709551616:=λp h=>by rw[<- aao]at h;have:=(oG 312 p h).2;omega
theorem aap:PR.map (λp=>prF p false)=KS:=by decide +kernel
theorem aai:(PR.take 8).map (λp=>prF p true)=V0.list:=by decide +kernel
theorem MO {a b:Nat}(k:Nat)(h:b<2^k):(a*2^k) ||| b=a*2^k+b:=by rw[Nat.mul_comm,Nat.two_pow_add_eq_or_of_lt h]
theorem JK (l:List UInt8)(i:Nat):wordAt l i=hor l i 4:=by
 have h0:=mF l i;have h1:=mF l (i+1);have h2:=mF l (i+2);have h3:=mF l (i+3);simp only[wordAt,hor,Nat.add_zero];generalize bnth l i=a at*;generalize bnth l (i+1)=b at*;generalize bnth l (i+2)=c at*;generalize bnth l (i+3)=d at*;have e0:wshl a 16777216=a*2^24:=by unfold wshl;omega
 have e1:wshl b 65536=b*2^16:=by unfold wshl;omega
 have e2:wshl c 256=c*2^8:=by unfold wshl;omega
 rw[e0,e1,e2];have w:∀x y,x<4294967296->y<4294967296->wor x y=x ||| y:=λx y hx hy=>by unfold wor;rw[Nat.mod_eq_of_lt hx,Nat.mod_eq_of_lt hy]
 have s1:wor (a*2^24) (b*2^16)=(a*2^8+b)*2^16:=by rw[w _ _ (by omega) (by omega),MO 24 (by omega)];omega
 have s2:wor ((a*2^8+b)*2^16) (c*2^8)=((a*2^8+b)*2^8+c)*2^8:=by rw[w _ _ (by omega) (by omega),MO 16 (by omega)];omega
 rw[s1,s2,w _ _ (by omega) (by omega),MO 8 (by omega)];omega
def wandn (a b:Nat):Nat:=wand a (wnot b)
theorem RO (a b:Nat):wor a b=wor b a:=Nat.or_comm _ _
theorem aaZ (a i:Nat):(wnot a).testBit i=(decide (i<32)&&!(a%4294967296).testBit i):=by
 unfold wnot;rw[show 4294967295=2^32-1 from rfl,Nat.testBit_xor,Nat.testBit_two_pow_sub_one];by_cases h:i<32
 ·simp[h]
 ·have:(a%4294967296).testBit i=false:=Nat.testBit_lt_two_pow (Nat.lt_of_lt_of_le (Nat.mod_lt _ (by decide)) (show 2^32<=2^i from Nat.pow_le_pow_right (by decide) (by omega)));simp[h,this]
theorem FD (a b:Nat):wand a b%4294967296=wand a b:=Nat.mod_eq_of_lt (Ll a b)
theorem XP (a:Nat):wnot a<4294967296:=Nat.xor_lt_two_pow (n:=32) (by decide) (Nat.mod_lt _ (by decide))
theorem FC (a:Nat):wnot a%4294967296=wnot a:=Nat.mod_eq_of_lt (XP a)
theorem RG (a b:Nat):wxor a b%4294967296=wxor a b:=Nat.mod_eq_of_lt (Le a b)
theorem XO (a b:Nat):wor a b%4294967296=wor a b:=Nat.mod_eq_of_lt (Vm a b)
theorem PU (e f g:Nat):wor (wand f e) (wandn g e)=wxor (wand e f) (wand (wnot e) g):=by apply Nat.eq_of_testBit_eq;intro i;simp only[wor,wxor,wandn,Nat.testBit_or,Nat.testBit_xor,FD];simp only[wand,Nat.testBit_and,FC,aaZ];cases(e%4294967296).testBit i<;>cases(f%4294967296).testBit i<;>cases(g%4294967296).testBit i<;>cases decide (i<32)<;>rfl
theorem YP (a b c:Nat):wor (wor (wand a b) (wand a c)) (wand b c)=wxor (wxor (wand a b) (wand a c)) (wand b c):=by apply Nat.eq_of_testBit_eq;intro i;have e1:(wor (wand a b) (wand a c))%4294967296=wor (wand a b) (wand a c):=XO _ _;have e2:(wxor (wand a b) (wand a c))%4294967296=wxor (wand a b) (wand a c):=RG _ _;rw[show wor (wor (wand a b) (wand a c)) (wand b c)=((wor (wand a b) (wand a c))%4294967296) ||| (wand b c%4294967296)from rfl,show wxor (wxor (wand a b) (wand a c)) (wand b c)=((wxor (wand a b) (wand a c))%4294967296) ^^^ (wand b c%4294967296)from rfl,e1,e2];simp only[wor,wxor,Nat.testBit_or,Nat.testBit_xor,FD];simp only[wand,Nat.testBit_and];cases(a%4294967296).testBit i<;>cases(b%4294967296).testBit i<;>cases(c%4294967296).testBit i<;>rfl
theorem YI (x y z t:Nat):wadd (wadd (wadd x y) z) t=wadd (wadd (wadd x z) y) t:=by unfold wadd;omega
theorem ran (a b:Nat):bits .andNot .u32 (a:Int) (b:Int)=((wandn a b:Nat):Int):=by
 have e:IntKind.u32.bits=32:=rfl
 simp only [bits,BitVec.ofInt_natCast]
 rw [<- BitVec.xor_allOnes]
 simp only [BitVec.toNat_and,BitVec.toNat_xor,BitVec.toNat_allOnes,BitVec.toNat_ofNat,e,IntKind.wrap_u32]
 have hlt:(a % 2 ^ 32) &&& ((b % 2 ^ 32) ^^^ (2 ^ 32 - 1)) < 4294967296:=Nat.and_lt_two_pow _ (n:=32) (Nat.xor_lt_two_pow (n:=32) (Nat.mod_lt _ (by decide)) (by decide))
 have hw:wandn a b=(a % 2 ^ 32) &&& ((b % 2 ^ 32) ^^^ (2 ^ 32 - 1)):=by
  unfold wandn wand
  rw [FC]
  unfold wnot
  rw [Nat.xor_comm]
 rw [hw]; omega
theorem Qn {P:Program}{t:TypeId}{x y:Operand}{k:IntKind}{a b:Int}:fZ P .andNot t x y (some (.int k a)) (some (.int k b))=some (.i (.s (.int k (bits .andNot k a b)))):=by simp[fZ,eqGuard,Go.binOp,Op.intBits,pv,pure,bind,Sem.bind,bits,ofV]
theorem Sm (x n:Nat)(hn:n<=32):IntKind.u32.wrap ((x:Int)*2^(min n (IntKind.bits .u32)))=((wshl x (2^n):Nat):Int):=by
 have hb:IntKind.bits .u32=32:=rfl;have e:((2:Int)^n)=((2^n:Nat):Int):=by simp
 rw[show min n (IntKind.bits .u32)=n by omega,e,IntKind.wrap_u32,<- Int.natCast_mul];unfold wshl;omega
theorem o_ (x n:Nat)(h1:1<=n)(h2:n<=31):
  PureD Tryz.prog 245 [.i (.s (.int .u32 (x:Int))),.i (.s (.int .i64 (n:Int)))] (.i (.s (.int .u32 ((wrot x n:Nat):Int)))):=by
 have w1:IntKind.i64.wrap (32-(n:Int))=((32-n:Nat):Int):=by rw[ai (by omega) (by omega)];omega
 have w2:=zy x n .u32 (by simp[IntKind.bits];omega);have w3:=Sm x (32-n) (by omega);have w4:bits .or .u32 ((x/2^n:Nat):Int) ((wshl x (2^(32-n)):Nat):Int)=((wrot x n:Nat):Int):=by rw[ro,wrot,RO];rfl
 generalize 32-n=m at w1 w3 w4;generalize 2^n=E at w2 w4;generalize 2^m=E' at w3 w4;refine aa 13 Tryz.func245 ?_;refine gx (an5 aaU w1 w2 w3 w4) ?_;refine au [] rfl ?_;simp[cv,cv1,cv0,upd]
def aB:=an9 @Ty.T0 @Ty.T1 @Ty.T2 @Ty.T3 @Ty.T4 @Ty.T5 @Ty.T6 @Ty.T8 (an5 @Ty.T22 @Ty.T25 @Ty.ahA @Ty.ahx @Ty.ahw)
def gL (n:Nat):List I:=[.s (.int .u32 (n:Int))]
def kK (i:Nat):List Nat:=(PR.take i).map λp=>prF p false
def iO (i:Nat):List Nat:=((PR.take i).take 8).map λp=>prF p true
theorem D_ {i:Nat}(h:i<PR.length):kK (i+1)=kK i++[prF PR[i] false]:=by unfold kK;rw[List.take_succ_eq_append_getElem h,List.map_append];rfl
theorem Ms {i:Nat}(h:i<PR.length)(h8:i<8):iO (i+1)=iO i++[prF PR[i] true]:=by unfold iO;rw[List.take_take,List.take_take,Nat.min_eq_right (by omega),Nat.min_eq_right (by omega),List.take_succ_eq_append_getElem h,List.map_append];rfl
theorem Mt {i:Nat}(h8:8<=i):iO (i+1)=iO i:=by unfold iO;rw[List.take_take,List.take_take,Nat.min_eq_left (by omega),Nat.min_eq_left (by omega)]
theorem vJ (l:List Nat):uni 1 (l.map gL)=true:=iw (s:=1) (f:=gL) (fun _=>rfl) l
def JG (n:Nat):Nat:=(119-n%64)%64
theorem wq0:IntKind.i64.wrap (0+1)=1:=by decide
theorem wq1:IntKind.i64.wrap (1+1)=2:=by decide
theorem wq2:IntKind.i64.wrap (2+1)=3:=by decide
theorem wq3:IntKind.i64.wrap (3+1)=4:=by decide
theorem wq4:IntKind.i64.wrap (4+1)=5:=by decide
theorem wq5:IntKind.i64.wrap (5+1)=6:=by decide
theorem wq6:IntKind.i64.wrap (6+1)=7:=by decide
theorem wq7:IntKind.i64.wrap (7+1)=8:=by decide
def Ae (v u:V8)(k:Nat):List Nat:=[if 0<k then wadd v.a u.a else v.a,if 1<k then wadd v.b u.b else v.b,if 2<k then wadd v.c u.c else v.c,if 3<k then wadd v.d u.d else v.d,if 4<k then wadd v.e u.e else v.e,if 5<k then wadd v.f u.f else v.f,if 6<k then wadd v.g u.g else v.g,if 7<k then wadd v.h u.h else v.h]
def pq (v:V8)(k:Nat):List UInt8:=((v.list.take k).map vC).flatten
theorem xW (v:V8)(k:Nat)(h:k<=8):(pq v k).length=4*k:=by
 have:k=0\/k=1\/k=2\/k=3\/k=4\/k=5\/k=6\/k=7\/k=8:=by omega
 rcases this with rfl|rfl|rfl|rfl|rfl|rfl|rfl|rfl|rfl<;>rfl
theorem El (v:V8)(k:Nat)(h:k<8):pq v (k+1)=pq v k++vC (v.list.getD k 0):=by have hl:v.list.length=8:=rfl;unfold pq;rw[List.take_succ_eq_append_getElem (by omega),List.map_append,List.flatten_append];simp[List.getD_eq_getElem?_getD,show k<v.list.length by omega]
theorem Kc (v:V8):pq v 8=Yz v:=by simp[pq,Yz,V8.list]
theorem SC (u:V8)(K W:Nat):BG u K W =
  ⟨wadd (wadd (wadd (wadd (wadd u.h (wxor (wxor (wrot u.e 6) (wrot u.e 11)) (wrot u.e 25))) (wor (wand u.f u.e) (wandn u.g u.e))) K) W) (wadd (wxor (wxor (wrot u.a 2) (wrot u.a 13)) (wrot u.a 22)) (wor (wor (wand u.a u.b) (wand u.a u.c)) (wand u.b u.c))),u.a,u.b,u.c,
   wadd u.d (wadd (wadd (wadd (wadd u.h (wxor (wxor (wrot u.e 6) (wrot u.e 11)) (wrot u.e 25))) (wor (wand u.f u.e) (wandn u.g u.e))) K) W),u.e,u.f,u.g⟩:=by
 unfold BG;rw[PU,YP]
theorem wad (a b:Nat):IntKind.u32.wrap ((a:Int)+(b:Int))=((wadd a b:Nat):Int):=by rw[IntKind.wrap_u32];unfold wadd;omega
theorem Sa (b:List UInt8)(hb:b.length<=1099511627776):PureD Tryz.prog 181 [.i (bI b)] (.i (bI (sha b))):=by
 refine aa 302 Tryz.func181 ?_;refine gx (an aB @bI.eq_1) ?_;have hpr:=SI;rw[aao]at hpr;refine JF 1256 hpr (by simp[upd,noH]) rfl ?_;refine gx aB ?_;refine bu (ι:=Nat) (λi=>i<=64)
  (λi=>cO [(0,.i (.sl (b.map aL))),(39,.os 100 1 0 64),(40,.i (.s (.int .i64 64))),(41,.i (.s (.int .i64 (i:Nat)))),(4,.os 101 1 0 (kK i).length),(5,.os 102 1 0 (iO i).length)]
   [(100,.arr 1 (PR.map KW)),(101,.arr 1 ((kK i).map gL)),(102,.arr 1 ((iO i).map gL))]) (λi=>64-i) 0 (by decide) ?_ ?_
 ·refine ag _ _ [] [(100,1256)] ?_ ?_ rfl rfl
  ·simp[cv,cv1,cv0,upd,lk,ah,kK,iO]
  ·simp[aV,ah,lk,cvO,frz,upd,kK,iO]
 ·intro i hi;rw[ae];refine gx aB ?_;refine aM (λh=>?_) (λh=>?_)
  ·have h1:i<64:=by simp at h;omega
   clear h;have hip:i<PR.length:=by rw[QP];exact h1
   have hpl:=agh _ (List.getElem_mem hip);have e1:(PR.map KW)[i]?=some [.s (.int .u64 ((PR[i]:Nat):Int))]:=by rw[List.getElem?_map,List.getElem?_eq_getElem hip];rfl
   have hk:=D_ hip;have hh:=λh8=>Ms hip h8;have hh':=λh8=>Mt (i:=i) h8;have lk1:(kK i).length=i:=by simp[kK,QP];omega
   have lh1:(iO i).length<=8:=by simp[iO];omega
   have l1:((i:Int)<64)=True:=eq_true (by omega);have e3:(kK i).length+1<=140737488355328:=by omega
   have e4:((kK i).length+1)*4<=140737488355328:=by omega
   have e5:(iO i).length+1<=140737488355328:=by omega
   have e6:((iO i).length+1)*4<=140737488355328:=by omega
   have w1:IntKind.i64.wrap ((i:Int)+1)=((i+1:Nat):Int):=by rw[ai (by omega) (by omega)];omega
   generalize PR[i]=p at hpl e1 hk hh;generalize hR:PR.map KW=R at e1;generalize kK i=K at hk e3 e4;generalize iO i=Hl at hh hh' e5 e6
   (refine gy (an3 aB e1 l1) ?_;try intro ops hops)
   (refine fq trivial (Vy p false hpl) ?_)
   cases g8:decide ((i:Int)<8)
   ·have h8:8<=i:=by simp at g8;omega
    have hh2:=hh' h8;refine gx (an6 aB g8 e3 e4 @vJ w1) ?_;refine⟨i+1,h1,ag _ _ [] [(100,100),(101,2796),(102,102)] ?_ ?_ rfl rfl,by simp;omega⟩
    ·simp[cv,cv1,cv0,upd,lk,ah,hk,hh2]
    ·simp[aV,ah,lk,cvO,frz,upd,hO,hk,hh2,gL,hR]
   ·have h8:i<8:=by simp at g8;omega
    have hh2:=hh h8
    (refine gy (an5 aB g8 e3 e4 @vJ) ?_;try intro ops hops)
    (refine fq trivial (Vy p true hpl) ?_)
    refine gx (an5 aB e5 e6 @vJ w1) ?_;refine⟨i+1,h1,ag _ _ [] [(100,100),(101,2796),(102,3308)] ?_ ?_ rfl rfl,by simp;omega⟩
    ·simp[cv,cv1,cv0,upd,lk,ah,hk,hh2]
    ·simp[aV,ah,lk,cvO,frz,upd,hO,hk,hh2,gL,hR]
  ·have h1:i=64:=by simp at h;omega
   subst h1;have hK:kK 64=KS:=by rw[<- aap,kK,List.take_of_length_le (by rw[QP];exact Nat.le_refl _)]
   have hH:iO 64=V0.list:=by rw[<- aai,iO,List.take_take];rfl
   rw[hK,hH];generalize PR.map KW=R;have hKl:KS.length=64:=rfl;have hHl:V0.list.length=8:=rfl;rw[hKl,hHl];have e3:b.length+1<=140737488355328:=by omega
   have e4:b.length<=140737488355328:=by omega
   refine gx (an4 aB e3 e4 @eD) ?_;clear hpr hi h hK hH hKl hHl;refine bu (ι:=Nat) (λj=>j<=JG b.length)
    (λj=>cO [(0,.i (.sl (b.map aL))),(4,.os 101 1 0 64),(5,.os 102 1 0 8),(8,.os 103 1 0 (b.length+1+j))]
     [(101,.arr 1 (KS.map gL)),(102,.arr 1 (V0.list.map gL)),(103,.arr 1 ((b++128::List.replicate j 0).map aL))]) (λj=>JG b.length-j) 0 (Nat.zero_le _) ?_ ?_
   ·refine ag _ _ [] [(101,101),(102,102),(103,3820)] ?_ ?_ rfl rfl
    ·simp[cv,cv1,cv0,upd,lk,ah]
    ·simp[aV,ah,lk,cvO,frz,upd,hO,aL]
   ·intro j hj;rw[ae];have r1:((b.length+1+j:Nat):Int).tmod 64=(((b.length+1+j)%64:Nat):Int):=by rw[Int.tmod_eq_emod_of_nonneg (by omega)];exact(Int.natCast_emod _ _).symm
    refine gx (an aB @r1) ?_;refine aM (λh=>?_) (λh=>?_)
    ·have h1:j<JG b.length:=by unfold JG at hj⊢;simp at h;omega
     clear h;have e3:b.length+1+j+1<=140737488355328:=by unfold JG at h1;omega
     have e7:b.length+(j+1)=b.length+1+j:=by omega
     refine gx (an4 aB e3 e7 @eD) ?_;refine⟨j+1,h1,ag _ _ [] [(101,101),(102,102),(103,4330)] ?_ ?_ rfl rfl,by simp;omega⟩
     ·simp[cv,cv1,cv0,upd,lk,ah];omega
     ·simp[aV,ah,lk,cvO,frz,upd,hO,aL,List.replicate_succ']
    ·have h1:j=JG b.length:=by unfold JG at hj⊢;simp at h;omega
     subst h1;clear h hj r1;have hN:(b.length*8)%18446744073709551616=b.length*8:=Nat.mod_eq_of_lt (by omega);have w1:IntKind.u64.wrap (b.length:Int)=(b.length:Int):=by rw[IntKind.wrap_u64];omega
     have w2:IntKind.u64.wrap (8*(b.length:Int))=((b.length*8:Nat):Int):=by rw[IntKind.wrap_u64];omega
     have hz:JG b.length<64:=Nat.mod_lt _ (by decide);have hpad:oU b.length=128::(List.replicate (JG b.length) 0++eO (b.length*8)):=by rw[oU,hN];rfl
     have hlen:b.length+1+JG b.length+8=64*((b.length+(oU b.length).length)/64):=by rw[nJ];unfold JG;omega
     have hsha:sha b=Yz (bT V0 ((b.length+(oU b.length).length)/64) (b++128::(List.replicate (JG b.length) 0++eO (b.length*8)))):=by rw[<- hpad];rfl
     rw[hsha];clear hsha hpad hN;generalize(b.length+(oU b.length).length)/64=J at hlen⊢;generalize JG b.length=z at hz hlen⊢;generalize hNN:b.length*8=N at w2⊢;refine gx (an3 aB w1 w2) ?_;refine bu (ι:=Nat) (λt=>t<=8)
      (λt=>cO [(4,.os 101 1 0 64),(5,.os 102 1 0 8),(8,.os 103 1 0 (b.length+1+z+t)),(9,.i (.s (.int .u64 (N:Nat)))),(10,.i (.s (.int .i64 (7-(t:Int)))))]
       [(101,.arr 1 (KS.map gL)),(102,.arr 1 (V0.list.map gL)),(103,.arr 1 ((b++128::(List.replicate z 0++(eO N).take t)).map aL))]) (λt=>8-t) 0 (Nat.zero_le _) ?_ ?_
     ·refine ag _ _ [] [(101,101),(102,102),(103,103)] ?_ ?_ rfl rfl
      ·simp[cv,cv1,cv0,upd,lk,ah]
      ·simp[aV,ah,lk,cvO,frz,upd,hO,aL]
     ·intro t ht;rw[ae];refine gx aB ?_;refine aM (λh=>?_) (λh=>?_)
      ·have h1:t<8:=by simp at h;omega
       clear h;have hg:=Jm N t h1;have hts:=oq hg;have e7:(7:Int)-(t:Int)=((7-t:Nat):Int):=by omega
       have w3:IntKind.i64.wrap (8*((7-t:Nat):Int))=((8*(7-t):Nat):Int):=by rw[ai (by omega) (by omega)];omega
       have w4:=sZ (k:=.u64) N (7-t) (by simp[IntKind.bits];omega);have w5:IntKind.i64.wrap (((7-t:Nat):Int)-1)=7-((t+1:Nat):Int):=by rw[ai (by omega) (by omega)];omega
       have hl8:(eO N).length=8:=rfl;have e3:b.length+1+z+t+1<=140737488355328:=by omega
       have e8:b.length+(z+(min t (eO N).length)+1)=b.length+1+z+t:=by rw[hl8];omega
       generalize aN N (256^(7-t))=c at hts w4;generalize 7-t=d at e7 w3 w4 w5;generalize eO N=B8 at hts e8 hl8;refine gx (an9 aB e7 w3 w4 w5 e3 e8 @eD @List.length_take.{0}) ?_;refine⟨t+1,h1,ag _ _ [] [(101,101),(102,102),(103,5615)] ?_ ?_ rfl rfl,by simp;omega⟩
       ·simp[cv,cv1,cv0,upd,lk,ah];omega
       ·simp[aV,ah,lk,cvO,frz,upd,hO,aL,hts]
      ·have h1:t=8:=by simp at h;omega
       subst h1;have hM:(b++128::(List.replicate z 0++eO N)).length=64*J:=by rw[<- hlen];simp[eO];omega
       rw[show(eO N).take 8=eO N from rfl,hlen];generalize b++128::(List.replicate z 0++eO N)=M at hM⊢;have hJ:J<=17179869190:=by omega
       clear hlen hz w1 w2 hNN ht h hb e3 e4;refine gx aB ?_;refine bu (ι:=Nat) (λk=>k<=J)
        (λk=>cO [(4,.os 101 1 0 64),(5,.os 102 1 0 8),(8,.os 103 1 0 (64*J)),(11,.i (.s (.int .i64 ((64*k:Nat):Int))))]
         [(101,.arr 1 (KS.map gL)),(102,.arr 1 ((bT V0 k M).list.map gL)),(103,.arr 1 (M.map aL))]) (λk=>J-k) 0 (Nat.zero_le _) ?_ ?_
       ·refine ag _ _ [] [(101,101),(102,102),(103,103)] ?_ ?_ rfl rfl
        ·simp[cv,cv1,cv0,upd,lk,ah]
        ·simp[aV,ah,lk,cvO,frz,upd,hO,bT]
       ·intro k hk;rw[ae];refine gx aB ?_;refine aM (λh=>?_) (λh=>?_)
        ·have h1:k<J:=by simp at h;omega
         clear h;have hbs:=ul k V0 M;have hblk:∀i,i<64->∃c:UInt8,M[64*k+i]?=some c/\c.toNat=bnth ((M.drop (64*k)).take 64) i:=by
          intro i hi;have hlt:64*k+i<M.length:=by omega
          refine⟨M[64*k+i],by simp[hlt],?_⟩;rw[AO (by simp;omega)];simp
         generalize(M.drop (64*k)).take 64=blk at hbs hblk;generalize bT V0 k M=v at hbs;refine gx aB ?_;refine bu (ι:=Nat) (λi=>i<=64)
          (λi=>cO [(4,.os 101 1 0 64),(5,.os 102 1 0 8),(8,.os 103 1 0 (64*J)),(11,.i (.s (.int .i64 ((64*k:Nat):Int)))),(12,.os 104 1 0 i),(13,.i (.s (.int .i64 (i:Nat))))]
           [(101,.arr 1 (KS.map gL)),(102,.arr 1 (v.list.map gL)),(103,.arr 1 (M.map aL)),(104,.arr 1 ((sched blk i).map gL))]) (λi=>64-i) 0 (Nat.zero_le _) ?_ ?_
         ·refine ag _ _ [] [(101,101),(102,102),(103,103)] ?_ ?_ rfl rfl
          ·simp[cv,cv1,cv0,upd,lk,ah]
          ·simp[aV,ah,lk,cvO,frz,upd,hO,sched]
         ·intro i hi;rw[ae];refine gx aB ?_;refine aM (λh=>?_) (λh=>?_)
          ·have h2:i<64:=by simp at h;omega
           clear h;have hsl:=nC blk i;have hss:sched blk (i+1)=sched blk i++[if i<16 then wordAt blk (4*i)else Kg (sched blk i) i]:=rfl;have w9:IntKind.i64.wrap ((i:Int)+1)=((i+1:Nat):Int):=by rw[ai (by omega) (by omega)];omega
           have e3:i+1<=140737488355328:=by omega
           have e4:(i+1)*4<=140737488355328:=by omega
           refine gx aB ?_;refine aM (λh=>?_) (λh=>?_)
           ·have h3:i<16:=by simp at h;omega
            clear h;rw[if_pos h3,JK]at hss;have hby:∀t,t<4->∃c:UInt8,M[64*k+4*i+t]?=some c/\c.toNat=bnth blk (4*i+t):=by intro t ht;have:=hblk (4*i+t) (by omega);rwa[<- Nat.add_assoc]at this
            have w1:IntKind.i64.wrap (4*(i:Int))=((4*i:Nat):Int):=by rw[ai (by omega) (by omega)];omega
            have w2:IntKind.i64.wrap (((64*k:Nat):Int)+((4*i:Nat):Int))=((64*k+4*i:Nat):Int):=by rw[ai (by omega) (by omega)];omega
            have w3:IntKind.i64.wrap (((64*k+4*i:Nat):Int)+4)=((64*k+4*i+4:Nat):Int):=by rw[ai (by omega) (by omega)];omega
            have hol:64*k+4*i+4<=64*J:=by omega
            generalize 64*k+4*i=o at w2 w3 hol hby;have l1:((o:Int)<=((o+4:Nat):Int))=True:=eq_true (by omega);have l2:(((o+4:Nat):Int)<=((64*J:Nat):Int))=True:=eq_true (by omega);have s1:o+4-o=4:=by omega
            refine gx (an7 aB w1 w2 w3 l1 l2 @s1) ?_;refine bu (ι:=Nat) (λt=>t<=4)
             (λt=>cO [(4,.os 101 1 0 64),(5,.os 102 1 0 8),(8,.os 103 1 0 (64*J)),(11,.i (.s (.int .i64 ((64*k:Nat):Int)))),(12,.os 104 1 0 i),(13,.i (.s (.int .i64 (i:Nat)))),(14,.i (.s (.int .u32 (hor blk (4*i) t:Nat)))),(109,.os 103 1 o 4),(110,.i (.s (.int .i64 4))),(111,.i (.s (.int .i64 (t:Nat))))]
              [(101,.arr 1 (KS.map gL)),(102,.arr 1 (v.list.map gL)),(103,.arr 1 (M.map aL)),(104,.arr 1 ((sched blk i).map gL))]) (λt=>4-t) 0 (Nat.zero_le _) ?_ ?_
            ·refine ag _ _ [] [(101,101),(102,102),(103,103),(104,104)] ?_ ?_ rfl rfl
             ·simp[cv,cv1,cv0,upd,lk,ah,hor]
             ·simp[aV,ah,lk,cvO,frz,upd,hO]
            ·intro t ht;rw[ae];refine gx aB ?_;refine aM (λh=>?_) (λh=>?_)
             ·have h4:t<4:=by simp at h;omega
              clear h;obtain⟨c,hc1,hc2⟩:=hby t h4;have hx:=Cu blk (4*i) t;have hx3:hor blk (4*i) t<16777216:=Nat.lt_of_lt_of_le hx (show 256^t<=256^3 from Nat.pow_le_pow_right (by decide) (by omega));have hs:hor blk (4*i) (t+1)=hor blk (4*i) t*256+c.toNat:=by rw[hor,hc2]
              have hcl:=c.toNat_lt;have ec:(M.map aL)[o+t]?=some [.s (.int .u8 (c.toNat:Int))]:=by simp[hc1,aL]
              have l3:((t:Int)<4)=True:=eq_true (by omega);have w4:IntKind.i64.wrap ((t:Int)+1)=((t+1:Nat):Int):=by rw[ai (by omega) (by omega)];omega
              have w7:IntKind.u32.wrap (c.toNat:Int)=(c.toNat:Int):=by rw[IntKind.wrap_u32];omega
              generalize hor blk (4*i) t=x at hx3 hs;have w5:IntKind.u32.wrap ((x:Int)*256)=((x*256:Nat):Int):=by rw[IntKind.wrap_u32];omega
              have w6:IntKind.u32.wrap (((x*256:Nat):Int)+(c.toNat:Int))=((x*256+c.toNat:Nat):Int):=by rw[IntKind.wrap_u32];omega
              refine gx (an7 aB @ec l3 w4 w5 w6 w7) ?_;refine⟨t+1,h4,ag _ _ [] [(101,101),(102,102),(103,103),(104,104)] ?_ ?_ rfl rfl,by simp;omega⟩
              ·simp[cv,cv1,cv0,upd,lk,ah,hs]
              ·simp[aV,ah,lk,cvO,frz,upd,hO]
             ·have h4:t=4:=by simp at h;omega
              subst h4;clear h hby;generalize hor blk (4*i) 4=x at hss;refine gx (an6 aB e3 e4 @vJ @hsl w9) ?_;refine⟨i+1,h2,ag _ _ [] [(101,101),(102,102),(103,103),(104,9451)] ?_ ?_ rfl rfl,by simp;omega⟩
              ·simp[cv,cv1,cv0,upd,lk,ah]
              ·simp[aV,ah,lk,cvO,frz,upd,hO,hss,gL]
           ·have h3:16<=i:=by simp at h;omega
            clear h;rw[if_neg (by omega)]at hss;generalize sched blk i=l at hss hsl;have hget:∀d,1<=d->d<=16->(l.map gL)[i-d]?=some [.s (.int .u32 ((l.getD (i-d) 0:Nat):Int))]:=by
             intro d h1 h2;have hlt:i-d<l.length:=by omega
             simp[hlt,gL]
            have g15:=hget 15 (by omega) (by omega);have g2:=hget 2 (by omega) (by omega);have g16:=hget 16 (by omega) (by omega);have g7:=hget 7 (by omega) (by omega);have w15:IntKind.i64.wrap ((i:Int)-15)=((i-15:Nat):Int):=by rw[ai (by omega) (by omega)];omega
            have w2:IntKind.i64.wrap ((i:Int)-2)=((i-2:Nat):Int):=by rw[ai (by omega) (by omega)];omega
            have w16:IntKind.i64.wrap ((i:Int)-16)=((i-16:Nat):Int):=by rw[ai (by omega) (by omega)];omega
            have w7:IntKind.i64.wrap ((i:Int)-7)=((i-7:Nat):Int):=by rw[ai (by omega) (by omega)];omega
            have l15:(((i-15:Nat):Int)<(i:Int))=True:=eq_true (by omega);have l2:(((i-2:Nat):Int)<(i:Int))=True:=eq_true (by omega);have l16:(((i-16:Nat):Int)<(i:Int))=True:=eq_true (by omega);have l7:(((i-7:Nat):Int)<(i:Int))=True:=eq_true (by omega);have hv:Kg l i=wadd (wadd (wadd (l.getD (i-16) 0) (sgA (l.getD (i-15) 0))) (l.getD (i-7) 0)) (sgB (l.getD (i-2) 0)):=by unfold Kg;exact YI _ _ _ _
            rw[hv]at hss;clear hget hv;generalize l.getD (i-15) 0=x at hss g15;generalize l.getD (i-2) 0=y at hss g2;generalize l.getD (i-16) 0=p at hss g16;generalize l.getD (i-7) 0=q at hss g7;unfold sgA sgB at hss;generalize i-15=i15 at*;generalize i-2=i2 at*;generalize i-16=i16 at*;generalize i-7=i7 at*;have sx:(x:Int).fdiv (2^min 3 (IntKind.bits .u32))=((wshr x 8:Nat):Int):=zy x 3 .u32 (by decide);have sy:(y:Int).fdiv (2^min 10 (IntKind.bits .u32))=((wshr y 1024:Nat):Int):=zy y 10 .u32 (by decide)
            (refine gy (an9 aB @g15 g2 @g16 @w15 w2 @w16 @l15 (an l2 @l16)) ?_;try intro ops hops)
            (refine fq trivial (o_ x 7 (by decide) (by decide)) ?_)
            (refine gy aB ?_;try intro ops hops)
            (refine fq trivial (o_ x 18 (by decide) (by decide)) ?_)
            (refine gy (an7 aB @rx @sx @wad g7 w7 l7) ?_;try intro ops hops)
            (refine fq trivial (o_ y 17 (by decide) (by decide)) ?_)
            (refine gy aB ?_;try intro ops hops)
            (refine fq trivial (o_ y 19 (by decide) (by decide)) ?_)
            refine gx (an9 aB @rx @sy @wad e3 e4 @vJ @hsl w9) ?_;refine⟨i+1,h2,ag _ _ [] [(101,101),(102,102),(103,103),(104,9991)] ?_ ?_ rfl rfl,by simp;omega⟩
            ·simp[cv,cv1,cv0,upd,lk,ah]
            ·simp[aV,ah,lk,cvO,frz,upd,hO,hss,gL]
          ·have h2:i=64:=by simp at h;omega
           subst h2;clear h;have hWl:=nC blk 64;have hblock:xm v blk=⟨wadd v.a (roundsTo v (sched blk 64) 64).a,wadd v.b (roundsTo v (sched blk 64) 64).b,wadd v.c (roundsTo v (sched blk 64) 64).c,wadd v.d (roundsTo v (sched blk 64) 64).d,wadd v.e (roundsTo v (sched blk 64) 64).e,wadd v.f (roundsTo v (sched blk 64) 64).f,wadd v.g (roundsTo v (sched blk 64) 64).g,wadd v.h (roundsTo v (sched blk 64) 64).h⟩:=rfl;rw[hblock]at hbs;clear hblk hblock hi;generalize sched blk 64=W at hWl hbs⊢;refine gx (an3 aB @V8.list.eq_1 @gL.eq_1) ?_;refine bu (ι:=Nat) (λt=>t<=64)
            (λt=>cO [(4,.os 101 1 0 64),(5,.os 102 1 0 8),(8,.os 103 1 0 (64*J)),(11,.i (.s (.int .i64 ((64*k:Nat):Int)))),(12,.os 104 1 0 64),
             (19,.i (.s (.int .u32 ((roundsTo v W t).a:Nat)))),(20,.i (.s (.int .u32 ((roundsTo v W t).b:Nat)))),(21,.i (.s (.int .u32 ((roundsTo v W t).c:Nat)))),(22,.i (.s (.int .u32 ((roundsTo v W t).d:Nat)))),
             (23,.i (.s (.int .u32 ((roundsTo v W t).e:Nat)))),(24,.i (.s (.int .u32 ((roundsTo v W t).f:Nat)))),(25,.i (.s (.int .u32 ((roundsTo v W t).g:Nat)))),(26,.i (.s (.int .u32 ((roundsTo v W t).h:Nat)))),(27,.i (.s (.int .i64 (t:Nat))))]
             [(101,.arr 1 (KS.map gL)),(102,.arr 1 (v.list.map gL)),(103,.arr 1 (M.map aL)),(104,.arr 1 (W.map gL))]) (λt=>64-t) 0 (Nat.zero_le _) ?_ ?_
           ·refine ag _ _ [] [(101,101),(102,102),(103,103),(104,104)] ?_ ?_ rfl rfl
            ·simp[cv,cv1,cv0,upd,lk,ah,roundsTo]
            ·simp[aV,ah,lk,cvO,frz,upd,hO,V8.list,gL]
           ·intro t ht;rw[ae];refine gx aB ?_;refine aM (λh=>?_) (λh=>?_)
            ·have h2:t<64:=by simp at h;omega
             clear h;have hs:roundsTo v W (t+1)=BG (roundsTo v W t) (KS.getD t 0) (W.getD t 0):=rfl;rw[SC]at hs;have hKl:KS.length=64:=rfl;have gK:(KS.map gL)[t]?=some [.s (.int .u32 ((KS.getD t 0:Nat):Int))]:=by simp[show t<KS.length by omega,gL]
             have gW:(W.map gL)[t]?=some [.s (.int .u32 ((W.getD t 0:Nat):Int))]:=by simp[show t<W.length by omega,gL]
             have l1:((t:Int)<64)=True:=eq_true (by omega);have w1:IntKind.i64.wrap ((t:Int)+1)=((t+1:Nat):Int):=by rw[ai (by omega) (by omega)];omega
             generalize roundsTo v W t=u at hs;generalize KS.getD t 0=Kt at hs gK;generalize W.getD t 0=Wt at hs gW;generalize hKK:KS.map gL=KK at gK;obtain⟨a,b',c,d,e,f,g,h'⟩:=u;simp only at hs
             (refine gy (an5 aB @Qn @ran @ra @ro) ?_;try intro ops hops)
             (refine fq trivial (o_ e 6 (by decide) (by decide)) ?_)
             (refine gy aB ?_;try intro ops hops)
             (refine fq trivial (o_ e 11 (by decide) (by decide)) ?_)
             (refine gy (an aB @rx) ?_;try intro ops hops)
             (refine fq trivial (o_ e 25 (by decide) (by decide)) ?_)
             (refine gy (an6 aB @rx @wad @gK @gW l1) ?_;try intro ops hops)
             (refine fq trivial (o_ a 2 (by decide) (by decide)) ?_)
             (refine gy aB ?_;try intro ops hops)
             (refine fq trivial (o_ a 13 (by decide) (by decide)) ?_)
             (refine gy (an aB @rx) ?_;try intro ops hops)
             (refine fq trivial (o_ a 22 (by decide) (by decide)) ?_)
             refine gx (an4 aB @rx @wad w1) ?_;refine⟨t+1,h2,ag _ _ [] [(101,101),(102,102),(103,103),(104,104)] ?_ ?_ rfl rfl,by simp;omega⟩
             ·simp[cv,cv1,cv0,upd,lk,ah,hs]
             ·simp[aV,ah,lk,cvO,frz,upd,hO,hKK]
            ·have h2:t=64:=by simp at h;omega
             subst h2;clear h ht;generalize roundsTo v W 64=u at hbs⊢;refine gx (an aB @gL.eq_1) ?_;refine bu (ι:=Nat) (λq=>q<=8)
              (λq=>cO [(4,.os 101 1 0 64),(5,.os 102 1 0 8),(8,.os 103 1 0 (64*J)),(11,.i (.s (.int .i64 ((64*k:Nat):Int)))),(265,.os 105 1 0 8),(266,.i (.s (.int .i64 8))),(267,.i (.s (.int .i64 (q:Nat))))]
               [(101,.arr 1 (KS.map gL)),(102,.arr 1 ((Ae v u q).map gL)),(103,.arr 1 (M.map aL)),(105,.arr 1 (u.list.map gL))]) (λq=>8-q) 0 (Nat.zero_le _) ?_ ?_
             ·refine ag _ _ [] [(101,101),(102,102),(103,103),(105,13552)] ?_ ?_ rfl rfl
              ·simp[cv,cv1,cv0,upd,lk,ah]
              ·simp[aV,ah,lk,cvO,frz,upd,hO,V8.list,gL,Ae]
             ·intro q hq;rw[ae];have hc:q=0\/q=1\/q=2\/q=3\/q=4\/q=5\/q=6\/q=7\/q=8:=by omega
              generalize hKK:KS.map gL=KK;by_cases h8:q=8
              ·subst h8;have w1:IntKind.i64.wrap (((64*k:Nat):Int)+64)=((64*(k+1):Nat):Int):=by rw[ai (by omega) (by omega)];omega
               refine gx (an aB w1) ?_;refine⟨k+1,h1,ag _ _ [] [(101,101),(102,102),(103,103)] ?_ ?_ rfl rfl,by simp;omega⟩
               ·simp[cv,cv1,cv0,upd,lk,ah]
               ·simp[aV,ah,lk,cvO,frz,upd,hO,hbs,Ae,V8.list,hKK,gL]
              ·rcases hc with rfl|rfl|rfl|rfl|rfl|rfl|rfl|rfl|rfl
               ·refine gx (an8 aB @Ae.eq_1 @V8.list.eq_1 @gL.eq_1 @wad @List.set_cons_zero.{0} @List.set_cons_succ.{0} @wq0) ?_;refine⟨1,by decide,ag _ _ [] [(101,101),(102,102),(103,103),(105,105)] ?_ ?_ rfl rfl,by decide⟩
                ·simp[cv,cv1,cv0,upd,lk,ah]
                ·simp[aV,ah,lk,cvO,frz,upd,hO,Ae,V8.list,hKK,gL]
               ·refine gx (an8 aB @Ae.eq_1 @V8.list.eq_1 @gL.eq_1 @wad @List.set_cons_zero.{0} @List.set_cons_succ.{0} @wq1) ?_;refine⟨2,by decide,ag _ _ [] [(101,101),(102,102),(103,103),(105,105)] ?_ ?_ rfl rfl,by decide⟩
                ·simp[cv,cv1,cv0,upd,lk,ah]
                ·simp[aV,ah,lk,cvO,frz,upd,hO,Ae,V8.list,hKK,gL]
               ·refine gx (an8 aB @Ae.eq_1 @V8.list.eq_1 @gL.eq_1 @wad @List.set_cons_zero.{0} @List.set_cons_succ.{0} @wq2) ?_;refine⟨3,by decide,ag _ _ [] [(101,101),(102,102),(103,103),(105,105)] ?_ ?_ rfl rfl,by decide⟩
                ·simp[cv,cv1,cv0,upd,lk,ah]
                ·simp[aV,ah,lk,cvO,frz,upd,hO,Ae,V8.list,hKK,gL]
               ·refine gx (an8 aB @Ae.eq_1 @V8.list.eq_1 @gL.eq_1 @wad @List.set_cons_zero.{0} @List.set_cons_succ.{0} @wq3) ?_;refine⟨4,by decide,ag _ _ [] [(101,101),(102,102),(103,103),(105,105)] ?_ ?_ rfl rfl,by decide⟩
                ·simp[cv,cv1,cv0,upd,lk,ah]
                ·simp[aV,ah,lk,cvO,frz,upd,hO,Ae,V8.list,hKK,gL]
               ·refine gx (an8 aB @Ae.eq_1 @V8.list.eq_1 @gL.eq_1 @wad @List.set_cons_zero.{0} @List.set_cons_succ.{0} @wq4) ?_;refine⟨5,by decide,ag _ _ [] [(101,101),(102,102),(103,103),(105,105)] ?_ ?_ rfl rfl,by decide⟩
                ·simp[cv,cv1,cv0,upd,lk,ah]
                ·simp[aV,ah,lk,cvO,frz,upd,hO,Ae,V8.list,hKK,gL]
               ·refine gx (an8 aB @Ae.eq_1 @V8.list.eq_1 @gL.eq_1 @wad @List.set_cons_zero.{0} @List.set_cons_succ.{0} @wq5) ?_;refine⟨6,by decide,ag _ _ [] [(101,101),(102,102),(103,103),(105,105)] ?_ ?_ rfl rfl,by decide⟩
                ·simp[cv,cv1,cv0,upd,lk,ah]
                ·simp[aV,ah,lk,cvO,frz,upd,hO,Ae,V8.list,hKK,gL]
               ·refine gx (an8 aB @Ae.eq_1 @V8.list.eq_1 @gL.eq_1 @wad @List.set_cons_zero.{0} @List.set_cons_succ.{0} @wq6) ?_;refine⟨7,by decide,ag _ _ [] [(101,101),(102,102),(103,103),(105,105)] ?_ ?_ rfl rfl,by decide⟩
                ·simp[cv,cv1,cv0,upd,lk,ah]
                ·simp[aV,ah,lk,cvO,frz,upd,hO,Ae,V8.list,hKK,gL]
               ·refine gx (an8 aB @Ae.eq_1 @V8.list.eq_1 @gL.eq_1 @wad @List.set_cons_zero.{0} @List.set_cons_succ.{0} @wq7) ?_;refine⟨8,by decide,ag _ _ [] [(101,101),(102,102),(103,103),(105,105)] ?_ ?_ rfl rfl,by decide⟩
                ·simp[cv,cv1,cv0,upd,lk,ah]
                ·simp[aV,ah,lk,cvO,frz,upd,hO,Ae,V8.list,hKK,gL]
               ·exact absurd rfl h8
        ·have h1:k=J:=by simp at h;omega
         subst h1;clear h;generalize bT V0 k M=v;refine gx aB ?_;clear hM hJ hk;refine bu (ι:=Nat) (λq=>q<=8)
          (λq=>cO [(34,.os 106 1 0 (4*q)),(282,.os 102 1 0 8),(283,.i (.s (.int .i64 8))),(284,.i (.s (.int .i64 (q:Nat))))]
           [(102,.arr 1 (v.list.map gL)),(106,.arr 1 ((pq v q).map aL))]) (λq=>8-q) 0 (Nat.zero_le _) ?_ ?_
         ·refine ag _ _ [] [(102,102)] ?_ ?_ rfl rfl
          ·simp[cv,cv1,cv0,upd,lk,ah]
          ·simp[aV,ah,lk,cvO,frz,upd,hO,pq]
         ·intro q hq;rw[ae];refine gx aB ?_;refine aM (λh=>?_) (λh=>?_)
          ·have h2:q<8:=by simp at h;omega
           clear h;have hol:=xW v q hq;have hos:=El v q h2;have hvl:v.list.length=8:=rfl;have gq:(v.list.map gL)[q]?=some [.s (.int .u32 ((v.list.getD q 0:Nat):Int))]:=by simp[show q<v.list.length by omega,gL]
           have l1:((q:Int)<8)=True:=eq_true (by omega);generalize v.list.getD q 0=x at hos gq;generalize pq v q=ob at hol hos;generalize hVL:v.list.map gL=VL at gq;refine gx (an3 aB @gq l1) ?_;refine bu (ι:=Nat) (λt=>t<=4)
            (λt=>cO [(34,.os 106 1 0 (4*q+t)),(36,.i (.s (.int .u32 (x:Nat)))),(37,.i (.s (.int .i64 (3-(t:Int))))),(282,.os 102 1 0 8),(283,.i (.s (.int .i64 8))),(284,.i (.s (.int .i64 (q:Nat))))]
             [(102,.arr 1 VL),(106,.arr 1 ((ob++(vC x).take t).map aL))]) (λt=>4-t) 0 (Nat.zero_le _) ?_ ?_
           ·refine ag _ _ [] [(102,102),(106,106)] ?_ ?_ rfl rfl
            ·simp[cv,cv1,cv0,upd,lk,ah]
            ·simp[aV,ah,lk,cvO,frz,upd,hO]
           ·intro t ht;rw[ae];refine gx aB ?_;refine aM (λh=>?_) (λh=>?_)
            ·have h1:t<4:=by simp at h;omega
             clear h;have hts:=oq (UL x t h1);have e7:(3:Int)-(t:Int)=((3-t:Nat):Int):=by omega
             have w3:IntKind.i64.wrap (8*((3-t:Nat):Int))=((8*(3-t):Nat):Int):=by rw[ai (by omega) (by omega)];omega
             have w4:=sZ (k:=.u32) x (3-t) (by simp[IntKind.bits];omega);have w5:IntKind.i64.wrap (((3-t:Nat):Int)-1)=3-((t+1:Nat):Int):=by rw[ai (by omega) (by omega)];omega
             have hl8:(vC x).length=4:=rfl;have e3:4*q+t+1<=140737488355328:=by omega
             have e8:ob.length+min t (vC x).length=4*q+t:=by rw[hl8];omega
             generalize aN x (256^(3-t))=c at hts w4;generalize 3-t=d at e7 w3 w4 w5;generalize vC x=B4 at hts e8 hl8;refine gx (an9 aB e7 w3 w4 w5 e3 e8 @eD @List.length_take.{0}) ?_;refine⟨t+1,h1,ag _ _ [] [(102,102),(106,16623)] ?_ ?_ rfl rfl,by simp;omega⟩
             ·simp[cv,cv1,cv0,upd,lk,ah];omega
             ·simp[aV,ah,lk,cvO,frz,upd,hO,aL,hts]
            ·have h1:t=4:=by simp at h;omega
             subst h1;have w1:IntKind.i64.wrap ((q:Int)+1)=((q+1:Nat):Int):=by rw[ai (by omega) (by omega)];omega
             rw[show(vC x).take 4=vC x from rfl,<- hos];refine gx (an aB w1) ?_;refine⟨q+1,h2,ag _ _ [] [(102,102),(106,106)] ?_ ?_ rfl rfl,by simp;omega⟩
             ·simp[cv,cv1,cv0,upd,lk,ah];omega
             ·simp[aV,ah,lk,cvO,frz,upd,hO,hVL]
          ·have h2:q=8:=by simp at h;omega
           subst h2;have hol:=xW v 8 (Nat.le_refl _);rw[<- Kc];generalize pq v 8=ob at hol;refine gx aB ?_;refine au [106] rfl ?_;have hof:List.take 32 (ob.map aL)=ob.map aL:=List.take_of_length_le (by simp;omega);simp[cv,cv1,cv0,upd,hO,lk,aJ,hol,hof]
end Go.Proofs.YtoifllbioldomaaGreatDoor
