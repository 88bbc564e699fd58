/- landref2.Times, Power, join, Number, Secret, Key: by value, in short. -/
import Derived.Test.YtdmeldhlbpdeeaaGreatDoorGSeal
import Derived.Test.YtdmeldhlbpdeeaaGreatDoorGR1
import Derived.Test.YtdmeldhlbpdeeaaGreatDoorGWk
set_option linter.all false
set_option maxHeartbeats 8000000
set_option maxRecDepth 20000
namespace Go.Proofs.YtdmeldhlbpdeeaaGreatDoor
open Go Go.Abs Go.RowKit Go.Proofs.YtdmeldhlbpdeeaaGreatDoor.Ty
attribute [local simp,local go_sem] dI bI bbI
theorem Ko (r a b m:Nat):(r+a*b)%m=((if b%2=1 then(r+a)%m else r)+(a+a)%m*(b/2))%m:=by
 have e:=Nat.div_add_mod b 2;have h:r+a*b=(r+a*(b%2))+(a+a)*(b/2):=by
  conv=>lhs;rw[<- e]
  rw[Nat.mul_add,<- Nat.mul_assoc,Nat.mul_two];omega
 rw[h,Nat.add_mod,Nat.mul_mod];split
 ·rename_i h1;rw[h1,Nat.mul_one]
  conv=>rhs;rw[Nat.add_mod,Nat.mod_mod,Nat.mul_mod,Nat.mod_mod]
 ·rename_i h1;have h0:b%2=0:=by omega
  rw[h0,Nat.mul_zero,Nat.add_zero]
  conv=>rhs;rw[Nat.add_mod,Nat.mul_mod,Nat.mod_mod]
theorem Gp (a b m:Nat)(ha:a<18446744073709551616)(hb:b<18446744073709551616)(h0:0<m)(hm:m<=9223372036854775808):
  PureD Tryz.prog 124 [dI a,dI b,dI m] (dI (a*b%m)):=by
 refine ai λR hR=>?_;generalize hq:a*b%m=q at hR;have q0:((m:Int)=0)=False:=eq_false (by omega);have tm:∀n:Nat,(n:Int).tmod (m:Int)=((n%m:Nat):Int):=λn=>Bt n m;have tma:=tm a;refine aa 29 Tryz.func124 ?_;refine wkl ?_;clear hR;intro hR
 repeat' (intro _)
 refine aS (ι:=Nat×Nat×Nat) (λp=>(p.1+p.2.1*p.2.2)%m=q/\p.1<m/\p.2.1<m/\p.2.2<18446744073709551616)
  (λp=>dP [(0,dI p.2.1),(1,dI p.2.2),(2,dI m),(7,dI p.1)] []) (λp=>p.2.2) (0,a%m,b) ⟨by rw[<- hq];simp[Nat.mul_mod],h0,Nat.mod_lt _ h0,hb⟩ ?_ ?_
 ·exact dB [] []
 ·rintro⟨r,c,n⟩ ⟨hI,hr,hc,hn⟩ RL hL;simp only at hI hr hc hn;rw[ag];clear tma;by_cases hn0:0<n
  ·have t2:(n:Int).tmod 2=((n%2:Nat):Int):=Bt n 2;have d2:IntKind.u64.wrap ((n:Int).tdiv 2)=((n/2:Nat):Int):=by rw[Int.tdiv_eq_ediv_of_nonneg (by omega),IntKind.wrap_u64];omega
   have w1:IntKind.u64.wrap ((r:Int)+(c:Int))=((r+c:Nat):Int):=by rw[IntKind.wrap_u64];omega
   have w2:IntKind.u64.wrap ((c:Int)+(c:Int))=((c+c:Nat):Int):=by rw[IntKind.wrap_u64];omega
   have t3:=tm (r+c);have t4:=tm (c+c);rw[Ko]at hI;have hcc:(c+c)%m<m:=Nat.mod_lt _ h0;have hrc:(r+c)%m<m:=Nat.mod_lt _ h0;by_cases hg:n%2=1
   ·rw[if_pos hg]at hI;have hg2:((n%2:Nat):Int)=1:=by omega
    have b1:=λσ'=>bk [] [] (hL ((r+c)%m,(c+c)%m,n/2) σ' ⟨hI,hrc,hcc,by simp;omega⟩);simp only at b1;clear hL tm hI;exact wkl trivial
   ·rw[if_neg hg]at hI;have hg2:¬((n%2:Nat):Int)=1:=by omega
    have b1:=λσ'=>bk [] [] (hL (r,(c+c)%m,n/2) σ' ⟨hI,hr,hcc,by simp;omega⟩);simp only at b1;clear hL tm hI;exact wkl trivial
  ·have hn0:n=0:=by omega
   subst hn0;have hrq:r=q:=by rw[<- hI,Nat.mul_zero,Nat.add_zero,Nat.mod_eq_of_lt hr]
   subst hrq;clear hL tm hI;exact wkl trivial
theorem QR (b e k m:Nat):b^(e/2^k)%m=(if(e/2^k)%2=1 then(b^(e/2^(k+1))%m)*(b^(e/2^(k+1))%m)%m*b%m else(b^(e/2^(k+1))%m)*(b^(e/2^(k+1))%m)%m):=by
 have e1:e/2^(k+1)=e/2^k/2:=by rw[Nat.pow_succ,Nat.div_div_eq_div_mul]
 rw[e1];generalize e/2^k=n;have hn:=Nat.div_add_mod n 2;have h2:(b^(n/2)%m)*(b^(n/2)%m)%m=b^(2*(n/2))%m:=by rw[<- Nat.mul_mod,<- Nat.pow_add,Nat.two_mul]
 rw[h2];split
 ·rename_i h1;have:n=2*(n/2)+1:=by omega
  conv=>lhs;rw[this,Nat.pow_succ]
  rw[Nat.mod_mul_mod]
 ·rename_i h1;have:n=2*(n/2):=by omega
  conv=>lhs;rw[this]
theorem Tp (b e m:Nat)(hb:b<18446744073709551616)(he:e<18446744073709551616)(h1:1<m)(hm:m<=9223372036854775808):
  PureD Tryz.prog 68 [dI b,dI e,dI m] (dI (b^e%m)):=by
 refine ai λR hR=>?_;generalize hq:b^e%m=q at hR;refine aa 27 Tryz.func68 ?_;refine wkl ?_;clear hR;intro hR
 repeat' (intro _)
 refine aS (ι:=Nat×Nat) (λp=>p.2<=64/\p.1=b^(e/2^p.2)%m)
  (λp=>dP [(0,dI b),(1,dI e),(2,dI m),(7,dI p.1),(8,.i (.s (.int .i64 ((p.2:Int)-1))))] []) (λp=>p.2) (1,64) ⟨by simp,by rw[Nat.div_eq_of_lt (by simpa using he),Nat.pow_zero,Nat.mod_eq_of_lt h1]⟩ ?_ ?_
 ·exact dB [] []
 ·rintro⟨r,k⟩ ⟨hk,hI⟩ RL hL;simp only at hk hI;rw[ag];cases k with
  |zero =>
   have hr:r=q:=by rw[hI,Nat.pow_zero,Nat.div_one,hq]
   subst hr;clear hL;exact wkl trivial
  |succ k =>
   have hst:=QR b e k m;rw[<- hI]at hst;have hk1:((k+1:Nat):Int)-1=(k:Int):=by omega
   have hr:r<m:=by rw[hI];exact Nat.mod_lt _ (by omega)
   have hsh:(e:Int).fdiv (2^min k 64)=((e/2^k:Nat):Int):=jf e k (by omega);have t2:((e/2^k:Nat):Int).tmod 2=((e/2^k%2:Nat):Int):=Bt _ 2;have w4:IntKind.i64.wrap ((k:Int)-1)=(k:Int)-1:=by rw[au (by omega) (by omega)]
   have c1:=Gp r r m (by omega) (by omega) (by omega) hm;have hrr:r*r%m<m:=Nat.mod_lt _ (by omega);have c2:=Gp (r*r%m) b m (by omega) hb (by omega) hm;have hL2:=λx (hx:x=b^(e/2^k)%m) σ'=>hL (x,k) σ' ⟨by simp at hk⊢;omega,hx⟩;clear hL hI;generalize hnx:b^(e/2^k)%m=nx at hst hL2;generalize hR:r*r%m=X at*;generalize hek:e/2^k=ek at*;by_cases hg:ek%2=1
   ·rw[if_pos hg]at hst;have hg2:((ek%2:Nat):Int)=1:=by omega
    have b1:=λσ'=>bk [] [] (hL2 (X*b%m) hst.symm σ');clear hL2 hst;exact wkl trivial
   ·rw[if_neg hg]at hst;have hg2:¬((ek%2:Nat):Int)=1:=by omega
    have b1:=λσ'=>bk [] [] (hL2 X hst.symm σ');clear hL2 hst c2;exact wkl trivial
theorem PD (l:List (List UInt8)){k:Nat}(h:k<l.length):(l.take (k+1)).flatten=(l.take k).flatten++l[k]:=by rw[nT (List.getElem?_eq_getElem h),List.flatten_append];simp
theorem CL (l:List (List UInt8))(k:Nat):(l.take k).flatten.length<=l.flatten.length:=by
 conv=>rhs;rw[<- List.take_append_drop k l,List.flatten_append,List.length_append]
 omega
theorem Ze (l:List (List UInt8))(hl:l.length<=1000)(hf:l.flatten.length<=140737488355328):PureD Tryz.prog 126 [.i (bbI l)] (.i (bI l.flatten)):=by
 refine ai λR hR=>?_;refine aa 17 Tryz.func126 ?_;refine wkl ?_;clear hR;intro hR
 repeat' (intro _)
 refine aS (ι:=Nat) (λk=>k<=l.length) (λk=>dP [(3,.os 100 1 0 (l.take k).flatten.length),(6,.i (.sl (l.map λb=>[I.sl (b.map aH)]))),(7,intD l.length),(8,intD k)] [(100,.arr 1 ((l.take k).flatten.map aH))]) (λk=>l.length-k) 0 (Nat.zero_le _) ?_ ?_
 ·exact dB [] []
 ·rintro k hk RL hL;rw[ag];by_cases h:k<l.length
  ·have s0:=aI (f:=λb:List UInt8=>[I.sl (b.map aH)]) h;have b1:=λσ'=>bk [] [(100,2282)] (hL (k+1) σ' h);have hs:=PD l h;have hle:=CL l (k+1);rw[hs,List.map_append,List.length_append]at b1;rw[hs,List.length_append]at hle;have l1:((l.take k).flatten.map aH).length=(l.take k).flatten.length:=List.length_map ..;have l2:(l[k].map aH).length=l[k].length:=List.length_map ..;have un:=fB l[k];clear hL hs;generalize l[k].map aH=eb at*;generalize(l.take k).flatten.map aH=ef at*;generalize(l.take k).flatten.length=nf at*;generalize l[k].length=nb at*;subst l1;subst l2;exact wkl trivial
  ·have hk2:k=l.length:=by omega
   subst hk2;rw[List.take_length];have lF:(l.flatten.map aH).length=l.flatten.length:=List.length_map ..;have t1:(l.flatten.map aH).take l.flatten.length=l.flatten.map aH:=List.take_of_length_le (by rw[lF];exact Nat.le_refl _);simp only[bI]at hR;clear hL;generalize l.flatten.map aH=F at*;generalize l.flatten.length=nF at*;exact wkl trivial
theorem Nb (b:List UInt8)(hb:b.length<=1099511627776):PureD Tryz.prog 125 [.i (bI b)] (dI (Bd (sha b))):=by
 refine ai λR hR=>?_;have hsl:=bg b;have c1:=SK b hb;have hN:Bd (sha b)=hor (sha b) 0 8:=rfl;rw[hN]at hR;clear hN;generalize sha b=d at*;have t8:min 8 d.length=8:=by omega
 have ub:=fB d;refine aa 21 Tryz.func125 ?_;refine wkl ?_;clear hR;intro hR
 repeat' (intro _)
 clear c1;refine aS (ι:=Nat) (λk=>k<=8) (λk=>dP [(3,dI (hor d 0 k)),(8,.i (.sl ((d.map aH).take 8))),(9,intD 8),(10,intD k)] []) (λk=>8-k) 0 (Nat.zero_le _) ?_ ?_
 ·simp only[hor];exact dB [] []
 ·rintro k hk RL hL;rw[ag];by_cases h1:k<8
  ·have hkd:k<d.length:=by omega
   have e1:((d.map aH).take 8)[k]?=some [.s (.int .u8 ((d[k]).toNat:Int))]:=by rw[List.getElem?_take_of_lt h1,List.getElem?_map,List.getElem?_eq_getElem hkd];rfl
   have hs:hor d 0 (k+1)=hor d 0 k*256+(d[k]).toNat:=by rw[hor,Nat.zero_add,AV hkd]
   have hx:=Cz d 0 k;have hx7:hor d 0 k<256^7:=Nat.lt_of_lt_of_le hx (Nat.pow_le_pow_right (by decide) (by omega));have hcl:=(d[k]).toNat_lt;have b1:=λσ'=>bk [] [] (hL (k+1) σ' h1);have l8:((d.map aH).take 8).length=8:=by simp;omega
   clear hL hx;generalize(d[k]).toNat=c at e1 hs hcl;have c7:(256:Nat)^7=72057594037927936:=by decide
   rw[c7]at hx7;have w1:IntKind.u64.wrap (256*((hor d 0 k:Nat):Int))=((256*hor d 0 k:Nat):Int):=by rw[IntKind.wrap_u64];omega
   have w2:IntKind.u64.wrap (c:Int)=(c:Int):=by rw[IntKind.wrap_u64];omega
   have w3:IntKind.u64.wrap (((256*hor d 0 k:Nat):Int)+(c:Int))=((hor d 0 (k+1):Nat):Int):=by rw[hs,IntKind.wrap_u64];omega
   clear hs;generalize 256*hor d 0 k=x8 at*;generalize(d.map aH).take 8=d8 at*;exact wkl trivial
  ·have hk2:k=8:=by omega
   subst hk2;clear hL;exact wkl trivial
theorem MZ (seed:List UInt8)(hb:seed.length<=1048576):PureD Tryz.prog 69 [.i (bI seed)] (dI (secretF seed)):=by
 refine ai λR hR=>?_;have c1:=Ze [xV,seed] (by simp) (by simp[xV];omega);have c2:=Nb (xV++seed) (by simp[xV];omega);have hf:[xV,seed].flatten=xV++seed:=by simp
 rw[hf]at c1;have hs:secretF seed=Bd (sha (xV++seed))%576460752303424852+1:=rfl;have hlt:=NZ (sha (xV++seed));generalize xV++seed=KS at*;generalize Bd (sha KS)=N at c2 hs hlt;have w1:(N:Int).tmod 576460752303424852=((N%576460752303424852:Nat):Int):=Bt N 576460752303424852;have w2:IntKind.u64.wrap (1+((N%576460752303424852:Nat):Int))=((secretF seed:Nat):Int):=by rw[hs,IntKind.wrap_u64];omega
 clear hs;simp only[bbI,xV,List.map_cons,List.map_nil]at c1;refine aa 11 Tryz.func69 ?_;exact wkl trivial
theorem Nc (seed:List UInt8)(hb:seed.length<=1048576):PureD Tryz.prog 21 [.i (bI seed)] (dI (keyF seed)):=by refine ai λR hR=>?_;have hs:=(mW seed).2;have c1:=MZ seed hb;have c2:=Tp 4 (secretF seed) pN (by decide) (Nat.lt_trans hs (by decide)) (by decide) (by decide);rw[show 4^secretF seed%pN=keyF seed from rfl]at c2;simp only[pN]at c2;generalize keyF seed=K at*;generalize secretF seed=S at*;refine aa 6 Tryz.func21 ?_;exact wkl trivial
end Go.Proofs.YtdmeldhlbpdeeaaGreatDoor
