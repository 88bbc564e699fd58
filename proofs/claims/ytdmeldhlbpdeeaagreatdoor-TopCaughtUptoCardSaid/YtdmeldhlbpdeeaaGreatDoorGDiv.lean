/- Merged texts: Add64, Bits, DivS, Len64, Div64, Hor. -/
import Derived.Shelf.Bits.Mul64
import Derived.Laws.Externs
import Derived.Test.YtdmeldhlbpdeeaaGreatDoorGy
import Derived.Test.YtdmeldhlbpdeeaaGreatDoorGSha
set_option linter.all false
set_option maxHeartbeats 8000000
namespace Go.Proofs.YtdmeldhlbpdeeaaGreatDoor
open Go Go.Abs Go.RowKit Go.Proofs.YtdmeldhlbpdeeaaGreatDoor.Ty
theorem Ba (x y c:Nat)(hx:x<18446744073709551616)(hy:y<18446744073709551616)(hc:c<=1)(G:Nat->Ob):
  Sg Tryz.prog 272 [.i (.s (.int .u64 (x:Int))),.i (.s (.int .u64 (y:Int))),.i (.s (.int .u64 (c:Int)))] G (.tup [.i (.s (.int .u64 (((x+y+c)%18446744073709551616:Nat):Int))),.i (.s (.int .u64 (((x+y+c)/18446744073709551616:Nat):Int)))]) G:=by
 refine Jb (vs:=[.int .u64 (x:Int),.int .u64 (y:Int),.int .u64 (c:Int)]) (v:=.tuple #[.int .u64 (((x+y+c)%18446744073709551616:Nat):Int),.int .u64 (((x+y+c)/18446744073709551616:Nat):Int)]) rfl (λw=>?_) (λK=>?_)
 ·show(callFunc 272 #[.int .u64 (x:Int),.int .u64 (y:Int),.int .u64 (c:Int)]).run Tryz.prog w=_;rw[run_callFunc_extern Tryz.func272 (by kernel_rfl) (by kernel_rfl) (by kernel_rfl) (e:=add64Entry) (by kernel_rfl),run_add64 _ _ _ (by omega) (by omega) (by omega) (by omega)];simp
 ·refine .tup _ _ rfl (λj d hd=>?_);rcases j with _|_|j<;>simp at hd<;>subst hd<;>exact .i (.s _ rfl)
def YP:=@Ty.T59
theorem S_ (a:Nat):(a:Int).fdiv (2^min 32 (IntKind.bits .u64))=((a/4294967296:Nat):Int):=by rw[show min 32 (IntKind.bits .u64)=32 from rfl,Int.fdiv_eq_ediv_of_nonneg _ (by decide)];omega
theorem zS (x y:Nat)(hx:x<18446744073709551616)(hy:y<18446744073709551616):
  PureD Tryz.prog 173 [.i (.s (.int .u64 (x:Int))),.i (.s (.int .u64 (y:Int)))] (.tup [.i (.s (.int .u64 ((x*y/18446744073709551616:Nat):Int))),.i (.s (.int .u64 ((x*y%18446744073709551616:Nat):Int)))]):=by
 obtain⟨bd,bt,bw,hhi⟩:=Lib.mul64_hi x y hx hy;have ba:=Lib.half_mul_le (a:=x/4294967296) (b:=y/4294967296) (by omega) (by omega);have bb:=Lib.half_mul_le (a:=x/4294967296) (b:=y%4294967296) (by omega) (by omega);have bc:=Lib.half_mul_le (a:=x%4294967296) (b:=y/4294967296) (by omega) (by omega);have ba':x/4294967296*(y/4294967296)<18446744073709551616:=by omega
 have bb':x/4294967296*(y%4294967296)<18446744073709551616:=by omega
 have bc':x%4294967296*(y/4294967296)<18446744073709551616:=by omega
 have bh1:x/4294967296*(y/4294967296)+(x/4294967296*(y%4294967296)+x%4294967296*(y%4294967296)/4294967296)/4294967296<18446744073709551616:=by omega
 have bh:x/4294967296*(y/4294967296)+(x/4294967296*(y%4294967296)+x%4294967296*(y%4294967296)/4294967296)/4294967296+((x/4294967296*(y%4294967296)+x%4294967296*(y%4294967296)/4294967296)%4294967296+x%4294967296*(y/4294967296))/4294967296<18446744073709551616:=by rw[hhi];exact Nat.div_lt_of_lt_mul (Nat.mul_lt_mul'' hx hy)
 refine aa 51 Tryz.func173 ?_;refine gx (an9 YP @S_ (Mul64.maskN x hx) (Mul64.maskN y hy) @Mul64.mulN @Mul64.addN (Mul64.wrapN _ bd) (Mul64.wrapN _ bb') (an8 (Mul64.wrapN _ bt) (Mul64.maskN _ bt) (Mul64.wrapN _ bc') (Mul64.wrapN _ bw) (Mul64.wrapN _ ba') (Mul64.wrapN _ bh1) (Mul64.wrapN _ bh) (Mul64.wrapM (x*y)))) ?_;rw[hhi];refine dC [] rfl ?_;simp[cv,cvT,cv1,cv0,upd]
theorem adF (B y1 y0 u d q r:Nat)(hI:q*y1+r=u):q*(y1*B+y0)+(B*r+d)=(u*B+d)+q*y0:=by subst hI;rw[Nat.mul_add,Nat.add_mul,<- Nat.mul_assoc,Nat.mul_comm B r];omega
theorem adE {y u d B:Nat}(hu:u<y)(hd:d<B):(u*B+d)/y<B:=by rw[Nat.div_lt_iff_lt_mul (by omega)];have:=Nat.mul_le_mul_right B (show u+1<=y by omega);rw[Nat.add_mul]at this;rw[Nat.mul_comm B y];omega
theorem OI {B y1 y0 u d q r:Nat}(hy:0<y1*B+y0)(hI:q*y1+r=u)(hq:(u*B+d)/(y1*B+y0)<=q)(h:q*y0<=B*r+d):q=(u*B+d)/(y1*B+y0):=by refine Nat.le_antisymm ((Nat.le_div_iff_mul_le hy).2 ?_) hq;have:=adF B y1 y0 u d q r hI;omega
theorem ZZ {B y1 y0 u d q r:Nat}(hu:u<y1*B+y0)(hd:d<B)(hI:q*y1+r=u)(h:B<=q\/B*r+d<q*y0):(u*B+d)/(y1*B+y0)<q:=by
 rcases h with h|h
 ·exact Nat.lt_of_lt_of_le (adE hu hd) h
 ·rw[Nat.div_lt_iff_lt_mul (by omega)];have:=adF B y1 y0 u d q r hI;omega
theorem Uh {B y1 y0 u d q r:Nat}(hy:0<y1*B+y0)(h0:y0<B)(hI:q*y1+r=u)(hq:(u*B+d)/(y1*B+y0)<=q)(hqB:q<=B)(hr:B<=r):q=(u*B+d)/(y1*B+y0):=by refine OI hy hI hq ?_;have h1:=Nat.mul_le_mul hqB (Nat.le_of_lt h0);have h2:=Nat.mul_le_mul_left B hr;omega
theorem kn_first {B y1 y0 u d:Nat}(hy1:2^31<=y1)(hB:B=4294967296)(h0:y0<B)(hu:u<y1*B+y0):u/y1*y1+u%y1=u/\(u*B+d)/(y1*B+y0)<=u/y1\/d ≥ B:=by
 by_cases hd:d<B
 ·left;have e:=Nat.div_add_mod' u y1;refine⟨e,?_⟩;have hlt:=Nat.mod_lt u (show 0<y1 by omega);rcases Nat.lt_or_ge (u/y1) ((u*B+d)/(y1*B+y0))with h|h
  ·exfalso;have h1:u/y1+1<=(u*B+d)/(y1*B+y0):=h;rw[Nat.le_div_iff_mul_le (by omega)]at h1;have h2:(u/y1+1)*(y1*B+y0) ≥ (u/y1+1)*(y1*B):=Nat.mul_le_mul_left _ (by omega);have h3:(u/y1+1)*(y1*B)=(u/y1*y1+y1)*B:=by rw[<- Nat.mul_assoc,Nat.add_mul,Nat.one_mul]
   have h4:u+1<=u/y1*y1+y1:=by omega
   have h5:=Nat.mul_le_mul_right B h4;rw[Nat.add_mul]at h5;omega
  ·exact h
 ·exact .inr (by omega)
theorem Ug {B y1 y0 u:Nat}(hy1:2^31<=y1)(hB:B=4294967296)(h0:y0<B)(hu:u<y1*B+y0):u/y1<=B+1:=by
 have:u/y1<B+2:=by rw[Nat.div_lt_iff_lt_mul (by omega),Nat.add_mul];have:=Nat.mul_comm B y1;omega
 omega
section
variable {B y1 y0 u d q r Y Q:Nat}
theorem uS (hQ:Q=(u*B+d)/Y)(hYe:Y=y1*B+y0)(hy:0<Y)(hI:q*y1+r=u)(hq:Q<=q)(h:q*y0<=B*r+d):q=Q:=by subst hYe;subst hQ;exact OI hy hI hq h
theorem uR (hQ:Q=(u*B+d)/Y)(hYe:Y=y1*B+y0)(hu:u<Y)(hd:d<B)(hI:q*y1+r=u)(h:B<=q\/B*r+d<q*y0):Q<q:=by subst hYe;subst hQ;exact ZZ hu hd hI h
theorem iT (hQ:Q=(u*B+d)/Y)(hYe:Y=y1*B+y0)(hy:0<Y)(h0:y0<B)(hI:q*y1+r=u)(hq:Q<=q)(hqB:q<=B)(hr:B<=r):q=Q:=by subst hYe;subst hQ;exact Uh hy h0 hI hq hqB hr
theorem kn_first' (hQ:Q=(u*B+d)/Y)(hYe:Y=y1*B+y0)(hy1:2^31<=y1)(hB:B=4294967296)(h0:y0<B)(hu:u<Y)(hd:d<B):u/y1*y1+u%y1=u/\Q<=u/y1:=by
 subst hYe;subst hQ;rcases kn_first (d:=d) hy1 hB h0 hu with h|h
 ·exact h
 ·omega
theorem Cq (hYe:Y=y1*B+y0)(hy1:2^31<=y1)(hB:B=4294967296)(h0:y0<B)(hu:u<Y):u/y1<=B+1:=by subst hYe;exact Ug hy1 hB h0 hu
theorem kn_parts (hQ:Q=(u*B+d)/Y)(hy:0<Y)(hu:u<Y)(hd:d<B){R:Nat}(hR:R=(u*B+d)%Y):Q*Y+R=u*B+d/\R<Y/\Q<B:=by subst hQ;subst hR;exact⟨Nat.div_add_mod' _ _,Nat.mod_lt _ hy,adE hu hd⟩
end
theorem ML (U Y s:Nat):(U*2^s)/(Y*2^s)=U/Y:=Nat.mul_div_mul_right U Y (Nat.pow_pos (by decide))
theorem MK (U Y s:Nat):(U*2^s)%(Y*2^s)=(U%Y)*2^s:=Nat.mul_mod_mul_right _ _ _
theorem two_digits (V y B:Nat)(hy:0<y)(hB:0<B)(u d1 d0:Nat)(hV:V=(u*B+d1)*B+d0)(hd0:d0<B):
  V/y=(u*B+d1)/y*B+((u*B+d1)%y*B+d0)/y/\V%y=((u*B+d1)%y*B+d0)%y:=by
 have e:=Nat.div_add_mod (u*B+d1) y;have hV2:V=((u*B+d1)%y*B+d0)+(u*B+d1)/y*B*y:=by
  rw[hV]
  conv=>lhs;rw[<- e]
  rw[Nat.add_mul,Nat.mul_assoc,Nat.mul_comm y,Nat.mul_assoc];have:(u*B+d1)/y*(B*y)=(u*B+d1)/y*B*y:=(Nat.mul_assoc _ _ _).symm;omega
 rw[hV2,Nat.add_mul_div_right _ _ hy,Nat.add_mul_mod_self_right];constructor
 ·omega
 ·rfl
def F_:=an @Ty.T3 @Ty.T59
def kD:=an4 @Ty.T3 @Ty.T5 @Ty.T9 @Ty.T59
section
variable {P:Program}{sl:Nat->D}{H:Nat->Ob}{t:TypeId}{x y:Operand}
theorem iU {S:ByteArray}{k:IntKind}{n:Nat}{u:Option TypeDesc}(h:aG P t=some .string)(hn:n<S.size):idQ P t (.i (.s (.string S))) u (some (.int k (n:Int)))=some (.i (.s (.int .u8 ((S.data.toList.getD n 0).toNat:Int)))) :=
 O_ h (Int.natCast_nonneg _) (by simpa using hn)
end
theorem tH {x x3 k L:Nat}(hx3:x3=x/2^k)(hL:1<=L)(h1:2^(L-1)<=x3)(h2:x3<2^L):Nat.log2 x+1=k+L:=by
 subst hx3;have hp:0<2^k:=Nat.pow_pos (by decide);rw[Nat.le_div_iff_mul_le hp,<- Nat.pow_add]at h1;rw[Nat.div_lt_iff_lt_mul hp,<- Nat.pow_add]at h2;have hx:x≠0:=by have:=Nat.pow_pos (n:=L-1+k) (show 0<2 by decide);omega
 have:=(Nat.log2_eq_iff hx (k:=L-1+k)).2 ⟨h1,by rw[show L-1+k+1=L+k by omega];exact h2⟩;omega
theorem jf (a d:Nat)(hd:d<=64):(a:Int).fdiv (2^min d (IntKind.bits .u64))=((a/2^d:Nat):Int):=by
 rw[show min d (IntKind.bits .u64)=d by simp[IntKind.bits];omega,Int.fdiv_eq_ediv_of_nonneg _ (Int.le_of_lt (Int.pow_pos (by decide)))];have e:((2:Int)^d)=((2^d:Nat):Int):=by simp
 rw[e];exact(Int.natCast_ediv _ _).symm
theorem wn1:IntKind.i64.wrap (0+16)=16:=by decide
theorem wn2:IntKind.i64.wrap (32+16)=48:=by decide
theorem wn3:IntKind.i64.wrap (0+8)=8:=by decide
theorem wn4:IntKind.i64.wrap (16+8)=24:=by decide
theorem wn5:IntKind.i64.wrap (32+8)=40:=by decide
theorem wn6:IntKind.i64.wrap (48+8)=56:=by decide
theorem Oy (x:Nat)(hx0:0<x)(hx:x<18446744073709551616):PureD Tryz.prog 148 [.i (.s (.int .u64 (x:Int)))] (.i (.s (.int .i64 ((Nat.log2 x+1:Nat):Int)))):=by
 refine aa 25 Tryz.func148 ?_;generalize hS:(ByteArray.mk _)=S;have hSz:S.size=256:=by subst hS;decide +kernel
 have hT:∀x,x<256->0<x->1<=(S.data.toList.getD x 0).toNat/\(S.data.toList.getD x 0).toNat<=8/\2^((S.data.toList.getD x 0).toNat-1)<=x/\x<2^(S.data.toList.getD x 0).toNat:=by subst hS;decide +kernel
 clear hS;have s32:=jf x 32 (by decide);have c32:(2:Nat)^32=4294967296:=by decide
 have c16:(2:Nat)^16=65536:=by decide
 have c8:(2:Nat)^8=256:=by decide
 by_cases h0:4294967296<=x
 ·have g0:decide ((4294967296:Int)<=(x:Int))=true:=by simp;omega
  have sh0:=jf x 32 (by decide);have hb0:0<x/2^32/\x/2^32<4294967296:=by rw[c32];omega
  generalize he0:x/2^32=x1 at sh0 hb0;by_cases h1:65536<=x1
  ·have g1:decide ((65536:Int)<=(x1:Int))=true:=by simp;omega
   have sh1:=jf x1 16 (by decide);have hb1:0<x1/2^16/\x1/2^16<65536:=by rw[c16];omega
   generalize he1:x1/2^16=x2 at sh1 hb1;by_cases h2:256<=x2
   ·have g2:decide ((256:Int)<=(x2:Int))=true:=by simp;omega
    have sh2:=jf x2 8 (by decide);have hb2:0<x2/2^8/\x2/2^8<256:=by rw[c8];omega
    generalize he2:x2/2^8=x3 at sh2 hb2;have hdiv:x3=x/2^56:=by simp[<- he2,<- he1,<- he0,Nat.div_div_eq_div_mul]
    have hx3:x3<S.size:=by rw[hSz];omega
    have h30:0<x3:=by omega
    obtain⟨t1,t2,t3,t4⟩:=hT x3 (by omega) h30;have hr:=tH (x:=x) (x3:=x3) (k:=56) hdiv t1 t3 t4;have wu:IntKind.u8.wrap (x3:Int)=(x3:Int):=by rw[IntKind.wrap_u8];omega
    generalize hLL:(S.data.toList.getD x3 0).toNat=L at t1 t2 t3 t4 hr;have wl:IntKind.i64.wrap (L:Int)=(L:Int):=by rw[au (by omega) (by omega)]
    have wr:IntKind.i64.wrap (56+(L:Int))=((Nat.log2 x+1:Nat):Int):=by rw[hr,au (by omega) (by omega)];omega
    have hix:∀{k:IntKind}{t:TypeId}{u:Option TypeDesc},aG Tryz.prog t=some .string->idQ Tryz.prog t (.i (.s (.string S))) u (some (.int k ((x3:Nat):Int)))=some (.i (.s (.int .u8 (L:Int)))):=λh=>by rw[iU h hx3,hLL]
    refine gx (an9 kD g0 @sh0 g1 @sh1 g2 @sh2 @iM (an9 @hix @wu @wl @wr @wn1 @wn2 @wn3 @wn4 (an @wn5 @wn6))) ?_;refine aA [] rfl ?_;simp[cv,cv1,cv0,upd]
   ·have g2:decide ((256:Int)<=(x2:Int))=false:=by simp;omega
    have hdiv:x2=x/2^48:=by simp[<- he1,<- he0,Nat.div_div_eq_div_mul]
    have hx3:x2<S.size:=by rw[hSz];omega
    have h30:0<x2:=by omega
    obtain⟨t1,t2,t3,t4⟩:=hT x2 (by omega) h30;have hr:=tH (x:=x) (x3:=x2) (k:=48) hdiv t1 t3 t4;have wu:IntKind.u8.wrap (x2:Int)=(x2:Int):=by rw[IntKind.wrap_u8];omega
    generalize hLL:(S.data.toList.getD x2 0).toNat=L at t1 t2 t3 t4 hr;have wl:IntKind.i64.wrap (L:Int)=(L:Int):=by rw[au (by omega) (by omega)]
    have wr:IntKind.i64.wrap (48+(L:Int))=((Nat.log2 x+1:Nat):Int):=by rw[hr,au (by omega) (by omega)];omega
    have hix:∀{k:IntKind}{t:TypeId}{u:Option TypeDesc},aG Tryz.prog t=some .string->idQ Tryz.prog t (.i (.s (.string S))) u (some (.int k ((x2:Nat):Int)))=some (.i (.s (.int .u8 (L:Int)))):=λh=>by rw[iU h hx3,hLL]
    refine gx (an9 kD g0 @sh0 g1 @sh1 g2 @iM @hix (an9 @wu @wl @wr @wn1 @wn2 @wn3 @wn4 @wn5 @wn6)) ?_;refine aA [] rfl ?_;simp[cv,cv1,cv0,upd]
  ·have g1:decide ((65536:Int)<=(x1:Int))=false:=by simp;omega
   by_cases h2:256<=x1
   ·have g2:decide ((256:Int)<=(x1:Int))=true:=by simp;omega
    have sh2:=jf x1 8 (by decide);have hb2:0<x1/2^8/\x1/2^8<256:=by rw[c8];omega
    generalize he2:x1/2^8=x3 at sh2 hb2;have hdiv:x3=x/2^40:=by simp[<- he2,<- he0,Nat.div_div_eq_div_mul]
    have hx3:x3<S.size:=by rw[hSz];omega
    have h30:0<x3:=by omega
    obtain⟨t1,t2,t3,t4⟩:=hT x3 (by omega) h30;have hr:=tH (x:=x) (x3:=x3) (k:=40) hdiv t1 t3 t4;have wu:IntKind.u8.wrap (x3:Int)=(x3:Int):=by rw[IntKind.wrap_u8];omega
    generalize hLL:(S.data.toList.getD x3 0).toNat=L at t1 t2 t3 t4 hr;have wl:IntKind.i64.wrap (L:Int)=(L:Int):=by rw[au (by omega) (by omega)]
    have wr:IntKind.i64.wrap (40+(L:Int))=((Nat.log2 x+1:Nat):Int):=by rw[hr,au (by omega) (by omega)];omega
    have hix:∀{k:IntKind}{t:TypeId}{u:Option TypeDesc},aG Tryz.prog t=some .string->idQ Tryz.prog t (.i (.s (.string S))) u (some (.int k ((x3:Nat):Int)))=some (.i (.s (.int .u8 (L:Int)))):=λh=>by rw[iU h hx3,hLL]
    refine gx (an9 kD g0 @sh0 g1 g2 @sh2 @iM @hix (an9 @wu @wl @wr @wn1 @wn2 @wn3 @wn4 @wn5 @wn6)) ?_;refine aA [] rfl ?_;simp[cv,cv1,cv0,upd]
   ·have g2:decide ((256:Int)<=(x1:Int))=false:=by simp;omega
    have hdiv:x1=x/2^32:=by simp[<- he0,Nat.div_div_eq_div_mul]
    have hx3:x1<S.size:=by rw[hSz];omega
    have h30:0<x1:=by omega
    obtain⟨t1,t2,t3,t4⟩:=hT x1 (by omega) h30;have hr:=tH (x:=x) (x3:=x1) (k:=32) hdiv t1 t3 t4;have wu:IntKind.u8.wrap (x1:Int)=(x1:Int):=by rw[IntKind.wrap_u8];omega
    generalize hLL:(S.data.toList.getD x1 0).toNat=L at t1 t2 t3 t4 hr;have wl:IntKind.i64.wrap (L:Int)=(L:Int):=by rw[au (by omega) (by omega)]
    have wr:IntKind.i64.wrap (32+(L:Int))=((Nat.log2 x+1:Nat):Int):=by rw[hr,au (by omega) (by omega)];omega
    have hix:∀{k:IntKind}{t:TypeId}{u:Option TypeDesc},aG Tryz.prog t=some .string->idQ Tryz.prog t (.i (.s (.string S))) u (some (.int k ((x1:Nat):Int)))=some (.i (.s (.int .u8 (L:Int)))):=λh=>by rw[iU h hx3,hLL]
    refine gx (an9 kD g0 @sh0 g1 g2 @iM @hix @wu (an8 @wl @wr @wn1 @wn2 @wn3 @wn4 @wn5 @wn6)) ?_;refine aA [] rfl ?_;simp[cv,cv1,cv0,upd]
 ·have g0:decide ((4294967296:Int)<=(x:Int))=false:=by simp;omega
  by_cases h1:65536<=x
  ·have g1:decide ((65536:Int)<=(x:Int))=true:=by simp;omega
   have sh1:=jf x 16 (by decide);have hb1:0<x/2^16/\x/2^16<65536:=by rw[c16];omega
   generalize he1:x/2^16=x2 at sh1 hb1;by_cases h2:256<=x2
   ·have g2:decide ((256:Int)<=(x2:Int))=true:=by simp;omega
    have sh2:=jf x2 8 (by decide);have hb2:0<x2/2^8/\x2/2^8<256:=by rw[c8];omega
    generalize he2:x2/2^8=x3 at sh2 hb2;have hdiv:x3=x/2^24:=by simp[<- he2,<- he1,Nat.div_div_eq_div_mul]
    have hx3:x3<S.size:=by rw[hSz];omega
    have h30:0<x3:=by omega
    obtain⟨t1,t2,t3,t4⟩:=hT x3 (by omega) h30;have hr:=tH (x:=x) (x3:=x3) (k:=24) hdiv t1 t3 t4;have wu:IntKind.u8.wrap (x3:Int)=(x3:Int):=by rw[IntKind.wrap_u8];omega
    generalize hLL:(S.data.toList.getD x3 0).toNat=L at t1 t2 t3 t4 hr;have wl:IntKind.i64.wrap (L:Int)=(L:Int):=by rw[au (by omega) (by omega)]
    have wr:IntKind.i64.wrap (24+(L:Int))=((Nat.log2 x+1:Nat):Int):=by rw[hr,au (by omega) (by omega)];omega
    have hix:∀{k:IntKind}{t:TypeId}{u:Option TypeDesc},aG Tryz.prog t=some .string->idQ Tryz.prog t (.i (.s (.string S))) u (some (.int k ((x3:Nat):Int)))=some (.i (.s (.int .u8 (L:Int)))):=λh=>by rw[iU h hx3,hLL]
    refine gx (an9 kD g0 g1 @sh1 g2 @sh2 @iM @hix (an9 @wu @wl @wr @wn1 @wn2 @wn3 @wn4 @wn5 @wn6)) ?_;refine aA [] rfl ?_;simp[cv,cv1,cv0,upd]
   ·have g2:decide ((256:Int)<=(x2:Int))=false:=by simp;omega
    have hdiv:x2=x/2^16:=by simp[<- he1,Nat.div_div_eq_div_mul]
    have hx3:x2<S.size:=by rw[hSz];omega
    have h30:0<x2:=by omega
    obtain⟨t1,t2,t3,t4⟩:=hT x2 (by omega) h30;have hr:=tH (x:=x) (x3:=x2) (k:=16) hdiv t1 t3 t4;have wu:IntKind.u8.wrap (x2:Int)=(x2:Int):=by rw[IntKind.wrap_u8];omega
    generalize hLL:(S.data.toList.getD x2 0).toNat=L at t1 t2 t3 t4 hr;have wl:IntKind.i64.wrap (L:Int)=(L:Int):=by rw[au (by omega) (by omega)]
    have wr:IntKind.i64.wrap (16+(L:Int))=((Nat.log2 x+1:Nat):Int):=by rw[hr,au (by omega) (by omega)];omega
    have hix:∀{k:IntKind}{t:TypeId}{u:Option TypeDesc},aG Tryz.prog t=some .string->idQ Tryz.prog t (.i (.s (.string S))) u (some (.int k ((x2:Nat):Int)))=some (.i (.s (.int .u8 (L:Int)))):=λh=>by rw[iU h hx3,hLL]
    refine gx (an9 kD g0 g1 @sh1 g2 @iM @hix @wu (an8 @wl @wr @wn1 @wn2 @wn3 @wn4 @wn5 @wn6)) ?_;refine aA [] rfl ?_;simp[cv,cv1,cv0,upd]
  ·have g1:decide ((65536:Int)<=(x:Int))=false:=by simp;omega
   by_cases h2:256<=x
   ·have g2:decide ((256:Int)<=(x:Int))=true:=by simp;omega
    have sh2:=jf x 8 (by decide);have hb2:0<x/2^8/\x/2^8<256:=by rw[c8];omega
    generalize he2:x/2^8=x3 at sh2 hb2;have hdiv:x3=x/2^8:=by simp[<- he2,Nat.div_div_eq_div_mul]
    have hx3:x3<S.size:=by rw[hSz];omega
    have h30:0<x3:=by omega
    obtain⟨t1,t2,t3,t4⟩:=hT x3 (by omega) h30;have hr:=tH (x:=x) (x3:=x3) (k:=8) hdiv t1 t3 t4;have wu:IntKind.u8.wrap (x3:Int)=(x3:Int):=by rw[IntKind.wrap_u8];omega
    generalize hLL:(S.data.toList.getD x3 0).toNat=L at t1 t2 t3 t4 hr;have wl:IntKind.i64.wrap (L:Int)=(L:Int):=by rw[au (by omega) (by omega)]
    have wr:IntKind.i64.wrap (8+(L:Int))=((Nat.log2 x+1:Nat):Int):=by rw[hr,au (by omega) (by omega)];omega
    have hix:∀{k:IntKind}{t:TypeId}{u:Option TypeDesc},aG Tryz.prog t=some .string->idQ Tryz.prog t (.i (.s (.string S))) u (some (.int k ((x3:Nat):Int)))=some (.i (.s (.int .u8 (L:Int)))):=λh=>by rw[iU h hx3,hLL]
    refine gx (an9 kD g0 g1 g2 @sh2 @iM @hix @wu (an8 @wl @wr @wn1 @wn2 @wn3 @wn4 @wn5 @wn6)) ?_;refine aA [] rfl ?_;simp[cv,cv1,cv0,upd]
   ·have g2:decide ((256:Int)<=(x:Int))=false:=by simp;omega
    have hdiv:x=x/2^0:=by simp[Nat.div_div_eq_div_mul]
    have hx3:x<S.size:=by rw[hSz];omega
    have h30:0<x:=by omega
    obtain⟨t1,t2,t3,t4⟩:=hT x (by omega) h30;have hr:=tH (x:=x) (x3:=x) (k:=0) hdiv t1 t3 t4;have wu:IntKind.u8.wrap (x:Int)=(x:Int):=by rw[IntKind.wrap_u8];omega
    generalize hLL:(S.data.toList.getD x 0).toNat=L at t1 t2 t3 t4 hr;have wl:IntKind.i64.wrap (L:Int)=(L:Int):=by rw[au (by omega) (by omega)]
    have wr:IntKind.i64.wrap (0+(L:Int))=((Nat.log2 x+1:Nat):Int):=by rw[hr,au (by omega) (by omega)];omega
    have hix:∀{k:IntKind}{t:TypeId}{u:Option TypeDesc},aG Tryz.prog t=some .string->idQ Tryz.prog t (.i (.s (.string S))) u (some (.int k ((x:Nat):Int)))=some (.i (.s (.int .u8 (L:Int)))):=λh=>by rw[iU h hx3,hLL]
    refine gx (an9 kD g0 g1 g2 @iM @hix @wu @wl (an7 @wr @wn1 @wn2 @wn3 @wn4 @wn5 @wn6)) ?_;refine aA [] rfl ?_;simp[cv,cv1,cv0,upd]
theorem adu (x:Nat)(hx0:0<x)(hx:x<18446744073709551616):PureD Tryz.prog 219 [.i (.s (.int .u64 (x:Int)))] (.i (.s (.int .i64 ((63-Nat.log2 x:Nat):Int)))):=by
 have hl:Nat.log2 x<64:=(Nat.log2_lt (by omega)).2 (by omega);have wr:IntKind.i64.wrap (64-((Nat.log2 x+1:Nat):Int))=((63-Nat.log2 x:Nat):Int):=by rw[au (by omega) (by omega)];omega
 refine aa 6 Tryz.func219 ?_
 (refine gy F_ ?_;try intro ops hops)
 (refine fq trivial (Oy x hx0 hx) ?_)
 refine gx (an F_ @wr) ?_;refine aA [] rfl ?_;simp[cv,cv1,cv0,upd]
def bT:=an4 @Ty.T3 @Ty.T59 @Ty.aiQ @Ty.aiF
theorem ahw {a b k:Nat} (ha:a * 2 ^ k < 18446744073709551616) (hb:b < 2 ^ k) (hk:k<=63):bits .or .u64 ((a * 2 ^ k:Nat):Int) (b:Int)=((a * 2 ^ k+b:Nat):Int):=by
 have h2:2 ^ k < 18446744073709551616:=Nat.lt_of_le_of_lt (Nat.pow_le_pow_right (by decide) hk) (by decide)
 have:=(bits_nat .u64 64 (by decide) (fun n g0 g1=>by rw [IntKind.wrap_u64]; omega) (a * 2 ^ k) b ha (by omega)).2
 rw [this,Nat.mul_comm a,<- Nat.two_pow_add_eq_or_of_lt hb]
theorem wrp (n:Nat):IntKind.u64.wrap (n:Int)=((n%18446744073709551616:Nat):Int):=by rw[IntKind.wrap_u64];omega
theorem BM {u d q y r:Nat}(h:q*y+r=u*4294967296+d)(hr:r<18446744073709551616):
  IntKind.u64.wrap (IntKind.u64.wrap (IntKind.u64.wrap ((u:Int)*4294967296)+(d:Int))-IntKind.u64.wrap ((q:Int)*(y:Int)))=(r:Int):=by
 have e:((q:Int)*(y:Int))=((q*y:Nat):Int):=(Int.natCast_mul _ _).symm;rw[e];generalize q*y=c at h;simp only[IntKind.wrap_u64];omega
theorem shift_parts (hi lo s:Nat)(hs:s<=63)(hlo:lo<18446744073709551616)(hh:hi*2^s<18446744073709551616):
  (hi*18446744073709551616+lo)*2^s=(hi*2^s+lo/2^(64-s))*18446744073709551616+lo*2^s%18446744073709551616/\lo/2^(64-s)<2^s:=by
 have h64:2^(64-s)*2^s=18446744073709551616:=by rw[<- Nat.pow_add,show 64-s+s=64 by omega]
 have e1:lo/2^(64-s)=lo*2^s/18446744073709551616:=by rw[<- h64,Nat.mul_div_mul_right _ _ (Nat.pow_pos (by decide))]
 constructor
 ·rw[e1,Nat.add_mul,Nat.mul_right_comm];have:=Nat.div_add_mod (lo*2^s) 18446744073709551616;omega
 ·rw[Nat.div_lt_iff_lt_mul (Nat.pow_pos (by decide)),Nat.mul_comm,h64];exact hlo
theorem aay (hi lo y:Nat)(hlo:lo<18446744073709551616)(hy:y<18446744073709551616)(h:hi<y):
  PureD Tryz.prog 174 [.i (.s (.int .u64 (hi:Int))),.i (.s (.int .u64 (lo:Int))),.i (.s (.int .u64 (y:Int)))] (.tup [.i (.s (.int .u64 (((hi*18446744073709551616+lo)/y:Nat):Int))),.i (.s (.int .u64 (((hi*18446744073709551616+lo)%y:Nat):Int)))]):=by
 have g0:decide ((y:Int)=0)=false:=by simp;omega
 have g1:decide ((y:Int)<=(hi:Int))=false:=by simp;omega
 have q0:((y:Int)=0)=False:=eq_false (by omega);refine aa 135 Tryz.func174 ?_;by_cases h0:hi=0
 ·subst h0;have r1:IntKind.u64.wrap ((lo:Int).tdiv (y:Int))=((lo/y:Nat):Int):=by
   rw[Int.tdiv_eq_ediv_of_nonneg (by omega),<- Int.natCast_ediv,IntKind.wrap_u64];have:=Nat.div_le_self lo y;generalize lo/y=d at this⊢;omega
  have r2:(lo:Int).tmod (y:Int)=((lo%y:Nat):Int):=by rw[Int.tmod_eq_emod_of_nonneg (by omega)];exact(Int.natCast_emod _ _).symm
  have g1':decide ((y:Int)<=0)=false:=by simp;omega
  refine gx (an6 bT g0 g1' @q0 @r1 @r2) ?_;refine dC [] rfl ?_;simp[cv,cvT,cv1,cv0,upd]
 have gh:decide ((hi:Int)=0)=false:=by simp;omega
 have hlog:Nat.log2 y<64:=(Nat.log2_lt (by omega)).2 (by omega);have hs:63-Nat.log2 y<=63:=by omega
 have hY:2^63<=y*2^(63-Nat.log2 y)/\y*2^(63-Nat.log2 y)<2^64:=by
  have a:=Nat.log2_self_le (n:=y) (by omega);have b:=Nat.lt_log2_self (n:=y);have p:=Nat.pow_pos (n:=63-Nat.log2 y) (show 0<2 by decide);constructor
  ·have:=Nat.mul_le_mul_right (2^(63-Nat.log2 y)) a;rw[<- Nat.pow_add,show Nat.log2 y+(63-Nat.log2 y)=63 by omega]at this;exact this
  ·have:=Nat.mul_lt_mul_of_pos_right b p;rw[<- Nat.pow_add,show Nat.log2 y+1+(63-Nat.log2 y)=64 by omega]at this;exact this
 (refine gy (an4 bT g0 g1 @gh) ?_;try intro ops hops)
 (refine fq trivial (adu y (by omega) hy) ?_)
 generalize 63-Nat.log2 y=s at hs hY;clear hlog;have hhY:hi*2^s+2^s<=y*2^s:=by have:=Nat.mul_le_mul_right (2^s) (show hi+1<=y by omega);rw[Nat.add_mul,Nat.one_mul]at this;exact this
 have c64:(2:Nat)^64=18446744073709551616:=by decide
 have c63:(2:Nat)^63=9223372036854775808:=by decide
 rw[c64,c63]at hY;have hp:=Nat.pow_pos (n:=s) (show 0<2 by decide);obtain⟨hV,hb⟩:=shift_parts hi lo s hs hlo (by omega);have hdd:=ML (hi*18446744073709551616+lo) y s;have hmm:=MK (hi*18446744073709551616+lo) y s;have hor:=ahw (a:=hi) (b:=lo/2^(64-s)) (k:=s) (by omega) hb hs;have ws:IntKind.u64.wrap (s:Int)=(s:Int):=by rw[IntKind.wrap_u64];omega
 have ws2:IntKind.u64.wrap (64-(s:Int))=((64-s:Nat):Int):=by rw[IntKind.wrap_u64];omega
 have e2:((2:Int)^s)=((2^s:Nat):Int):=by simp
 have wsh:∀n:Nat,IntKind.u64.wrap ((n:Int)*2^min s (IntKind.bits .u64))=((n*2^s%18446744073709551616:Nat):Int):=by intro n;rw[show min s (IntKind.bits .u64)=s by simp[IntKind.bits];omega,e2,<- Int.natCast_mul,wrp]
 have wy:=wsh y;have wh:=wsh hi;have wl:=wsh lo;rw[Nat.mod_eq_of_lt (show y*2^s<18446744073709551616 by omega)]at wy;rw[Nat.mod_eq_of_lt (show hi*2^s<18446744073709551616 by omega)]at wh;have wr:=jf lo (64-s) (by omega);have hU:hi*2^s+lo/2^(64-s)<y*2^s:=by omega
 have hfin:∀n:Nat,(n:Int).fdiv (2^min s (IntKind.bits .u64))=((n/2^s:Nat):Int):=λn=>jf n s (by omega);have hback:∀n,n*2^s/2^s=n:=λn=>Nat.mul_div_cancel n hp;rw[<- hdd,<- hback ((hi*18446744073709551616+lo)%y),<- hmm];rw[hV];clear hdd hmm hV hback wsh e2;have hlow:lo*2^s%18446744073709551616<18446744073709551616:=Nat.mod_lt _ (by decide);generalize lo*2^s%18446744073709551616=low at wl hlow⊢;generalize hi*2^s+lo/2^(64-s)=u at hor hU⊢;generalize lo/2^(64-s)=lr at hor wr;generalize hi*2^s=hsh at hor wh;generalize y*2^s=Y at*;clear hb hhY;have mY:=Mul64.maskN Y (by omega);have dY:=S_ Y;have mL:=Mul64.maskN low hlow;have dL:=S_ low;have hYe:Y=Y/4294967296*4294967296+Y%4294967296:=by omega
 have hLe:low=low/4294967296*4294967296+low%4294967296:=by omega
 have hy1:2^31<=Y/4294967296:=by have:(2:Nat)^31=2147483648:=by decide
                                 omega
 have hy1b:Y/4294967296<4294967296:=by omega
 have hy0:Y%4294967296<4294967296:=Nat.mod_lt _ (by decide);have hd1:low/4294967296<4294967296:=by omega
 have hd0:low%4294967296<4294967296:=Nat.mod_lt _ (by decide);have hVV:u*18446744073709551616+low=(u*4294967296+low/4294967296)*4294967296+low%4294967296:=by omega
 rw[hVV];generalize low/4294967296=d1 at*;generalize low%4294967296=d0 at*;generalize Y/4294967296=y1 at*;generalize Y%4294967296=y0 at*;have hYpos:0<Y:=by omega
 obtain⟨td,tm⟩:=two_digits ((u*4294967296+d1)*4294967296+d0) Y 4294967296 hYpos (by decide) u d1 d0 rfl hd0;obtain⟨Q1,hQ1⟩:∃Q,Q=(u*4294967296+d1)/Y:=⟨_,rfl⟩
 obtain⟨R1,hR1⟩:∃R,R=(u*4294967296+d1)%Y:=⟨_,rfl⟩
 rw[<- hQ1,<- hR1]at td;rw[<- hR1]at tm;obtain⟨Q0,hQ0⟩:∃Q,Q=(R1*4294967296+d0)/Y:=⟨_,rfl⟩
 obtain⟨R0,hR0⟩:∃R,R=(R1*4294967296+d0)%Y:=⟨_,rfl⟩
 rw[<- hQ0]at td;rw[<- hR0]at tm;rw[td,tm];clear td tm hVV hLe;obtain⟨p1,p2,p3⟩:=kn_parts hQ1 hYpos hU hd1 hR1;obtain⟨p4,p5,p6⟩:=kn_parts hQ0 hYpos p2 hd0 hR0;have wrest1:=BM (q:=Q1) (y:=Y) (u:=u) (d:=d1) (r:=R1) p1 (by omega);have wrest0:=BM (q:=Q0) (y:=Y) (u:=R1) (d:=d0) (r:=R0) p4 (by omega);have wsum:IntKind.u64.wrap (IntKind.u64.wrap ((Q1:Int)*4294967296)+(Q0:Int))=((Q1*4294967296+Q0:Nat):Int):=by simp only[IntKind.wrap_u64];omega
 have wfin:=hfin R0;have qy1:((y1:Int)=0)=False:=eq_false (by omega);have tq:∀n:Nat,n<18446744073709551616->IntKind.u64.wrap ((n:Int).tdiv (y1:Int))=((n/y1:Nat):Int):=by intro n hn;rw[Int.tdiv_eq_ediv_of_nonneg (by omega),<- Int.natCast_ediv,IntKind.wrap_u64];have:=Nat.div_le_self n y1;generalize n/y1=d at this⊢;omega
 have tr:∀n:Nat,n<18446744073709551616->IntKind.u64.wrap ((n:Int)-IntKind.u64.wrap (((n/y1:Nat):Int)*(y1:Int)))=((n%y1:Nat):Int):=by intro n hn;have e:=Nat.div_add_mod' n y1;have e3:(((n/y1:Nat):Int)*(y1:Int))=((n/y1*y1:Nat):Int):=(Int.natCast_mul _ _).symm;rw[e3];generalize n/y1*y1=c at e;simp only[IntKind.wrap_u64];omega
 have mb:∀q:Nat,q<4294967296->IntKind.u64.wrap ((q:Int)*(y0:Int))=((q*y0:Nat):Int):=by intro q hq;have:=Nat.mul_lt_mul'' hq hy0;rw[<- Int.natCast_mul,wrp,Nat.mod_eq_of_lt (by omega)]
 have ab:∀r d:Nat,r<4294967296->d<4294967296->IntKind.u64.wrap (IntKind.u64.wrap (4294967296*(r:Int))+(d:Int))=((4294967296*r+d:Nat):Int):=by intro r d hr hd;simp only[IntKind.wrap_u64];omega
 have tqu:=tq u (by omega);have tru:=tr u (by omega);have tq1:=tq R1 (by omega);have tr1:=tr R1 (by omega);obtain⟨hf1,hf2⟩:=kn_first' hQ1 hYe hy1 rfl hy0 hU hd1;have hgu:=Cq hYe hy1 rfl hy0 hU;have hrl:=Nat.mod_lt u (show 0<y1 by omega);obtain⟨hg1,hg2⟩:=kn_first' hQ0 hYe hy1 rfl hy0 p2 hd0;have hgu2:=Cq hYe hy1 rfl hy0 p2;have hrl2:=Nat.mod_lt R1 (show 0<y1 by omega);clear tq tr hfin
 (repeat(first|(simp -implicitDefEqProofs only[ev,mixed,Nat.reduceLT,Nat.reduceAdd,Nat.reduceMul,reduceIte,Nat.reduceEqDiff,reduceCtorEq,Nat.reducePow,Nat.reduceLeDiff,Int.reduceLE,Int.reduceLT,Int.reduceToNat,Int.reduceEq,Nat.reduceBEq,uq,gdA,aH,uo,RU,ixQ,ldH,aW,aR,ku,faQ,exQ,UC,qD,qX,slQ,stH,Vq,VA,bY,eu,aO,D.one,KF,oH,uw,cvH,bT,ws,ws2,wy,wh,wl,wr,hor,mY,dY,mL,dL,qy1,tqu,tru])|(with_reducible refine⟨?_,?_⟩;(· first|(obtain⟨rfl⟩:=‹Hq _ _›;with_reducible refine chk_ok ?_;kernel_rfl)|kernel_rfl))|(with_reducible intro ops hops)))
 clear tqu tru ws ws2 wy wh wl wr hor mY dY mL dL hlo h g0 g1 q0 gh;generalize u/y1=qi at*;generalize u%y1=ri at*;generalize R1/y1=qi2 at*;generalize R1%y1=ri2 at*;refine bO (ι:=Nat×Nat) (λp=>p.1*y1+p.2=u/\Q1<=p.1/\p.2<4294967296/\p.1<=4294967297)
  (λp=>dP [(2,.i (.s (.int .u64 (Y:Nat)))),(8,.i (.s (.int .u64 (s:Nat)))),(9,.i (.s (.int .u64 (y1:Nat)))),(10,.i (.s (.int .u64 (y0:Nat)))),(11,.i (.s (.int .u64 (u:Nat)))),(13,.i (.s (.int .u64 (d1:Nat)))),(14,.i (.s (.int .u64 (d0:Nat)))),(15,.i (.s (.int .u64 (p.1:Nat)))),(16,.i (.s (.int .u64 (p.2:Nat))))] []) (λp=>p.1) (qi,ri) ⟨hf1,hf2,by simp;omega,hgu⟩ ?_ ?_
 ·refine aj _ _ [] [] ?_ ?_ rfl rfl
  ·simp[cv,cv1,cv0,upd,lk,az]
  ·simp
 rintro⟨q,r⟩ ⟨hI,hq,hr,hqB⟩;simp only at hI hq hr hqB;rw[ag];have abr:=ab r d1 hr (by omega);by_cases hc:4294967296<=q\/4294967296*r+d1<q*y0
 ·have hlt:=uR hQ1 hYe hU (by omega) hI hc;obtain⟨q',rfl⟩:∃q',q=q'+1:=⟨q-1,by omega⟩
  have wq:IntKind.u64.wrap (((q'+1:Nat):Int)-1)=(q':Int):=by rw[IntKind.wrap_u64];omega
  have wr':IntKind.u64.wrap ((r:Int)+(y1:Int))=((r+y1:Nat):Int):=by rw[IntKind.wrap_u64];omega
  have hI2:q'*y1+(r+y1)=u:=by rw[Nat.add_mul,Nat.one_mul]at hI;omega
  by_cases hc1:4294967296<=q'+1
  ·have k1:decide ((4294967296:Int)<=((q'+1:Nat):Int))=true:=by simp;omega
   by_cases hr2:4294967296<=r+y1
   ·have k3:decide ((4294967296:Int)<=((r+y1:Nat):Int))=true:=by simp;omega
    have he:=iT hQ1 hYe hYpos hy0 hI2 (Nat.le_of_lt_succ hlt) (by omega) hr2;subst q';refine gx (an9 bT k1 @wq @wr' k3 @wrest1 @qy1 @tq1 @tr1) ?_;clear k3 hr2 wq wr' hI2 hlt hI hq hr hqB abr;refine bO (ι:=Nat×Nat) (λp=>p.1*y1+p.2=R1/\Q0<=p.1/\p.2<4294967296/\p.1<=4294967297)
     (λp=>dP [(2,.i (.s (.int .u64 (Y:Nat)))),(8,.i (.s (.int .u64 (s:Nat)))),(9,.i (.s (.int .u64 (y1:Nat)))),(10,.i (.s (.int .u64 (y0:Nat)))),(14,.i (.s (.int .u64 (d0:Nat)))),(15,.i (.s (.int .u64 (Q1:Nat)))),(17,.i (.s (.int .u64 (R1:Nat)))),(18,.i (.s (.int .u64 (p.1:Nat)))),(16,.i (.s (.int .u64 (p.2:Nat))))] []) (λp=>p.1) (qi2,ri2) ⟨hg1,hg2,by simp;omega,hgu2⟩ ?_ ?_
    ·refine aj _ _ [] [] ?_ ?_ rfl rfl
     ·simp[cv,cv1,cv0,upd,lk,az]
     ·simp
    rintro⟨q,r⟩ ⟨hI,hq,hr,hqB⟩;simp only at hI hq hr hqB;rw[ag];have abr:=ab r d0 hr (by omega);by_cases hc:4294967296<=q\/4294967296*r+d0<q*y0
    ·have hlt:=uR hQ0 hYe p2 (by omega) hI hc;obtain⟨q',rfl⟩:∃q',q=q'+1:=⟨q-1,by omega⟩
     have wq:IntKind.u64.wrap (((q'+1:Nat):Int)-1)=(q':Int):=by rw[IntKind.wrap_u64];omega
     have wr':IntKind.u64.wrap ((r:Int)+(y1:Int))=((r+y1:Nat):Int):=by rw[IntKind.wrap_u64];omega
     have hI2:q'*y1+(r+y1)=R1:=by rw[Nat.add_mul,Nat.one_mul]at hI;omega
     by_cases hc1:4294967296<=q'+1
     ·have k1:decide ((4294967296:Int)<=((q'+1:Nat):Int))=true:=by simp;omega
      by_cases hr2:4294967296<=r+y1
      ·have k3:decide ((4294967296:Int)<=((r+y1:Nat):Int))=true:=by simp;omega
       have he:=iT hQ0 hYe hYpos hy0 hI2 (Nat.le_of_lt_succ hlt) (by omega) hr2;subst q';refine gx (an8 bT k1 @wq @wr' k3 @wrest0 @wsum @wfin) ?_;refine dC [] rfl ?_;simp[cv,cvT,cv1,cv0,upd]
      ·have k3:decide ((4294967296:Int)<=((r+y1:Nat):Int))=false:=by simp;omega
       refine gx (an5 bT k1 @wq @wr' k3) ?_;refine⟨(q',r+y1),⟨hI2,by simp;omega,by simp;omega,by simp;omega⟩,aj _ _ [] [] ?_ ?_ rfl rfl,by simp⟩
       ·simp[cv,cv1,cv0,upd,lk,az]
       ·simp
     ·have k1:decide ((4294967296:Int)<=((q'+1:Nat):Int))=false:=by simp;omega
      have mbq:=mb (q'+1) (by omega);have k2:decide (((4294967296*r+d0:Nat):Int)<(((q'+1)*y0:Nat):Int))=true:=by simp only[decide_eq_true_eq,Int.ofNat_lt];exact hc.resolve_left hc1
      generalize(q'+1)*y0=m at mbq k2 hc;generalize 4294967296*r+d0=m2 at abr k2 hc;by_cases hr2:4294967296<=r+y1
      ·have k3:decide ((4294967296:Int)<=((r+y1:Nat):Int))=true:=by simp;omega
       have he:=iT hQ0 hYe hYpos hy0 hI2 (Nat.le_of_lt_succ hlt) (by omega) hr2;subst q';refine gx (an9 bT k1 @mbq @abr k2 @wq @wr' k3 (an3 @wrest0 @wsum @wfin)) ?_;refine dC [] rfl ?_;simp[cv,cvT,cv1,cv0,upd]
      ·have k3:decide ((4294967296:Int)<=((r+y1:Nat):Int))=false:=by simp;omega
       refine gx (an8 bT k1 @mbq @abr k2 @wq @wr' k3) ?_;refine⟨(q',r+y1),⟨hI2,by simp;omega,by simp;omega,by simp;omega⟩,aj _ _ [] [] ?_ ?_ rfl rfl,by simp⟩
       ·simp[cv,cv1,cv0,upd,lk,az]
       ·simp
    ·have hc1:¬4294967296<=q:=λh=>hc (.inl h);have hc2:¬4294967296*r+d0<q*y0:=λh=>hc (.inr h);have he:=uS hQ0 hYe hYpos hI hq (Nat.le_of_not_lt hc2);have k1:decide ((4294967296:Int)<=(q:Int))=false:=by simp;omega
     have mbq:=mb q (by omega);have k2:decide (((4294967296*r+d0:Nat):Int)<((q*y0:Nat):Int))=false:=by simp only[decide_eq_false_iff_not,Int.ofNat_lt];exact hc2
     generalize q*y0=m at mbq k2 hc hc2;generalize 4294967296*r+d0=m2 at abr k2 hc hc2;subst q;refine gx (an8 bT k1 @mbq @abr k2 @wrest0 @wsum @wfin) ?_;refine dC [] rfl ?_;simp[cv,cvT,cv1,cv0,upd]
   ·have k3:decide ((4294967296:Int)<=((r+y1:Nat):Int))=false:=by simp;omega
    refine gx (an5 bT k1 @wq @wr' k3) ?_;refine⟨(q',r+y1),⟨hI2,by simp;omega,by simp;omega,by simp;omega⟩,aj _ _ [] [] ?_ ?_ rfl rfl,by simp⟩
    ·simp[cv,cv1,cv0,upd,lk,az]
    ·simp
  ·have k1:decide ((4294967296:Int)<=((q'+1:Nat):Int))=false:=by simp;omega
   have mbq:=mb (q'+1) (by omega);have k2:decide (((4294967296*r+d1:Nat):Int)<(((q'+1)*y0:Nat):Int))=true:=by simp only[decide_eq_true_eq,Int.ofNat_lt];exact hc.resolve_left hc1
   generalize(q'+1)*y0=m at mbq k2 hc;generalize 4294967296*r+d1=m2 at abr k2 hc;by_cases hr2:4294967296<=r+y1
   ·have k3:decide ((4294967296:Int)<=((r+y1:Nat):Int))=true:=by simp;omega
    have he:=iT hQ1 hYe hYpos hy0 hI2 (Nat.le_of_lt_succ hlt) (by omega) hr2;subst q';refine gx (an9 bT k1 @mbq @abr k2 @wq @wr' k3 (an4 @wrest1 @qy1 @tq1 @tr1)) ?_;clear k3 hr2 wq wr' hI2 hlt hI hq hr hqB abr;refine bO (ι:=Nat×Nat) (λp=>p.1*y1+p.2=R1/\Q0<=p.1/\p.2<4294967296/\p.1<=4294967297)
     (λp=>dP [(2,.i (.s (.int .u64 (Y:Nat)))),(8,.i (.s (.int .u64 (s:Nat)))),(9,.i (.s (.int .u64 (y1:Nat)))),(10,.i (.s (.int .u64 (y0:Nat)))),(14,.i (.s (.int .u64 (d0:Nat)))),(15,.i (.s (.int .u64 (Q1:Nat)))),(17,.i (.s (.int .u64 (R1:Nat)))),(18,.i (.s (.int .u64 (p.1:Nat)))),(16,.i (.s (.int .u64 (p.2:Nat))))] []) (λp=>p.1) (qi2,ri2) ⟨hg1,hg2,by simp;omega,hgu2⟩ ?_ ?_
    ·refine aj _ _ [] [] ?_ ?_ rfl rfl
     ·simp[cv,cv1,cv0,upd,lk,az]
     ·simp
    rintro⟨q,r⟩ ⟨hI,hq,hr,hqB⟩;simp only at hI hq hr hqB;rw[ag];have abr:=ab r d0 hr (by omega);by_cases hc:4294967296<=q\/4294967296*r+d0<q*y0
    ·have hlt:=uR hQ0 hYe p2 (by omega) hI hc;obtain⟨q',rfl⟩:∃q',q=q'+1:=⟨q-1,by omega⟩
     have wq:IntKind.u64.wrap (((q'+1:Nat):Int)-1)=(q':Int):=by rw[IntKind.wrap_u64];omega
     have wr':IntKind.u64.wrap ((r:Int)+(y1:Int))=((r+y1:Nat):Int):=by rw[IntKind.wrap_u64];omega
     have hI2:q'*y1+(r+y1)=R1:=by rw[Nat.add_mul,Nat.one_mul]at hI;omega
     by_cases hc1:4294967296<=q'+1
     ·have k1:decide ((4294967296:Int)<=((q'+1:Nat):Int))=true:=by simp;omega
      by_cases hr2:4294967296<=r+y1
      ·have k3:decide ((4294967296:Int)<=((r+y1:Nat):Int))=true:=by simp;omega
       have he:=iT hQ0 hYe hYpos hy0 hI2 (Nat.le_of_lt_succ hlt) (by omega) hr2;subst q';refine gx (an8 bT k1 @wq @wr' k3 @wrest0 @wsum @wfin) ?_;refine dC [] rfl ?_;simp[cv,cvT,cv1,cv0,upd]
      ·have k3:decide ((4294967296:Int)<=((r+y1:Nat):Int))=false:=by simp;omega
       refine gx (an5 bT k1 @wq @wr' k3) ?_;refine⟨(q',r+y1),⟨hI2,by simp;omega,by simp;omega,by simp;omega⟩,aj _ _ [] [] ?_ ?_ rfl rfl,by simp⟩
       ·simp[cv,cv1,cv0,upd,lk,az]
       ·simp
     ·have k1:decide ((4294967296:Int)<=((q'+1:Nat):Int))=false:=by simp;omega
      have mbq:=mb (q'+1) (by omega);have k2:decide (((4294967296*r+d0:Nat):Int)<(((q'+1)*y0:Nat):Int))=true:=by simp only[decide_eq_true_eq,Int.ofNat_lt];exact hc.resolve_left hc1
      generalize(q'+1)*y0=m at mbq k2 hc;generalize 4294967296*r+d0=m2 at abr k2 hc;by_cases hr2:4294967296<=r+y1
      ·have k3:decide ((4294967296:Int)<=((r+y1:Nat):Int))=true:=by simp;omega
       have he:=iT hQ0 hYe hYpos hy0 hI2 (Nat.le_of_lt_succ hlt) (by omega) hr2;subst q';refine gx (an9 bT k1 @mbq @abr k2 @wq @wr' k3 (an3 @wrest0 @wsum @wfin)) ?_;refine dC [] rfl ?_;simp[cv,cvT,cv1,cv0,upd]
      ·have k3:decide ((4294967296:Int)<=((r+y1:Nat):Int))=false:=by simp;omega
       refine gx (an8 bT k1 @mbq @abr k2 @wq @wr' k3) ?_;refine⟨(q',r+y1),⟨hI2,by simp;omega,by simp;omega,by simp;omega⟩,aj _ _ [] [] ?_ ?_ rfl rfl,by simp⟩
       ·simp[cv,cv1,cv0,upd,lk,az]
       ·simp
    ·have hc1:¬4294967296<=q:=λh=>hc (.inl h);have hc2:¬4294967296*r+d0<q*y0:=λh=>hc (.inr h);have he:=uS hQ0 hYe hYpos hI hq (Nat.le_of_not_lt hc2);have k1:decide ((4294967296:Int)<=(q:Int))=false:=by simp;omega
     have mbq:=mb q (by omega);have k2:decide (((4294967296*r+d0:Nat):Int)<((q*y0:Nat):Int))=false:=by simp only[decide_eq_false_iff_not,Int.ofNat_lt];exact hc2
     generalize q*y0=m at mbq k2 hc hc2;generalize 4294967296*r+d0=m2 at abr k2 hc hc2;subst q;refine gx (an8 bT k1 @mbq @abr k2 @wrest0 @wsum @wfin) ?_;refine dC [] rfl ?_;simp[cv,cvT,cv1,cv0,upd]
   ·have k3:decide ((4294967296:Int)<=((r+y1:Nat):Int))=false:=by simp;omega
    refine gx (an8 bT k1 @mbq @abr k2 @wq @wr' k3) ?_;refine⟨(q',r+y1),⟨hI2,by simp;omega,by simp;omega,by simp;omega⟩,aj _ _ [] [] ?_ ?_ rfl rfl,by simp⟩
    ·simp[cv,cv1,cv0,upd,lk,az]
    ·simp
 ·have hc1:¬4294967296<=q:=λh=>hc (.inl h);have hc2:¬4294967296*r+d1<q*y0:=λh=>hc (.inr h);have he:=uS hQ1 hYe hYpos hI hq (Nat.le_of_not_lt hc2);have k1:decide ((4294967296:Int)<=(q:Int))=false:=by simp;omega
  have mbq:=mb q (by omega);have k2:decide (((4294967296*r+d1:Nat):Int)<((q*y0:Nat):Int))=false:=by simp only[decide_eq_false_iff_not,Int.ofNat_lt];exact hc2
  generalize q*y0=m at mbq k2 hc hc2;generalize 4294967296*r+d1=m2 at abr k2 hc hc2;subst q;refine gx (an9 bT k1 @mbq @abr k2 @wrest1 @qy1 @tq1 @tr1) ?_;clear k1 k2 mbq abr hI hq hr hqB hc hc1 hc2;refine bO (ι:=Nat×Nat) (λp=>p.1*y1+p.2=R1/\Q0<=p.1/\p.2<4294967296/\p.1<=4294967297)
   (λp=>dP [(2,.i (.s (.int .u64 (Y:Nat)))),(8,.i (.s (.int .u64 (s:Nat)))),(9,.i (.s (.int .u64 (y1:Nat)))),(10,.i (.s (.int .u64 (y0:Nat)))),(14,.i (.s (.int .u64 (d0:Nat)))),(15,.i (.s (.int .u64 (Q1:Nat)))),(17,.i (.s (.int .u64 (R1:Nat)))),(18,.i (.s (.int .u64 (p.1:Nat)))),(16,.i (.s (.int .u64 (p.2:Nat))))] []) (λp=>p.1) (qi2,ri2) ⟨hg1,hg2,by simp;omega,hgu2⟩ ?_ ?_
  ·refine aj _ _ [] [] ?_ ?_ rfl rfl
   ·simp[cv,cv1,cv0,upd,lk,az]
   ·simp
  rintro⟨q,r⟩ ⟨hI,hq,hr,hqB⟩;simp only at hI hq hr hqB;rw[ag];have abr:=ab r d0 hr (by omega);by_cases hc:4294967296<=q\/4294967296*r+d0<q*y0
  ·have hlt:=uR hQ0 hYe p2 (by omega) hI hc;obtain⟨q',rfl⟩:∃q',q=q'+1:=⟨q-1,by omega⟩
   have wq:IntKind.u64.wrap (((q'+1:Nat):Int)-1)=(q':Int):=by rw[IntKind.wrap_u64];omega
   have wr':IntKind.u64.wrap ((r:Int)+(y1:Int))=((r+y1:Nat):Int):=by rw[IntKind.wrap_u64];omega
   have hI2:q'*y1+(r+y1)=R1:=by rw[Nat.add_mul,Nat.one_mul]at hI;omega
   by_cases hc1:4294967296<=q'+1
   ·have k1:decide ((4294967296:Int)<=((q'+1:Nat):Int))=true:=by simp;omega
    by_cases hr2:4294967296<=r+y1
    ·have k3:decide ((4294967296:Int)<=((r+y1:Nat):Int))=true:=by simp;omega
     have he:=iT hQ0 hYe hYpos hy0 hI2 (Nat.le_of_lt_succ hlt) (by omega) hr2;subst q';refine gx (an8 bT k1 @wq @wr' k3 @wrest0 @wsum @wfin) ?_;refine dC [] rfl ?_;simp[cv,cvT,cv1,cv0,upd]
    ·have k3:decide ((4294967296:Int)<=((r+y1:Nat):Int))=false:=by simp;omega
     refine gx (an5 bT k1 @wq @wr' k3) ?_;refine⟨(q',r+y1),⟨hI2,by simp;omega,by simp;omega,by simp;omega⟩,aj _ _ [] [] ?_ ?_ rfl rfl,by simp⟩
     ·simp[cv,cv1,cv0,upd,lk,az]
     ·simp
   ·have k1:decide ((4294967296:Int)<=((q'+1:Nat):Int))=false:=by simp;omega
    have mbq:=mb (q'+1) (by omega);have k2:decide (((4294967296*r+d0:Nat):Int)<(((q'+1)*y0:Nat):Int))=true:=by simp only[decide_eq_true_eq,Int.ofNat_lt];exact hc.resolve_left hc1
    generalize(q'+1)*y0=m at mbq k2 hc;generalize 4294967296*r+d0=m2 at abr k2 hc;by_cases hr2:4294967296<=r+y1
    ·have k3:decide ((4294967296:Int)<=((r+y1:Nat):Int))=true:=by simp;omega
     have he:=iT hQ0 hYe hYpos hy0 hI2 (Nat.le_of_lt_succ hlt) (by omega) hr2;subst q';refine gx (an9 bT k1 @mbq @abr k2 @wq @wr' k3 (an3 @wrest0 @wsum @wfin)) ?_;refine dC [] rfl ?_;simp[cv,cvT,cv1,cv0,upd]
    ·have k3:decide ((4294967296:Int)<=((r+y1:Nat):Int))=false:=by simp;omega
     refine gx (an8 bT k1 @mbq @abr k2 @wq @wr' k3) ?_;refine⟨(q',r+y1),⟨hI2,by simp;omega,by simp;omega,by simp;omega⟩,aj _ _ [] [] ?_ ?_ rfl rfl,by simp⟩
     ·simp[cv,cv1,cv0,upd,lk,az]
     ·simp
  ·have hc1:¬4294967296<=q:=λh=>hc (.inl h);have hc2:¬4294967296*r+d0<q*y0:=λh=>hc (.inr h);have he:=uS hQ0 hYe hYpos hI hq (Nat.le_of_not_lt hc2);have k1:decide ((4294967296:Int)<=(q:Int))=false:=by simp;omega
   have mbq:=mb q (by omega);have k2:decide (((4294967296*r+d0:Nat):Int)<((q*y0:Nat):Int))=false:=by simp only[decide_eq_false_iff_not,Int.ofNat_lt];exact hc2
   generalize q*y0=m at mbq k2 hc hc2;generalize 4294967296*r+d0=m2 at abr k2 hc hc2;subst q;refine gx (an8 bT k1 @mbq @abr k2 @wrest0 @wsum @wfin) ?_;refine dC [] rfl ?_;simp[cv,cvT,cv1,cv0,upd]
def hor (l:List UInt8)(i:Nat):Nat->Nat
 |0=>0
 |k+1=>hor l i k*256+bnth l (i+k)
theorem Cz (l:List UInt8)(i:Nat):∀k,hor l i k<256^k
 |0=>by simp[hor]
 |k+1=>by have:=Cz l i k;have:=mi l (i+k);simp only[hor,Nat.pow_succ];omega
theorem JF (N:Nat):∀t,t<8->(fF N)[t]?=some (aQ N (256^(7-t))):=by
 intro t ht;have:t=0\/t=1\/t=2\/t=3\/t=4\/t=5\/t=6\/t=7:=by omega
 rcases this with rfl|rfl|rfl|rfl|rfl|rfl|rfl|rfl<;>rfl
theorem Vu (N:Nat):∀t,t<4->(vo N)[t]?=some (aQ N (256^(3-t))):=by
 intro t ht;have:t=0\/t=1\/t=2\/t=3:=by omega
 rcases this with rfl|rfl|rfl|rfl<;>rfl
theorem nT {α:Type}{l:List α}{t:Nat}{x:α}(h:l[t]?=some x):l.take (t+1)=l.take t++[x]:=by obtain⟨h1,rfl⟩:=List.getElem?_eq_some_iff.1 h;exact List.take_succ_eq_append_getElem h1
theorem zw (x n:Nat)(k:IntKind)(hn:n<=k.bits):(x:Int).fdiv (2^(min n k.bits))=((x/2^n:Nat):Int):=by
 rw[show min n k.bits=n by omega,Int.fdiv_eq_ediv_of_nonneg _ (Int.le_of_lt (Int.pow_pos (by decide)))];have e:((2:Int)^n)=((2^n:Nat):Int):=by simp
 rw[e];exact(Int.natCast_ediv _ _).symm
theorem sG {k:IntKind}(N d:Nat)(hd:8*d<=k.bits):IntKind.u8.wrap ((N:Int).fdiv (2^(min (8*d) k.bits)))=((aQ N (256^d)).toNat:Int):=by rw[zw N (8*d) k hd,show(2:Nat)^(8*d)=256^d by rw[Nat.pow_mul],IntKind.wrap_u8,aQ,UInt8.toNat_ofNat'];omega
end Go.Proofs.YtdmeldhlbpdeeaaGreatDoor
