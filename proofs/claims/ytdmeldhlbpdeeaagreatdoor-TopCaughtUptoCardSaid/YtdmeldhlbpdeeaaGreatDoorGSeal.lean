/- Merged texts: SealA, SealB, SealC, SealP. -/
import Derived.Test.YtdmeldhlbpdeeaaGreatDoorGDiv
set_option linter.all false
set_option maxHeartbeats 2000000
namespace Go.Proofs.YtdmeldhlbpdeeaaGreatDoor
open Go Go.Abs Go.RowKit Go.Proofs.YtdmeldhlbpdeeaaGreatDoor.Ty
def yY:=@Ty.T59
def kC:=@Ty.T59
def pV:=an5 @Ty.T3 @Ty.T5 @Ty.T29 @Ty.T42 @Ty.T59
def yX:=an5 @Ty.T1 @Ty.T3 @Ty.T5 @Ty.T29 @Ty.T59
def dI (n:Nat):D:=.i (.s (.int .u64 (n:Int)))
def ry:=an @dI.eq_1 @bbI.eq_1
theorem TS {n m:Nat}(h:m<18446744073709551616)(h0:0<m):n%m<18446744073709551616:=Nat.lt_trans (Nat.mod_lt _ h0) h
theorem vJ (a b m:Nat)(ha:a<18446744073709551616)(hb:b<18446744073709551616)(hm:m<18446744073709551616)(h0:0<m):
  PureD Tryz.prog 133 [dI a,dI b,dI m] (dI (a*b%m)):=by
 have hd:=Nat.div_add_mod (a*b) 18446744073709551616;have hl:a*b%18446744073709551616<18446744073709551616:=Nat.mod_lt _ (by decide);have hres:(a*b/18446744073709551616%m*18446744073709551616+a*b%18446744073709551616)%m=a*b%m:=by
  conv=>rhs;rw[<- hd]
  rw[Nat.mul_comm 18446744073709551616,Nat.add_mod,Nat.mul_mod,Nat.mod_mod,<- Nat.mul_mod,<- Nat.add_mod]
 have r1:((a*b/18446744073709551616:Nat):Int).tmod (m:Int)=((a*b/18446744073709551616%m:Nat):Int):=by rw[Int.tmod_eq_emod_of_nonneg (by omega)];exact(Int.natCast_emod _ _).symm
 have q0:((m:Int)=0)=False:=eq_false (by omega);refine aa 27 Tryz.func133 ?_
 (refine gy (an yY @dI.eq_1) ?_;try intro ops hops)
 (refine fq ry (zS a b ha hb) ?_)
 have hlt:a*b/18446744073709551616%m<m:=Nat.mod_lt _ h0;generalize a*b/18446744073709551616=h at r1 hres hlt;generalize a*b%18446744073709551616=l at hl hres
 (refine gy (an3 yY @r1 @q0) ?_;try intro ops hops)
 (refine fq ry (aay (h%m) l m hl hm hlt) ?_)
 rw[hres];refine gx yY ?_;refine aA [] rfl ?_;simp[cv,cv1,cv0,upd]
theorem aiw (e:Nat)(he:e<18446744073709551616):bits .and .u64 (e:Int) 1=((e%2:Nat):Int):=by have:=(bits_nat .u64 64 (by decide) (λn g0 g1=>by rw[IntKind.wrap_u64];omega) e 1 he (by decide)).1;rw[show((1:Nat):Int)=1 from rfl]at this;rw[this,show(1:Nat)=2^1-1 from rfl,Nat.and_two_pow_sub_one_eq_mod]
theorem GI (r b e m:Nat):(r*b^e)%m=((if e%2=1 then r*b%m else r)*(b*b%m)^(e/2))%m:=by
 have he:b^e=b^(e%2)*(b*b)^(e/2):=by
  conv=>lhs;rw[<- Nat.div_add_mod e 2,Nat.pow_add,Nat.pow_mul,Nat.pow_two]
  exact Nat.mul_comm _ _
 rw[he,<- Nat.mul_assoc];have h2:(b*b%m)^(e/2)%m=(b*b)^(e/2)%m:=(Nat.pow_mod (b*b) (e/2) m).symm;split
 ·rename_i h1;rw[h1,Nat.pow_one,Nat.mul_mod,<- h2,<- Nat.mul_mod,Nat.mul_mod (r*b%m),Nat.mod_mod,<- Nat.mul_mod]
 ·rename_i h1;have h0:e%2=0:=by omega
  rw[h0,Nat.pow_zero,Nat.mul_one,Nat.mul_mod,<- h2,<- Nat.mul_mod]
theorem vU (b e m:Nat)(hb:b<18446744073709551616)(he:e<18446744073709551616)(hm:m<18446744073709551616)(h1:1<m):
  PureD Tryz.prog 128 [dI b,dI e,dI m] (dI (b^e%m)):=by
 generalize hq:b^e%m=q;refine aa 24 Tryz.func128 ?_;refine gx (an kC @dI.eq_1) ?_;refine bO (ι:=Nat×Nat×Nat) (λp=>(p.1*p.2.1^p.2.2)%m=q/\p.1<m/\p.2.1<18446744073709551616/\p.2.2<18446744073709551616)
  (λp=>dP [(0,.i (.s (.int .u64 (p.2.1:Nat)))),(1,.i (.s (.int .u64 (p.2.2:Nat)))),(2,.i (.s (.int .u64 (m:Nat)))),(7,.i (.s (.int .u64 (p.1:Nat))))] []) (λp=>p.2.2) (1,b,e) ⟨by simpa using hq,h1,hb,he⟩ ?_ ?_
 ·refine aj _ _ [] [] ?_ ?_ rfl rfl
  ·simp[cv,cv1,cv0,upd,lk,az]
  ·simp
 ·rintro⟨r,c,n⟩ ⟨hI,hr,hc,hn⟩;simp only at hI hr hc hn;rw[ag];refine gx kC ?_;refine aK (λh=>?_) (λh=>?_)
  ·have hn0:0<n:=by simp at h;omega
   clear h;have hb0:=aiw n hn;have hsh:=jf n 1 (by decide);rw[GI]at hI;have h2:n/2<n:=by omega
   rw[show 2^1=2 from rfl]at hsh;have hcc:c*c%m<18446744073709551616:=TS hm (by omega);cases g:decide (((n%2:Nat):Int)=1)
   ·have hg:¬n%2=1:=by simp at g;omega
    rw[if_neg hg]at hI
    (refine gy (an3 kC @hb0 g) ?_;try intro ops hops)
    (refine fq ry (vJ c c m hc hc hm (by omega)) ?_)
    refine gx (an3 kC @hsh @dI.eq_1) ?_;refine⟨(r,c*c%m,n/2),⟨hI,hr,hcc,by simp;omega⟩,aj _ _ [] [] ?_ ?_ rfl rfl,by simpa using h2⟩
    ·simp[cv,cv1,cv0,upd,lk,az]
    ·simp
   ·have hg:n%2=1:=by simp at g;omega
    rw[if_pos hg]at hI
    (refine gy (an3 kC @hb0 g) ?_;try intro ops hops)
    (refine fq ry (vJ r c m (by omega) hc hm (by omega)) ?_)
    (refine gy (an kC @dI.eq_1) ?_;try intro ops hops)
    (refine fq ry (vJ c c m hc hc hm (by omega)) ?_)
    refine gx (an3 kC @hsh @dI.eq_1) ?_;refine⟨(r*c%m,c*c%m,n/2),⟨hI,Nat.mod_lt _ (by omega),hcc,by simp;omega⟩,aj _ _ [] [] ?_ ?_ rfl rfl,by simpa using h2⟩
    ·simp[cv,cv1,cv0,upd,lk,az]
    ·simp
  ·have hn0:n=0:=by simp at h;omega
   subst hn0;have hrq:r=q:=by rw[<- hI,Nat.pow_zero,Nat.mul_one,Nat.mod_eq_of_lt hr]
   refine gx kC ?_;refine aA [] rfl ?_;simp[cv,cv1,cv0,upd,hrq,dI]
def Bd (d:List UInt8):Nat:=hor d 0 8
theorem NZ (d:List UInt8):Bd d<18446744073709551616:=Cz d 0 8
theorem zO (ls:List (List UInt8))(hl:ls.length<=1000)(hb:∀b∈ls,b.length<=140737488355264):
  PureD Tryz.prog 130 [.i (bbI ls)] (dI (Bd (sha ls.flatten))):=by
 have hsl:=bg ls.flatten;refine aa 21 Tryz.func130 ?_
 (refine gy (an pV @dI.eq_1) ?_;try intro ops hops)
 (refine fqz ry (zI ls (by omega) hb) ?_)
 generalize sha ls.flatten=d at hsl;have l8:((8:Int)<=((d.length:Nat):Int))=True:=eq_true (by omega);have t8:min 8 d.length=8:=by omega
 refine gx (an6 pV @bI.eq_1 l8 @fB @List.length_take.{0} t8) ?_;refine bO (ι:=Nat) (λk=>k<=8)
  (λk=>dP [(3,.i (.s (.int .u64 (hor d 0 k:Nat)))),(8,.i (.sl ((d.map aH).take 8))),(9,.i (.s (.int .i64 8))),(10,.i (.s (.int .i64 (k:Nat))))] []) (λk=>8-k) 0 (Nat.zero_le _) ?_ ?_
 ·refine aj _ _ [] [] ?_ ?_ rfl rfl
  ·simp[cv,cv1,cv0,upd,lk,az,hor]
  ·simp
 ·intro k hk;rw[ag];refine gx pV ?_;refine aK (λh=>?_) (λh=>?_)
  ·have h1:k<8:=by simp at h;omega
   clear h;have hkd:k<d.length:=by omega
   have e1:((d.map aH).take 8)[k]?=some [.s (.int .u8 ((d[k]).toNat:Int))]:=by rw[List.getElem?_take_of_lt h1,List.getElem?_map,List.getElem?_eq_getElem hkd];rfl
   have hs:hor d 0 (k+1)=hor d 0 k*256+(d[k]).toNat:=by rw[hor,Nat.zero_add,AV hkd]
   have hx:=Cz d 0 k;have hx7:hor d 0 k<256^7:=Nat.lt_of_lt_of_le hx (Nat.pow_le_pow_right (by decide) (by omega));have hcl:=(d[k]).toNat_lt;generalize(d[k]).toNat=c at e1 hs hcl;generalize hor d 0 k=x at hx7 hs;have c7:(256:Nat)^7=72057594037927936:=by decide
   rw[c7]at hx7;have w1:IntKind.u64.wrap ((x:Int)*2^min 8 (IntKind.bits .u64))=((x*2^8:Nat):Int):=by rw[show min 8 (IntKind.bits .u64)=8 from rfl,IntKind.wrap_u64];omega
   have w2:IntKind.u64.wrap (c:Int)=(c:Int):=by rw[IntKind.wrap_u64];omega
   have w3:=ahw (a:=x) (b:=c) (k:=8) (by omega) (by omega) (by decide);have w4:IntKind.i64.wrap ((k:Int)+1)=((k+1:Nat):Int):=by rw[au (by omega) (by omega)];omega
   have hs':x*2^8+c=hor d 0 (k+1):=by rw[hs]
   rw[hs']at w3;generalize x*2^8=x8 at w1 w3;refine gx (an6 pV e1 w1 w2 w3 w4) ?_;refine⟨k+1,h1,aj _ _ [] [] ?_ ?_ rfl rfl,by simp;omega⟩
   ·simp[cv,cv1,cv0,upd,lk,az]
   ·simp
  ·have h1:k=8:=by simp at h;omega
   subst h1;refine gx pV ?_;refine aA [] rfl ?_;simp[cv,cv1,cv0,upd,Bd]
theorem Fe (n:Nat):PureD Tryz.prog 131 [dI n] (.i (bI (fF n))):=by
 refine aa 17 Tryz.func131 ?_;refine gx (an yX @dI.eq_1) ?_;refine bO (ι:=Nat) (λt=>t<=8)
  (λt=>dP [(0,.i (.s (.int .u64 (n:Nat)))),(3,.os 100 1 0 t),(4,.i (.s (.int .i64 (56-8*(t:Int)))))] [(100,.arr 1 (((fF n).take t).map aH))]) (λt=>8-t) 0 (Nat.zero_le _) ?_ ?_
 ·refine aj _ _ [] [] ?_ ?_ rfl rfl
  ·simp[cv,cv1,cv0,upd,lk,az]
  ·simp[aX,az,lk]
 ·intro t ht;rw[ag];have hl8:(fF n).length=8:=rfl;by_cases h1:t<8
  ·have g1:decide ((0:Int)<=((8*(7-t):Nat):Int))=true:=decide_eq_true (Int.natCast_nonneg _);have e7:(56:Int)-8*(t:Int)=((8*(7-t):Nat):Int):=by omega
   have hts:=nT (JF n t h1);have w4:=sG (k:=.u64) n (7-t) (by simp[IntKind.bits];omega);have w5:IntKind.i64.wrap (((8*(7-t):Nat):Int)-8)=56-8*((t+1:Nat):Int):=by rw[au (by omega) (by omega)];omega
   have e8:min t (fF n).length=t:=by rw[hl8];omega
   have e3:t+1<=140737488355328:=by omega
   generalize aQ n (256^(7-t))=c at hts w4;generalize 8*(7-t)=d at e7 w4 w5 g1;generalize fF n=B8 at hts hl8 e8;refine gx (an9 yX e7 w4 w5 e8 e3 g1 @fB @List.length_take.{0}) ?_;refine⟨t+1,h1,aj _ _ [] [(100,2286)] ?_ ?_ rfl rfl,by simp;omega⟩
   ·simp[cv,cv1,cv0,upd,lk,az]
   ·simp[aX,az,lk,cvO,frz,upd,aH,hts]
  ·have h1:t=8:=by omega
   subst h1;have g1:decide ((0:Int)<=56-8*8)=false:=by decide
   rw[show(fF n).take 8=fF n from rfl];have hof:List.take 8 ((fF n).map aH)=(fF n).map aH:=rfl;generalize fF n=B8 at hl8 hof;refine gx (an yX g1) ?_;refine aA [100] rfl ?_;simp[cv,cv1,cv0,upd,hO,lk,aO,hl8,hof,bI]
def FZ:=an6 @Ty.T2 @Ty.T3 @Ty.T5 @Ty.T29 @Ty.T42 @Ty.T59
def uC:=an5 @Ty.T3 @Ty.T5 @Ty.T29 @Ty.T42 @Ty.T59
def yV:=an3 @Ty.T5 @Ty.T29 @Ty.T59
def yN:=an @dI.eq_1 @bbI.eq_1
def qN:Nat:=576460752303424853
def pN:Nat:=1152921504606849707
def xV:List UInt8:=[107,101,121]
def zN:List UInt8:=[111,110,99,101]
def secretF (seed:List UInt8):Nat:=Bd (sha (xV++seed))%(qN-1)+1
def askF (r key:Nat)(m:List UInt8):Nat:=Bd (sha (fF r++(fF key++m)))%qN
def keyF (seed:List UInt8):Nat:=4^secretF seed%pN
def onceF (seed m:List UInt8):Nat:=Bd (sha (zN++(fF (secretF seed)++m)))%(qN-1)+1
def Bb (seed m:List UInt8):Nat:=4^onceF seed m%pN
def sigS (seed m:List UInt8):Nat:=(onceF seed m+askF (Bb seed m) (keyF seed) m*secretF seed%qN)%qN
def Ah (key:Nat)(m:List UInt8)(r s:Nat):Bool :=
 decide (1<=key/\key<pN/\1<=r/\r<pN/\s<qN/\key^qN%pN=1)&&decide (4^s%pN=r*(key^askF r key m%pN)%pN)
theorem be64_len (n:Nat):(fF n).length=8:=rfl
theorem Bt (a b:Nat):(a:Int).tmod (b:Int)=((a%b:Nat):Int):=by rw[Int.tmod_eq_emod_of_nonneg (by omega)];exact(Int.natCast_emod _ _).symm
theorem mW (seed:List UInt8):1<=secretF seed/\secretF seed<qN:=by have:=Nat.mod_lt (Bd (sha (xV++seed))) (show 0<qN-1 by decide);simp only[secretF,qN]at*;omega
theorem Gm (seed:List UInt8)(hb:seed.length<=1099511627776):PureD Tryz.prog 129 [.i (bI seed)] (dI (secretF seed)):=by
 have hn:=zO [xV,seed] (by simp) (by intro b hb';simp at hb';rcases hb' with rfl|rfl;decide;omega);have hf:[xV,seed].flatten=xV++seed:=by simp
 rw[hf]at hn;have hs:secretF seed=Bd (sha (xV++seed))%576460752303424852+1:=rfl;have hlt:=NZ (sha (xV++seed));generalize Bd (sha (xV++seed))=N at hn hs hlt;have w1:(N:Int).tmod 576460752303424852=((N%576460752303424852:Nat):Int):=Bt N 576460752303424852;have w2:IntKind.u64.wrap (((N%576460752303424852:Nat):Int)+1)=((secretF seed:Nat):Int):=by rw[hs,IntKind.wrap_u64];omega
 refine aa 10 Tryz.func129 ?_
 (refine gy (an3 FZ @bI.eq_1 @oz) ?_;try intro ops hops)
 (first|refine ja [1259] [] (hn) (by simp[dI,bbI,xV,aH,frz,bbI]) rfl ?_|refine jK [1259] [] [1259] (hn) (λG hG=>by(have hG1259:=hG 1259 (by simp);simp[dI,bbI,xV,aH,frz,bbI,hG1259])) rfl ?_)
 refine gx (an4 FZ @dI.eq_1 w1 w2) ?_;refine aA [] rfl ?_;simp[cv,cv1,cv0,upd,dI]
theorem afj (r key:Nat)(m:List UInt8)(hb:m.length<=1099511627776):PureD Tryz.prog 132 [dI r,dI key,.i (bI m)] (dI (askF r key m)):=by
 have hn:=zO [fF r,fF key,m] (by simp) (by intro b hb';simp at hb';rcases hb' with rfl|rfl|rfl;(rw[be64_len];decide);(rw[be64_len];decide);omega);have hf:[fF r,fF key,m].flatten=fF r++(fF key++m):=by simp
 rw[hf]at hn;have hs:askF r key m=Bd (sha (fF r++(fF key++m)))%576460752303424853:=rfl;generalize Bd (sha (fF r++(fF key++m)))=N at hn hs;have w1:(N:Int).tmod 576460752303424853=((askF r key m:Nat):Int):=by rw[hs];exact Bt N 576460752303424853
 refine aa 15 Tryz.func132 ?_
 (refine gy (an3 uC @dI.eq_1 @bI.eq_1) ?_;try intro ops hops)
 (refine fqz yN (Fe r) ?_)
 (refine gy (an3 uC @dI.eq_1 @bI.eq_1) ?_;try intro ops hops)
 (refine fqz yN (Fe key) ?_)
 (refine gy (an3 uC @dI.eq_1 @bI.eq_1) ?_;try intro ops hops)
 (first|refine ja [1261] [] (hn) (by simp[dI,bbI,frz,bbI]) rfl ?_|refine jK [1261] [] [1261] (hn) (λG hG=>by(have hG1261:=hG 1261 (by simp);simp[dI,bbI,frz,bbI,hG1261])) rfl ?_)
 refine gx (an3 uC @dI.eq_1 w1) ?_;refine aA [] rfl ?_;simp[cv,cv1,cv0,upd,dI]
theorem Z_ (seed:List UInt8)(hb:seed.length<=1099511627776):PureD Tryz.prog 75 [.i (bI seed)] (dI (keyF seed)):=by
 have hs:=(mW seed).2;have hp:=vU 4 (secretF seed) pN (by decide) (Nat.lt_trans hs (by decide)) (by decide) (by decide);rw[show 4^secretF seed%pN=keyF seed from rfl]at hp;simp only[pN]at hp;generalize hk:keyF seed=K at hp;generalize hss:secretF seed=S at hp;refine aa 6 Tryz.func75 ?_
 (refine gy (an yV @bI.eq_1) ?_;try intro ops hops)
 (refine fq yN (Gm seed hb) ?_)
 rw[hss]
 (refine gy (an yV @dI.eq_1) ?_;try intro ops hops)
 (refine fq yN (hp) ?_)
 refine gx (an yV @dI.eq_1) ?_;refine aA [] rfl ?_;simp[cv,cv1,cv0,upd,dI]
def kz:=an7 @Ty.T3 @Ty.T4 @Ty.T5 @Ty.T29 @Ty.T42 @Ty.T59 @Ty.ahN
def gI:=an4 @Ty.T5 @Ty.T29 @Ty.T59 @Ty.ahN
def qp (r s:Nat):D:=.agg [dI r,dI s]
def jL:=an3 @dI.eq_1 @bbI.eq_1 @qp.eq_1
theorem GK (b e:Nat):b^e%pN<pN:=Nat.mod_lt _ (by decide)
theorem acg (seed m:List UInt8)(hb:seed.length<=1099511627776)(hm:m.length<=1099511627776):PureD Tryz.prog 76 [.i (bI seed),.i (bI m)] (qp (Bb seed m) (sigS seed m)):=by
 have hx:=(mW seed).2;have hn:=zO [zN,fF (secretF seed),m] (by simp) (by intro b hb';simp at hb';rcases hb' with rfl|rfl|rfl;decide;(rw[be64_len];decide);omega);have hf:[zN,fF (secretF seed),m].flatten=zN++(fF (secretF seed)++m):=by simp
 rw[hf]at hn;have hk:onceF seed m=Bd (sha (zN++(fF (secretF seed)++m)))%576460752303424852+1:=rfl;have hR:Bb seed m=4^onceF seed m%pN:=rfl;have hS:sigS seed m=(onceF seed m+askF (Bb seed m) (keyF seed) m*secretF seed%qN)%qN:=rfl;have hkl:onceF seed m<576460752303424853:=by rw[hk];omega
 have hp:=vU 4 (onceF seed m) pN (by decide) (by omega) (by decide) (by decide);rw[<- hR]at hp;have he:askF (Bb seed m) (keyF seed) m<576460752303424853:=Nat.mod_lt _ (by decide);have ht:=vJ (askF (Bb seed m) (keyF seed) m) (secretF seed) qN (by omega) (Nat.lt_trans hx (by decide)) (by decide) (by decide);have htl:askF (Bb seed m) (keyF seed) m*secretF seed%qN<qN:=Nat.mod_lt _ (by decide);generalize hN:Bd (sha (zN++(fF (secretF seed)++m)))=N at hn hk;have w1:(N:Int).tmod 576460752303424852=((N%576460752303424852:Nat):Int):=Bt N 576460752303424852;have w2:IntKind.u64.wrap (((N%576460752303424852:Nat):Int)+1)=((onceF seed m:Nat):Int):=by rw[hk,IntKind.wrap_u64];omega
 generalize onceF seed m=K at*;generalize hss:secretF seed=X at*;have ha:=afj (Bb seed m) (keyF seed) m hm;generalize askF (Bb seed m) (keyF seed) m=E at*;generalize Bb seed m=R at*;generalize hkk:keyF seed=KK at*;simp only[qN,pN]at ht htl hp hS;generalize E*X%576460752303424853=T at*;have w3:IntKind.u64.wrap ((K:Int)+(T:Int))=((K+T:Nat):Int):=by rw[IntKind.wrap_u64];omega
 have w4:((K+T:Nat):Int).tmod 576460752303424853=((sigS seed m:Nat):Int):=by rw[hS];exact Bt (K+T) 576460752303424853
 clear hR hf hk hS;refine aa 35 Tryz.func76 ?_
 (refine gy (an kz @bI.eq_1) ?_;try intro ops hops)
 (refine fq jL (Gm seed hb) ?_)
 rw[hss]
 (refine gy (an4 kz @dI.eq_1 @bI.eq_1 @oz) ?_;try intro ops hops)
 (refine fqz jL (Fe X) ?_)
 (refine gy (an3 kz @dI.eq_1 @bI.eq_1) ?_;try intro ops hops)
 (first|refine ja [1517] [] (hn) (by simp[dI,bbI,qp,zN,aH,frz,bbI]) rfl ?_|refine jK [1517] [] [1517] (hn) (λG hG=>by(have hG1517:=hG 1517 (by simp);simp[dI,bbI,qp,zN,aH,frz,bbI,hG1517])) rfl ?_)
 (refine gy (an4 kz @dI.eq_1 w1 w2) ?_;try intro ops hops)
 (refine fq jL (hp) ?_)
 (refine gy (an kz @dI.eq_1) ?_;try intro ops hops)
 (refine fq jL (Z_ seed hb) ?_)
 rw[hkk]
 (refine gy (an kz @dI.eq_1) ?_;try intro ops hops)
 (refine fq jL (ha) ?_)
 (refine gy (an kz @dI.eq_1) ?_;try intro ops hops)
 (refine fq jL (ht) ?_)
 refine gx (an4 kz @dI.eq_1 w3 w4) ?_;refine E_ [] rfl ahg afZ (by simp[upd,aW,aR];rfl) ?_;simp[cv,cv1,cvL,cv0,upd,dI,qp]
theorem aer (key:Nat)(m:List UInt8)(r s:Nat)(hk:key<18446744073709551616)(hr:r<18446744073709551616)(hs:s<18446744073709551616)(hm:m.length<=1099511627776):
  PureD Tryz.prog 225 [dI key,.i (bI m),qp r s] (.i (.s (.bool (Ah key m r s)))):=by
 generalize hg:Ah key m r s=g;unfold Ah at hg;refine aa 47 Tryz.func225 ?_;cases g1:decide ((key:Int)<1)
 rotate_left
 ·have h1:¬1<=key:=by simp at g1;omega
  refine gx (an5 gI @dI.eq_1 @qp.eq_1 @bI.eq_1 g1) ?_;refine aA [] rfl ?_;simp[cv,cv1,cv0,upd,<- hg,h1]
 have h1:1<=key:=by simp at g1;omega
 cases g2:decide ((1152921504606849707:Int)<=(key:Int))
 rotate_left
 ·have h2:¬key<pN:=by simp[pN]at g2⊢;omega
  refine gx (an6 gI @dI.eq_1 @qp.eq_1 @bI.eq_1 g1 g2) ?_;refine aA [] rfl ?_;simp[cv,cv1,cv0,upd,<- hg,h2]
 have h2:key<pN:=by simp[pN]at g2⊢;omega
 cases g3:decide ((r:Int)<1)
 rotate_left
 ·have h3:¬1<=r:=by simp at g3;omega
  refine gx (an7 gI @dI.eq_1 @qp.eq_1 @bI.eq_1 g1 g2 g3) ?_;refine aA [] rfl ?_;simp[cv,cv1,cv0,upd,<- hg,h3]
 have h3:1<=r:=by simp at g3;omega
 cases g4:decide ((1152921504606849707:Int)<=(r:Int))
 rotate_left
 ·have h4:¬r<pN:=by simp[pN]at g4⊢;omega
  refine gx (an8 gI @dI.eq_1 @qp.eq_1 @bI.eq_1 g1 g2 g3 g4) ?_;refine aA [] rfl ?_;simp[cv,cv1,cv0,upd,<- hg,h4]
 have h4:r<pN:=by simp[pN]at g4⊢;omega
 cases g5:decide ((576460752303424853:Int)<=(s:Int))
 rotate_left
 ·have h5:¬s<qN:=by simp[qN]at g5⊢;omega
  refine gx (an9 gI @dI.eq_1 @qp.eq_1 @bI.eq_1 g1 g2 g3 g4 g5) ?_;refine aA [] rfl ?_;simp[cv,cv1,cv0,upd,<- hg,h5]
 have h5:s<qN:=by simp[qN]at g5⊢;omega
 have hp:=vU key qN pN hk (by decide) (by decide) (by decide);refine gx (an9 gI @dI.eq_1 @qp.eq_1 @bI.eq_1 g1 g2 g3 g4 g5) ?_;have hps:4^s%pN<18446744073709551616:=Nat.lt_trans (GK _ _) (by decide);have hp2:=vU 4 s pN (by decide) hs (by decide) (by decide);have ha:=afj r key m hm;have hal:askF r key m<18446744073709551616:=Nat.lt_trans (Nat.mod_lt _ (show 0<qN by decide)) (by decide);have hp3:=vU key (askF r key m) pN hk hal (by decide) (by decide);have ht:=vJ r (key^askF r key m%pN) pN hr (Nat.lt_trans (GK _ _) (by decide)) (by decide) (by decide);simp only[h1,h2,h3,h4,h5,true_and]at hg;generalize key^qN%pN=A at hp hg;generalize 4^s%pN=B at hp2 hg;generalize askF r key m=E at ha hp3 ht hg;generalize key^E%pN=C at hp3 ht hg;generalize r*C%pN=T at ht hg;simp only[qN,pN]at hp hp2 hp3 ht
 (refine fq jL (hp) ?_)
 cases g6:decide ((A:Int)=1)
 ·have h6:¬A=1:=by simp at g6;omega
  refine gx (an3 gI @dI.eq_1 g6) ?_;refine aA [] rfl ?_;simp[cv,cv1,cv0,upd,<- hg,h6]
 ·have h6:A=1:=by simp at g6;omega
  (refine gy (an3 gI @dI.eq_1 g6) ?_;try intro ops hops)
  (refine fq jL (hp2) ?_)
  (refine gy (an gI @dI.eq_1) ?_;try intro ops hops)
  (refine fq jL (ha) ?_)
  (refine gy (an gI @dI.eq_1) ?_;try intro ops hops)
  (refine fq jL (hp3) ?_)
  (refine gy (an gI @dI.eq_1) ?_;try intro ops hops)
  (refine fq jL (ht) ?_)
  refine gx (an gI @dI.eq_1) ?_;refine aA [] rfl ?_;simp[cv,cv1,cv0,upd,<- hg,h6,Int.natCast_inj]
def aby:Nat->Nat->Nat->Nat->Nat->Nat
 |0,r,_,_,m=>r%m
 |f+1,r,b,e,m=>aby f (if e%2=1 then r*b%m else r) (b*b%m) (e/2) m
theorem Po:∀(f r b e m:Nat),e<2^f->aby f r b e m=r*b^e%m
 |0,r,b,e,m,h=>by
  have:e=0:=by simpa using h
  subst this;simp[aby]
 |f+1,r,b,e,m,h=>by rw[aby,Po f _ _ _ _ (by rw[Nat.pow_succ]at h;omega),<- GI]
theorem IE {b e m:Nat}(h:e<2^60):b^e%m=aby 60 1 b e m:=by rw[Po 60 1 b e m h,Nat.one_mul]
theorem QU:4^qN%pN=1:=by rw[IE (by decide)];decide +kernel
theorem agu (a:Nat):(4^a)^qN%pN=1:=by rw[<- Nat.pow_mul,Nat.mul_comm,Nat.pow_mul,Nat.pow_mod,QU,Nat.one_pow];decide
theorem per (n:Nat):4^n%pN=4^(n%qN)%pN:=by
 conv=>lhs;rw[<- Nat.div_add_mod n qN,Nat.pow_add,Nat.pow_mul,Nat.mul_mod,Nat.pow_mod,QU,Nat.one_pow]
 rw[show 1%pN=1 by decide,Nat.one_mul,Nat.mod_mod]
theorem GJ {x:Nat}(h:x<=qN):1<=4^x%pN:=by
 rcases Nat.eq_zero_or_pos (4^x%pN)with h0|h0
 ·exfalso;have:=QU;rw[show qN=x+(qN-x) by omega,Nat.pow_add,Nat.mul_mod,h0,Nat.zero_mul]at this;simp at this
 ·exact h0
theorem Zq (seed m:List UInt8):onceF seed m<=qN:=by have:=Nat.mod_lt (Bd (sha (zN++(fF (secretF seed)++m)))) (show 0<qN-1 by decide);simp only[onceF,qN]at*;omega
@[irreducible] def qI:Nat:=qN
theorem acs:qN=qI:=by unfold qI;rfl
theorem sg1 (a:Nat):(4^a%pN)^qI%pN=1:=by have h:=agu a;rw[acs]at h;rw[<- Nat.pow_mod];exact h
theorem sg2 (X K E:Nat):4^((K+E*X%qN)%qN)%pN=(4^K%pN)*((4^X%pN)^E%pN)%pN:=by rw[<- Nat.pow_mod,<- Nat.pow_mul,<- Nat.mul_mod,<- Nat.pow_add,Nat.add_mod_mod,<- per,Nat.mul_comm E X]
theorem aam {key:Nat}{m:List UInt8}{r s:Nat}(h1:1<=key)(h2:key<pN)(h3:1<=r)(h4:r<pN)(h5:s<qN)(h6:key^qI%pN=1)(h7:4^s%pN=r*(key^askF r key m%pN)%pN):Ah key m r s=true:=by unfold Ah;rw[<- acs]at h6;rw[Bool.and_eq_true];exact⟨decide_eq_true ⟨h1,h2,h3,h4,h5,h6⟩,decide_eq_true h7⟩
theorem MQ (seed m:List UInt8):Ah (keyF seed) m (Bb seed m) (sigS seed m)=true :=
 aam (GJ (Nat.le_of_lt (mW seed).2)) (GK _ _) (GJ (Zq seed m)) (GK _ _) (Nat.mod_lt _ (by decide)) (sg1 _) (sg2 _ _ _)
theorem ma (seed:List UInt8):keyF seed=aby 60 1 4 (secretF seed) pN:=IE (Nat.lt_trans (mW seed).2 (by decide))
end Go.Proofs.YtdmeldhlbpdeeaaGreatDoor
