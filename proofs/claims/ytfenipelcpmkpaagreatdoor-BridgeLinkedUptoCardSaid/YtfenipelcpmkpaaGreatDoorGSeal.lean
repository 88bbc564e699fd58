/- Merged texts: SealA, SealB, SealC, SealP. -/
import Derived.Test.YtfenipelcpmkpaaGreatDoorGDiv
set_option linter.all false
set_option maxHeartbeats 2000000
namespace Go.Proofs.YtfenipelcpmkpaaGreatDoor
open Go Go.Abs Go.RowKit Go.Proofs.YtfenipelcpmkpaaGreatDoor.Ty
theorem xx:(type_of% @Ty.T54):=@Ty.T54
theorem jC:(type_of% @Ty.T54):=@Ty.T54
theorem om:(type_of% @Ty.T3)/\(type_of% @Ty.T5)/\(type_of% @Ty.T29)/\(type_of% @Ty.T42)/\(type_of% @Ty.T54):=⟨@Ty.T3,@Ty.T5,@Ty.T29,@Ty.T42,@Ty.T54⟩
theorem xw:(type_of% @Ty.T1)/\(type_of% @Ty.T3)/\(type_of% @Ty.T5)/\(type_of% @Ty.T29)/\(type_of% @Ty.T54):=⟨@Ty.T1,@Ty.T3,@Ty.T5,@Ty.T29,@Ty.T54⟩
def bO (n:Nat):D:=.i (.s (.int .u64 (n:Int)))
theorem Qu {n m:Nat} (h:m < 18446744073709551616) (h0:0 < m):n % m < 18446744073709551616:=Nat.lt_trans (Nat.mod_lt _ h0) h
theorem lC (a b m:Nat) (ha:a < 18446744073709551616) (hb:b < 18446744073709551616) (hm:m < 18446744073709551616) (h0:0 < m) :
  PureD Tryz.prog 156 [bO a,bO b,bO m] (bO (a * b % m)):=by
 have hd:=Nat.div_add_mod (a * b) 18446744073709551616
 have hl:a * b % 18446744073709551616 < 18446744073709551616:=Nat.mod_lt _ (by decide)
 have hres:(a * b / 18446744073709551616 % m * 18446744073709551616+a * b % 18446744073709551616) % m=a * b % m:=by
  conv=>rhs; rw [<- hd]
  rw [Nat.mul_comm 18446744073709551616,Nat.add_mod,Nat.mul_mod,Nat.mod_mod,<- Nat.mul_mod,<- Nat.add_mod]
 have r1:((a * b / 18446744073709551616:Nat):Int).tmod (m:Int)=((a * b / 18446744073709551616 % m:Nat):Int):=by rw [Int.tmod_eq_emod_of_nonneg (by omega)]; exact (Int.natCast_emod _ _).symm
 have q0:((m:Int)=0)=False:=eq_false (by omega)
 refine aa 27 Tryz.func156 rfl rfl rfl (fun _ _=>rfl) ?_
 (refine gy (an xx @bO.eq_1) ?_; try intro ops hops)
 (first | refine ai [] [] (Lr a b ha hb) (by simp [aM,cvA,aP,cvR,ah,cv1,cvL,cv0,bI,af,bO,bbI,ae,upd]) rfl ?_ | refine ag [] [] [] (Lr a b ha hb) (fun G _=>by simp [aM,cvA,aP,cvR,ah,cv1,cvL,cv0,bI,af,bO,bbI,ae,upd]) rfl ?_)
 have hlt:a * b / 18446744073709551616 % m < m:=Nat.mod_lt _ h0
 generalize a * b / 18446744073709551616=h at r1 hres hlt
 generalize a * b % 18446744073709551616=l at hl hres
 (refine gy (an (an xx @r1) @q0) ?_; try intro ops hops)
 (first | refine ai [] [] (ML (h % m) l m hl hm hlt) (by simp [aM,cvA,aP,cvR,ah,cv1,cvL,cv0,bI,af,bO,bbI,ae,upd]) rfl ?_ | refine ag [] [] [] (ML (h % m) l m hl hm hlt) (fun G _=>by simp [aM,cvA,aP,cvR,ah,cv1,cvL,cv0,bI,af,bO,bbI,ae,upd]) rfl ?_)
 rw [hres]
 refine gx xx ?_
 refine ax [] rfl ?_
 simp [cv,cv1,cv0,upd]
theorem acJ (e:Nat) (he:e < 18446744073709551616):bits .and .u64 (e:Int) 1=((e % 2:Nat):Int):=by
 have:=(bits_nat .u64 64 (by decide) (fun n g0 g1=>by rw [IntKind.wrap_u64]; omega) e 1 he (by decide)).1
 rw [show ((1:Nat):Int)=1 from rfl] at this
 rw [this,show (1:Nat)=2 ^ 1 - 1 from rfl,Nat.and_two_pow_sub_one_eq_mod]
theorem FM (r b e m:Nat):(r * b ^ e) % m=((if e % 2=1 then r * b % m else r) * (b * b % m) ^ (e / 2)) % m:=by
 have he:b ^ e=b ^ (e % 2) * (b * b) ^ (e / 2):=by
  conv=>lhs; rw [<- Nat.div_add_mod e 2,Nat.pow_add,Nat.pow_mul,Nat.pow_two]
  exact Nat.mul_comm _ _
 rw [he,<- Nat.mul_assoc]
 have h2:(b * b % m) ^ (e / 2) % m=(b * b) ^ (e / 2) % m:=(Nat.pow_mod (b * b) (e / 2) m).symm
 split
 ·rename_i h1
  rw [h1,Nat.pow_one,Nat.mul_mod,<- h2,<- Nat.mul_mod,Nat.mul_mod (r * b % m),Nat.mod_mod,<- Nat.mul_mod]
 ·rename_i h1
  have h0:e % 2=0:=by omega
  rw [h0,Nat.pow_zero,Nat.mul_one,Nat.mul_mod,<- h2,<- Nat.mul_mod]
theorem uw (b e m:Nat) (hb:b < 18446744073709551616) (he:e < 18446744073709551616) (hm:m < 18446744073709551616) (h1:1 < m) :
  PureD Tryz.prog 151 [bO b,bO e,bO m] (bO (b ^ e % m)):=by
 generalize hq:b ^ e % m=q
 refine aa 24 Tryz.func151 rfl rfl rfl (fun _ _=>rfl) ?_
 refine gx (an jC @bO.eq_1) ?_
 refine bZ (ι:=Nat × Nat × Nat) (fun p=>(p.1 * p.2.1 ^ p.2.2) % m=q/\p.1 < m/\p.2.1 < 18446744073709551616/\p.2.2 < 18446744073709551616)
  (fun p=>ek [(0,.i (.s (.int .u64 (p.2.1:Nat)))),(1,.i (.s (.int .u64 (p.2.2:Nat)))),(2,.i (.s (.int .u64 (m:Nat)))),(7,.i (.s (.int .u64 (p.1:Nat))))] []) (fun p=>p.2.2) (1,b,e) ⟨by simpa using hq,h1,hb,he⟩ ?_ ?_
 ·refine az _ _ [] [] ?_ ?_ rfl rfl
  ·simp [cv,cv1,cv0,upd,lk,aJ]
  ·simp
 ·rintro ⟨r,c,n⟩ ⟨hI,hr,hc,hn⟩
  simp only at hI hr hc hn
  rw [au]
  refine gx jC ?_
  refine bi (fun h=>?_) (fun h=>?_)
  ·have hn0:0 < n:=by simp at h; omega
   clear h
   have hb0:=acJ n hn
   have hsh:=je n 1 (by decide)
   rw [FM] at hI
   have h2:n / 2 < n:=by omega
   rw [show 2 ^ 1=2 from rfl] at hsh
   have hcc:c * c % m < 18446744073709551616:=Qu hm (by omega)
   cases g:decide (((n % 2:Nat):Int)=1)
   ·have hg:¬ n % 2=1:=by simp at g; omega
    rw [if_neg hg] at hI
    (refine gy (an (an jC @hb0) g) ?_; try intro ops hops)
    (first | refine ai [] [] (lC c c m hc hc hm (by omega)) (by simp [aM,cvA,aP,cvR,ah,cv1,cvL,cv0,bI,af,bO,bbI,ae,upd]) rfl ?_ | refine ag [] [] [] (lC c c m hc hc hm (by omega)) (fun G _=>by simp [aM,cvA,aP,cvR,ah,cv1,cvL,cv0,bI,af,bO,bbI,ae,upd]) rfl ?_)
    refine gx (an (an jC @hsh) @bO.eq_1) ?_
    refine ⟨(r,c * c % m,n / 2),⟨hI,hr,hcc,by simp; omega⟩,az _ _ [] [] ?_ ?_ rfl rfl,by simpa using h2⟩
    ·simp [cv,cv1,cv0,upd,lk,aJ]
    ·simp
   ·have hg:n % 2=1:=by simp at g; omega
    rw [if_pos hg] at hI
    (refine gy (an (an jC @hb0) g) ?_; try intro ops hops)
    (first | refine ai [] [] (lC r c m (by omega) hc hm (by omega)) (by simp [aM,cvA,aP,cvR,ah,cv1,cvL,cv0,bI,af,bO,bbI,ae,upd]) rfl ?_ | refine ag [] [] [] (lC r c m (by omega) hc hm (by omega)) (fun G _=>by simp [aM,cvA,aP,cvR,ah,cv1,cvL,cv0,bI,af,bO,bbI,ae,upd]) rfl ?_)
    (refine gy (an jC @bO.eq_1) ?_; try intro ops hops)
    (first | refine ai [] [] (lC c c m hc hc hm (by omega)) (by simp [aM,cvA,aP,cvR,ah,cv1,cvL,cv0,bI,af,bO,bbI,ae,upd]) rfl ?_ | refine ag [] [] [] (lC c c m hc hc hm (by omega)) (fun G _=>by simp [aM,cvA,aP,cvR,ah,cv1,cvL,cv0,bI,af,bO,bbI,ae,upd]) rfl ?_)
    refine gx (an (an jC @hsh) @bO.eq_1) ?_
    refine ⟨(r * c % m,c * c % m,n / 2),⟨hI,Nat.mod_lt _ (by omega),hcc,by simp; omega⟩,az _ _ [] [] ?_ ?_ rfl rfl,by simpa using h2⟩
    ·simp [cv,cv1,cv0,upd,lk,aJ]
    ·simp
  ·have hn0:n=0:=by simp at h; omega
   subst hn0
   have hrq:r=q:=by rw [<- hI,Nat.pow_zero,Nat.mul_one,Nat.mod_eq_of_lt hr]
   refine gx jC ?_
   refine ax [] rfl ?_
   simp [cv,cv1,cv0,upd,hrq,bO]
def FW (d:List UInt8):Nat:=hor d 0 8
theorem UW (d:List UInt8):FW d < 18446744073709551616:=LZ d 0 8
theorem yI (ls:List (List UInt8)) (hl:ls.length<=1000) (hb:∀ b∈ls,b.length<=140737488355264) :
  PureD Tryz.prog 153 [.i (bbI ls)] (bO (FW (sha ls.flatten))):=by
 have hsl:=cz ls.flatten
 refine aa 21 Tryz.func153 rfl rfl rfl (fun _ _=>rfl) ?_
 (refine gy (an om @bO.eq_1) ?_; try intro ops hops)
 (first | refine aW [] (uA ls (by omega) hb) (by simp [aM,cvA,aP,cvR,ah,cv1,cvL,cv0,bI,af,bO,bbI,ae,upd]) ?_ | refine aL [] [] (uA ls (by omega) hb) (fun G _=>by simp [aM,cvA,aP,cvR,ah,cv1,cvL,cv0,bI,af,bO,bbI,ae,upd]) (by simp) ?_)
 generalize sha ls.flatten=d at hsl
 have l8:((8:Int)<=((d.length:Nat):Int))=True:=eq_true (by omega)
 have t8:min 8 d.length=8:=by omega
 refine gx (an (an (an (an (an om @bI.eq_1) l8) @jd) @List.length_take.{0}) t8) ?_
 refine bZ (ι:=Nat) (fun k=>k<=8)
  (fun k=>ek [(3,.i (.s (.int .u64 (hor d 0 k:Nat)))),(8,.i (.sl ((d.map af).take 8))),(9,.i (.s (.int .i64 8))),(10,.i (.s (.int .i64 (k:Nat))))] []) (fun k=>8 - k) 0 (Nat.zero_le _) ?_ ?_
 ·refine az _ _ [] [] ?_ ?_ rfl rfl
  ·simp [cv,cv1,cv0,upd,lk,aJ,hor]
  ·simp
 ·intro k hk
  rw [au]
  refine gx om ?_
  refine bi (fun h=>?_) (fun h=>?_)
  ·have h1:k < 8:=by simp at h; omega
   clear h
   have hkd:k < d.length:=by omega
   have e1:((d.map af).take 8)[k]?=some [.s (.int .u8 ((d[k]).toNat:Int))]:=by
    rw [List.getElem?_take_of_lt h1,List.getElem?_map,List.getElem?_eq_getElem hkd]; rfl
   have hs:hor d 0 (k+1)=hor d 0 k * 256+(d[k]).toNat:=by rw [hor,Nat.zero_add,NU hkd]
   have hx:=LZ d 0 k
   have hx7:hor d 0 k < 256 ^ 7:=Nat.lt_of_lt_of_le hx (Nat.pow_le_pow_right (by decide) (by omega))
   have hcl:=(d[k]).toNat_lt
   generalize (d[k]).toNat=c at e1 hs hcl
   generalize hor d 0 k=x at hx7 hs
   have c7:(256:Nat) ^ 7=72057594037927936:=by decide
   rw [c7] at hx7
   have w1:IntKind.u64.wrap ((x:Int) * 2 ^ min 8 (IntKind.bits .u64))=((x * 2 ^ 8:Nat):Int):=by
    rw [show min 8 (IntKind.bits .u64)=8 from rfl,IntKind.wrap_u64]; omega
   have w2:IntKind.u64.wrap (c:Int)=(c:Int):=by rw [IntKind.wrap_u64]; omega
   have w3:=acg (a:=x) (b:=c) (k:=8) (by omega) (by omega) (by decide)
   have w4:IntKind.i64.wrap ((k:Int)+1)=((k+1:Nat):Int):=by rw [aD (by omega) (by omega)]; omega
   have hs':x * 2 ^ 8+c=hor d 0 (k+1):=by rw [hs]
   rw [hs'] at w3
   generalize x * 2 ^ 8=x8 at w1 w3
   refine gx (an (an (an (an (an om e1) w1) w2) w3) w4) ?_
   refine ⟨k+1,h1,az _ _ [] [] ?_ ?_ rfl rfl,by simp; omega⟩
   ·simp [cv,cv1,cv0,upd,lk,aJ]
   ·simp
  ·have h1:k=8:=by simp at h; omega
   subst h1
   refine gx om ?_
   refine ax [] rfl ?_
   simp [cv,cv1,cv0,upd,FW]
theorem qD (n:Nat):PureD Tryz.prog 154 [bO n] (.i (bI (fT n))):=by
 refine aa 17 Tryz.func154 rfl rfl rfl (fun _ _=>rfl) ?_
 refine gx (an xw @bO.eq_1) ?_
 refine bZ (ι:=Nat) (fun t=>t<=8)
  (fun t=>ek [(0,.i (.s (.int .u64 (n:Nat)))),(3,.os 100 1 0 t),(4,.i (.s (.int .i64 (56 - 8 * (t:Int)))))] [(100,.arr 1 (((fT n).take t).map af))]) (fun t=>8 - t) 0 (Nat.zero_le _) ?_ ?_
 ·refine az _ _ [] [] ?_ ?_ rfl rfl
  ·simp [cv,cv1,cv0,upd,lk,aJ]
  ·simp [bE,aJ,lk]
 ·intro t ht
  rw [au]
  have hl8:(fT n).length=8:=rfl
  by_cases h1:t < 8
  ·have g1:decide ((0:Int)<=((8 * (7 - t):Nat):Int))=true:=decide_eq_true (Int.natCast_nonneg _)
   have e7:(56:Int) - 8 * (t:Int)=((8 * (7 - t):Nat):Int):=by omega
   have hts:=Ij (RZ n t h1)
   have w4:=IW (k:=.u64) n (7 - t) (by simp [IntKind.bits]; omega)
   have w5:IntKind.i64.wrap (((8 * (7 - t):Nat):Int) - 8)=56 - 8 * ((t+1:Nat):Int):=by rw [aD (by omega) (by omega)]; omega
   have e8:min t (fT n).length=t:=by rw [hl8]; omega
   have e3:t+1<=140737488355328:=by omega
   generalize aT n (256 ^ (7 - t))=c at hts w4
   generalize 8 * (7 - t)=d at e7 w4 w5 g1
   generalize fT n=B8 at hts hl8 e8
   refine gx (an (an (an (an (an (an (an (an xw e7) w4) w5) e8) e3) g1) @jd) @List.length_take.{0}) ?_
   refine ⟨t+1,h1,az _ _ [] [(100,2286)] ?_ ?_ rfl rfl,by simp; omega⟩
   ·simp [cv,cv1,cv0,upd,lk,aJ]
   ·simp [bE,aJ,lk,cvO,frz,upd,af,hts]
  ·have h1:t=8:=by omega
   subst h1
   have g1:decide ((0:Int)<=56 - 8 * 8)=false:=by decide
   rw [show (fT n).take 8=fT n from rfl]
   have hof:List.take 8 ((fT n).map af)=(fT n).map af:=rfl
   generalize fT n=B8 at hl8 hof
   refine gx (an xw g1) ?_
   refine ax [100] rfl ?_
   simp [cv,cv1,cv0,upd,hO,lk,ae,hl8,hof,bI]
theorem Fj:(type_of% @Ty.T2)/\(type_of% @Ty.T3)/\(type_of% @Ty.T5)/\(type_of% @Ty.T29)/\(type_of% @Ty.T42)/\(type_of% @Ty.T54):=⟨@Ty.T2,@Ty.T3,@Ty.T5,@Ty.T29,@Ty.T42,@Ty.T54⟩
theorem su:(type_of% @Ty.T3)/\(type_of% @Ty.T5)/\(type_of% @Ty.T29)/\(type_of% @Ty.T42)/\(type_of% @Ty.T54):=⟨@Ty.T3,@Ty.T5,@Ty.T29,@Ty.T42,@Ty.T54⟩
theorem xu:(type_of% @Ty.T5)/\(type_of% @Ty.T29)/\(type_of% @Ty.T54):=⟨@Ty.T5,@Ty.T29,@Ty.T54⟩
def qN:Nat:=576460752303424853
def pN:Nat:=1152921504606849707
def Pf:List UInt8:=[107,101,121]
def ym:List UInt8:=[111,110,99,101]
def secretF (seed:List UInt8):Nat:=FW (sha (Pf++seed)) % (qN - 1)+1
def askF (r key:Nat) (m:List UInt8):Nat:=FW (sha (fT r++(fT key++m))) % qN
def keyF (seed:List UInt8):Nat:=4 ^ secretF seed % pN
def onceF (seed m:List UInt8):Nat:=FW (sha (ym++(fT (secretF seed)++m))) % (qN - 1)+1
def Af (seed m:List UInt8):Nat:=4 ^ onceF seed m % pN
def sigS (seed m:List UInt8):Nat:=(onceF seed m+askF (Af seed m) (keyF seed) m * secretF seed % qN) % qN
def yZ (key:Nat) (m:List UInt8) (r s:Nat):Bool :=
 decide (1<=key/\key < pN/\1<=r/\r < pN/\s < qN/\key ^ qN % pN=1) && decide (4 ^ s % pN=r * (key ^ askF r key m % pN) % pN)
theorem be64_len (n:Nat):(fT n).length=8:=rfl
theorem PM (a b:Nat):(a:Int).tmod (b:Int)=((a % b:Nat):Int):=by rw [Int.tmod_eq_emod_of_nonneg (by omega)]; exact (Int.natCast_emod _ _).symm
theorem oH (seed:List UInt8):1<=secretF seed/\secretF seed < qN:=by
 have:=Nat.mod_lt (FW (sha (Pf++seed))) (show 0 < qN - 1 by decide)
 simp only [secretF,qN] at *; omega
theorem sO (seed:List UInt8) (hb:seed.length<=1099511627776):PureD Tryz.prog 152 [.i (bI seed)] (bO (secretF seed)):=by
 have hn:=yI [Pf,seed] (by simp) (by intro b hb'; simp at hb'; rcases hb' with rfl | rfl; decide; omega)
 have hf:[Pf,seed].flatten=Pf++seed:=by simp
 rw [hf] at hn
 have hs:secretF seed=FW (sha (Pf++seed)) % 576460752303424852+1:=rfl
 have hlt:=UW (sha (Pf++seed))
 generalize FW (sha (Pf++seed))=N at hn hs hlt
 have w1:(N:Int).tmod 576460752303424852=((N % 576460752303424852:Nat):Int):=PM N 576460752303424852
 have w2:IntKind.u64.wrap (((N % 576460752303424852:Nat):Int)+1)=((secretF seed:Nat):Int):=by rw [hs,IntKind.wrap_u64]; omega
 refine aa 10 Tryz.func152 rfl rfl rfl (fun _ _=>rfl) ?_
 (refine gy (an (an Fj @bI.eq_1) @mQ) ?_; try intro ops hops)
 (first | refine ai [1259] [] (hn) (by simp [aM,cvA,aP,cvR,ah,cv1,cvL,cv0,bI,af,bO,bbI,ae,upd,Pf,af,frz,bbI]) rfl ?_ | refine ag [1259] [] [1259] (hn) (fun G hG=>by (have hG1259:=hG 1259 (by simp); simp [aM,cvA,aP,cvR,ah,cv1,cvL,cv0,bI,af,bO,bbI,ae,upd,Pf,af,frz,bbI,hG1259])) rfl ?_)
 refine gx (an (an (an Fj @bO.eq_1) w1) w2) ?_
 refine ax [] rfl ?_
 simp [cv,cv1,cv0,upd,bO]
theorem aag (r key:Nat) (m:List UInt8) (hb:m.length<=1099511627776):PureD Tryz.prog 155 [bO r,bO key,.i (bI m)] (bO (askF r key m)):=by
 have hn:=yI [fT r,fT key,m] (by simp) (by intro b hb'; simp at hb'; rcases hb' with rfl | rfl | rfl; (rw [be64_len]; decide); (rw [be64_len]; decide); omega)
 have hf:[fT r,fT key,m].flatten=fT r++(fT key++m):=by simp
 rw [hf] at hn
 have hs:askF r key m=FW (sha (fT r++(fT key++m))) % 576460752303424853:=rfl
 generalize FW (sha (fT r++(fT key++m)))=N at hn hs
 have w1:(N:Int).tmod 576460752303424853=((askF r key m:Nat):Int):=by rw [hs]; exact PM N 576460752303424853
 refine aa 15 Tryz.func155 rfl rfl rfl (fun _ _=>rfl) ?_
 (refine gy (an (an su @bO.eq_1) @bI.eq_1) ?_; try intro ops hops)
 (first | refine aW [] (qD r) (by simp [aM,cvA,aP,cvR,ah,cv1,cvL,cv0,bI,af,bO,bbI,ae,upd]) ?_ | refine aL [] [] (qD r) (fun G _=>by simp [aM,cvA,aP,cvR,ah,cv1,cvL,cv0,bI,af,bO,bbI,ae,upd]) (by simp) ?_)
 (refine gy (an (an su @bO.eq_1) @bI.eq_1) ?_; try intro ops hops)
 (first | refine aW [] (qD key) (by simp [aM,cvA,aP,cvR,ah,cv1,cvL,cv0,bI,af,bO,bbI,ae,upd]) ?_ | refine aL [] [] (qD key) (fun G _=>by simp [aM,cvA,aP,cvR,ah,cv1,cvL,cv0,bI,af,bO,bbI,ae,upd]) (by simp) ?_)
 (refine gy (an (an su @bO.eq_1) @bI.eq_1) ?_; try intro ops hops)
 (first | refine ai [1261] [] (hn) (by simp [aM,cvA,aP,cvR,ah,cv1,cvL,cv0,bI,af,bO,bbI,ae,upd,frz,bbI]) rfl ?_ | refine ag [1261] [] [1261] (hn) (fun G hG=>by (have hG1261:=hG 1261 (by simp); simp [aM,cvA,aP,cvR,ah,cv1,cvL,cv0,bI,af,bO,bbI,ae,upd,frz,bbI,hG1261])) rfl ?_)
 refine gx (an (an su @bO.eq_1) w1) ?_
 refine ax [] rfl ?_
 simp [cv,cv1,cv0,upd,bO]
theorem QN (seed:List UInt8) (hb:seed.length<=1099511627776):PureD Tryz.prog 100 [.i (bI seed)] (bO (keyF seed)):=by
 have hs:=(oH seed).2
 have hp:=uw 4 (secretF seed) pN (by decide) (Nat.lt_trans hs (by decide)) (by decide) (by decide)
 rw [show 4 ^ secretF seed % pN=keyF seed from rfl] at hp
 simp only [pN] at hp
 generalize hk:keyF seed=K at hp
 generalize hss:secretF seed=S at hp
 refine aa 6 Tryz.func100 rfl rfl rfl (fun _ _=>rfl) ?_
 (refine gy (an xu @bI.eq_1) ?_; try intro ops hops)
 (first | refine ai [] [] (sO seed hb) (by simp [aM,cvA,aP,cvR,ah,cv1,cvL,cv0,bI,af,bO,bbI,ae,upd]) rfl ?_ | refine ag [] [] [] (sO seed hb) (fun G _=>by simp [aM,cvA,aP,cvR,ah,cv1,cvL,cv0,bI,af,bO,bbI,ae,upd]) rfl ?_)
 rw [hss]
 (refine gy (an xu @bO.eq_1) ?_; try intro ops hops)
 (first | refine ai [] [] (hp) (by simp [aM,cvA,aP,cvR,ah,cv1,cvL,cv0,bI,af,bO,bbI,ae,upd]) rfl ?_ | refine ag [] [] [] (hp) (fun G _=>by simp [aM,cvA,aP,cvR,ah,cv1,cvL,cv0,bI,af,bO,bbI,ae,upd]) rfl ?_)
 refine gx (an xu @bO.eq_1) ?_
 refine ax [] rfl ?_
 simp [cv,cv1,cv0,upd,bO]
theorem jB:(type_of% @Ty.T3)/\(type_of% @Ty.T4)/\(type_of% @Ty.T5)/\(type_of% @Ty.T29)/\(type_of% @Ty.T42)/\(type_of% @Ty.T54)/\(type_of% @Ty.aaB):=⟨@Ty.T3,@Ty.T4,@Ty.T5,@Ty.T29,@Ty.T42,@Ty.T54,@Ty.aaB⟩
theorem fV:(type_of% @Ty.T5)/\(type_of% @Ty.T29)/\(type_of% @Ty.T54)/\(type_of% @Ty.aaB):=⟨@Ty.T5,@Ty.T29,@Ty.T54,@Ty.aaB⟩
def fD (r s:Nat):D:=.agg [bO r,bO s]
theorem FO (b e:Nat):b ^ e % pN < pN:=Nat.mod_lt _ (by decide)
theorem XV (seed m:List UInt8) (hb:seed.length<=1099511627776) (hm:m.length<=1099511627776):PureD Tryz.prog 101 [.i (bI seed),.i (bI m)] (fD (Af seed m) (sigS seed m)):=by
 have hx:=(oH seed).2
 have hn:=yI [ym,fT (secretF seed),m] (by simp) (by intro b hb'; simp at hb'; rcases hb' with rfl | rfl | rfl; decide; (rw [be64_len]; decide); omega)
 have hf:[ym,fT (secretF seed),m].flatten=ym++(fT (secretF seed)++m):=by simp
 rw [hf] at hn
 have hk:onceF seed m=FW (sha (ym++(fT (secretF seed)++m))) % 576460752303424852+1:=rfl
 have hR:Af seed m=4 ^ onceF seed m % pN:=rfl
 have hS:sigS seed m=(onceF seed m+askF (Af seed m) (keyF seed) m * secretF seed % qN) % qN:=rfl
 have hkl:onceF seed m < 576460752303424853:=by rw [hk]; omega
 have hp:=uw 4 (onceF seed m) pN (by decide) (by omega) (by decide) (by decide)
 rw [<- hR] at hp
 have he:askF (Af seed m) (keyF seed) m < 576460752303424853:=Nat.mod_lt _ (by decide)
 have ht:=lC (askF (Af seed m) (keyF seed) m) (secretF seed) qN (by omega) (Nat.lt_trans hx (by decide)) (by decide) (by decide)
 have htl:askF (Af seed m) (keyF seed) m * secretF seed % qN < qN:=Nat.mod_lt _ (by decide)
 generalize hN:FW (sha (ym++(fT (secretF seed)++m)))=N at hn hk
 have w1:(N:Int).tmod 576460752303424852=((N % 576460752303424852:Nat):Int):=PM N 576460752303424852
 have w2:IntKind.u64.wrap (((N % 576460752303424852:Nat):Int)+1)=((onceF seed m:Nat):Int):=by rw [hk,IntKind.wrap_u64]; omega
 generalize onceF seed m=K at *
 generalize hss:secretF seed=X at *
 have ha:=aag (Af seed m) (keyF seed) m hm
 generalize askF (Af seed m) (keyF seed) m=E at *
 generalize Af seed m=R at *
 generalize hkk:keyF seed=KK at *
 simp only [qN,pN] at ht htl hp hS
 generalize E * X % 576460752303424853=T at *
 have w3:IntKind.u64.wrap ((K:Int)+(T:Int))=((K+T:Nat):Int):=by rw [IntKind.wrap_u64]; omega
 have w4:((K+T:Nat):Int).tmod 576460752303424853=((sigS seed m:Nat):Int):=by rw [hS]; exact PM (K+T) 576460752303424853
 clear hR hf hk hS
 refine aa 35 Tryz.func101 rfl rfl rfl (fun _ _=>rfl) ?_
 (refine gy (an jB @bI.eq_1) ?_; try intro ops hops)
 (first | refine ai [] [] (sO seed hb) (by simp [aM,cvA,aP,cvR,ah,cv1,cvL,cv0,bI,af,bO,bbI,fD,ae,upd]) rfl ?_ | refine ag [] [] [] (sO seed hb) (fun G _=>by simp [aM,cvA,aP,cvR,ah,cv1,cvL,cv0,bI,af,bO,bbI,fD,ae,upd]) rfl ?_)
 rw [hss]
 (refine gy (an (an (an jB @bO.eq_1) @bI.eq_1) @mQ) ?_; try intro ops hops)
 (first | refine aW [] (qD X) (by simp [aM,cvA,aP,cvR,ah,cv1,cvL,cv0,bI,af,bO,bbI,fD,ae,upd]) ?_ | refine aL [] [] (qD X) (fun G _=>by simp [aM,cvA,aP,cvR,ah,cv1,cvL,cv0,bI,af,bO,bbI,fD,ae,upd]) (by simp) ?_)
 (refine gy (an (an jB @bO.eq_1) @bI.eq_1) ?_; try intro ops hops)
 (first | refine ai [1517] [] (hn) (by simp [aM,cvA,aP,cvR,ah,cv1,cvL,cv0,bI,af,bO,bbI,fD,ae,upd,ym,af,frz,bbI]) rfl ?_ | refine ag [1517] [] [1517] (hn) (fun G hG=>by (have hG1517:=hG 1517 (by simp); simp [aM,cvA,aP,cvR,ah,cv1,cvL,cv0,bI,af,bO,bbI,fD,ae,upd,ym,af,frz,bbI,hG1517])) rfl ?_)
 (refine gy (an (an (an jB @bO.eq_1) w1) w2) ?_; try intro ops hops)
 (first | refine ai [] [] (hp) (by simp [aM,cvA,aP,cvR,ah,cv1,cvL,cv0,bI,af,bO,bbI,fD,ae,upd]) rfl ?_ | refine ag [] [] [] (hp) (fun G _=>by simp [aM,cvA,aP,cvR,ah,cv1,cvL,cv0,bI,af,bO,bbI,fD,ae,upd]) rfl ?_)
 (refine gy (an jB @bO.eq_1) ?_; try intro ops hops)
 (first | refine ai [] [] (QN seed hb) (by simp [aM,cvA,aP,cvR,ah,cv1,cvL,cv0,bI,af,bO,bbI,fD,ae,upd]) rfl ?_ | refine ag [] [] [] (QN seed hb) (fun G _=>by simp [aM,cvA,aP,cvR,ah,cv1,cvL,cv0,bI,af,bO,bbI,fD,ae,upd]) rfl ?_)
 rw [hkk]
 (refine gy (an jB @bO.eq_1) ?_; try intro ops hops)
 (first | refine ai [] [] (ha) (by simp [aM,cvA,aP,cvR,ah,cv1,cvL,cv0,bI,af,bO,bbI,fD,ae,upd]) rfl ?_ | refine ag [] [] [] (ha) (fun G _=>by simp [aM,cvA,aP,cvR,ah,cv1,cvL,cv0,bI,af,bO,bbI,fD,ae,upd]) rfl ?_)
 (refine gy (an jB @bO.eq_1) ?_; try intro ops hops)
 (first | refine ai [] [] (ht) (by simp [aM,cvA,aP,cvR,ah,cv1,cvL,cv0,bI,af,bO,bbI,fD,ae,upd]) rfl ?_ | refine ag [] [] [] (ht) (fun G _=>by simp [aM,cvA,aP,cvR,ah,cv1,cvL,cv0,bI,af,bO,bbI,fD,ae,upd]) rfl ?_)
 refine gx (an (an (an jB @bO.eq_1) w3) w4) ?_
 refine DZ [] rfl abI aaQ (by simp [upd,aF,aj]; rfl) ?_
 simp [cv,cv1,cvL,cv0,upd,bO,fD]
theorem Zm (key:Nat) (m:List UInt8) (r s:Nat) (hk:key < 18446744073709551616) (hr:r < 18446744073709551616) (hs:s < 18446744073709551616) (hm:m.length<=1099511627776) :
  PureD Tryz.prog 237 [bO key,.i (bI m),fD r s] (.i (.s (.bool (yZ key m r s)))):=by
 generalize hg:yZ key m r s=g
 unfold yZ at hg
 refine aa 47 Tryz.func237 rfl rfl rfl (fun _ _=>rfl) ?_
 cases g1:decide ((key:Int) < 1)
 rotate_left
 ·have h1:¬ 1<=key:=by simp at g1; omega
  refine gx (an (an (an (an fV @bO.eq_1) @fD.eq_1) @bI.eq_1) g1) ?_
  refine ax [] rfl ?_
  simp [cv,cv1,cv0,upd,<- hg,h1]
 have h1:1<=key:=by simp at g1; omega
 cases g2:decide ((1152921504606849707:Int)<=(key:Int))
 rotate_left
 ·have h2:¬ key < pN:=by simp [pN] at g2 ⊢; omega
  refine gx (an (an (an (an (an fV @bO.eq_1) @fD.eq_1) @bI.eq_1) g1) g2) ?_
  refine ax [] rfl ?_
  simp [cv,cv1,cv0,upd,<- hg,h2]
 have h2:key < pN:=by simp [pN] at g2 ⊢; omega
 cases g3:decide ((r:Int) < 1)
 rotate_left
 ·have h3:¬ 1<=r:=by simp at g3; omega
  refine gx (an (an (an (an (an (an fV @bO.eq_1) @fD.eq_1) @bI.eq_1) g1) g2) g3) ?_
  refine ax [] rfl ?_
  simp [cv,cv1,cv0,upd,<- hg,h3]
 have h3:1<=r:=by simp at g3; omega
 cases g4:decide ((1152921504606849707:Int)<=(r:Int))
 rotate_left
 ·have h4:¬ r < pN:=by simp [pN] at g4 ⊢; omega
  refine gx (an (an (an (an (an (an (an fV @bO.eq_1) @fD.eq_1) @bI.eq_1) g1) g2) g3) g4) ?_
  refine ax [] rfl ?_
  simp [cv,cv1,cv0,upd,<- hg,h4]
 have h4:r < pN:=by simp [pN] at g4 ⊢; omega
 cases g5:decide ((576460752303424853:Int)<=(s:Int))
 rotate_left
 ·have h5:¬ s < qN:=by simp [qN] at g5 ⊢; omega
  refine gx (an (an (an (an (an (an (an (an fV @bO.eq_1) @fD.eq_1) @bI.eq_1) g1) g2) g3) g4) g5) ?_
  refine ax [] rfl ?_
  simp [cv,cv1,cv0,upd,<- hg,h5]
 have h5:s < qN:=by simp [qN] at g5 ⊢; omega
 have hp:=uw key qN pN hk (by decide) (by decide) (by decide)
 refine gx (an (an (an (an (an (an (an (an fV @bO.eq_1) @fD.eq_1) @bI.eq_1) g1) g2) g3) g4) g5) ?_
 have hps:4 ^ s % pN < 18446744073709551616:=Nat.lt_trans (FO _ _) (by decide)
 have hp2:=uw 4 s pN (by decide) hs (by decide) (by decide)
 have ha:=aag r key m hm
 have hal:askF r key m < 18446744073709551616:=Nat.lt_trans (Nat.mod_lt _ (show 0 < qN by decide)) (by decide)
 have hp3:=uw key (askF r key m) pN hk hal (by decide) (by decide)
 have ht:=lC r (key ^ askF r key m % pN) pN hr (Nat.lt_trans (FO _ _) (by decide)) (by decide) (by decide)
 simp only [h1,h2,h3,h4,h5,true_and] at hg
 generalize key ^ qN % pN=A at hp hg
 generalize 4 ^ s % pN=B at hp2 hg
 generalize askF r key m=E at ha hp3 ht hg
 generalize key ^ E % pN=C at hp3 ht hg
 generalize r * C % pN=T at ht hg
 simp only [qN,pN] at hp hp2 hp3 ht
 (first | refine ai [] [] (hp) (by simp [aM,cvA,aP,cvR,ah,cv1,cvL,cv0,bI,af,bO,bbI,fD,ae,upd]) rfl ?_ | refine ag [] [] [] (hp) (fun G _=>by simp [aM,cvA,aP,cvR,ah,cv1,cvL,cv0,bI,af,bO,bbI,fD,ae,upd]) rfl ?_)
 cases g6:decide ((A:Int)=1)
 ·have h6:¬ A=1:=by simp at g6; omega
  refine gx (an (an fV @bO.eq_1) g6) ?_
  refine ax [] rfl ?_
  simp [cv,cv1,cv0,upd,<- hg,h6]
 ·have h6:A=1:=by simp at g6; omega
  (refine gy (an (an fV @bO.eq_1) g6) ?_; try intro ops hops)
  (first | refine ai [] [] (hp2) (by simp [aM,cvA,aP,cvR,ah,cv1,cvL,cv0,bI,af,bO,bbI,fD,ae,upd]) rfl ?_ | refine ag [] [] [] (hp2) (fun G _=>by simp [aM,cvA,aP,cvR,ah,cv1,cvL,cv0,bI,af,bO,bbI,fD,ae,upd]) rfl ?_)
  (refine gy (an fV @bO.eq_1) ?_; try intro ops hops)
  (first | refine ai [] [] (ha) (by simp [aM,cvA,aP,cvR,ah,cv1,cvL,cv0,bI,af,bO,bbI,fD,ae,upd]) rfl ?_ | refine ag [] [] [] (ha) (fun G _=>by simp [aM,cvA,aP,cvR,ah,cv1,cvL,cv0,bI,af,bO,bbI,fD,ae,upd]) rfl ?_)
  (refine gy (an fV @bO.eq_1) ?_; try intro ops hops)
  (first | refine ai [] [] (hp3) (by simp [aM,cvA,aP,cvR,ah,cv1,cvL,cv0,bI,af,bO,bbI,fD,ae,upd]) rfl ?_ | refine ag [] [] [] (hp3) (fun G _=>by simp [aM,cvA,aP,cvR,ah,cv1,cvL,cv0,bI,af,bO,bbI,fD,ae,upd]) rfl ?_)
  (refine gy (an fV @bO.eq_1) ?_; try intro ops hops)
  (first | refine ai [] [] (ht) (by simp [aM,cvA,aP,cvR,ah,cv1,cvL,cv0,bI,af,bO,bbI,fD,ae,upd]) rfl ?_ | refine ag [] [] [] (ht) (fun G _=>by simp [aM,cvA,aP,cvR,ah,cv1,cvL,cv0,bI,af,bO,bbI,fD,ae,upd]) rfl ?_)
  refine gx (an fV @bO.eq_1) ?_
  refine ax [] rfl ?_
  simp [cv,cv1,cv0,upd,<- hg,h6,Int.natCast_inj]
def Xu:Nat->Nat->Nat->Nat->Nat->Nat
 | 0,r,_,_,m=>r % m
 | f+1,r,b,e,m=>Xu f (if e % 2=1 then r * b % m else r) (b * b % m) (e / 2) m
theorem Mm:∀ (f r b e m:Nat),e < 2 ^ f->Xu f r b e m=r * b ^ e % m
 | 0,r,b,e,m,h=>by
  have:e=0:=by simpa using h
  subst this; simp [Xu]
 | f+1,r,b,e,m,h=>by
  rw [Xu,Mm f _ _ _ _ (by rw [Nat.pow_succ] at h; omega),<- FM]
theorem Gu {b e m:Nat} (h:e < 2 ^ 60):b ^ e % m=Xu 60 1 b e m:=by rw [Mm 60 1 b e m h,Nat.one_mul]
theorem Oa:4 ^ qN % pN=1:=by
 rw [Gu (by decide)]; decide +kernel
theorem aa_ (a:Nat):(4 ^ a) ^ qN % pN=1:=by
 rw [<- Nat.pow_mul,Nat.mul_comm,Nat.pow_mul,Nat.pow_mod,Oa,Nat.one_pow]; decide
theorem per (n:Nat):4 ^ n % pN=4 ^ (n % qN) % pN:=by
 conv=>lhs; rw [<- Nat.div_add_mod n qN,Nat.pow_add,Nat.pow_mul,Nat.mul_mod,Nat.pow_mod,Oa,Nat.one_pow]
 rw [show 1 % pN=1 by decide,Nat.one_mul,Nat.mod_mod]
theorem FN {x:Nat} (h:x<=qN):1<=4 ^ x % pN:=by
 rcases Nat.eq_zero_or_pos (4 ^ x % pN) with h0 | h0
 ·exfalso
  have:=Oa
  rw [show qN=x+(qN - x) by omega,Nat.pow_add,Nat.mul_mod,h0,Nat.zero_mul] at this
  simp at this
 ·exact h0
theorem UC (seed m:List UInt8):onceF seed m<=qN:=by
 have:=Nat.mod_lt (FW (sha (ym++(fT (secretF seed)++m)))) (show 0 < qN - 1 by decide)
 simp only [onceF,qN] at *; omega
@[irreducible] def qI:Nat:=qN
theorem Ye:qN=qI:=by unfold qI; rfl
theorem sg1 (a:Nat):(4 ^ a % pN) ^ qI % pN=1:=by
 have h:=aa_ a
 rw [Ye] at h
 rw [<- Nat.pow_mod]; exact h
theorem sg2 (X K E:Nat):4 ^ ((K+E * X % qN) % qN) % pN=(4 ^ K % pN) * ((4 ^ X % pN) ^ E % pN) % pN:=by
 rw [<- Nat.pow_mod,<- Nat.pow_mul,<- Nat.mul_mod,<- Nat.pow_add,Nat.add_mod_mod,<- per,Nat.mul_comm E X]
theorem VU {key:Nat} {m:List UInt8} {r s:Nat} (h1:1<=key) (h2:key < pN) (h3:1<=r) (h4:r < pN) (h5:s < qN) (h6:key ^ qI % pN=1) (h7:4 ^ s % pN=r * (key ^ askF r key m % pN) % pN):yZ key m r s=true:=by
 unfold yZ
 rw [<- Ye] at h6
 rw [Bool.and_eq_true]
 exact ⟨decide_eq_true ⟨h1,h2,h3,h4,h5,h6⟩,decide_eq_true h7⟩
theorem JZ (seed m:List UInt8):yZ (keyF seed) m (Af seed m) (sigS seed m)=true :=
 VU (FN (Nat.le_of_lt (oH seed).2)) (FO _ _) (FN (UC seed m)) (FO _ _) (Nat.mod_lt _ (by decide)) (sg1 _) (sg2 _ _ _)
theorem qy (seed:List UInt8):keyF seed=Xu 60 1 4 (secretF seed) pN:=Gu (Nat.lt_trans (oH seed).2 (by decide))
end Go.Proofs.YtfenipelcpmkpaaGreatDoor
