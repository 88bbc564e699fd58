/- Merged texts: SealA, SealB, SealC, SealP. -/
import Derived.Test.YtadoaljnfeoecaaGreatDoorGy
import Derived.Test.YtadoaljnfeoecaaGreatDoorGDiv
import Derived.Test.YtadoaljnfeoecaaGreatDoorGSha
set_option linter.all false
namespace Go.Proofs.YtadoaljnfeoecaaGreatDoor
open Go Go.Abs Go.RowKit Go.Proofs.YtadoaljnfeoecaaGreatDoor.Ty
theorem tySealA0:(type_of% @Ty.T47):=@Ty.T47
theorem tySealA1:(type_of% @Ty.T47):=@Ty.T47
theorem tySealA2:(type_of% @Ty.T3)∧(type_of% @Ty.T5)∧(type_of% @Ty.T29)∧(type_of% @Ty.T40)∧(type_of% @Ty.T47):=⟨@Ty.T3,@Ty.T5,@Ty.T29,@Ty.T40,@Ty.T47⟩
theorem tySealA3:(type_of% @Ty.T1)∧(type_of% @Ty.T3)∧(type_of% @Ty.T5)∧(type_of% @Ty.T29)∧(type_of% @Ty.T47):=⟨@Ty.T1,@Ty.T3,@Ty.T5,@Ty.T29,@Ty.T47⟩
def u64D (n:Nat):D:=.i (.s (.int .u64 (n:Int)))
theorem mod_lt64 {n m:Nat} (h:m < 18446744073709551616) (h0:0 < m):n % m < 18446744073709551616:=Nat.lt_trans (Nat.mod_lt _ h0) h
set_option maxHeartbeats 2000000
theorem times_A (a b m:Nat) (ha:a < 18446744073709551616) (hb:b < 18446744073709551616) (hm:m < 18446744073709551616) (h0:0 < m) :
  PureD Tryz.prog 178 [u64D a,u64D b,u64D m] (u64D (a * b % m)):=by
 have hd:=Nat.div_add_mod (a * b) 18446744073709551616
 have hl:a * b % 18446744073709551616 < 18446744073709551616:=Nat.mod_lt _ (by decide)
 have hres:(a * b / 18446744073709551616 % m * 18446744073709551616+a * b % 18446744073709551616) % m=a * b % m:=by
  conv=>rhs; rw [← hd]
  rw [Nat.mul_comm 18446744073709551616,Nat.add_mod,Nat.mul_mod,Nat.mod_mod,← Nat.mul_mod,← Nat.add_mod]
 have r1:((a * b / 18446744073709551616:Nat):Int).tmod (m:Int)=((a * b / 18446744073709551616 % m:Nat):Int):=by rw [Int.tmod_eq_emod_of_nonneg (by omega)]; exact (Int.natCast_emod _ _).symm
 have q0:((m:Int)=0)=False:=eq_false (by omega)
 refine callD_W 27 Tryz.func178 rfl rfl rfl (fun _ _=>rfl) ?_
 (refine gy (an tySealA0 @u64D.eq_1) ?_; try intro ops hops)
 (first | refine Call_flat [] [] (mul64_A a b ha hb) (by simp [cvAs,cvA,cvRL,cvR,cvBox,cv1,cvL,cv0,bI,byteI,u64D,bbI,elemsOf,upd]) rfl ?_ | refine CallF_flat [] [] [] (mul64_A a b ha hb) (fun G _=>by simp [cvAs,cvA,cvRL,cvR,cvBox,cv1,cvL,cv0,bI,byteI,u64D,bbI,elemsOf,upd]) rfl ?_)
 have hlt:a * b / 18446744073709551616 % m < m:=Nat.mod_lt _ h0
 generalize a * b / 18446744073709551616=h at r1 hres hlt
 generalize a * b % 18446744073709551616=l at hl hres
 (refine gy (an (an tySealA0 @r1) @q0) ?_; try intro ops hops)
 (first | refine Call_flat [] [] (div64_A (h % m) l m hl hm hlt) (by simp [cvAs,cvA,cvRL,cvR,cvBox,cv1,cvL,cv0,bI,byteI,u64D,bbI,elemsOf,upd]) rfl ?_ | refine CallF_flat [] [] [] (div64_A (h % m) l m hl hm hlt) (fun G _=>by simp [cvAs,cvA,cvRL,cvR,cvBox,cv1,cvL,cv0,bI,byteI,u64D,bbI,elemsOf,upd]) rfl ?_)
 rw [hres]
 refine gx tySealA0 ?_
 refine fin_ret [] rfl ?_
 simp [cv,cv1,cv0,upd]
theorem bit0 (e:Nat) (he:e < 18446744073709551616):bits .and .u64 (e:Int) 1=((e % 2:Nat):Int):=by
 have:=(bits_nat .u64 64 (by decide) (fun n g0 g1=>by rw [IntKind.wrap_u64]; omega) e 1 he (by decide)).1
 rw [show ((1:Nat):Int)=1 from rfl] at this
 rw [this,show (1:Nat)=2 ^ 1 - 1 from rfl,Nat.and_two_pow_sub_one_eq_mod]
theorem pow_step (r b e m:Nat):(r * b ^ e) % m=((if e % 2=1 then r * b % m else r) * (b * b % m) ^ (e / 2)) % m:=by
 have he:b ^ e=b ^ (e % 2) * (b * b) ^ (e / 2):=by
  conv=>lhs; rw [← Nat.div_add_mod e 2,Nat.pow_add,Nat.pow_mul,Nat.pow_two]
  exact Nat.mul_comm _ _
 rw [he,← Nat.mul_assoc]
 have h2:(b * b % m) ^ (e / 2) % m=(b * b) ^ (e / 2) % m:=(Nat.pow_mod (b * b) (e / 2) m).symm
 split
 ·rename_i h1
  rw [h1,Nat.pow_one,Nat.mul_mod,← h2,← Nat.mul_mod,Nat.mul_mod (r * b % m),Nat.mod_mod,← Nat.mul_mod]
 ·rename_i h1
  have h0:e % 2=0:=by omega
  rw [h0,Nat.pow_zero,Nat.mul_one,Nat.mul_mod,← h2,← Nat.mul_mod]
theorem power_A (b e m:Nat) (hb:b < 18446744073709551616) (he:e < 18446744073709551616) (hm:m < 18446744073709551616) (h1:1 < m) :
  PureD Tryz.prog 177 [u64D b,u64D e,u64D m] (u64D (b ^ e % m)):=by
 generalize hq:b ^ e % m=q
 refine callD_W 24 Tryz.func177 rfl rfl rfl (fun _ _=>rfl) ?_
 refine gx (an tySealA1 @u64D.eq_1) ?_
 refine W_loopI (ι:=Nat × Nat × Nat) (fun p=>(p.1 * p.2.1 ^ p.2.2) % m=q∧p.1 < m∧p.2.1 < 18446744073709551616∧p.2.2 < 18446744073709551616)
  (fun p=>stOf [(0,.i (.s (.int .u64 (p.2.1:Nat)))),(1,.i (.s (.int .u64 (p.2.2:Nat)))),(2,.i (.s (.int .u64 (m:Nat)))),(7,.i (.s (.int .u64 (p.1:Nat))))] []) (fun p=>p.2.2) (1,b,e) ⟨by simpa using hq,h1,hb,he⟩ ?_ ?_
 ·refine le_stOf _ _ [] [] ?_ ?_ rfl rfl
  ·simp [cv,cv1,cv0,upd,lk,srcOf]
  ·simp
 ·rintro ⟨r,c,n⟩ ⟨hI,hr,hc,hn⟩
  simp only at hI hr hc hn
  rw [stOf_eq]
  refine gx tySealA1 ?_
  refine Wc_split (fun h=>?_) (fun h=>?_)
  ·have hn0:0 < n:=by simp at h; omega
   clear h
   have hb0:=bit0 n hn
   have hsh:=shr_u64 n 1 (by decide)
   rw [pow_step] at hI
   have h2:n / 2 < n:=by omega
   rw [show 2 ^ 1=2 from rfl] at hsh
   have hcc:c * c % m < 18446744073709551616:=mod_lt64 hm (by omega)
   cases g:decide (((n % 2:Nat):Int)=1)
   ·have hg:¬ n % 2=1:=by simp at g; omega
    rw [if_neg hg] at hI
    (refine gy (an (an tySealA1 @hb0) g) ?_; try intro ops hops)
    (first | refine Call_flat [] [] (times_A c c m hc hc hm (by omega)) (by simp [cvAs,cvA,cvRL,cvR,cvBox,cv1,cvL,cv0,bI,byteI,u64D,bbI,elemsOf,upd]) rfl ?_ | refine CallF_flat [] [] [] (times_A c c m hc hc hm (by omega)) (fun G _=>by simp [cvAs,cvA,cvRL,cvR,cvBox,cv1,cvL,cv0,bI,byteI,u64D,bbI,elemsOf,upd]) rfl ?_)
    refine gx (an (an tySealA1 @hsh) @u64D.eq_1) ?_
    refine ⟨(r,c * c % m,n / 2),⟨hI,hr,hcc,by simp; omega⟩,le_stOf _ _ [] [] ?_ ?_ rfl rfl,by simpa using h2⟩
    ·simp [cv,cv1,cv0,upd,lk,srcOf]
    ·simp
   ·have hg:n % 2=1:=by simp at g; omega
    rw [if_pos hg] at hI
    (refine gy (an (an tySealA1 @hb0) g) ?_; try intro ops hops)
    (first | refine Call_flat [] [] (times_A r c m (by omega) hc hm (by omega)) (by simp [cvAs,cvA,cvRL,cvR,cvBox,cv1,cvL,cv0,bI,byteI,u64D,bbI,elemsOf,upd]) rfl ?_ | refine CallF_flat [] [] [] (times_A r c m (by omega) hc hm (by omega)) (fun G _=>by simp [cvAs,cvA,cvRL,cvR,cvBox,cv1,cvL,cv0,bI,byteI,u64D,bbI,elemsOf,upd]) rfl ?_)
    (refine gy (an tySealA1 @u64D.eq_1) ?_; try intro ops hops)
    (first | refine Call_flat [] [] (times_A c c m hc hc hm (by omega)) (by simp [cvAs,cvA,cvRL,cvR,cvBox,cv1,cvL,cv0,bI,byteI,u64D,bbI,elemsOf,upd]) rfl ?_ | refine CallF_flat [] [] [] (times_A c c m hc hc hm (by omega)) (fun G _=>by simp [cvAs,cvA,cvRL,cvR,cvBox,cv1,cvL,cv0,bI,byteI,u64D,bbI,elemsOf,upd]) rfl ?_)
    refine gx (an (an tySealA1 @hsh) @u64D.eq_1) ?_
    refine ⟨(r * c % m,c * c % m,n / 2),⟨hI,Nat.mod_lt _ (by omega),hcc,by simp; omega⟩,le_stOf _ _ [] [] ?_ ?_ rfl rfl,by simpa using h2⟩
    ·simp [cv,cv1,cv0,upd,lk,srcOf]
    ·simp
  ·have hn0:n=0:=by simp at h; omega
   subst hn0
   have hrq:r=q:=by rw [← hI,Nat.pow_zero,Nat.mul_one,Nat.mod_eq_of_lt hr]
   refine gx tySealA1 ?_
   refine fin_ret [] rfl ?_
   simp [cv,cv1,cv0,upd,hrq,u64D]
def numF (d:List UInt8):Nat:=hor d 0 8
theorem number_S (ls:List (List UInt8)) (hl:ls.length≤1000) (hb:∀ b∈ls,b.length≤140737488355264) :
  PureD Tryz.prog 192 [.i (bbI ls)] (u64D (numF (sha ls.flatten))):=by
 have hsl:=sha_length ls.flatten
 refine callD_W 21 Tryz.func192 rfl rfl rfl (fun _ _=>rfl) ?_
 (refine gy (an tySealA2 @u64D.eq_1) ?_; try intro ops hops)
 (first | refine Call_frz [] (parts_D ls (by omega) hb) (by simp [cvAs,cvA,cvRL,cvR,cvBox,cv1,cvL,cv0,bI,byteI,u64D,bbI,elemsOf,upd]) ?_ | refine CallF_frz [] [] (parts_D ls (by omega) hb) (fun G _=>by simp [cvAs,cvA,cvRL,cvR,cvBox,cv1,cvL,cv0,bI,byteI,u64D,bbI,elemsOf,upd]) (by simp) ?_)
 generalize sha ls.flatten=d at hsl
 have l8:((8:Int)≤((d.length:Nat):Int))=True:=eq_true (by omega)
 have t8:min 8 d.length=8:=by omega
 refine gx (an (an (an (an (an tySealA2 @bI.eq_1) l8) @uni_byteI) @List.length_take.{0}) t8) ?_
 refine W_loopI (ι:=Nat) (fun k=>k≤8)
  (fun k=>stOf [(3,.i (.s (.int .u64 (hor d 0 k:Nat)))),(8,.i (.sl ((d.map byteI).take 8))),(9,.i (.s (.int .i64 8))),(10,.i (.s (.int .i64 (k:Nat))))] []) (fun k=>8 - k) 0 (Nat.zero_le _) ?_ ?_
 ·refine le_stOf _ _ [] [] ?_ ?_ rfl rfl
  ·simp [cv,cv1,cv0,upd,lk,srcOf,hor]
  ·simp
 ·intro k hk
  rw [stOf_eq]
  refine gx tySealA2 ?_
  refine Wc_split (fun h=>?_) (fun h=>?_)
  ·have h1:k < 8:=by simp at h; omega
   clear h
   have hkd:k < d.length:=by omega
   have e1:((d.map byteI).take 8)[k]?=some [.s (.int .u8 ((d[k]).toNat:Int))]:=by
    rw [List.getElem?_take_of_lt h1,List.getElem?_map,List.getElem?_eq_getElem hkd]; rfl
   have hs:hor d 0 (k+1)=hor d 0 k * 256+(d[k]).toNat:=by rw [hor,Nat.zero_add,bnth_eq hkd]
   have hx:=hor_lt d 0 k
   have hx7:hor d 0 k < 256 ^ 7:=Nat.lt_of_lt_of_le hx (Nat.pow_le_pow_right (by decide) (by omega))
   have hcl:=(d[k]).toNat_lt
   generalize (d[k]).toNat=c at e1 hs hcl
   generalize hor d 0 k=x at hx7 hs
   have c7:(256:Nat) ^ 7=72057594037927936:=by decide
   rw [c7] at hx7
   have w1:IntKind.u64.wrap ((x:Int) * 2 ^ min 8 (IntKind.bits .u64))=((x * 2 ^ 8:Nat):Int):=by
    rw [show min 8 (IntKind.bits .u64)=8 from rfl,IntKind.wrap_u64]; omega
   have w2:IntKind.u64.wrap (c:Int)=(c:Int):=by rw [IntKind.wrap_u64]; omega
   have w3:=or64 (a:=x) (b:=c) (k:=8) (by omega) (by omega) (by decide)
   have w4:IntKind.i64.wrap ((k:Int)+1)=((k+1:Nat):Int):=by rw [wrap64 (by omega) (by omega)]; omega
   have hs':x * 2 ^ 8+c=hor d 0 (k+1):=by rw [hs]
   rw [hs'] at w3
   generalize x * 2 ^ 8=x8 at w1 w3
   refine gx (an (an (an (an (an tySealA2 e1) w1) w2) w3) w4) ?_
   refine ⟨k+1,h1,le_stOf _ _ [] [] ?_ ?_ rfl rfl,by simp; omega⟩
   ·simp [cv,cv1,cv0,upd,lk,srcOf]
   ·simp
  ·have h1:k=8:=by simp at h; omega
   subst h1
   refine gx tySealA2 ?_
   refine fin_ret [] rfl ?_
   simp [cv,cv1,cv0,upd,numF]
theorem eight_S (n:Nat):PureD Tryz.prog 193 [u64D n] (.i (bI (be64 n))):=by
 refine callD_W 17 Tryz.func193 rfl rfl rfl (fun _ _=>rfl) ?_
 refine gx (an tySealA3 @u64D.eq_1) ?_
 refine W_loopI (ι:=Nat) (fun t=>t≤8)
  (fun t=>stOf [(0,.i (.s (.int .u64 (n:Nat)))),(3,.os 100 1 0 t),(4,.i (.s (.int .i64 (56 - 8 * (t:Int)))))] [(100,.arr 1 (((be64 n).take t).map byteI))]) (fun t=>8 - t) 0 (Nat.zero_le _) ?_ ?_
 ·refine le_stOf _ _ [] [] ?_ ?_ rfl rfl
  ·simp [cv,cv1,cv0,upd,lk,srcOf]
  ·simp [objOk,srcOf,lk]
 ·intro t ht
  rw [stOf_eq]
  have hl8:(be64 n).length=8:=rfl
  by_cases h1:t < 8
  ·have g1:decide ((0:Int)≤((8 * (7 - t):Nat):Int))=true:=decide_eq_true (Int.natCast_nonneg _)
   have e7:(56:Int) - 8 * (t:Int)=((8 * (7 - t):Nat):Int):=by omega
   have hts:=take_snoc' (be64_get n t h1)
   have w4:=byte_shift (k:=.u64) n (7 - t) (by simp [IntKind.bits]; omega)
   have w5:IntKind.i64.wrap (((8 * (7 - t):Nat):Int) - 8)=56 - 8 * ((t+1:Nat):Int):=by rw [wrap64 (by omega) (by omega)]; omega
   have e8:min t (be64 n).length=t:=by rw [hl8]; omega
   have e3:t+1≤140737488355328:=by omega
   generalize byteOf n (256 ^ (7 - t))=c at hts w4
   generalize 8 * (7 - t)=d at e7 w4 w5 g1
   generalize be64 n=B8 at hts hl8 e8
   refine gx (an (an (an (an (an (an (an (an tySealA3 e7) w4) w5) e8) e3) g1) @uni_byteI) @List.length_take.{0}) ?_
   refine ⟨t+1,h1,le_stOf _ _ [] [(100,2286)] ?_ ?_ rfl rfl,by simp; omega⟩
   ·simp [cv,cv1,cv0,upd,lk,srcOf]
   ·simp [objOk,srcOf,lk,cvO,frz,upd,byteI,hts]
  ·have h1:t=8:=by omega
   subst h1
   have g1:decide ((0:Int)≤56 - 8 * 8)=false:=by decide
   rw [show (be64 n).take 8=be64 n from rfl]
   have hof:List.take 8 ((be64 n).map byteI)=(be64 n).map byteI:=rfl
   generalize be64 n=B8 at hl8 hof
   refine gx (an tySealA3 g1) ?_
   refine fin_ret [100] rfl ?_
   simp [cv,cv1,cv0,upd,hO,lk,elemsOf,hl8,hof,bI]
end Go.Proofs.YtadoaljnfeoecaaGreatDoor
set_option linter.all false
namespace Go.Proofs.YtadoaljnfeoecaaGreatDoor
open Go Go.Abs Go.RowKit Go.Proofs.YtadoaljnfeoecaaGreatDoor.Ty
theorem tySealB0:(type_of% @Ty.T3)∧(type_of% @Ty.T5)∧(type_of% @Ty.T29)∧(type_of% @Ty.T40)∧(type_of% @Ty.T47):=⟨@Ty.T3,@Ty.T5,@Ty.T29,@Ty.T40,@Ty.T47⟩
def qN:Nat:=576460752303424853
def pN:Nat:=1152921504606849707
def askF (r key:Nat) (m:List UInt8):Nat:=numF (sha (be64 r++(be64 key++m))) % qN
def goodF (key:Nat) (m:List UInt8) (r s:Nat):Bool :=
 decide (1≤key∧key < pN∧1≤r∧r < pN∧s < qN∧key ^ qN % pN=1) && decide (4 ^ s % pN=r * (key ^ askF r key m % pN) % pN)
theorem be64_len (n:Nat):(be64 n).length=8:=rfl
theorem tmodN (a b:Nat):(a:Int).tmod (b:Int)=((a % b:Nat):Int):=by rw [Int.tmod_eq_emod_of_nonneg (by omega)]; exact (Int.natCast_emod _ _).symm
set_option maxHeartbeats 2000000
theorem ask_A (r key:Nat) (m:List UInt8) (hb:m.length≤1099511627776):PureD Tryz.prog 179 [u64D r,u64D key,.i (bI m)] (u64D (askF r key m)):=by
 have hn:=number_S [be64 r,be64 key,m] (by simp) (by intro b hb'; simp at hb'; rcases hb' with rfl | rfl | rfl; (rw [be64_len]; decide); (rw [be64_len]; decide); omega)
 have hf:[be64 r,be64 key,m].flatten=be64 r++(be64 key++m):=by simp
 rw [hf] at hn
 have hs:askF r key m=numF (sha (be64 r++(be64 key++m))) % 576460752303424853:=rfl
 generalize numF (sha (be64 r++(be64 key++m)))=N at hn hs
 have w1:(N:Int).tmod 576460752303424853=((askF r key m:Nat):Int):=by rw [hs]; exact tmodN N 576460752303424853
 refine callD_W 15 Tryz.func179 rfl rfl rfl (fun _ _=>rfl) ?_
 (refine gy (an (an tySealB0 @u64D.eq_1) @bI.eq_1) ?_; try intro ops hops)
 (first | refine Call_frz [] (eight_S r) (by simp [cvAs,cvA,cvRL,cvR,cvBox,cv1,cvL,cv0,bI,byteI,u64D,bbI,elemsOf,upd]) ?_ | refine CallF_frz [] [] (eight_S r) (fun G _=>by simp [cvAs,cvA,cvRL,cvR,cvBox,cv1,cvL,cv0,bI,byteI,u64D,bbI,elemsOf,upd]) (by simp) ?_)
 (refine gy (an (an tySealB0 @u64D.eq_1) @bI.eq_1) ?_; try intro ops hops)
 (first | refine Call_frz [] (eight_S key) (by simp [cvAs,cvA,cvRL,cvR,cvBox,cv1,cvL,cv0,bI,byteI,u64D,bbI,elemsOf,upd]) ?_ | refine CallF_frz [] [] (eight_S key) (fun G _=>by simp [cvAs,cvA,cvRL,cvR,cvBox,cv1,cvL,cv0,bI,byteI,u64D,bbI,elemsOf,upd]) (by simp) ?_)
 (refine gy (an (an tySealB0 @u64D.eq_1) @bI.eq_1) ?_; try intro ops hops)
 (first | refine Call_flat [1261] [] (hn) (by simp [cvAs,cvA,cvRL,cvR,cvBox,cv1,cvL,cv0,bI,byteI,u64D,bbI,elemsOf,upd,frz,bbI]) rfl ?_ | refine CallF_flat [1261] [] [1261] (hn) (fun G hG=>by (have hG1261:=hG 1261 (by simp); simp [cvAs,cvA,cvRL,cvR,cvBox,cv1,cvL,cv0,bI,byteI,u64D,bbI,elemsOf,upd,frz,bbI,hG1261])) rfl ?_)
 refine gx (an (an tySealB0 @u64D.eq_1) w1) ?_
 refine fin_ret [] rfl ?_
 simp [cv,cv1,cv0,upd,u64D]
end Go.Proofs.YtadoaljnfeoecaaGreatDoor
set_option linter.all false
namespace Go.Proofs.YtadoaljnfeoecaaGreatDoor
open Go Go.Abs Go.RowKit Go.Proofs.YtadoaljnfeoecaaGreatDoor.Ty
theorem tySealC0:(type_of% @Ty.T5)∧(type_of% @Ty.T29)∧(type_of% @Ty.T47)∧(type_of% @Ty.T236):=⟨@Ty.T5,@Ty.T29,@Ty.T47,@Ty.T236⟩
def sealD (r s:Nat):D:=.agg [u64D r,u64D s]
theorem pow_lt (b e:Nat):b ^ e % pN < pN:=Nat.mod_lt _ (by decide)
set_option maxHeartbeats 2000000
theorem good_A (key:Nat) (m:List UInt8) (r s:Nat) (hk:key < 18446744073709551616) (hr:r < 18446744073709551616) (hs:s < 18446744073709551616) (hm:m.length≤1099511627776) :
  PureD Tryz.prog 166 [u64D key,.i (bI m),sealD r s] (.i (.s (.bool (goodF key m r s)))):=by
 generalize hg:goodF key m r s=g
 unfold goodF at hg
 refine callD_W 47 Tryz.func166 rfl rfl rfl (fun _ _=>rfl) ?_
 cases g1:decide ((key:Int) < 1)
 rotate_left
 ·have h1:¬ 1≤key:=by simp at g1; omega
  refine gx (an (an (an (an tySealC0 @u64D.eq_1) @sealD.eq_1) @bI.eq_1) g1) ?_
  refine fin_ret [] rfl ?_
  simp [cv,cv1,cv0,upd,← hg,h1]
 have h1:1≤key:=by simp at g1; omega
 cases g2:decide ((1152921504606849707:Int)≤(key:Int))
 rotate_left
 ·have h2:¬ key < pN:=by simp [pN] at g2 ⊢; omega
  refine gx (an (an (an (an (an tySealC0 @u64D.eq_1) @sealD.eq_1) @bI.eq_1) g1) g2) ?_
  refine fin_ret [] rfl ?_
  simp [cv,cv1,cv0,upd,← hg,h2]
 have h2:key < pN:=by simp [pN] at g2 ⊢; omega
 cases g3:decide ((r:Int) < 1)
 rotate_left
 ·have h3:¬ 1≤r:=by simp at g3; omega
  refine gx (an (an (an (an (an (an tySealC0 @u64D.eq_1) @sealD.eq_1) @bI.eq_1) g1) g2) g3) ?_
  refine fin_ret [] rfl ?_
  simp [cv,cv1,cv0,upd,← hg,h3]
 have h3:1≤r:=by simp at g3; omega
 cases g4:decide ((1152921504606849707:Int)≤(r:Int))
 rotate_left
 ·have h4:¬ r < pN:=by simp [pN] at g4 ⊢; omega
  refine gx (an (an (an (an (an (an (an tySealC0 @u64D.eq_1) @sealD.eq_1) @bI.eq_1) g1) g2) g3) g4) ?_
  refine fin_ret [] rfl ?_
  simp [cv,cv1,cv0,upd,← hg,h4]
 have h4:r < pN:=by simp [pN] at g4 ⊢; omega
 cases g5:decide ((576460752303424853:Int)≤(s:Int))
 rotate_left
 ·have h5:¬ s < qN:=by simp [qN] at g5 ⊢; omega
  refine gx (an (an (an (an (an (an (an (an tySealC0 @u64D.eq_1) @sealD.eq_1) @bI.eq_1) g1) g2) g3) g4) g5) ?_
  refine fin_ret [] rfl ?_
  simp [cv,cv1,cv0,upd,← hg,h5]
 have h5:s < qN:=by simp [qN] at g5 ⊢; omega
 have hp:=power_A key qN pN hk (by decide) (by decide) (by decide)
 refine gx (an (an (an (an (an (an (an (an tySealC0 @u64D.eq_1) @sealD.eq_1) @bI.eq_1) g1) g2) g3) g4) g5) ?_
 have hps:4 ^ s % pN < 18446744073709551616:=Nat.lt_trans (pow_lt _ _) (by decide)
 have hp2:=power_A 4 s pN (by decide) hs (by decide) (by decide)
 have ha:=ask_A r key m hm
 have hal:askF r key m < 18446744073709551616:=Nat.lt_trans (Nat.mod_lt _ (show 0 < qN by decide)) (by decide)
 have hp3:=power_A key (askF r key m) pN hk hal (by decide) (by decide)
 have ht:=times_A r (key ^ askF r key m % pN) pN hr (Nat.lt_trans (pow_lt _ _) (by decide)) (by decide) (by decide)
 simp only [h1,h2,h3,h4,h5,true_and] at hg
 generalize key ^ qN % pN=A at hp hg
 generalize 4 ^ s % pN=B at hp2 hg
 generalize askF r key m=E at ha hp3 ht hg
 generalize key ^ E % pN=C at hp3 ht hg
 generalize r * C % pN=T at ht hg
 simp only [qN,pN] at hp hp2 hp3 ht
 (first | refine Call_flat [] [] (hp) (by simp [cvAs,cvA,cvRL,cvR,cvBox,cv1,cvL,cv0,bI,byteI,u64D,sealD,elemsOf,upd]) rfl ?_ | refine CallF_flat [] [] [] (hp) (fun G _=>by simp [cvAs,cvA,cvRL,cvR,cvBox,cv1,cvL,cv0,bI,byteI,u64D,sealD,elemsOf,upd]) rfl ?_)
 cases g6:decide ((A:Int)=1)
 ·have h6:¬ A=1:=by simp at g6; omega
  refine gx (an (an tySealC0 @u64D.eq_1) g6) ?_
  refine fin_ret [] rfl ?_
  simp [cv,cv1,cv0,upd,← hg,h6]
 ·have h6:A=1:=by simp at g6; omega
  (refine gy (an (an tySealC0 @u64D.eq_1) g6) ?_; try intro ops hops)
  (first | refine Call_flat [] [] (hp2) (by simp [cvAs,cvA,cvRL,cvR,cvBox,cv1,cvL,cv0,bI,byteI,u64D,sealD,elemsOf,upd]) rfl ?_ | refine CallF_flat [] [] [] (hp2) (fun G _=>by simp [cvAs,cvA,cvRL,cvR,cvBox,cv1,cvL,cv0,bI,byteI,u64D,sealD,elemsOf,upd]) rfl ?_)
  (refine gy (an tySealC0 @u64D.eq_1) ?_; try intro ops hops)
  (first | refine Call_flat [] [] (ha) (by simp [cvAs,cvA,cvRL,cvR,cvBox,cv1,cvL,cv0,bI,byteI,u64D,sealD,elemsOf,upd]) rfl ?_ | refine CallF_flat [] [] [] (ha) (fun G _=>by simp [cvAs,cvA,cvRL,cvR,cvBox,cv1,cvL,cv0,bI,byteI,u64D,sealD,elemsOf,upd]) rfl ?_)
  (refine gy (an tySealC0 @u64D.eq_1) ?_; try intro ops hops)
  (first | refine Call_flat [] [] (hp3) (by simp [cvAs,cvA,cvRL,cvR,cvBox,cv1,cvL,cv0,bI,byteI,u64D,sealD,elemsOf,upd]) rfl ?_ | refine CallF_flat [] [] [] (hp3) (fun G _=>by simp [cvAs,cvA,cvRL,cvR,cvBox,cv1,cvL,cv0,bI,byteI,u64D,sealD,elemsOf,upd]) rfl ?_)
  (refine gy (an tySealC0 @u64D.eq_1) ?_; try intro ops hops)
  (first | refine Call_flat [] [] (ht) (by simp [cvAs,cvA,cvRL,cvR,cvBox,cv1,cvL,cv0,bI,byteI,u64D,sealD,elemsOf,upd]) rfl ?_ | refine CallF_flat [] [] [] (ht) (fun G _=>by simp [cvAs,cvA,cvRL,cvR,cvBox,cv1,cvL,cv0,bI,byteI,u64D,sealD,elemsOf,upd]) rfl ?_)
  refine gx (an tySealC0 @u64D.eq_1) ?_
  refine fin_ret [] rfl ?_
  simp [cv,cv1,cv0,upd,← hg,h6,Int.natCast_inj]
end Go.Proofs.YtadoaljnfeoecaaGreatDoor
set_option linter.all false
namespace Go.Proofs.YtadoaljnfeoecaaGreatDoor
open Go Go.Abs Go.RowKit Go.Proofs.YtadoaljnfeoecaaGreatDoor.Ty
@[irreducible] def qI:Nat:=qN
set_option maxHeartbeats 2000000
end Go.Proofs.YtadoaljnfeoecaaGreatDoor
