/- Merged texts: Find, BookA, BookB, BookO, BookC. -/
import Derived.Test.YtadoaljnfeoecaaGreatDoorAbs4
import Derived.Test.YtadoaljnfeoecaaGreatDoorGHd
import Derived.Test.YtadoaljnfeoecaaGreatDoorGSha
import Derived.Test.YtadoaljnfeoecaaGreatDoorGy
import Derived.Test.YtadoaljnfeoecaaGreatDoorG0
set_option linter.all false
namespace Go.Proofs.YtadoaljnfeoecaaGreatDoor
open Go Go.Abs Go.RowKit Go.Proofs.YtadoaljnfeoecaaGreatDoor.Ty
structure PairD where
 k:List UInt8
 v:List UInt8
set_option maxHeartbeats 2000000
end Go.Proofs.YtadoaljnfeoecaaGreatDoor
set_option linter.all false
namespace Go.Proofs.YtadoaljnfeoecaaGreatDoor
open Go Go.Abs Go.RowKit Go.Proofs.YtadoaljnfeoecaaGreatDoor.Ty
set_option maxHeartbeats 2000000
end Go.Proofs.YtadoaljnfeoecaaGreatDoor
set_option linter.all false
namespace Go.Proofs.YtadoaljnfeoecaaGreatDoor
open Go Go.Abs Go.RowKit Go.Proofs.YtadoaljnfeoecaaGreatDoor.Ty
theorem tyBookB0:(type_of% @Ty.T1)∧(type_of% @Ty.T3)∧(type_of% @Ty.T4)∧(type_of% @Ty.T5)∧(type_of% @Ty.T29)∧(type_of% @Ty.T40):=⟨@Ty.T1,@Ty.T3,@Ty.T4,@Ty.T5,@Ty.T29,@Ty.T40⟩
theorem tyBookB1:(type_of% @Ty.T1)∧(type_of% @Ty.T3)∧(type_of% @Ty.T5)∧(type_of% @Ty.T29)∧(type_of% @Ty.T40):=⟨@Ty.T1,@Ty.T3,@Ty.T5,@Ty.T29,@Ty.T40⟩
theorem tyBookB2:(type_of% @Ty.T1)∧(type_of% @Ty.T3)∧(type_of% @Ty.T5)∧(type_of% @Ty.T29)∧(type_of% @Ty.T40):=⟨@Ty.T1,@Ty.T3,@Ty.T5,@Ty.T29,@Ty.T40⟩
theorem tyBookB3:(type_of% @Ty.T3)∧(type_of% @Ty.T4)∧(type_of% @Ty.T5)∧(type_of% @Ty.T29):=⟨@Ty.T3,@Ty.T4,@Ty.T5,@Ty.T29⟩
theorem tyBookB4:(type_of% @Ty.T3):=@Ty.T3
def four (n:Nat):List UInt8:=[byteOf n 16777216,byteOf n 65536,byteOf n 256,byteOf n 1]
def leafF (k v:List UInt8):List UInt8:=sha (0 :: (four k.length++(k++v)))
def nodeF (a b:List UInt8):List UInt8:=sha (1 :: (a++b))
def topF (n:Nat) (t:List UInt8):List UInt8:=sha (2 :: (four n++t))
def splitF (n:Nat):Nat:=2 ^ Nat.log2 (n - 1)
theorem splitF_lt {n:Nat} (h:2≤n):0 < splitF n∧splitF n < n:=by
 have:=Nat.log2_self_le (n:=n - 1) (by omega)
 have h2:0 < 2 ^ Nat.log2 (n - 1):=Nat.pow_pos (by decide)
 simp only [splitF]; omega
theorem byte24 (n d k:Nat) (hd:d=2 ^ k) (hk:k < 64):IntKind.u8.wrap ((n:Int).fdiv (2 ^ min k (IntKind.bits .i64)))=((byteOf n d).toNat:Int):=by
 have hm:min k (IntKind.bits .i64)=k:=by simp [IntKind.bits]; omega
 rw [hm,Int.fdiv_eq_ediv_of_nonneg _ (by exact_mod_cast Nat.zero_le _),IntKind.wrap_u8]
 have:(n:Int) / 2 ^ k=((n / 2 ^ k:Nat):Int):=by rw [Int.natCast_ediv,Int.natCast_pow]; rfl
 rw [this,byteOf,hd]
 generalize n / 2 ^ k=x
 rw [UInt8.toNat_ofNat']; omega
theorem byte1 (n:Nat):IntKind.u8.wrap (n:Int)=((byteOf n 1).toNat:Int):=by
 rw [IntKind.wrap_u8,byteOf,Nat.div_one,UInt8.toNat_ofNat']; omega
set_option maxHeartbeats 2000000
theorem four_A (n:Nat):PureD Tryz.prog 174 [intD n] (.i (bI (four n))):=by
 have b1:=byte24 n 16777216 24 (by decide) (by decide)
 have b2:=byte24 n 65536 16 (by decide) (by decide)
 have b3:=byte24 n 256 8 (by decide) (by decide)
 have b4:=byte1 n
 simp only [four]
 generalize byteOf n 16777216=c1 at *
 generalize byteOf n 65536=c2 at *
 generalize byteOf n 256=c3 at *
 generalize byteOf n 1=c4 at *
 refine callD_W 15 Tryz.func174 rfl rfl rfl (fun _ _=>rfl) ?_
 refine gx (an (an (an (an (an tyBookB3 @intD.eq_1) @b1) @b2) @b3) @b4) ?_
 refine fin_ret [1267] rfl ?_
 simp [cv,cv1,cv0,upd,elemsOf,bI,byteI]
theorem leaf_A (k v:List UInt8) (hk:k.length≤1048576) (hv:v.length≤1048576):PureD Tryz.prog 160 [.i (bI k),.i (bI v)] (.i (bI (leafF k v))):=by
 have hp:=parts_D [[0],four k.length,k,v] (by simp) (by intro b hb; simp at hb; rcases hb with rfl | rfl | rfl | rfl; simp; (simp [four]); omega; omega)
 have hf:[[0],four k.length,k,v].flatten=0 :: (four k.length++(k++v)):=by simp
 rw [hf] at hp
 rw [show sha (0 :: (four k.length++(k++v)))=leafF k v from rfl] at hp
 generalize leafF k v=R at *
 refine callD_W 13 Tryz.func160 rfl rfl rfl (fun _ _=>rfl) ?_
 (refine gy (an tyBookB0 @bI.eq_1) ?_; try intro ops hops)
 (first | refine Call_frz [] (four_A k.length) (by simp [cvAs,cvA,cvRL,cvR,cvBox,cv1,cvL,cv0,bI,byteI,bbI,intD,elemsOf,upd]) ?_ | refine CallF_frz [] [] (four_A k.length) (fun G _=>by simp [cvAs,cvA,cvRL,cvR,cvBox,cv1,cvL,cv0,bI,byteI,bbI,intD,elemsOf,upd]) (by simp) ?_)
 (refine gy (an tyBookB0 @bI.eq_1) ?_; try intro ops hops)
 (first | refine Call_frz [1262] (hp) (by simp [cvAs,cvA,cvRL,cvR,cvBox,cv1,cvL,cv0,bI,byteI,bbI,intD,elemsOf,upd,frz,bbI]) ?_ | refine CallF_frz [1262] [1262] (hp) (fun G hG=>by (have hG1262:=hG 1262 (by simp); simp [cvAs,cvA,cvRL,cvR,cvBox,cv1,cvL,cv0,bI,byteI,bbI,intD,elemsOf,upd,frz,bbI,hG1262])) (by simp) ?_)
 refine gx (an tyBookB0 @bI.eq_1) ?_
 refine fin_ret [] rfl ?_
 simp [cv,cv1,cv0,upd]
theorem node_A (a b:List UInt8) (ha:a.length≤1048576) (hb:b.length≤1048576):PureD Tryz.prog 173 [.i (bI a),.i (bI b)] (.i (bI (nodeF a b))):=by
 have hp:=parts_D [[1],a,b] (by simp) (by intro x hx; simp at hx; rcases hx with rfl | rfl | rfl; simp; omega; omega)
 have hf:[[1],a,b].flatten=1 :: (a++b):=by simp
 rw [hf] at hp
 rw [show sha (1 :: (a++b))=nodeF a b from rfl] at hp
 generalize nodeF a b=R at *
 refine callD_W 10 Tryz.func173 rfl rfl rfl (fun _ _=>rfl) ?_
 (refine gy (an tyBookB1 @bI.eq_1) ?_; try intro ops hops)
 (first | refine Call_frz [1259] (hp) (by simp [cvAs,cvA,cvRL,cvR,cvBox,cv1,cvL,cv0,bI,byteI,bbI,intD,elemsOf,upd,frz,bbI]) ?_ | refine CallF_frz [1259] [1259] (hp) (fun G hG=>by (have hG1259:=hG 1259 (by simp); simp [cvAs,cvA,cvRL,cvR,cvBox,cv1,cvL,cv0,bI,byteI,bbI,intD,elemsOf,upd,frz,bbI,hG1259])) (by simp) ?_)
 refine gx (an tyBookB1 @bI.eq_1) ?_
 refine fin_ret [] rfl ?_
 simp [cv,cv1,cv0,upd]
theorem top_A (n:Nat) (t:List UInt8) (ht:t.length≤1048576):PureD Tryz.prog 161 [intD n,.i (bI t)] (.i (bI (topF n t))):=by
 have hp:=parts_D [[2],four n,t] (by simp) (by intro x hx; simp at hx; rcases hx with rfl | rfl | rfl; simp; (simp [four]); omega)
 have hf:[[2],four n,t].flatten=2 :: (four n++t):=by simp
 rw [hf] at hp
 rw [show sha (2 :: (four n++t))=topF n t from rfl] at hp
 generalize topF n t=R at *
 refine callD_W 11 Tryz.func161 rfl rfl rfl (fun _ _=>rfl) ?_
 (refine gy (an (an tyBookB2 @bI.eq_1) @intD.eq_1) ?_; try intro ops hops)
 (first | refine Call_frz [] (four_A n) (by simp [cvAs,cvA,cvRL,cvR,cvBox,cv1,cvL,cv0,bI,byteI,bbI,intD,elemsOf,upd]) ?_ | refine CallF_frz [] [] (four_A n) (fun G _=>by simp [cvAs,cvA,cvRL,cvR,cvBox,cv1,cvL,cv0,bI,byteI,bbI,intD,elemsOf,upd]) (by simp) ?_)
 (refine gy (an tyBookB2 @bI.eq_1) ?_; try intro ops hops)
 (first | refine Call_frz [1260] (hp) (by simp [cvAs,cvA,cvRL,cvR,cvBox,cv1,cvL,cv0,bI,byteI,bbI,intD,elemsOf,upd,frz,bbI]) ?_ | refine CallF_frz [1260] [1260] (hp) (fun G hG=>by (have hG1260:=hG 1260 (by simp); simp [cvAs,cvA,cvRL,cvR,cvBox,cv1,cvL,cv0,bI,byteI,bbI,intD,elemsOf,upd,frz,bbI,hG1260])) (by simp) ?_)
 refine gx (an tyBookB2 @bI.eq_1) ?_
 refine fin_ret [] rfl ?_
 simp [cv,cv1,cv0,upd]
theorem pow2_split {n i:Nat} (h1:2 ^ i=1∨2 ^ i < n) (h2:n≤2 * 2 ^ i) (hn:1≤n):2 ^ i=splitF n:=by
 unfold splitF
 congr 1
 have hle:i≤Nat.log2 (n - 1)∨n - 1=0:=by
  by_cases h0:n - 1=0
  ·exact .inr h0
  ·refine .inl ((Nat.le_log2 h0).2 ?_)
   rcases h1 with h1 | h1 <;> omega
 have hge:n - 1=0∨Nat.log2 (n - 1) < i+1:=by
  by_cases h0:n - 1=0
  ·exact .inl h0
  ·refine .inr ((Nat.log2_lt h0).2 ?_)
   rw [Nat.pow_succ]; omega
 rcases hle with hle | hle
 ·rcases hge with hge | hge
  ·rw [hge] at hle ⊢; simp at hle ⊢; omega
  ·omega
 ·rw [hle]
  have:n=1:=by omega
  subst this
  simp
  rcases h1 with h1 | h1
  ·cases i with
   | zero=>rfl
   | succ i=>rw [Nat.pow_succ] at h1; omega
  ·have:0 < 2 ^ i:=Nat.pow_pos (by decide); omega
theorem split_A (n:Nat) (h0:1≤n) (hn:n≤1048576):PureD Tryz.prog 172 [intD n] (intD (splitF n)):=by
 refine callD_W 11 Tryz.func172 rfl rfl rfl (fun _ _=>rfl) ?_
 refine gx (an tyBookB4 @intD.eq_1) ?_
 refine W_loopI (ι:=Nat) (fun i=>2 ^ i=1∨2 ^ i < n)
  (fun i=>stOf [(0,intD n),(3,intD (2 ^ i:Nat))] []) (fun i=>n - 2 ^ i) 0 (.inl rfl) ?_ ?_
 ·refine le_stOf _ _ [] [] ?_ ?_ rfl rfl
  ·simp [cv,cv1,cv0,upd,lk,srcOf,intD]
  ·simp
 ·rintro i hi
  rw [stOf_eq]
  have hp:0 < 2 ^ i:=Nat.pow_pos (by decide)
  have hs:2 ^ (i+1)=2 * 2 ^ i:=by rw [Nat.pow_succ]; omega
  have hfin:=pow2_split hi
  have w1:IntKind.i64.wrap (2 * ((2 ^ i:Nat):Int))=((2 ^ (i+1):Nat):Int):=by rw [hs,wrap64 (by omega) (by omega)]; omega
  have w2:IntKind.i64.wrap (((2 ^ i:Nat):Int) * 2)=((2 ^ (i+1):Nat):Int):=by rw [hs,wrap64 (by omega) (by omega)]; omega
  generalize hx:2 ^ i=x at *
  generalize hy:2 ^ (i+1)=y at *
  refine gx (an (an tyBookB4 @intD.eq_1) w1) ?_
  refine Wc_split (fun h=>?_) (fun h=>?_)
  ·have h1:y < n:=by simp at h; omega
   clear h
   refine gx (an tyBookB4 w2) ?_
   refine ⟨i+1,by show 2 ^ (i+1)=1∨2 ^ (i+1) < n; rw [hy]; exact .inr h1,le_stOf _ _ [] [] ?_ ?_ rfl rfl,by simp only [hx,hy]; omega⟩
   ·simp only [hy]; simp [cv,cv1,cv0,upd,lk,srcOf,intD]
   ·simp
  ·have h1:n≤2 * x:=by simp at h; omega
   clear h
   refine gx tyBookB4 ?_
   refine fin_ret [] rfl ?_
   simp [cv,cv1,cv0,upd,intD,hfin h1 h0]
end Go.Proofs.YtadoaljnfeoecaaGreatDoor
set_option linter.all false
namespace Go.Proofs.YtadoaljnfeoecaaGreatDoor
open Go Go.Abs
structure Right (l:List PairD):Prop where
 len:l.length≤200
 big:∀ p∈l,p.k.length≤60∧p.v.length≤200
 ord:∀ i j (hi:i < l.length) (hj:j < l.length),i < j→Lib.compareBytes l[i].k l[j].k < 0
end Go.Proofs.YtadoaljnfeoecaaGreatDoor
set_option linter.all false
namespace Go.Proofs.YtadoaljnfeoecaaGreatDoor
open Go Go.Abs Go.RowKit Go.Proofs.YtadoaljnfeoecaaGreatDoor.Ty
set_option maxHeartbeats 2000000
end Go.Proofs.YtadoaljnfeoecaaGreatDoor
