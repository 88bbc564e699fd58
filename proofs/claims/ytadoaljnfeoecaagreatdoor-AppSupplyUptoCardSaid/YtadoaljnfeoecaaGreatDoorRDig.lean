/- landref8.Digits: by value. -/
import Derived.Test.YtadoaljnfeoecaaGreatDoorIto
import Derived.Test.YtadoaljnfeoecaaGreatDoorStKs
set_option linter.all false
namespace Go.Proofs.YtadoaljnfeoecaaGreatDoor
open Go Go.Abs Go.RowKit Go.Proofs.YtadoaljnfeoecaaGreatDoor.Ty
set_option maxHeartbeats 8000000
set_option maxRecDepth 20000
theorem itoa_dec (n:Nat):Lib.itoa (n:Int)=Lib.decDigits n:=by unfold Lib.itoa; rw [if_neg (by omega)]; simp
theorem byteOf_b (b:UInt8):byteOfI [.s (.int .u8 (b.toNat:Int))]=some b:=by
 have h:=mapM_bytes [b]
 simp only [List.map_cons,List.map_nil,byteI,List.mapM_cons,List.mapM_nil] at h
 cases e:byteOfI [.s (.int .u8 (b.toNat:Int))] with
 | none=>rw [e] at h; simp at h
 | some x=>rw [e] at h; simp at h; rw [h]
theorem rdig_A:∀ (k n:Nat),n < 10 ^ k→n < 9223372036854775808→PureD Tryz.prog 33 [intD n] (.i (.s (.string ⟨(Lib.decDigits n).toArray⟩)))
 | k,n,hk,hn=>by
  refine hide_r fun R hR=>?_
  by_cases h:n < 10
  ·rw [Lib.decDigits,dif_pos h] at hR
   have w1:IntKind.i64.wrap (48+(n:Int))=((48+n:Nat):Int):=by rw [wrap64 (by omega) (by omega)]; omega
   have w2:IntKind.u8.wrap ((48+n:Nat):Int)=((UInt8.ofNat (48+n)).toNat:Int):=by
    rw [UInt8.toNat_ofNat',IntKind.wrap_u8]; omega
   generalize UInt8.ofNat (48+n)=b at *
   have hbo:=byteOf_b b
   refine callD_W 17 Tryz.func33 rfl rfl rfl (fun _ _=>rfl) ?_
   exact wkl trivial
  ·match k,hk with
   | 0,hk=>simp at hk; omega
   | k+1,hk =>
    rw [Lib.decDigits,dif_neg h] at hR
    have c1:=rdig_A k (n / 10) (by rw [Nat.pow_succ] at hk; omega) (by omega)
    have hk1:10≤10 ^ k:=by
     cases k with
     | zero=>simp at hk; omega
     | succ k=>rw [Nat.pow_succ]; have:=Nat.pow_pos (n:=k) (show 0 < 10 by decide); omega
    have c2:=rdig_A k (n % 10) (by omega) (by omega)
    have e2:Lib.decDigits (n % 10)=[UInt8.ofNat (48+n % 10)]:=by rw [Lib.decDigits,dif_pos (by omega)]
    rw [e2] at c2
    have hl:(Lib.decDigits (n / 10)).length≤100:=by
     have:=ito_len (n:=((n / 10:Nat):Int)) ⟨by omega,by omega⟩
     rw [itoa_dec] at this; omega
    have s1:=fun P t x y=>@add_strB P t x y (Lib.decDigits (n / 10)) [UInt8.ofNat (48+n % 10)] ⟨hl,by simp⟩
    have w1:(n:Int).tdiv 10=((n / 10:Nat):Int):=by rw [Int.tdiv_eq_ediv_of_nonneg (by omega)]; omega
    have w2:(n:Int).tmod 10=((n % 10:Nat):Int):=by rw [Int.tmod_eq_emod_of_nonneg (by omega)]; omega
    generalize Lib.decDigits (n / 10)++[UInt8.ofNat (48+n % 10)]=L at *
    generalize Lib.decDigits (n / 10)=M at *
    generalize UInt8.ofNat (48+n % 10)=b at *
    refine callD_W 17 Tryz.func33 rfl rfl rfl (fun _ _=>rfl) ?_
    exact wkl trivial
end Go.Proofs.YtadoaljnfeoecaaGreatDoor
