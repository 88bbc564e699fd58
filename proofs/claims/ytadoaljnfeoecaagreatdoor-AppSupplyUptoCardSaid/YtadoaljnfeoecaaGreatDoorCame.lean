/- landref8.Digits of a channel, landref10.Came: by value. -/
import Derived.Test.YtadoaljnfeoecaaGreatDoorBkR
set_option linter.all false
namespace Go.Proofs.YtadoaljnfeoecaaGreatDoor
open Go Go.Abs Go.RowKit Go.Proofs.YtadoaljnfeoecaaGreatDoor.Ty
set_option maxHeartbeats 16000000
set_option maxRecDepth 20000
theorem digs_A (ch:Int) (h0:0≤ch) (h1:ch≤9223372036854775807):PureD Tryz.prog 33 [intD ch] (.i (.s (.string ⟨(Lib.itoa ch).toArray⟩))):=by
 obtain ⟨n,rfl⟩:∃ n:Nat,ch=n:=⟨ch.toNat,by omega⟩
 rw [itoa_dec]
 have h10:(10:Nat) ^ 19=10000000000000000000:=by decide
 exact rdig_A 19 n (by rw [h10]; omega) (by omega)
theorem mk_bytes (ch:Int):(⟨(Lib.itoa ch).toArray⟩:ByteArray)++⟨#[47]⟩=mkOf ch:=by
 apply ByteArray.ext
 simp [mkOf,ByteArray.data_append]
theorem cameX_A (d:ByteArray) (ch:Int) (h0:0≤ch) (h1:ch≤9223372036854775807):PureD Tryz.prog 13 [.i (.s (.string d)),intD ch] (.tup [.i (.s (.string (if hasP d (mkOf ch)=true then cutP d (mkOf ch) else ⟨#[]⟩))),boolD (hasP d (mkOf ch))]):=by
 refine hide_r fun R hR=>?_
 have c1:=digs_A ch h0 h1
 have hl:=ito_len (n:=ch) ⟨by omega,h1⟩
 have s1:∀ P t x y,binQ P .add t x y (some (.string ⟨(Lib.itoa ch).toArray⟩)) (some (.string ⟨#[47]⟩))=some (.i (.s (.string (mkOf ch)))):=fun P t x y=>by rw [bq_add_str (by simp [ByteArray.size]; omega),mk_bytes]
 clear hl
 generalize (⟨(Lib.itoa ch).toArray⟩:ByteArray)=X at *
 generalize mkOf ch=m at *
 by_cases h:m.size≤d.size
 ·have h2:(m.size:Int)≤d.size:=by omega
  have e:hasP d m=(d.extract 0 m.size == m):=by simp [hasP,h]
  cases hx:(d.extract 0 m.size == m)
  ·rw [e,hx] at hR
   simp only [Bool.false_eq_true,if_false] at hR
   clear e
   refine callD_W 27 Tryz.func13 rfl rfl rfl (fun _ _=>rfl) ?_
   exact wkl trivial
  ·rw [e,hx] at hR
   simp only [if_true] at hR
   unfold cutP at hR
   clear e
   refine callD_W 27 Tryz.func13 rfl rfl rfl (fun _ _=>rfl) ?_
   exact wkl trivial
 ·have e:hasP d m=false:=by simp [hasP,h]
  rw [e] at hR
  simp only [Bool.false_eq_true,if_false] at hR
  clear e
  refine callD_W 27 Tryz.func13 rfl rfl rfl (fun _ _=>rfl) ?_
  exact wkl trivial
end Go.Proofs.YtadoaljnfeoecaaGreatDoor
