/- The law BridgePast: the walk. -/
import Derived.Test.YtkbbipgjmoanhaaGreatDoorLaw14A
set_option linter.all false
set_option maxHeartbeats 16000000
set_option maxRecDepth 20000
namespace Go.Proofs.YtkbbipgjmoanhaaGreatDoor
open Go Go.Abs Go.RowKit Go.Proofs.YtkbbipgjmoanhaaGreatDoor.Ty
theorem Gb (p:dG):PureD Tryz.prog 24 [uF p,uF p] (boolD true):=by
 refine aj fun R hR=>?_
 refine aa 40 Tryz.func24 rfl rfl rfl (fun _ _=>rfl) ?_
 exact wkl trivial
theorem zx (d:kz):PureD Tryz.prog 13 [yj d,yj d] (boolD true):=by
 refine aj fun R hR=>?_
 have c1:=Gb d.pk
 refine aa 24 Tryz.func13 rfl rfl rfl (fun _ _=>rfl) ?_
 exact wkl trivial
theorem walk_BridgePast (y0:I) (l:List EvD) (e0:y0=G_ l/\∀ e∈l,kg e.m) (y1:I) (k:Int) (e1:y1=.s (.int .i64 k)/\(Lit.int .i64 k).wf=true) (hb:bkI y0+bkI y1<=1048576) :
  ∃ Ds,PureD Tryz.prog 6 Ds (.i (.s (.bool true)))/\Ds=[.i y0,.i y1]:=by
 obtain ⟨rfl,h64⟩:=e0
 obtain ⟨rfl,_⟩:=e1
 refine ⟨_,?_,rfl⟩
 obtain ⟨he,hl⟩:=evs_sm (n:=1048576) (by omega) (by omega) h64
 clear hb h64
 refine aj fun R hR=>?_
 have c1:=lw
 have u1:uni 67 (l.map encEv)=true:=by simp [uni,encEv]
 unfold G_
 by_cases hk:k < 0\/(l.length:Int) < k
 ·clear he
  rcases hk with hk | hk
  ·refine aa 71 Tryz.func6 rfl rfl rfl (fun _ _=>rfl) ?_
   exact wkl trivial
  ·refine aa 71 Tryz.func6 rfl rfl rfl (fun _ _=>rfl) ?_
   exact wkl trivial
 ·obtain ⟨n,rfl⟩:∃ n:Nat,k=n:=⟨k.toNat,by omega⟩
  have hn:n<=l.length:=by omega
  have hk0:¬ ((n:Nat):Int) < 0:=by omega
  have hk1:¬ (l.length:Int) < ((n:Nat):Int):=by omega
  have tk:(l.map encEv).take n=(l.take n).map encEv:=List.map_take.symm
  have tl:(l.take n).length=n:=by simp; omega
  have c2:=nM l (by omega) he
  have c3:=nM (l.take n) (by omega) (fun e h=>he e (List.mem_of_mem_take h))
  by_cases h:(120:Int) < l.length
  ·rw [if_pos h] at c2
   clear he
   by_cases h2:(120:Int) < (l.take n).length
   ·rw [if_pos h2] at c3
    generalize l.take n=L at *
    refine aa 71 Tryz.func6 rfl rfl rfl (fun _ _=>rfl) ?_
    exact wkl trivial
   ·rw [if_neg h2] at c3
    generalize l.take n=L at *
    generalize playB L=W at *
    refine aa 71 Tryz.func6 rfl rfl rfl (fun _ _=>rfl) ?_
    exact wkl trivial
  ·have h2:¬ (120:Int) < (l.take n).length:=by omega
   rw [if_neg h] at c2
   rw [if_neg h2] at c3
   have d1:(playB l).2.length=l.length:=jb l begin2
   have d2:(playB (l.take n)).2.length=n:=by rw [show (playB (l.take n)).2.length=(l.take n).length from jb _ begin2]; exact tl
   have d3:∀ i (hi:i < n),(playB l).2[i]?=(playB (l.take n)).2[i]?:=fun i hi=>by
    have e:playB l=playB (l.take n++l.drop n):=by rw [List.take_append_drop]
    rw [e,show playB (l.take n++l.drop n)=_ from mJ (l.drop n) (l.take n) begin2,List.getElem?_append_left (by rw [show (eG begin2 (l.take n)).2.length=n from d2]; exact hi)]
    rfl
   have hl120:l.length<=120:=by omega
   clear he
   generalize l.take n=L at *
   generalize playB l=W at *
   generalize playB L=V at *
   obtain ⟨W1,da⟩:=W
   obtain ⟨V1,db⟩:=V
   simp only at d1 d2 d3 c2 c3
   have n1:((n:Nat):Int).toNat=n:=by omega
   refine aa 71 Tryz.func6 rfl rfl rfl (fun _ _=>rfl) ?_
   refine wkl ?_
   clear hR; intro hR
   repeat' (intro _)
   clear c1 c2 c3
   refine aT (ι:=Nat) (fun i=>i<=n) (fun i=>dW [(6,.i (.sl (da.map eT))),(9,.i (.sl (db.map eT))),(56,intD n),(57,intD i)] []) (fun i=>n - i) 0 (Nat.zero_le _) ?_ ?_
   ·exact dF [] []
   ·rintro i hi RL hL
    rw [au]
    by_cases hi2:i < n
    ·have k1:i < da.length:=by omega
     have k2:i < db.length:=by omega
     have hd:=d3 i hi2
     rw [List.getElem?_eq_getElem k1,List.getElem?_eq_getElem k2] at hd
     injection hd with hd
     have s0:=get_lt (f:=eT) k1
     have s1:=get_lt (f:=eT) k2
     rw [hd] at s0
     have c1:=zx db[i]
     have b1:=fun σ'=>bk [] [] (hL (i+1) σ' hi2)
     clear hL d3 hd
     generalize db[i]=q at *
     exact wkl trivial
    ·clear hL d3
     exact wkl trivial
end Go.Proofs.YtkbbipgjmoanhaaGreatDoor
