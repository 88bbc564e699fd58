/- The law AppSupply: the walk. -/
import Derived.Test.YtadoaljnfeoecaaGreatDoorLaw13R
import Derived.Test.YtadoaljnfeoecaaGreatDoorCame
set_option linter.all false
namespace Go.Proofs.YtadoaljnfeoecaaGreatDoor
open Go Go.Abs Go.RowKit Go.Proofs.YtadoaljnfeoecaaGreatDoor.Ty
set_option maxHeartbeats 16000000
set_option maxRecDepth 20000
def anyC (d:ByteArray) (k:Nat):Bool:=(List.range k).any fun i=>hasP d (mkOf (i:Nat))
theorem anyC_succ (d:ByteArray) (k:Nat):anyC d (k+1)=(anyC d k || hasP d (mkOf (k:Nat))):=by
 unfold anyC; rw [List.range_succ,List.any_append]; simp
theorem anyC_of {d:ByteArray} {n i:Nat} (hi:i < n) (h:hasP d (mkOf (i:Nat))=true):anyC d n=true:=by
 unfold anyC; rw [List.any_eq_true]; exact ⟨i,List.mem_range.2 hi,h⟩
theorem walk_AppSupply (y0:List I) (s:StateD) (e0:y0=encSt s∧∀ p∈s.pus,p.n < 18446744073709551616) (y1:List I) (m:MsgD) (e1:y1=encMsg m∧Val64s m) (y2:I) (d:ByteArray) (e2:y2=.s (.string d)∧d.size≤maxLen) (hb:bkL y0+bkL y1+bkI y2≤1048576) :
  ∃ Ds,PureD Tryz.prog 4 Ds (.i (.s (.bool true)))∧Ds=[.agg (y0.map .i),.agg (y1.map .i),.i y2]:=by
 obtain ⟨rfl,h64⟩:=e0
 obtain ⟨rfl,h65⟩:=e1
 obtain ⟨rfl,_⟩:=e2
 refine ⟨_,?_,rfl⟩
 rw [st_agg,msg_agg]
 have hs:=st_sm (s:=s) (n:=1048576) (by omega) (by omega)
 have hm:=msg_sm (m:=m) (n:=1048576) (by omega) (by omega) h65
 clear hb h65
 refine hide_r fun R hR=>?_
 have c1:=alive13_A
 have c2:=apdo_A s hs h64 m hm
 by_cases e:(doS s m).2.err=0
 ·have hst:=doS_step h64 e
  have hsup:=hst.sup d
  have hch:=(doS_done e).1.lch
  have c3:=supply_A s.pus d hs.pus h64
  have c4:=supply_A (doS s m).1.pus d (by have:=hst.ok.lpus; omega) hst.p64
  simp only [pusI,sD,wD] at c3 c4
  by_cases hq:supP (doS s m).1.pus d=supP s.pus d
  ·rw [hq] at c4
   clear hst hsup hs hm h64 hq
   generalize (if 18446744073709551616≤supP s.pus d then 0 else supP s.pus d)=q1 at *
   generalize decide (18446744073709551616≤supP s.pus d)=q2 at *
   generalize doS s m=X at *
   cases q2
   all_goals
    refine callD_W 88 Tryz.func4 rfl rfl rfl (fun _ _=>rfl) ?_
    exact wkl trivial
  ·obtain ⟨hk,i0,hi0,hp⟩:=hsup.resolve_left hq
   have hany:=anyC_of hi0 hp
   have c5:=fun (i:Nat) (hi:i < s.chs.length)=>cameX_A d i (by omega) (by omega)
   clear hst hs hm h64 hp hi0 hq i0
   generalize (if 18446744073709551616≤supP s.pus d then 0 else supP s.pus d)=q1 at *
   generalize decide (18446744073709551616≤supP s.pus d)=q2 at *
   generalize (if 18446744073709551616≤supP (doS s m).1.pus d then 0 else supP (doS s m).1.pus d)=q3 at *
   generalize decide (18446744073709551616≤supP (doS s m).1.pus d)=q4 at *
   generalize doS s m=X at *
   by_cases hqq:q1=q3∧(q2 == q4)=true
   ·obtain ⟨rfl,h24⟩:=hqq
    obtain rfl:q2=q4:=by simpa using h24
    have h25:(q2 == q2)=true:=by cases q2 <;> rfl
    clear c5 hany
    refine callD_W 88 Tryz.func4 rfl rfl rfl (fun _ _=>rfl) ?_
    exact wkl trivial
   have hq2:(¬ ((q1:Nat):Int)=((q3:Nat):Int))∨(q1=q3∧(q2 == q4)=false):=by
    by_cases h:q1=q3
    ·exact .inr ⟨h,by cases hb:(q2 == q4); rfl; exact absurd ⟨h,hb⟩ hqq⟩
    ·exact .inl (by omega)
   clear hqq
   rcases hq2 with h13 | ⟨rfl,h24⟩
   all_goals
    refine callD_W 88 Tryz.func4 rfl rfl rfl (fun _ _=>rfl) ?_
    refine wkl ?_
    clear hR; intro hR
    repeat' (intro _)
    clear c1 c2 c3 c4
    have ha0:anyC d 0=false:=rfl
    refine W_loopR (ι:=Nat) (fun i=>i≤s.chs.length) (fun i=>stOf [(2,.i (.s (.string d))),(3,.pt 100 0 0 0),(4,.pt 101 0 0 0),(13,boolD (anyC d i)),(52,intD s.chs.length),(53,intD i)] [(100,.box ((encSt s).map .i)),(101,.box ((encMsg m).map .i))]) (fun i=>s.chs.length - i) 0 (Nat.zero_le _) ?_ ?_
    ·exact le_ok [] [(100,1000),(101,1001)]
    ·rintro i hi RL hL
     rw [stOf_eq]
     by_cases h:i < s.chs.length
     ·have c1:=c5 i h
      have b1:=fun σ'=>bk [] [(100,100),(101,101)] (hL (i+1) σ' h)
      rw [anyC_succ] at b1
      clear hL c5 hany ha0
      generalize (if hasP d (mkOf (i:Nat))=true then cutP d (mkOf (i:Nat)) else ⟨#[]⟩)=C at *
      generalize hasP d (mkOf (i:Nat))=p1 at *
      generalize anyC d i=p2 at *
      cases p1
      all_goals
       cases p2
       all_goals
        simp only [Bool.or_true,Bool.true_or,Bool.or_false,Bool.false_or] at b1
        exact wkl trivial
     ·have hi2:i=s.chs.length:=by omega
      subst hi2
      rw [hany]
      clear hL c5
      have hk4:m.kind=14∨m.kind=15∨m.kind=16∨m.kind=17:=by omega
      clear hany ha0 h hi hk
      rcases hk4 with hk | hk | hk | hk
      all_goals exact wkl trivial
 ·clear hs hm h64
  generalize doS s m=X at *
  refine callD_W 88 Tryz.func4 rfl rfl rfl (fun _ _=>rfl) ?_
  exact wkl trivial
end Go.Proofs.YtadoaljnfeoecaaGreatDoor
