/- packet.Digest, Wrong, end: by value. -/
import Derived.Test.YtmclpbcipkdmcaaGreatDoorPkP
import Derived.Test.YtmclpbcipkdmcaaGreatDoorChA
set_option linter.all false
namespace Go.Proofs.YtmclpbcipkdmcaaGreatDoor
open Go Go.Abs Go.RowKit Go.Proofs.YtmclpbcipkdmcaaGreatDoor.Ty
set_option maxHeartbeats 8000000
set_option maxRecDepth 20000
theorem pkn_A (x:Int):PureD Tryz.prog 98 [intD x] (.agg [.i (.s (.int .i64 1)),.i (.s (.int .u64 (u64 x))),.i (.sl [])]):=by
 refine hide_r fun R hR=>?_
 have w1:=wrap_u x
 refine callD_W 6 Tryz.func98 rfl rfl rfl (fun _ _=>rfl) ?_
 exact wkl trivial
theorem pkdig_A (p:PackD) (hd:p.data.length≤1048576):PureD Tryz.prog 35 [packD p] (.i (bI (digPk p))):=by
 refine hide_r fun R hR=>?_
 have c1:=pkn_A p.fr
 have c2:=pkn_A p.de
 have c3:=pkn_A p.seq
 have c4:=pkn_A p.tout
 have c5:=write_A (pcsPk p) (by simp [pcsPk]) (by intro q hq; simp only [pcsPk,numP,rawB,List.mem_cons,List.not_mem_nil,or_false] at hq; rcases hq with rfl | rfl | rfl | rfl | rfl <;> simp <;> omega)
  (by intro q hq; simp only [pcsPk,numP,rawB,List.mem_cons,List.not_mem_nil,or_false] at hq; rcases hq with rfl | rfl | rfl | rfl | rfl <;> first | exact u64_lt _ | (simp only; omega))
 have c6:=sum_D (writeF (pcsPk p)).1 (by have:=writeF_len (pcsPk p); omega)
 unfold digPk at hR
 generalize writeF (pcsPk p)=W at *
 simp only [pcsPk,numP,rawB,List.map_cons,List.map_nil,encP,faultD,bI] at c5
 generalize u64 p.fr=a1 at *
 generalize u64 p.de=a2 at *
 generalize u64 p.seq=a3 at *
 generalize u64 p.tout=a4 at *
 refine callD_W 27 Tryz.func35 rfl rfl rfl (fun _ _=>rfl) ?_
 exact wkl trivial
theorem pkwrong_A (p:PackD):PureD Tryz.prog 33 [packD p] (intD (wrongPk p)):=by
 refine hide_r fun R hR=>?_
 unfold wrongPk at hR
 refine callD_W 47 Tryz.func33 rfl rfl rfl (fun _ _=>rfl) ?_
 exact wkl trivial
def encW (w:Int):List I:=[.s (.int .i64 w)]
attribute [simp,go_sem] encW
theorem stIn_lt {st:Int} {ws:List Int} {i:Nat} (h:i < ws.length):stIn st (ws.drop i)=(decide (st=ws[i]) || stIn st (ws.drop (i+1))):=by
 unfold stIn; rw [List.drop_eq_getElem_cons h,List.any_cons]
theorem endpk_A (s:StateD) (hs:StSm s) (i:Int) (ws:List Int) (hw:ws.length≤1000):PureD Tryz.prog 102 [.rp (encSt s) 0,intD i,.i (.sl (ws.map encW))] (.tup [chanD (endPk s i ws).1,connD (endPk s i ws).2.1,intD (endPk s i ws).2.2]):=by
 refine hide_r fun R hR=>?_
 have c1:=swrong_A s hs
 unfold endPk at hR
 by_cases h:wrongS s=0
 ·have ok:=wrongS_zero.1 h
  have hl:=ok.lch
  rw [h] at c1
  rw [if_pos h] at hR
  by_cases h2:i < 0∨(s.chs.length:Int)≤i
  ·rw [if_pos h2] at hR
   clear ok h hs
   refine callD_W 67 Tryz.func102 rfl rfl rfl (fun _ _=>rfl) ?_
   exact wkl trivial
  ·rw [if_neg h2] at hR
   have hi:i.toNat < s.chs.length:=by omega
   have s0:=get_lt (f:=encCh) hi
   have c2:=overch_A s ok (chAt s i).cn
   rw [(chAt_mem (s:=s) (i:=i) (by omega)).1] at hR c2
   clear ok h hs
   generalize s.chs[i.toNat]=x at *
   generalize overCh s x.cn=E at *
   refine callD_W 67 Tryz.func102 rfl rfl rfl (fun _ _=>rfl) ?_
   refine wkl ?_
   clear hR; intro hR
   have hR':Hr (if stIn x.st (ws.drop 0)=true then D.tup [chanD x,connD E.1,intD E.2] else D.tup [chanD zeroCh,connD zeroCn,intD 12]) R:=by
    rw [List.drop_zero]
    revert hR
    split <;> exact id
   clear hR
   refine W_loopR (ι:=Nat) (fun j=>j≤ws.length∧Hr (if stIn x.st (ws.drop j)=true then D.tup [chanD x,connD E.1,intD E.2] else D.tup [chanD zeroCh,connD zeroCn,intD 12]) R)
    (fun j=>stOf [(0,.rp (encSt s) 0),(6,.pt 101 0 0 0),(7,.pt 102 0 0 0),(8,intD 0),(10,.pt 100 0 0 0),(44,.i (.sl (ws.map encW))),(45,intD ws.length),(46,intD j)] [(100,.box ((encCh x).map .i)),(101,.box ((encCh zeroCh).map .i)),(102,.box ((encCn zeroCn).map .i))]) (fun j=>ws.length - j) 0 ⟨Nat.zero_le _,hR'⟩ ?_ ?_
   ·exact le_ok [] [(100,2543),(101,1000),(102,1001)]
   ·rintro j ⟨hj,hR⟩ RL hL
    clear hR'
    rw [stOf_eq]
    by_cases h':j < ws.length
    ·have s1:=get_lt (f:=encW) h'
     rw [stIn_lt h'] at hR
     have b1:=fun σ' (hq:Hr _ R)=>bk [] [(100,100),(101,101),(102,102)] (hL (j+1) σ' ⟨h',hq⟩)
     clear hL
     generalize ws[j]=w at *
     by_cases e:x.st=w
     ·simp only [e,decide_true,Bool.true_or,if_true] at hR
      clear b1
      exact wkl trivial
     ·simp only [e,decide_false,Bool.false_or] at hR
      exact wkl trivial
    ·rw [List.drop_eq_nil_of_le (by omega)] at hR
     simp only [stIn,List.any_nil,Bool.false_eq_true,if_false] at hR
     clear hL
     exact wkl trivial
 ·rw [if_neg h] at hR
  generalize wrongS s=W at *
  clear hs
  refine callD_W 67 Tryz.func102 rfl rfl rfl (fun _ _=>rfl) ?_
  exact wkl trivial
end Go.Proofs.YtmclpbcipkdmcaaGreatDoor
