/- Channels: what a step comes to. No program is in sight. -/
import Derived.Test.YtmclpbcipkdmcaaGreatDoorGCo
set_option linter.all false
namespace Go.Proofs.YtmclpbcipkdmcaaGreatDoor
open Go Go.Abs
def zeroCh:ChanD:=⟨0,false,0,0,0,0,0⟩
attribute [simp,go_sem] zeroCh
def chAt (s:StateD) (i:Int):ChanD:=s.chs.getD i.toNat zeroCh
def overCh (s:StateD) (i:Int):ConnD × Int :=
 if i < 0∨(s.cns.length:Int)≤i then (zeroCn,6)
 else if (cnAt s i).st=3 then
  (if (cnAt s i).on < 0 then (zeroCn,8)
  else if (s.cls.length:Int)≤(cnAt s i).cl then (zeroCn,6)
  else if activeC (clAt s (cnAt s i).cl) s.t=true then (cnAt s i,0) else (zeroCn,12))
 else (zeroCn,12)
theorem overCh_zero {s:StateD} {i:Int}:(overCh s i).2=0↔(0≤i∧i < (s.cns.length:Int))∧(cnAt s i).st=3∧0≤(cnAt s i).on∧(cnAt s i).cl < (s.cls.length:Int)∧activeC (clAt s (cnAt s i).cl) s.t=true:=by
 unfold overCh
 constructor
 ·intro h
  split at h
  ·cases h
  ·split at h
   ·split at h
    ·cases h
    ·split at h
     ·cases h
     ·split at h
      ·exact ⟨by omega,by assumption,by omega,by omega,by assumption⟩
      ·cases h
   ·cases h
 ·rintro ⟨a,b,c,d,e⟩
  rw [if_neg (by omega),if_pos b,if_neg (by omega),if_neg (by omega),if_pos e]
theorem overCh_fst {s:StateD} {i:Int} (h:(overCh s i).2=0):overCh s i=(cnAt s i,0):=by
 obtain ⟨a,b,c,d,e⟩:=overCh_zero.1 h
 unfold overCh
 rw [if_neg (by omega),if_pos b,if_neg (by omega),if_neg (by omega),if_pos e]
theorem chAt_mem {s:StateD} {i:Int} (h:0≤i∧i < (s.chs.length:Int)):chAt s i=s.chs[i.toNat]'(by omega)∧chAt s i∈s.chs:=by
 have e:chAt s i=s.chs[i.toNat]'(by omega):=by
  unfold chAt
  rw [List.getD_eq_getElem?_getD,List.getElem?_eq_getElem (by omega)]; rfl
 exact ⟨e,by rw [e]; exact List.getElem_mem _⟩
end Go.Proofs.YtmclpbcipkdmcaaGreatDoor
