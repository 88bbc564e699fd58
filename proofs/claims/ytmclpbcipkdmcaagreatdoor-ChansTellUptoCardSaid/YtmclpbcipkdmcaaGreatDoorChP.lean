/- Channels: what a step comes to. No program is in sight. -/
import Derived.Test.YtmclpbcipkdmcaaGreatDoorGCo
set_option linter.all false
namespace Go.Proofs.YtmclpbcipkdmcaaGreatDoor
open Go Go.Abs
def zeroCh:ChanD:=⟨0,false,0,0,0,0,0⟩
attribute [simp,go_sem] zeroCh
def chAt (s:StateD) (i:Int):ChanD:=s.chs.getD i.toNat zeroCh
def overCh (s:StateD) (i:Int):ConnD × Int :=
 if i < 0∨(s.cns.length:Int)≤i then (zeroCn,6)
 else if (cnAt s i).st=3 then
  (if (cnAt s i).on < 0 then (zeroCn,8)
  else if (s.cls.length:Int)≤(cnAt s i).cl then (zeroCn,6)
  else if activeC (clAt s (cnAt s i).cl) s.t=true then (cnAt s i,0) else (zeroCn,12))
 else (zeroCn,12)
def shownHE (s:StateD) (c:ConnD) (pos:Int) (en:ChanD) (w:ShownD):Int:=memberE (clAt s c.cl) s.t w.h (keyH pos) (valCh en) w.p
def addCh (s:StateD) (c:ChanD):StR:=if (s.chs.length:Int)=8 then (zeroSt,0,5) else ({ s with chs:=s.chs++[{ c with snd:=1,rcv:=1,ack:=1 }] },s.chs.length,0)
def initCh (s:StateD) (i:Int) (o:Bool):StR :=
 if wrongS s=0 then (if (overCh s i).2=0 then addCh s ⟨1,o,i,-1,0,0,0⟩ else (zeroSt,0,(overCh s i).2)) else (zeroSt,0,wrongS s)
def tryCh (s:StateD) (i:Int) (o:Bool) (other:Int) (w:ShownD):StR :=
 if wrongS s=0 then (if (overCh s i).2=0 then (if other < 0∨1000000000000 < other then (zeroSt,0,3) else
  if shownHE s (cnAt s i) other ⟨1,o,(cnAt s i).on,-1,0,0,0⟩ w=0 then addCh s ⟨2,o,i,other,0,0,0⟩ else (zeroSt,0,shownHE s (cnAt s i) other ⟨1,o,(cnAt s i).on,-1,0,0,0⟩ w)) else (zeroSt,0,(overCh s i).2)) else (zeroSt,0,wrongS s)
def endCh (s:StateD) (i want:Int):ChanD × ConnD × Int :=
 if wrongS s=0 then (if i < 0∨(s.chs.length:Int)≤i then (zeroCh,zeroCn,6) else if (chAt s i).st=want then (chAt s i,(overCh s (chAt s i).cn).1,(overCh s (chAt s i).cn).2) else (zeroCh,zeroCn,12)) else (zeroCh,zeroCn,wrongS s)
def nowCh (s:StateD) (i how other:Int):StateD:={ s with chs:=s.chs.set i.toNat { chAt s i with st:=how,oc:=other } }
def ackCh (s:StateD) (i other:Int) (w:ShownD):StateD × Int :=
 if (endCh s i 1).2.2=0 then (if other < 0∨1000000000000 < other then (zeroSt,3) else
  if shownHE s (endCh s i 1).2.1 other ⟨2,(chAt s i).ord,(endCh s i 1).2.1.on,i,0,0,0⟩ w=0 then (nowCh s i 3 other,0) else (zeroSt,shownHE s (endCh s i 1).2.1 other ⟨2,(chAt s i).ord,(endCh s i 1).2.1.on,i,0,0,0⟩ w)) else (zeroSt,(endCh s i 1).2.2)
def confCh (want say:Int) (s:StateD) (i:Int) (w:ShownD):StateD × Int :=
 if (endCh s i want).2.2=0 then (if (chAt s i).oc < 0 then (zeroSt,8) else
  if shownHE s (endCh s i want).2.1 (chAt s i).oc ⟨say,(chAt s i).ord,(endCh s i want).2.1.on,i,0,0,0⟩ w=0 then (nowCh s i say (chAt s i).oc,0) else (zeroSt,shownHE s (endCh s i want).2.1 (chAt s i).oc ⟨say,(chAt s i).ord,(endCh s i want).2.1.on,i,0,0,0⟩ w)) else (zeroSt,(endCh s i want).2.2)
def closeCh (s:StateD) (i:Int):StateD × Int:=if (endCh s i 3).2.2=0 then (nowCh s i 4 (chAt s i).oc,0) else (zeroSt,(endCh s i 3).2.2)
theorem overCh_zero {s:StateD} {i:Int}:(overCh s i).2=0↔(0≤i∧i < (s.cns.length:Int))∧(cnAt s i).st=3∧0≤(cnAt s i).on∧(cnAt s i).cl < (s.cls.length:Int)∧activeC (clAt s (cnAt s i).cl) s.t=true:=by
 unfold overCh
 constructor
 ·intro h
  split at h
  ·cases h
  ·split at h
   ·split at h
    ·cases h
    ·split at h
     ·cases h
     ·split at h
      ·exact ⟨by omega,by assumption,by omega,by omega,by assumption⟩
      ·cases h
   ·cases h
 ·rintro ⟨a,b,c,d,e⟩
  rw [if_neg (by omega),if_pos b,if_neg (by omega),if_neg (by omega),if_pos e]
theorem overCh_fst {s:StateD} {i:Int} (h:(overCh s i).2=0):overCh s i=(cnAt s i,0):=by
 obtain ⟨a,b,c,d,e⟩:=overCh_zero.1 h
 unfold overCh
 rw [if_neg (by omega),if_pos b,if_neg (by omega),if_neg (by omega),if_pos e]
theorem endCh_zero {s:StateD} {i want:Int}:(endCh s i want).2.2=0↔StOk s∧(0≤i∧i < (s.chs.length:Int))∧(chAt s i).st=want∧(overCh s (chAt s i).cn).2=0:=by
 unfold endCh
 rw [← wrongS_zero]
 constructor
 ·intro h
  split at h
  ·split at h
   ·cases h
   ·split at h
    ·exact ⟨by assumption,by omega,by assumption,h⟩
    ·cases h
  ·exact absurd h ‹_›
 ·rintro ⟨a,b,c,d⟩
  rw [if_pos a,if_neg (by omega),if_pos c]; exact d
theorem endCh_fst {s:StateD} {i want:Int} (h:(endCh s i want).2.2=0):endCh s i want=(chAt s i,cnAt s (chAt s i).cn,0):=by
 obtain ⟨a,b,c,d⟩:=endCh_zero.1 h
 unfold endCh
 rw [if_pos (wrongS_zero.2 a),if_neg (by omega),if_pos c,overCh_fst d]
theorem chAt_mem {s:StateD} {i:Int} (h:0≤i∧i < (s.chs.length:Int)):chAt s i=s.chs[i.toNat]'(by omega)∧chAt s i∈s.chs:=by
 have e:chAt s i=s.chs[i.toNat]'(by omega):=by
  unfold chAt
  rw [List.getD_eq_getElem?_getD,List.getElem?_eq_getElem (by omega)]; rfl
 exact ⟨e,by rw [e]; exact List.getElem_mem _⟩
end Go.Proofs.YtmclpbcipkdmcaaGreatDoor
