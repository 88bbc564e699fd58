/- Chapter 14, plain: what a message leaves of what channels have received. No program is in sight. -/
import Derived.Test.YtfenipelcpmkpaaGreatDoorLaw14P
set_option linter.all false
namespace Go.Proofs.YtfenipelcpmkpaaGreatDoor
open Go Go.Abs
structure aaP (s:StateD) (m:MsgD) (t:StateD):Prop where
 len:s.chs.length<=t.chs.length
 old:∀ i:Nat,i < s.chs.length->(chAt t i).ord=(chAt s i).ord/\((chAt s i).ord=true->(chAt t i).rcv=(chAt s i).rcv+(if m.kind=15/\m.pk.de=i then 1 else 0))
 new:∀ i:Nat,s.chs.length<=i->i < t.chs.length->(chAt t i).rcv=1
 arr:m.kind=15->(0<=m.pk.de/\m.pk.de < (s.chs.length:Int))/\((chAt s m.pk.de).ord=true->m.pk.seq=(chAt s m.pk.de).rcv)/\N12 1 m.pk.seq
theorem jq (s:StateD) (i:Nat):chAt s (i:Int)=s.chs.getD i zeroCh:=rfl
theorem Nz {s:StateD} {c:ChanD} (h:(nL s c).2.2=0):(nL s c).1.chs=s.chs++[{ c with snd:=1,rcv:=1,ack:=1 }]:=by
 unfold nL at h ⊢
 split at h
 ·cases h
 ·rename_i k; rw [if_neg k]
theorem Qa {s:StateD} {i:Int} {o:Bool} (h:(jL s i o).2.2=0):(jL s i o).1.chs=s.chs++[⟨1,o,i,-1,1,1,1⟩]:=by
 unfold jL at h ⊢
 split at h
 ·rename_i k; rw [if_pos k]
  split at h
  ·rename_i k; rw [if_pos k]; exact Nz h
  ·exact absurd h ‹_›
 ·exact absurd h ‹_›
theorem Td {s:StateD} {i other:Int} {o:Bool} {w:bz} (h:(o_ s i o other w).2.2=0):(o_ s i o other w).1.chs=s.chs++[⟨2,o,i,other,1,1,1⟩]:=by
 unfold o_ at h ⊢
 split at h
 ·rename_i k; rw [if_pos k]
  split at h
  ·rename_i k; rw [if_pos k]
   split at h
   ·cases h
   ·rename_i k; rw [if_neg k]
    split at h
    ·rename_i k; rw [if_pos k]; exact Nz h
    ·exact absurd h ‹_›
  ·exact absurd h ‹_›
 ·exact absurd h ‹_›
theorem ackh_one {s:StateD} {i other:Int} {w:bz} (h:(ackCh s i other w).2=0):(endCh s i 1).2.2=0/\(ackCh s i other w).1=nowCh s i 3 other:=by
 unfold ackCh at h ⊢
 split at h
 ·rename_i k; rw [if_pos k]
  refine ⟨k,?_⟩
  split at h
  ·cases h
  ·rename_i k; rw [if_neg k]
   split at h
   ·rename_i k; rw [if_pos k]
   ·exact absurd h ‹_›
 ·exact absurd h ‹_›
theorem conf_one {want say:Int} {s:StateD} {i:Int} {w:bz} (h:(confCh want say s i w).2=0):(endCh s i want).2.2=0/\(confCh want say s i w).1=nowCh s i say (chAt s i).oc:=by
 unfold confCh at h ⊢
 split at h
 ·rename_i k; rw [if_pos k]
  refine ⟨k,?_⟩
  split at h
  ·cases h
  ·rename_i k; rw [if_neg k]
   split at h
   ·rename_i k; rw [if_pos k]
   ·exact absurd h ‹_›
 ·exact absurd h ‹_›
theorem clos_one {s:StateD} {i:Int} (h:(closeCh s i).2=0):(endCh s i 3).2.2=0/\(closeCh s i).1=nowCh s i 4 (chAt s i).oc:=by
 unfold closeCh at h ⊢
 split at h
 ·rename_i k; rw [if_pos k]; exact ⟨k,rfl⟩
 ·exact absurd h ‹_›
theorem ackPk_ch {s:StateD} {p:dO} {ack:List UInt8} {w:bz} (h:(jO s p ack w).2=0):oL s p/\((jO s p ack w).1.chs=s.chs\/(jO s p ack w).1.chs=s.chs.set p.fr.toNat { chAt s p.fr with ack:=(chAt s p.fr).ack+1 }):=by
 refine ⟨(ackPk_zero h).1,?_⟩
 unfold jO at h ⊢
 split at h
 ·rename_i k; rw [if_pos k]
  split at h
  ·cases h
  ·rename_i k; rw [if_neg k]
   split at h
   ·cases h
   ·rename_i k; rw [if_neg k]
    split at h
    ·cases h
    ·rename_i k; rw [if_neg k]
     split at h
     ·rename_i k; rw [if_pos k]
      split
      ·exact .inr rfl
      ·exact .inl rfl
     ·exact absurd h ‹_›
 ·exact absurd h ‹_›
theorem latePk_ch {s:StateD} {p:dO} {next:Int} {w:bz} (h:(fU s p next w).2=0):oL s p/\((fU s p next w).1.chs=s.chs\/(fU s p next w).1.chs=s.chs.set p.fr.toNat { chAt s p.fr with st:=4 }):=by
 refine ⟨(latePk_zero h).1,?_⟩
 unfold fU at h ⊢
 split at h
 ·rename_i k; rw [if_pos k]
  split at h
  ·cases h
  ·rename_i k; rw [if_neg k]
   split at h
   ·rename_i k; rw [if_pos k]
    split at h
    ·cases h
    ·rename_i k; rw [if_neg k]
     split at h
     ·rename_i k; rw [if_pos k]; exact .inr rfl
     ·exact absurd h ‹_›
   ·rename_i k; rw [if_neg k]
    split at h
    ·rename_i k; rw [if_pos k]; exact .inl rfl
    ·exact absurd h ‹_›
 ·exact absurd h ‹_›
theorem setA_chs {s:StateD} {m:MsgD} (h:(Hf s m).2=0):(if m.kind=16 then jO s m.pk m.ack m.sh else fU s m.pk m.next m.sh).2=0/\(Hf s m).1.chs=(if m.kind=16 then jO s m.pk m.ack m.sh else fU s m.pk m.next m.sh).1.chs:=by
 unfold Hf at h ⊢
 simp only at h ⊢
 generalize (if m.kind=16 then jO s m.pk m.ack m.sh else fU s m.pk m.next m.sh)=r at *
 generalize (if m.kind=16 then decide (m.ack=[48]) else true)=bk at *
 by_cases k:r.2=0
 ·rw [if_pos k] at h ⊢
  refine ⟨k,?_⟩
  by_cases k2:(bD m.pk.data).2=0/\bk=true
  ·rw [if_pos k2] at h ⊢
   by_cases k3:(kM r.1.pus m.pk.fr (bD m.pk.data).1).2=0
   ·rw [if_pos k3]
   ·rw [if_neg k3] at h; simp only at h; omega
  ·rw [if_neg k2]
 ·rw [if_neg k] at h; exact absurd h k
end Go.Proofs.YtfenipelcpmkpaaGreatDoor
