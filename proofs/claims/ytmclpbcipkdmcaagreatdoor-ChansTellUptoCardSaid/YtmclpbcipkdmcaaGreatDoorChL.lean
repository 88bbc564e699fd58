/- Channels: what a step that is done leaves. No program is in sight. -/
import Derived.Test.YtmclpbcipkdmcaaGreatDoorChP
set_option linter.all false
namespace Go.Proofs.YtmclpbcipkdmcaaGreatDoor
open Go Go.Abs
theorem StOk.ch {s:StateD} (h:StOk s) {x:List ChanD} (hl:x.length≤8) (hx:∀ c∈x,ChOk c):StOk { s with chs:=x } :=
 ⟨h.name,h.h,h.t,h.lcl,h.lcn,hl,h.lsent,h.lgot,h.lacks,h.lpus,h.cls,h.cns,hx,h.sent,h.got,h.acks,h.pus⟩
structure ChStep (s:StateD) (pos:Int) (t:StateD):Prop where
 ok:StOk t
 same:{ t with chs:=s.chs }=s
 len:s.chs.length≤t.chs.length
 keep:∀ i (h:i < s.chs.length) (h':i < t.chs.length),t.chs[i].cn=s.chs[i].cn∧t.chs[i].ord=s.chs[i].ord∧s.chs[i].st≤t.chs[i].st∧(s.chs[i].st=4∨¬ (i:Int)=pos→t.chs[i]=s.chs[i])
theorem addCh_zero {s:StateD} (ok:StOk s) {c:ChanD} (hc:ChOk { c with snd:=1,rcv:=1,ack:=1 }) (h:(addCh s c).2.2=0) (pos:Int):ChStep s pos (addCh s c).1∧(addCh s c).2.1=s.chs.length:=by
 unfold addCh at h ⊢
 have hl:=ok.lch
 split at h
 ·cases h
 ·rename_i hn
  rw [if_neg hn]
  refine ⟨⟨ok.ch (by simp; omega) (fun x hx=>?_),rfl,by simp,fun i h h'=>?_⟩,rfl⟩
  ·rcases List.mem_append.1 hx with hx | hx
   ·exact ok.chs x hx
   ·simp only [List.mem_singleton] at hx; subst hx; exact hc
  ·simp only; rw [List.getElem_append_left h]; exact ⟨rfl,rfl,Int.le_refl _,fun _=>rfl⟩
theorem cn_12 {s:StateD} (ok:StOk s) {i:Int} (h:(overCh s i).2=0):N12 0 i:=by
 have:=(overCh_zero.1 h).1
 have:=ok.lcn
 unfold N12; omega
theorem initCh_zero {s:StateD} {i:Int} {o:Bool} (h:(initCh s i o).2.2=0) (pos:Int):ChStep s pos (initCh s i o).1∧(initCh s i o).2.1=s.chs.length:=by
 unfold initCh at h ⊢
 split at h
 ·rename_i h1
  have ok:=wrongS_zero.1 h1
  rw [if_pos h1]
  split at h
  ·rename_i h2
   rw [if_pos h2]
   exact addCh_zero ok ⟨by simp,cn_12 ok h2,by unfold N12; simp,by unfold N12; simp,by unfold N12; simp,by unfold N12; simp⟩ h pos
  ·exact absurd h ‹_›
 ·exact absurd h ‹_›
theorem tryCh_zero {s:StateD} {i other:Int} {o:Bool} {w:ShownD} (h:(tryCh s i o other w).2.2=0) (pos:Int):ChStep s pos (tryCh s i o other w).1∧(tryCh s i o other w).2.1=s.chs.length:=by
 unfold tryCh at h ⊢
 split at h
 ·rename_i h1
  have ok:=wrongS_zero.1 h1
  rw [if_pos h1]
  split at h
  ·rename_i h2
   rw [if_pos h2]
   split at h
   ·cases h
   ·rename_i h3
    rw [if_neg h3]
    split at h
    ·rename_i h4
     rw [if_pos h4]
     exact addCh_zero ok ⟨by simp,cn_12 ok h2,by unfold N12; simp only; omega,by unfold N12; simp,by unfold N12; simp,by unfold N12; simp⟩ h pos
    ·exact absurd h ‹_›
  ·exact absurd h ‹_›
 ·exact absurd h ‹_›
theorem now_step {s:StateD} (ok:StOk s) {i how oc:Int} (hi:0≤i∧i < (s.chs.length:Int)) (h1:(chAt s i).st < how) (h2:how≤4) (ho:N12 (-1) oc):ChStep s i (nowCh s i how oc):=by
 have hm:=chAt_mem hi
 have hc:=ok.chs _ hm.2
 have hst:=hc.st
 refine ⟨ok.ch (by have:=ok.lch; simp; omega) (fun x hx=>?_),rfl,by simp [nowCh],fun j h h'=>?_⟩
 ·rcases List.mem_or_eq_of_mem_set hx with hx | rfl
  ·exact ok.chs x hx
  ·exact ⟨⟨by simp only; omega,h2⟩,hc.cn,ho,hc.snd,hc.rcv,hc.ack⟩
 ·simp only [nowCh]
  by_cases e:i.toNat=j
  ·subst e
   rw [List.getElem_set_self]
   rw [hm.1] at h1 ⊢
   exact ⟨rfl,rfl,by simp only; omega,fun hk=>by rcases hk with hk | hk <;> omega⟩
  ·rw [List.getElem_set_ne e]
   exact ⟨rfl,rfl,Int.le_refl _,fun _=>rfl⟩
theorem ackCh_zero {s:StateD} {i other:Int} {w:ShownD} (h:(ackCh s i other w).2=0):ChStep s i (ackCh s i other w).1:=by
 unfold ackCh at h ⊢
 split at h
 ·rename_i h1
  rw [if_pos h1]
  obtain ⟨ok,hi,hst,hov⟩:=endCh_zero.1 h1
  split at h
  ·cases h
  ·rename_i h3
   rw [if_neg h3]
   split at h
   ·rename_i h4
    rw [if_pos h4]
    exact now_step ok hi (by omega) (by omega) (by unfold N12; omega)
   ·exact absurd h ‹_›
 ·exact absurd h ‹_›
theorem confCh_zero {want say:Int} {s:StateD} {i:Int} {w:ShownD} (hw:want < say∧say≤4) (h:(confCh want say s i w).2=0):ChStep s i (confCh want say s i w).1:=by
 unfold confCh at h ⊢
 split at h
 ·rename_i h1
  rw [if_pos h1]
  obtain ⟨ok,hi,hst,hov⟩:=endCh_zero.1 h1
  split at h
  ·cases h
  ·rename_i h3
   rw [if_neg h3]
   split at h
   ·rename_i h4
    rw [if_pos h4]
    exact now_step ok hi (by omega) hw.2 (ok.chs _ (chAt_mem hi).2).oc
   ·exact absurd h ‹_›
 ·exact absurd h ‹_›
theorem closeCh_zero {s:StateD} {i:Int} (h:(closeCh s i).2=0):ChStep s i (closeCh s i).1:=by
 unfold closeCh at h ⊢
 split at h
 ·rename_i h1
  rw [if_pos h1]
  obtain ⟨ok,hi,hst,hov⟩:=endCh_zero.1 h1
  exact now_step ok hi (by omega) (by omega) (ok.chs _ (chAt_mem hi).2).oc
 ·exact absurd h ‹_›
end Go.Proofs.YtmclpbcipkdmcaaGreatDoor
