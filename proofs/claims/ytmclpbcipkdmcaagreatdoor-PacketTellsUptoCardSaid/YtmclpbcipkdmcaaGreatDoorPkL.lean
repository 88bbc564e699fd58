/- Packets: what a step that is done leaves. No program is in sight. -/
import Derived.Test.YtmclpbcipkdmcaaGreatDoorPkP
import Derived.Test.YtmclpbcipkdmcaaGreatDoorGSha
set_option linter.all false
namespace Go.Proofs.YtmclpbcipkdmcaaGreatDoor
open Go Go.Abs
structure ListOk (l:List MarkD):Prop where
 ok:MksOk l
 len:l.length≤50
theorem StOk.pk {s:StateD} (h:StOk s) {x:List ChanD} {a b c:List MarkD} (hl:x.length=s.chs.length) (hx:∀ c∈x,ChOk c) (h1:ListOk a) (h2:ListOk b) (h3:ListOk c):StOk { s with chs:=x,sent:=a,got:=b,acks:=c } :=
 ⟨h.name,h.h,h.t,h.lcl,h.lcn,by have:=h.lch; simp only; omega,h1.len,h2.len,h3.len,h.lpus,h.cls,h.cns,hx,h1.ok,h2.ok,h3.ok,h.pus⟩
theorem StOk.l1 {s:StateD} (h:StOk s):ListOk s.sent:=⟨h.sent,h.lsent⟩
theorem StOk.l2 {s:StateD} (h:StOk s):ListOk s.got:=⟨h.got,h.lgot⟩
theorem StOk.l3 {s:StateD} (h:StOk s):ListOk s.acks:=⟨h.acks,h.lacks⟩
theorem put_list {l:List MarkD} (h:ListOk l) (hl:¬ l.length=50) {m:MarkD} (hm:MkOk m):ListOk (putM l m):=by
 refine ⟨⟨fun x hx=>?_,KL.srt_put cmpM_ok h.ok.srt (fun x hx=>by cases hx; rfl)⟩,?_⟩
 ·rcases (KL.mem_put cmpM_ok).1 hx with hx | hx
  ·exact h.ok.all x hx.1
  ·cases hx; exact hm
 ·rw [putM_len h.ok]
  have:=h.len
  split <;> omega
theorem dropM_len {l:List MarkD} (h:MksOk l) (ch seq:Int):(dropM l ch seq).length≤l.length:=by
 unfold dropM
 cases hg:getM l ch seq with
 | none=>rw [KL.put_none cmpM_ok h.srt hg]; exact Nat.le_refl _
 | some u=>rw [KL.put_del cmpM_ok h.srt hg]; simp; omega
theorem drop_list {l:List MarkD} (h:ListOk l) (ch seq:Int):ListOk (dropM l ch seq):=by
 refine ⟨⟨fun x hx=>?_,KL.srt_put cmpM_ok h.ok.srt (fun x hx=>by cases hx)⟩,?_⟩
 ·rcases (KL.mem_put cmpM_ok).1 hx with hx | hx
  ·exact h.ok.all x hx.1
  ·cases hx
 ·have:=dropM_len h.ok ch seq
  have:=h.len
  omega
theorem set_chs {s:StateD} (ok:StOk s) {i:Int} {c:ChanD} (hc:ChOk c):∀ x∈s.chs.set i.toNat c,ChOk x:=fun x hx=>by
 rcases List.mem_or_eq_of_mem_set hx with hx | rfl
 ·exact ok.chs x hx
 ·exact hc
theorem get_putM {l:List MarkD} (h:MksOk l) (m:MarkD) (ch seq:Int):getM (putM l m) ch seq=if ch=m.ch∧seq=m.seq then some m else getM l ch seq:=by
 unfold getM putM
 have:=KL.get_put (κ:=mk) cmpM_ok h.srt (k:=(m.ch,m.seq)) (v:=some m) (fun x hx=>by cases hx; rfl) (ch,seq)
 rw [this]
 by_cases e:ch=m.ch∧seq=m.seq
 ·rw [if_pos e,if_pos (by rw [e.1,e.2])]
 ·rw [if_neg e,if_neg (fun hh=>e (by simp only [Prod.mk.injEq] at hh; exact hh))]
theorem get_dropM {l:List MarkD} (h:MksOk l) (ch' seq' ch seq:Int):getM (dropM l ch' seq') ch seq=if ch=ch'∧seq=seq' then none else getM l ch seq:=by
 unfold getM dropM
 have:=KL.get_put (κ:=mk) cmpM_ok h.srt (k:=(ch',seq')) (v:=none) (fun x hx=>by cases hx) (ch,seq)
 rw [this]
 by_cases e:ch=ch'∧seq=seq'
 ·rw [if_pos e,if_pos (by rw [e.1,e.2])]
 ·rw [if_neg e,if_neg (fun hh=>e (by simp only [Prod.mk.injEq] at hh; exact hh))]
structure PkStep (s:StateD) (own:Int) (t:StateD):Prop where
 ok:StOk t
 same:{ t with chs:=s.chs,sent:=s.sent,got:=s.got,acks:=s.acks }=s
 len:t.chs.length=s.chs.length
 chs:∀ i (h:i < s.chs.length) (h':i < t.chs.length),¬ (i:Int)=own→t.chs[i]=s.chs[i]
 sent:∀ m∈s.sent,¬ m.ch=own→getM t.sent m.ch m.seq=some m
 got:∀ m∈s.got,¬ m.ch=own→getM t.got m.ch m.seq=some m
 acks:∀ m∈s.acks,¬ m.ch=own→getM t.acks m.ch m.seq=some m
theorem get_self {l:List MarkD} (h:MksOk l) {m:MarkD} (hm:m∈l):getM l m.ch m.seq=some m:=(KL.get_iff cmpM_ok h.srt).2 ⟨hm,rfl⟩
theorem keep_put {l:List MarkD} (h:MksOk l) {x m:MarkD} (hm:m∈l) (hne:¬ m.ch=x.ch):getM (putM l x) m.ch m.seq=some m:=by
 rw [get_putM h,if_neg (fun e=>hne e.1)]; exact get_self h hm
theorem keep_drop {l:List MarkD} (h:MksOk l) {ch seq:Int} {m:MarkD} (hm:m∈l) (hne:¬ m.ch=ch):getM (dropM l ch seq) m.ch m.seq=some m:=by
 rw [get_dropM h,if_neg (fun e=>hne e.1)]; exact get_self h hm
theorem set_keep {l:List ChanD} {own:Int} (h0:0≤own) {c:ChanD} (i:Nat) (h:i < l.length) (h':i < (l.set own.toNat c).length) (hne:¬ (i:Int)=own):(l.set own.toNat c)[i]=l[i]:=by
 rw [List.getElem_set_ne]; omega
theorem endPk_ok {s:StateD} {i:Int} {ws:List Int} (h:(endPk s i ws).2.2=0):StOk s∧(0≤i∧i < (s.chs.length:Int))∧ChOk (chAt s i):=by
 obtain ⟨a,b,_,_⟩:=endPk_zero.1 h
 exact ⟨a,b,a.chs _ (chAt_mem b).2⟩
theorem dig_len (p:PackD):(digPk p).length=32:=sha_length _
theorem i12 {s:StateD} (ok:StOk s) {i:Int} (h:0≤i∧i < (s.chs.length:Int)):N12 0 i:=by
 have:=ok.lch
 unfold N12; omega
structure SendOk (s:StateD) (i:Int) (data:List UInt8) (tout:Int):Prop where
 en:(endPk s i [3]).2.2=0
 pk:PkOk ⟨i,(chAt s i).oc,(chAt s i).snd,data,tout⟩
 late:(lastC (clOf s i)).h < tout
 room:¬ s.sent.length=50∧¬ (chAt s i).snd=1000000000000
theorem sendPk_zero {s:StateD} {i:Int} {data:List UInt8} {tout:Int}:(sendPk s i data tout).2.2=0↔SendOk s i data tout:=by
 unfold sendPk
 constructor
 ·intro h
  split at h
  ·split at h
   ·split at h
    ·cases h
    ·split at h
     ·cases h
     ·exact ⟨by assumption,wrongPk_zero.1 (by assumption),by omega,by omega⟩
   ·exact absurd h ‹_›
  ·exact absurd h ‹_›
 ·rintro ⟨a,b,c,d⟩
  rw [if_pos a,if_pos (wrongPk_zero.2 b),if_neg (by omega),if_neg (by omega)]
theorem sendPk_done {s:StateD} {i:Int} {data:List UInt8} {tout:Int} (h:SendOk s i data tout):sendPk s i data tout=(sendS s i ⟨i,(chAt s i).oc,(chAt s i).snd,data,tout⟩,⟨i,(chAt s i).oc,(chAt s i).snd,data,tout⟩,0):=by
 obtain ⟨a,b,c,d⟩:=h
 unfold sendPk
 rw [if_pos a,if_pos (wrongPk_zero.2 b),if_neg (by omega),if_neg (by omega)]
theorem send_step {s:StateD} {i:Int} {data:List UInt8} {tout:Int} (h:SendOk s i data tout):PkStep s i (sendS s i ⟨i,(chAt s i).oc,(chAt s i).snd,data,tout⟩):=by
 obtain ⟨ok,hi,hc⟩:=endPk_ok h.en
 have hk:MkOk ⟨i,(chAt s i).snd,digPk ⟨i,(chAt s i).oc,(chAt s i).snd,data,tout⟩⟩:=⟨i12 ok hi,hc.snd,dig_len _⟩
 refine ⟨?_,rfl,by simp [sendS],fun j h1 h2 hne=>set_keep hi.1 j h1 h2 hne,fun m hm hne=>keep_put ok.sent hm hne,fun m hm _=>get_self ok.got hm,fun m hm _=>get_self ok.acks hm⟩
 exact ok.pk (by simp) (set_chs ok ⟨hc.st,hc.cn,hc.oc,by have:=hc.snd; have:=h.room; unfold N12 at *; simp only; omega,hc.rcv,hc.ack⟩) (put_list ok.l1 h.room.1 hk) ok.l2 ok.l3
structure RecvOk (s:StateD) (p:PackD) (ack:List UInt8) (w:ShownD):Prop where
 pk:PkOk p
 en:(endPk s p.de [3]).2.2=0
 fit:(chAt s p.de).oc=p.fr
 time:s.h < p.tout
 new:¬ (((chAt s p.de).ord=true∧¬ p.seq=(chAt s p.de).rcv)∨((chAt s p.de).ord=false∧(getM s.got p.de p.seq).isSome=true))
 room:¬ s.got.length=50∧¬ s.acks.length=50∧ack.length≤150∧¬ (chAt s p.de).rcv=1000000000000
 shown:memberE (clOf s p.de) s.t w.h (keyM wSent p.fr p.seq) (digPk p) w.p=0
theorem recvPk_zero {s:StateD} {p:PackD} {ack:List UInt8} {w:ShownD}:(recvPk s p ack w).2=0↔RecvOk s p ack w:=by
 unfold recvPk
 constructor
 ·intro h
  split at h
  ·split at h
   ·split at h
    ·split at h
     ·cases h
     ·split at h
      ·cases h
      ·split at h
       ·cases h
       ·split at h
        ·exact ⟨wrongPk_zero.1 (by assumption),by assumption,by assumption,by omega,by assumption,by omega,by assumption⟩
        ·exact absurd h ‹_›
    ·cases h
   ·exact absurd h ‹_›
  ·exact absurd h ‹_›
 ·rintro ⟨a,b,c,d,e,f,g⟩
  rw [if_pos (wrongPk_zero.2 a),if_pos b,if_pos c,if_neg (by omega),if_neg e,if_neg (by omega),if_pos g]
theorem recvPk_done {s:StateD} {p:PackD} {ack:List UInt8} {w:ShownD} (h:RecvOk s p ack w):recvPk s p ack w=(recvS s p ack,0):=by
 obtain ⟨a,b,c,d,e,f,g⟩:=h
 unfold recvPk
 rw [if_pos (wrongPk_zero.2 a),if_pos b,if_pos c,if_neg (by omega),if_neg e,if_neg (by omega),if_pos g]
theorem recv_step {s:StateD} {p:PackD} {ack:List UInt8} {w:ShownD} (h:RecvOk s p ack w):PkStep s p.de (recvS s p ack):=by
 obtain ⟨ok,hi,hc⟩:=endPk_ok h.en
 have k1:MkOk ⟨p.de,p.seq,digPk p⟩:=⟨h.pk.de,h.pk.seq,dig_len _⟩
 have k2:MkOk ⟨p.de,p.seq,sha ack⟩:=⟨h.pk.de,h.pk.seq,sha_length _⟩
 unfold recvS
 split
 ·refine ⟨?_,rfl,by simp,fun j h1 h2 hne=>set_keep hi.1 j h1 h2 hne,fun m hm _=>get_self ok.sent hm,fun m hm _=>get_self ok.got hm,fun m hm hne=>keep_put ok.acks hm hne⟩
  exact ok.pk (by simp) (set_chs ok ⟨hc.st,hc.cn,hc.oc,hc.snd,by have:=hc.rcv; have:=h.room; unfold N12 at *; simp only; omega,hc.ack⟩) ok.l1 ok.l2 (put_list ok.l3 h.room.2.1 k2)
 ·refine ⟨?_,rfl,rfl,fun j h1 h2 hne=>rfl,fun m hm _=>get_self ok.sent hm,fun m hm hne=>keep_put ok.got hm hne,fun m hm hne=>keep_put ok.acks hm hne⟩
  exact ok.pk (x:=s.chs) rfl ok.chs ok.l1 (put_list ok.l2 h.room.1 k1) (put_list ok.l3 h.room.2.1 k2)
structure PendOk (s:StateD) (p:PackD):Prop where
 pk:PkOk p
 en:(endPk s p.fr [3,4]).2.2=0
 fit:(chAt s p.fr).oc=p.de
 there:getM s.sent p.fr p.seq=some ⟨p.fr,p.seq,digPk p⟩
theorem pendE_zero {s:StateD} {p:PackD}:pendE s p=0↔PendOk s p:=by
 unfold pendE
 constructor
 ·intro h
  by_cases h1:wrongPk p=0
  ·rw [if_pos h1] at h
   by_cases h2:(endPk s p.fr [3,4]).2.2=0
   ·rw [if_pos h2] at h
    by_cases h3:(chAt s p.fr).oc=p.de
    ·rw [if_pos h3] at h
     cases hm:getM s.sent p.fr p.seq with
     | none=>rw [hm] at h; cases h
     | some m =>
      rw [hm] at h
      simp only at h
      by_cases hd:m.dg=digPk p
      ·refine ⟨wrongPk_zero.1 h1,h2,h3,?_⟩
       obtain ⟨ok,_,_⟩:=endPk_ok h2
       have:=((KL.get_iff cmpM_ok ok.sent.srt).1 hm).2
       simp only [mk,Prod.mk.injEq] at this
       rw [hm]
       obtain ⟨a,b,c⟩:=m
       simp only at this hd
       rw [this.1,this.2,hd]
      ·rw [if_neg hd] at h; cases h
    ·rw [if_neg h3] at h; cases h
   ·rw [if_neg h2] at h; exact absurd h h2
  ·rw [if_neg h1] at h; exact absurd h h1
 ·rintro ⟨a,b,c,d⟩
  rw [if_pos (wrongPk_zero.2 a),if_pos b,if_pos c,d]
  simp
theorem drop_step {s:StateD} {p:PackD} (h:PendOk s p) {c:ChanD} (hc:ChOk c):PkStep s p.fr (dropS s p c):=by
 obtain ⟨ok,hi,_⟩:=endPk_ok h.en
 refine ⟨?_,rfl,by simp [dropS],fun j h1 h2 hne=>set_keep hi.1 j h1 h2 hne,fun m hm hne=>keep_drop ok.sent hm hne,fun m hm _=>get_self ok.got hm,fun m hm _=>get_self ok.acks hm⟩
 exact ok.pk (by simp) (set_chs ok hc) (drop_list ok.l1 _ _) ok.l2 ok.l3
theorem dropU_eq {s:StateD} {p:PackD} (h:PendOk s p):dropU s p=dropS s p (chAt s p.fr):=by
 obtain ⟨ok,hi,_⟩:=endPk_ok h.en
 unfold dropU dropS
 have:s.chs.set p.fr.toNat (chAt s p.fr)=s.chs:=by
  rw [(chAt_mem hi).1]
  exact List.set_getElem_self _
 rw [this]
theorem ackPk_zero {s:StateD} {p:PackD} {ack:List UInt8} {w:ShownD} (h:(ackPk s p ack w).2=0):PendOk s p∧∃ c:ChanD,ChOk c∧c.st=(chAt s p.fr).st∧c.oc=(chAt s p.fr).oc∧c.cn=(chAt s p.fr).cn∧(ackPk s p ack w).1=dropS s p c:=by
 unfold ackPk at h ⊢
 split at h
 ·rename_i h1
  rw [if_pos h1]
  have hp:=pendE_zero.1 h1
  obtain ⟨ok,hi,hc⟩:=endPk_ok hp.en
  refine ⟨hp,?_⟩
  split at h
  ·cases h
  ·rename_i h2
   rw [if_neg h2]
   split at h
   ·cases h
   ·rename_i h3
    rw [if_neg h3]
    split at h
    ·cases h
    ·rename_i h4
     rw [if_neg h4]
     split at h
     ·rename_i h5
      rw [if_pos h5]
      by_cases ho:(chAt s p.fr).ord=true
      ·rw [if_pos ho]
       refine ⟨{ chAt s p.fr with ack:=(chAt s p.fr).ack+1 },⟨hc.st,hc.cn,hc.oc,hc.snd,hc.rcv,?_⟩,rfl,rfl,rfl,rfl⟩
       have:=hc.ack
       have:¬ (chAt s p.fr).ack=1000000000000:=fun e=>h4 ⟨ho,e⟩
       unfold N12 at *; simp only; omega
      ·rw [if_neg ho]
       exact ⟨chAt s p.fr,hc,rfl,rfl,rfl,dropU_eq hp⟩
     ·exact absurd h ‹_›
 ·exact absurd h ‹_›
theorem latePk_zero {s:StateD} {p:PackD} {next:Int} {w:ShownD} (h:(latePk s p next w).2=0):PendOk s p∧∃ c:ChanD,ChOk c∧(c.st=4∨c.st=(chAt s p.fr).st)∧c.oc=(chAt s p.fr).oc∧c.cn=(chAt s p.fr).cn∧(latePk s p next w).1=dropS s p c:=by
 unfold latePk at h ⊢
 split at h
 ·rename_i h1
  rw [if_pos h1]
  have hp:=pendE_zero.1 h1
  obtain ⟨ok,hi,hc⟩:=endPk_ok hp.en
  refine ⟨hp,?_⟩
  split at h
  ·cases h
  ·rename_i h2
   rw [if_neg h2]
   split at h
   ·rename_i ho
    rw [if_pos ho]
    split at h
    ·cases h
    ·rename_i h3
     rw [if_neg h3]
     split at h
     ·rename_i h4
      rw [if_pos h4]
      exact ⟨{ chAt s p.fr with st:=4 },⟨by simp,hc.cn,hc.oc,hc.snd,hc.rcv,hc.ack⟩,.inl rfl,rfl,rfl,rfl⟩
     ·exact absurd h ‹_›
   ·rename_i ho
    rw [if_neg ho]
    split at h
    ·rename_i h4
     rw [if_pos h4]
     exact ⟨chAt s p.fr,hc,.inr rfl,rfl,rfl,dropU_eq hp⟩
    ·exact absurd h ‹_›
 ·exact absurd h ‹_›
end Go.Proofs.YtmclpbcipkdmcaaGreatDoor
