/- packet.Recv: by value. -/
import Derived.Test.YtmclpbcipkdmcaaGreatDoorPkB
set_option linter.all false
namespace Go.Proofs.YtmclpbcipkdmcaaGreatDoor
open Go Go.Abs Go.RowKit Go.Proofs.YtmclpbcipkdmcaaGreatDoor.Ty
set_option maxHeartbeats 16000000
set_option maxRecDepth 20000
theorem recvpk_A (s:StateD) (hs:StSm s) (p:PackD) (hd:p.data.length≤1048576) (ack:List UInt8) (ha:ack.length≤1048576) (w:ShownD) :
  PureD Tryz.prog 39 [stateD s,packD p,.i (bI ack),shD w] (.tup [stateD (recvPk s p ack w).1,intD (recvPk s p ack w).2]):=by
 refine hide_r fun R hR=>?_
 have c1:=pkwrong_A p
 unfold recvPk at hR
 by_cases h0:wrongPk p=0
 ·rw [if_pos h0] at hR
  rw [h0] at c1
  have hpk:=wrongPk_zero.1 h0
  have c2:=endpk_A s hs p.de [3] (by simp)
  simp only [List.map_cons,List.map_nil] at c2
  by_cases h:(endPk s p.de [3]).2.2=0
  ·rw [if_pos h] at hR
   rw [endPk_fst h] at c2
   obtain ⟨ok,hi,hst,hov⟩:=endPk_zero.1 h
   obtain ⟨hj,h4,h5,h6,h7⟩:=overCh_zero.1 hov
   have hch:=ok.chs _ (chAt_mem hi).2
   have hcn:=ok.cns _ (cnAt_mem hj).2
   have q1:=hpk.de
   have q2:=hpk.seq
   have q3:=hpk.fr
   have n1:=ok.lgot
   have n2:=ok.lacks
   have c3:=mfind_A s.got p.de p.seq (by omega) ok.got (by unfold N12 at *; omega) (by unfold N12 at *; omega)
   have hcl:0≤(cnAt s (chAt s p.de).cn).cl∧(cnAt s (chAt s p.de).cn).cl < (s.cls.length:Int):=⟨hcn.cl.1,h6⟩
   have hm:=clAt_mem hcl
   have hcok:=ok.cls _ hm.2
   have hkl:=hcok.len
   have s0:=get_lt (f:=encC) (l:=s.cls) (i:=(cnAt s (chAt s p.de).cn).cl.toNat) (by omega)
   rw [← hm.1] at s0
   unfold clOf at hR
   have c4:=mkey_A wSent p.fr p.seq (by decide) (by unfold N12 Num6 at *; omega) (by unfold N12 Num6 at *; omega)
   have c5:=pkdig_A p hd
   have c6:=cmember_A (clAt s (cnAt s (chAt s p.de).cn).cl) s.t w.h (keyM wSent p.fr p.seq) (digPk p) w.p (by omega)
   have c7:=sum_D ack (by omega)
   have e1:=sown_D s ok.sm
   have e2:=mput_D s.acks ⟨p.de,p.seq,sha ack⟩ (by omega) ok.acks ⟨q1,q2,sha_length _⟩
   have e3:=mput_D s.got ⟨p.de,p.seq,digPk p⟩ (by omega) ok.got ⟨q1,q2,dig_len _⟩
   unfold recvS at hR
   have hi':p.de.toNat < s.chs.length:=by omega
   have s2:=get_lt (f:=encCh) hi'
   have hrc:=hch.rcv
   have w2:IntKind.i64.wrap ((chAt s p.de).rcv+1)=(chAt s p.de).rcv+1:=by unfold N12 at hrc; rw [wrap64 (by omega) (by omega)]
   have s3:(s.chs.map encCh).set p.de.toNat (encCh { chAt s p.de with rcv:=(chAt s p.de).rcv+1 })=(s.chs.set p.de.toNat { chAt s p.de with rcv:=(chAt s p.de).rcv+1 }).map encCh:=List.map_set.symm
   have s4:s.chs.length=(s.chs.set p.de.toNat { chAt s p.de with rcv:=(chAt s p.de).rcv+1 }).length:=by simp
   rw [← (chAt_mem hi).1] at s2
   clear hs h ok hst hov hj h4 h5 h7 hch hcn hm hcok hrc hpk h0
   generalize s.chs.set p.de.toNat { chAt s p.de with rcv:=(chAt s p.de).rcv+1 }=L at *
   generalize memberE (clAt s (cnAt s (chAt s p.de).cn).cl) s.t w.h (keyM wSent p.fr p.seq) (digPk p) w.p=E at *
   generalize keyM wSent p.fr p.seq=K at *
   generalize digPk p=G at *
   generalize sha ack=G2 at *
   generalize chAt s p.de=x at *
   generalize cnAt s x.cn=y at *
   generalize clAt s y.cl=z at *
   generalize placeM s.got p.de p.seq=pl at *
   generalize (getM s.got p.de p.seq).isSome=had at *
   generalize putM s.got ⟨p.de,p.seq,G⟩=M at *
   generalize putM s.acks ⟨p.de,p.seq,G2⟩=M2 at *
   simp only [encCh] at s3
   simp only [markD,bI] at e2 e3
   simp only [wSent] at c4
   cases ho:x.ord
   ·simp only [ho,Bool.false_eq_true,false_and,true_and,false_or,if_false] at hR
    clear s2 s3 s4 w2
    refine callD_W 162 Tryz.func39 rfl rfl rfl (fun _ _=>rfl) ?_
    exact wkl trivial
   ·simp only [ho,Bool.true_eq_false,false_and,true_and,or_false,if_true] at hR
    clear e3
    simp only [ho] at s3
    obtain ⟨fr,de,seq,data,tout⟩:=p
    simp only at *
    by_cases hq:seq=x.rcv
    ·subst hq
     simp only [not_true_eq_false,if_false] at hR
     by_cases hf:x.oc=fr
     ·subst hf
      simp only [if_true] at hR
      refine callD_W 162 Tryz.func39 rfl rfl rfl (fun _ _=>rfl) ?_
      exact wkl trivial
     ·simp only [hf,if_false] at hR
      clear e1 e2
      refine callD_W 162 Tryz.func39 rfl rfl rfl (fun _ _=>rfl) ?_
      exact wkl trivial
    ·simp only [hq,not_false_eq_true,if_true] at hR
     clear e1 e2
     refine callD_W 162 Tryz.func39 rfl rfl rfl (fun _ _=>rfl) ?_
     exact wkl trivial
  ·rw [if_neg h] at hR
   generalize endPk s p.de [3]=W at *
   clear hs hpk
   refine callD_W 162 Tryz.func39 rfl rfl rfl (fun _ _=>rfl) ?_
   exact wkl trivial
 ·rw [if_neg h0] at hR
  generalize wrongPk p=W at *
  clear hs
  refine callD_W 162 Tryz.func39 rfl rfl rfl (fun _ _=>rfl) ?_
  exact wkl trivial
end Go.Proofs.YtmclpbcipkdmcaaGreatDoor
