/- packet.pending, Ack, Timeout: by value. -/
import Derived.Test.YtmclpbcipkdmcaaGreatDoorPkB
set_option linter.all false
namespace Go.Proofs.YtmclpbcipkdmcaaGreatDoor
open Go Go.Abs Go.RowKit Go.Proofs.YtmclpbcipkdmcaaGreatDoor.Ty
set_option maxHeartbeats 16000000
set_option maxRecDepth 20000
theorem pend_A (s:StateD) (hs:StSm s) (p:PackD) (hd:p.data.length≤1048576) :
  PureD Tryz.prog 112 [.rp (encSt s) 0,.rp (encPk p) 0] (.tup [chanD (pendCh s p),connD (pendCn s p),intD (pendE s p)]):=by
 refine hide_r fun R hR=>?_
 have c1:=pkwrong_A p
 unfold pendE pendCh pendCn at hR
 by_cases h0:wrongPk p=0
 ·rw [if_pos h0,if_pos h0,if_pos h0] at hR
  rw [h0] at c1
  have hpk:=wrongPk_zero.1 h0
  have c2:=endpk_A s hs p.fr [3,4] (by simp)
  simp only [List.map_cons,List.map_nil] at c2
  by_cases h:(endPk s p.fr [3,4]).2.2=0
  ·rw [if_pos h,endPk_fst h] at hR
   rw [endPk_fst h] at c2
   simp only at hR c2
   obtain ⟨ok,hi,hst,hov⟩:=endPk_zero.1 h
   have q1:=hpk.fr
   have q2:=hpk.seq
   have n1:=ok.lsent
   have c3:=mfind_A s.sent p.fr p.seq (by omega) ok.sent (by unfold N12 at *; omega) (by unfold N12 at *; omega)
   have c4:=pkdig_A p hd
   cases hg:getM s.sent p.fr p.seq with
   | none =>
    rw [hg] at c3 hR
    simp only [Option.isSome_none] at c3
    clear hs h ok hst hov hpk h0 hg
    generalize chAt s p.fr=x at *
    generalize cnAt s x.cn=y at *
    generalize placeM s.sent p.fr p.seq=pl at *
    clear c4
    refine callD_W 88 Tryz.func112 rfl rfl rfl (fun _ _=>rfl) ?_
    exact wkl trivial
   | some m =>
    rw [hg] at c3 hR
    simp only [Option.isSome_some] at c3 hR
    obtain ⟨hp,hv⟩:=KL.place_lt cmpM_ok ok.sent.srt hg
    have s0:(s.sent.map encM)[placeM s.sent p.fr p.seq]?=some (encM m):=by rw [← hv]; exact get_lt hp
    have c5:=equal_A m.dg (digPk p)
    clear hs h ok hst hov hpk h0 hg hv
    generalize chAt s p.fr=x at *
    generalize cnAt s x.cn=y at *
    have hp':placeM s.sent p.fr p.seq < s.sent.length:=hp
    clear hp
    generalize placeM s.sent p.fr p.seq=pl at *
    generalize digPk p=G at *
    by_cases hdd:m.dg=G
    ·rw [decide_eq_true hdd] at c5
     rw [if_pos hdd] at hR
     clear hdd
     refine callD_W 88 Tryz.func112 rfl rfl rfl (fun _ _=>rfl) ?_
     exact wkl trivial
    ·rw [decide_eq_false hdd] at c5
     rw [if_neg hdd] at hR
     clear hdd
     refine callD_W 88 Tryz.func112 rfl rfl rfl (fun _ _=>rfl) ?_
     exact wkl trivial
  ·rw [if_neg h] at hR
   generalize endPk s p.fr [3,4]=W at *
   clear hs hpk
   refine callD_W 88 Tryz.func112 rfl rfl rfl (fun _ _=>rfl) ?_
   exact wkl trivial
 ·rw [if_neg h0,if_neg h0,if_neg h0] at hR
  generalize wrongPk p=W at *
  clear hs
  refine callD_W 88 Tryz.func112 rfl rfl rfl (fun _ _=>rfl) ?_
  exact wkl trivial
theorem pend_zero {s:StateD} {p:PackD} (h:PendOk s p):pendCh s p=chAt s p.fr∧pendCn s p=cnAt s (chAt s p.fr).cn:=by
 unfold pendCh pendCn
 rw [if_pos (wrongPk_zero.2 h.pk),if_pos (wrongPk_zero.2 h.pk),endPk_fst h.en]
 exact ⟨rfl,rfl⟩
theorem mdrop_D (l:List MarkD) (ch seq:Int) (hl:l.length≤1000) (hk:MksOk l) (h1:N12 0 ch) (h2:N12 1 seq) {u:MarkD} (hg:getM l ch seq=some u) :
  CallD Tryz.prog 113 [.os 0 3 0 l.length,intD ch,intD seq] (hF [(0,.arr 3 (l.map encM))]) (.os 1 3 0 (dropM l ch seq).length) (hOf (hF [(0,.arr 3 (l.map encM))]) [(1,.arr 3 ((dropM l ch seq).map encM))]):=by
 refine hide_c fun R R' hR hR'=>?_
 have c1:=mfind_A l ch seq (by omega) hk (by unfold N12 at *; omega) (by unfold N12 at *; omega)
 rw [hg] at c1
 obtain ⟨hp,hv⟩:=KL.place_lt cmpM_ok hk.srt hg
 have hp':placeM l ch seq < l.length:=hp
 have e2:=delete_Mk (l.map encM) (placeM l ch seq) (by simpa using hp) (by simp; omega) (uM l)
 have he:(l.map encM).take (placeM l ch seq)++(l.map encM).drop (placeM l ch seq+1)=(dropM l ch seq).map encM:=by
  unfold dropM; rw [KL.put_del cmpM_ok hk.srt hg]; simp
 have hlen:(dropM l ch seq).length=l.length - 1:=by
  unfold dropM; rw [KL.put_del cmpM_ok hk.srt hg]
  simp; omega
 rw [he,List.length_map,← hlen] at e2
 simp only [Option.isSome_some] at c1
 have d1:SrcIs [] [(1,901)]:=⟨trivial⟩
 have w1:IntKind.i64.wrap ((placeM l ch seq:Int)+1)=((placeM l ch seq+1:Nat):Int):=by rw [wrap64 (by omega) (by omega)]; omega
 clear he hk hg hv hp
 generalize placeM l ch seq=p at *
 generalize dropM l ch seq=L at *
 clear hlen
 simp only [intD] at e2
 obtain ⟨rfl⟩:=hR
 obtain ⟨rfl⟩:=hR'
 refine callD_W 23 Tryz.func113 rfl rfl rfl (fun o ho=>by simp [hF,lk,show o≠0 by omega,show o≠1 by omega,show o≠2 by omega,show o≠3 by omega,show o≠4 by omega,show o≠5 by omega]) ?_
 exact wkl trivial
theorem ackpk_A (s:StateD) (hs:StSm s) (p:PackD) (hd:p.data.length≤1048576) (ack:List UInt8) (ha:ack.length≤1048576) (w:ShownD) :
  PureD Tryz.prog 41 [stateD s,packD p,.i (bI ack),shD w] (.tup [stateD (ackPk s p ack w).1,intD (ackPk s p ack w).2]):=by
 refine hide_r fun R hR=>?_
 have c1:=pend_A s hs p hd
 unfold ackPk at hR
 by_cases h:pendE s p=0
 ·rw [if_pos h] at hR
  have hp:=pendE_zero.1 h
  rw [h,(pend_zero hp).1,(pend_zero hp).2] at c1
  obtain ⟨ok,hi,hst,hov⟩:=endPk_zero.1 hp.en
  obtain ⟨hj,h4,h5,h6,h7⟩:=overCh_zero.1 hov
  have hch:=ok.chs _ (chAt_mem hi).2
  have hcn:=ok.cns _ (cnAt_mem hj).2
  have q1:=hp.pk.de
  have q2:=hp.pk.seq
  have q3:=hp.pk.fr
  have n1:=ok.lsent
  have hcl:0≤(cnAt s (chAt s p.fr).cn).cl∧(cnAt s (chAt s p.fr).cn).cl < (s.cls.length:Int):=⟨hcn.cl.1,h6⟩
  have hm:=clAt_mem hcl
  have hkl:=(ok.cls _ hm.2).len
  have s0:=get_lt (f:=encC) (l:=s.cls) (i:=(cnAt s (chAt s p.fr).cn).cl.toNat) (by omega)
  rw [← hm.1] at s0
  unfold clOf at hR
  have c4:=mkey_A wAck p.de p.seq (by decide) (by unfold N12 Num6 at *; omega) (by unfold N12 Num6 at *; omega)
  have c6:=cmember_A (clAt s (cnAt s (chAt s p.fr).cn).cl) s.t w.h (keyM wAck p.de p.seq) (sha ack) w.p (by omega)
  have c7:=sum_D ack (by omega)
  have e1:=sown_D s ok.sm
  have e2:=mdrop_D s.sent p.fr p.seq (by omega) ok.sent q3 q2 hp.there
  unfold dropS dropU at hR
  have hi':p.fr.toNat < s.chs.length:=by omega
  have s2:=get_lt (f:=encCh) hi'
  have hrc:=hch.ack
  have w2:IntKind.i64.wrap ((chAt s p.fr).ack+1)=(chAt s p.fr).ack+1:=by unfold N12 at hrc; rw [wrap64 (by omega) (by omega)]
  have s3:(s.chs.map encCh).set p.fr.toNat (encCh { chAt s p.fr with ack:=(chAt s p.fr).ack+1 })=(s.chs.set p.fr.toNat { chAt s p.fr with ack:=(chAt s p.fr).ack+1 }).map encCh:=List.map_set.symm
  have s4:s.chs.length=(s.chs.set p.fr.toNat { chAt s p.fr with ack:=(chAt s p.fr).ack+1 }).length:=by simp
  rw [← (chAt_mem hi).1] at s2
  clear hs h ok hst hov hj h4 h5 h7 hch hcn hm hrc hp
  generalize s.chs.set p.fr.toNat { chAt s p.fr with ack:=(chAt s p.fr).ack+1 }=L at *
  generalize memberE (clAt s (cnAt s (chAt s p.fr).cn).cl) s.t w.h (keyM wAck p.de p.seq) (sha ack) w.p=E at *
  generalize keyM wAck p.de p.seq=K at *
  generalize sha ack=G2 at *
  generalize chAt s p.fr=x at *
  generalize cnAt s x.cn=y at *
  generalize clAt s y.cl=z at *
  generalize dropM s.sent p.fr p.seq=M at *
  simp only [encCh] at s3
  simp only [intD] at e2
  simp only [wAck] at c4
  obtain ⟨fr,de,seq,data,tout⟩:=p
  simp only at *
  cases ho:x.ord
  ·simp only [ho,Bool.false_eq_true,false_and,if_false] at hR
   clear s2 s3 s4 w2
   refine callD_W 93 Tryz.func41 rfl rfl rfl (fun _ _=>rfl) ?_
   exact wkl trivial
  ·simp only [ho,true_and,if_true] at hR
   simp only [ho] at s3
   by_cases hq:seq=x.ack
   ·subst hq
    simp only [not_true_eq_false,if_false] at hR
    refine callD_W 93 Tryz.func41 rfl rfl rfl (fun _ _=>rfl) ?_
    exact wkl trivial
   ·simp only [hq,not_false_eq_true,if_true] at hR
    clear e1 e2
    refine callD_W 93 Tryz.func41 rfl rfl rfl (fun _ _=>rfl) ?_
    exact wkl trivial
 ·rw [if_neg h] at hR
  generalize pendE s p=W at *
  generalize pendCh s p=x at *
  generalize pendCn s p=y at *
  clear hs
  refine callD_W 93 Tryz.func41 rfl rfl rfl (fun _ _=>rfl) ?_
  exact wkl trivial
theorem latepk_A (s:StateD) (hs:StSm s) (p:PackD) (hd:p.data.length≤1048576) (next:Int) (w:ShownD) :
  PureD Tryz.prog 43 [stateD s,packD p,intD next,shD w] (.tup [stateD (latePk s p next w).1,intD (latePk s p next w).2]):=by
 refine hide_r fun R hR=>?_
 have c1:=pend_A s hs p hd
 unfold latePk at hR
 by_cases h:pendE s p=0
 ·rw [if_pos h] at hR
  have hp:=pendE_zero.1 h
  rw [h,(pend_zero hp).1,(pend_zero hp).2] at c1
  obtain ⟨ok,hi,hst,hov⟩:=endPk_zero.1 hp.en
  obtain ⟨hj,h4,h5,h6,h7⟩:=overCh_zero.1 hov
  have hcn:=ok.cns _ (cnAt_mem hj).2
  have q1:=hp.pk.de
  have q2:=hp.pk.seq
  have q3:=hp.pk.fr
  have n1:=ok.lsent
  have hcl:0≤(cnAt s (chAt s p.fr).cn).cl∧(cnAt s (chAt s p.fr).cn).cl < (s.cls.length:Int):=⟨hcn.cl.1,h6⟩
  have hm:=clAt_mem hcl
  have hkl:=(ok.cls _ hm.2).len
  have s0:=get_lt (f:=encC) (l:=s.cls) (i:=(cnAt s (chAt s p.fr).cn).cl.toNat) (by omega)
  rw [← hm.1] at s0
  unfold clOf at hR
  have c2:=nkey_A p.de (by unfold N12 Num6 at *; omega)
  have c3:=nextb_A next
  have c4:=mkey_A wGot p.de p.seq (by decide) (by unfold N12 Num6 at *; omega) (by unfold N12 Num6 at *; omega)
  have c5:=cmember_A (clAt s (cnAt s (chAt s p.fr).cn).cl) s.t w.h (keyN p.de) (valN next) w.p (by omega)
  have c6:=cmissing_A (clAt s (cnAt s (chAt s p.fr).cn).cl) s.t w.h (keyM wGot p.de p.seq) w.g (by omega)
  have e1:=sown_D s ok.sm
  have e2:=mdrop_D s.sent p.fr p.seq (by omega) ok.sent q3 q2 hp.there
  unfold dropS dropU at hR
  have hi':p.fr.toNat < s.chs.length:=by omega
  have s2:=get_lt (f:=encCh) hi'
  have s3:(s.chs.map encCh).set p.fr.toNat (encCh { chAt s p.fr with st:=4 })=(s.chs.set p.fr.toNat { chAt s p.fr with st:=4 }).map encCh:=List.map_set.symm
  have s4:s.chs.length=(s.chs.set p.fr.toNat { chAt s p.fr with st:=4 }).length:=by simp
  rw [← (chAt_mem hi).1] at s2
  clear hs h ok hst hov hj h4 h5 h7 hcn hm hp
  generalize s.chs.set p.fr.toNat { chAt s p.fr with st:=4 }=L at *
  generalize memberE (clAt s (cnAt s (chAt s p.fr).cn).cl) s.t w.h (keyN p.de) (valN next) w.p=E at *
  generalize missingE (clAt s (cnAt s (chAt s p.fr).cn).cl) s.t w.h (keyM wGot p.de p.seq) w.g=E2 at *
  generalize keyM wGot p.de p.seq=K at *
  generalize keyN p.de=K2 at *
  generalize valN next=V at *
  generalize chAt s p.fr=x at *
  generalize cnAt s x.cn=y at *
  generalize clAt s y.cl=z at *
  generalize dropM s.sent p.fr p.seq=M at *
  simp only [encCh] at s3
  simp only [intD] at e2
  simp only [wGot] at c4
  cases ho:x.ord
  ·simp only [ho,Bool.false_eq_true,if_false] at hR
   clear s2 s3 s4 c2 c3 c5
   refine callD_W 96 Tryz.func43 rfl rfl rfl (fun _ _=>rfl) ?_
   exact wkl trivial
  ·simp only [ho,if_true] at hR
   simp only [ho] at s3
   clear c4 c6
   refine callD_W 96 Tryz.func43 rfl rfl rfl (fun _ _=>rfl) ?_
   exact wkl trivial
 ·rw [if_neg h] at hR
  generalize pendE s p=W at *
  generalize pendCh s p=x at *
  generalize pendCn s p=y at *
  clear hs
  refine callD_W 96 Tryz.func43 rfl rfl rfl (fun _ _=>rfl) ?_
  exact wkl trivial
end Go.Proofs.YtmclpbcipkdmcaaGreatDoor
