/- packet.Send: by value. -/
import Derived.Test.YtmclpbcipkdmcaaGreatDoorPkA
import Derived.Test.YtmclpbcipkdmcaaGreatDoorPkL
set_option linter.all false
namespace Go.Proofs.YtmclpbcipkdmcaaGreatDoor
open Go Go.Abs Go.RowKit Go.Proofs.YtmclpbcipkdmcaaGreatDoor.Ty
set_option maxHeartbeats 16000000
set_option maxRecDepth 20000
theorem last_get {c:ClientD} (h:1≤c.known.length):∃ hp:c.known.length - 1 < c.known.length,lastC c=c.known[c.known.length - 1] :=
 ⟨by omega,by unfold lastC; rw [List.getLastD_eq_getLast?,List.getLast?_eq_getElem?,List.getElem?_eq_getElem (by omega)]; rfl⟩
theorem sendpk_A (s:StateD) (hs:StSm s) (i:Int) (data:List UInt8) (hd:data.length≤1048576) (tout:Int) :
  PureD Tryz.prog 37 [stateD s,intD i,.i (bI data),intD tout] (.tup [stateD (sendPk s i data tout).1,packD (sendPk s i data tout).2.1,intD (sendPk s i data tout).2.2]):=by
 refine hide_r fun R hR=>?_
 have c1:=endpk_A s hs i [3] (by simp)
 simp only [List.map_cons,List.map_nil] at c1
 unfold sendPk at hR
 by_cases h:(endPk s i [3]).2.2=0
 ·rw [if_pos h] at hR
  rw [endPk_fst h] at c1
  obtain ⟨ok,hi,hst,hov⟩:=endPk_zero.1 h
  obtain ⟨hj,h4,h5,h6,h7⟩:=overCh_zero.1 hov
  have hch:=ok.chs _ (chAt_mem hi).2
  have hcn:=ok.cns _ (cnAt_mem hj).2
  have c2:=clone_A data (by omega)
  have c3:=pkwrong_A ⟨i,(chAt s i).oc,(chAt s i).snd,data,tout⟩
  by_cases h2:wrongPk ⟨i,(chAt s i).oc,(chAt s i).snd,data,tout⟩=0
  ·rw [if_pos h2] at hR
   rw [h2] at c3
   have hcl:0≤(cnAt s (chAt s i).cn).cl∧(cnAt s (chAt s i).cn).cl < (s.cls.length:Int):=⟨hcn.cl.1,h6⟩
   have hm:=clAt_mem hcl
   have hcok:=ok.cls _ hm.2
   have hkl:=hcok.len
   have s0:=get_lt (f:=encC) (l:=s.cls) (i:=(cnAt s (chAt s i).cn).cl.toNat) (by omega)
   rw [← hm.1] at s0
   obtain ⟨hlp,hlast⟩:=last_get hkl.1
   have s1:=get_lt (f:=encK) hlp
   unfold clOf at hR
   rw [hlast] at hR
   have w1:IntKind.i64.wrap (((clAt s (cnAt s (chAt s i).cn).cl).known.length:Int) - 1)=(((clAt s (cnAt s (chAt s i).cn).cl).known.length - 1:Nat):Int):=by rw [wrap64 (by omega) (by omega)]; omega
   have hlen:=ok.lsent
   have hch1:=hch.snd
   have e1:=sown_D s ok.sm
   have c4:=pkdig_A ⟨i,(chAt s i).oc,(chAt s i).snd,data,tout⟩ hd
   have e2:=mput_D s.sent ⟨i,(chAt s i).snd,digPk ⟨i,(chAt s i).oc,(chAt s i).snd,data,tout⟩⟩ (by omega) ok.sent ⟨i12 ok hi,hch1,dig_len _⟩
   unfold sendS at hR
   have hi':i.toNat < s.chs.length:=by omega
   have s2:=get_lt (f:=encCh) hi'
   have w2:IntKind.i64.wrap ((chAt s i).snd+1)=(chAt s i).snd+1:=by unfold N12 at hch1; rw [wrap64 (by omega) (by omega)]
   have s3:(s.chs.map encCh).set i.toNat (encCh { chAt s i with snd:=(chAt s i).snd+1 })=(s.chs.set i.toNat { chAt s i with snd:=(chAt s i).snd+1 }).map encCh:=List.map_set.symm
   have s4:s.chs.length=(s.chs.set i.toNat { chAt s i with snd:=(chAt s i).snd+1 }).length:=by simp
   rw [← (chAt_mem hi).1] at s2
   clear hs h ok hst hov hj h4 h5 h7 hch hcn h2 hm hcok hch1
   generalize s.chs.set i.toNat { chAt s i with snd:=(chAt s i).snd+1 }=L at *
   generalize digPk ⟨i,(chAt s i).oc,(chAt s i).snd,data,tout⟩=G at *
   generalize chAt s i=x at *
   generalize cnAt s x.cn=y at *
   generalize clAt s y.cl=z at *
   generalize z.known[z.known.length - 1]=k at *
   generalize putM s.sent ⟨i,x.snd,G⟩=M at *
   clear hlast hlp
   simp only [encCh] at s3
   simp only [markD,bI] at e2
   refine callD_W 100 Tryz.func37 rfl rfl rfl (fun _ _=>rfl) ?_
   exact wkl trivial
  ·rw [if_neg h2] at hR
   generalize wrongPk ⟨i,(chAt s i).oc,(chAt s i).snd,data,tout⟩=W at *
   clear hs h ok hst hov h4 h5 h6 h7 hch hcn
   generalize chAt s i=x at *
   generalize cnAt s x.cn=y at *
   refine callD_W 100 Tryz.func37 rfl rfl rfl (fun _ _=>rfl) ?_
   exact wkl trivial
 ·rw [if_neg h] at hR
  generalize endPk s i [3]=W at *
  clear hs
  refine callD_W 100 Tryz.func37 rfl rfl rfl (fun _ _=>rfl) ?_
  exact wkl trivial
end Go.Proofs.YtmclpbcipkdmcaaGreatDoor
