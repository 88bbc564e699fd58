/- chans.Over, shown, add, Init, Try, end, now: by value. -/
import Derived.Test.YtmclpbcipkdmcaaGreatDoorChP
import Derived.Test.YtmclpbcipkdmcaaGreatDoorGCo
set_option linter.all false
namespace Go.Proofs.YtmclpbcipkdmcaaGreatDoor
open Go Go.Abs Go.RowKit Go.Proofs.YtmclpbcipkdmcaaGreatDoor.Ty
set_option maxHeartbeats 8000000
set_option maxRecDepth 20000
theorem overch_A (s:StateD) (ok:StOk s) (i:Int):PureD Tryz.prog 64 [.rp (encSt s) 0,intD i] (.tup [connD (overCh s i).1,intD (overCh s i).2]):=by
 refine hide_r fun R hR=>?_
 unfold overCh at hR
 have hl:=ok.lcl
 have hl2:=ok.lcn
 by_cases h:i < 0∨(s.cns.length:Int)≤i
 ·rw [if_pos h] at hR
  clear ok
  refine callD_W 63 Tryz.func64 rfl rfl rfl (fun _ _=>rfl) ?_
  exact wkl trivial
 ·rw [if_neg h] at hR
  have hi:i.toNat < s.cns.length:=by omega
  have s0:=get_lt (f:=encCn) hi
  have hcm:=cnAt_mem (s:=s) (i:=i) (by omega)
  have hcl:=(ok.cns _ hcm.2).cl
  rw [hcm.1] at hR hcl
  clear hcm
  generalize s.cns[i.toNat]=x at *
  by_cases h2:(s.cls.length:Int)≤x.cl
  ·simp only [h2,if_true] at hR
   clear ok hcl
   refine callD_W 63 Tryz.func64 rfl rfl rfl (fun _ _=>rfl) ?_
   exact wkl trivial
  ·simp only [h2,if_false] at hR
   have hc0:0≤x.cl:=hcl.1
   have hj:x.cl.toNat < s.cls.length:=by omega
   have s1:=get_lt (f:=encC) hj
   have hm:=clAt_mem (s:=s) (i:=x.cl) (by omega)
   have c1:=act_A (ok.cls _ hm.2) ok.t
   rw [hm.1] at hR c1
   clear ok hcl hm
   generalize s.cls[x.cl.toNat]=y at *
   generalize activeC y s.t=A at *
   refine callD_W 63 Tryz.func64 rfl rfl rfl (fun _ _=>rfl) ?_
   exact wkl trivial
theorem hshown_A (s:StateD) (ok:StOk s) (c:ConnD) (hc:0≤c.cl∧c.cl < (s.cls.length:Int)) (pos:Int) (ha:N12 0 pos) (en:ChanD) (he:N12 (-1) en.oc) (w:ShownD) :
  PureD Tryz.prog 69 [.rp (encSt s) 0,connD c,intD pos,chanD en,shD w] (intD (shownHE s c pos en w)):=by
 refine hide_r fun R hR=>?_
 unfold shownHE at hR
 have hl:=ok.lcl
 have hi:c.cl.toNat < s.cls.length:=by omega
 have s0:=get_lt (f:=encC) hi
 have c1:=hkey_A pos (by unfold N12 at ha; unfold Num6; omega)
 have c2:=chanb_A en he
 have c3:=cmember_A (clAt s c.cl) s.t w.h (keyH pos) (valCh en) w.p (by have:=(ok.cls _ (clAt_mem hc).2).len; omega)
 rw [(clAt_mem hc).1] at hR c3
 clear ok ha he
 generalize s.cls[c.cl.toNat]=x at *
 generalize keyH pos=K at *
 generalize valCh en=V at *
 generalize memberE x s.t w.h K V w.p=M at *
 refine callD_W 32 Tryz.func69 rfl rfl rfl (fun _ _=>rfl) ?_
 exact wkl trivial
theorem addch_A (s:StateD) (ok:StOk s) (c:ChanD):PureD Tryz.prog 65 [stateD s,chanD c] (.tup [stateD (addCh s c).1,intD (addCh s c).2.1,intD (addCh s c).2.2]):=by
 refine hide_r fun R hR=>?_
 have e1:=sown_D s ok.sm
 have hl:=ok.lch
 unfold addCh at hR
 have m1:s.chs.map encCh++[encCh ({ c with snd:=1,rcv:=1,ack:=1 })]=(s.chs++[{ c with snd:=1,rcv:=1,ack:=1 }]).map encCh:=by simp
 have m2:s.chs.length+1=(s.chs++[{ c with snd:=1,rcv:=1,ack:=1 }]).length:=by simp
 have m3:((s.chs++[{ c with snd:=1,rcv:=1,ack:=1 }]).length:Int) - 1=s.chs.length:=by simp
 simp only [encCh] at m1
 generalize s.chs++[{ c with snd:=1,rcv:=1,ack:=1 }]=L at *
 by_cases h:(s.chs.length:Int)=8
 ·rw [if_pos h] at hR
  clear ok e1
  refine callD_W 29 Tryz.func65 rfl rfl rfl (fun _ _=>rfl) ?_
  exact wkl trivial
 ·rw [if_neg h] at hR
  clear ok
  refine callD_W 29 Tryz.func65 rfl rfl rfl (fun _ _=>rfl) ?_
  exact wkl trivial
theorem initch_A (s:StateD) (hs:StSm s) (i:Int) (o:Bool):PureD Tryz.prog 18 [stateD s,intD i,boolD o] (.tup [stateD (initCh s i o).1,intD (initCh s i o).2.1,intD (initCh s i o).2.2]):=by
 refine hide_r fun R hR=>?_
 have c1:=swrong_A s hs
 unfold initCh at hR
 by_cases h:wrongS s=0
 ·have ok:=wrongS_zero.1 h
  rw [h] at c1
  rw [if_pos h] at hR
  have c2:=overch_A s ok i
  have c3:=addch_A s ok ⟨1,o,i,-1,0,0,0⟩
  generalize overCh s i=E at *
  generalize addCh s ⟨1,o,i,-1,0,0,0⟩=A at *
  clear ok h hs
  refine callD_W 35 Tryz.func18 rfl rfl rfl (fun _ _=>rfl) ?_
  exact wkl trivial
 ·rw [if_neg h] at hR
  generalize wrongS s=W at *
  clear hs
  refine callD_W 35 Tryz.func18 rfl rfl rfl (fun _ _=>rfl) ?_
  exact wkl trivial
theorem trych_A (s:StateD) (hs:StSm s) (i:Int) (o:Bool) (other:Int) (w:ShownD):PureD Tryz.prog 20 [stateD s,intD i,boolD o,intD other,shD w] (.tup [stateD (tryCh s i o other w).1,intD (tryCh s i o other w).2.1,intD (tryCh s i o other w).2.2]):=by
 refine hide_r fun R hR=>?_
 have c1:=swrong_A s hs
 unfold tryCh at hR
 by_cases h:wrongS s=0
 ·have ok:=wrongS_zero.1 h
  rw [h] at c1
  rw [if_pos h] at hR
  have c2:=overch_A s ok i
  have c3:=addch_A s ok ⟨2,o,i,other,0,0,0⟩
  by_cases h2:(overCh s i).2=0
  ·obtain ⟨hi,h4,h5,h6,h7⟩:=overCh_zero.1 h2
   have hcn:=ok.cns _ (cnAt_mem hi).2
   rw [if_pos h2] at hR
   rw [overCh_fst h2] at c2
   by_cases h3:other < 0∨1000000000000 < other
   ·rw [if_pos h3] at hR
    generalize cnAt s i=x at *
    clear c3 ok h hs h2 hcn h7
    refine callD_W 62 Tryz.func20 rfl rfl rfl (fun _ _=>rfl) ?_
    exact wkl trivial
   ·rw [if_neg h3] at hR
    have c4:=hshown_A s ok (cnAt s i) ⟨hcn.cl.1,h6⟩ other (by unfold N12; omega) ⟨1,o,(cnAt s i).on,-1,0,0,0⟩ (by unfold N12; simp) w
    generalize shownHE s (cnAt s i) other ⟨1,o,(cnAt s i).on,-1,0,0,0⟩ w=E at *
    generalize addCh s ⟨2,o,i,other,0,0,0⟩=A at *
    generalize cnAt s i=x at *
    clear ok h hs h2 hcn h7
    refine callD_W 62 Tryz.func20 rfl rfl rfl (fun _ _=>rfl) ?_
    exact wkl trivial
  ·rw [if_neg h2] at hR
   generalize overCh s i=E at *
   clear c3 ok h hs
   refine callD_W 62 Tryz.func20 rfl rfl rfl (fun _ _=>rfl) ?_
   exact wkl trivial
 ·rw [if_neg h] at hR
  generalize wrongS s=W at *
  clear hs
  refine callD_W 62 Tryz.func20 rfl rfl rfl (fun _ _=>rfl) ?_
  exact wkl trivial
theorem endch_A (s:StateD) (hs:StSm s) (i want:Int):PureD Tryz.prog 70 [.rp (encSt s) 0,intD i,intD want] (.tup [chanD (endCh s i want).1,connD (endCh s i want).2.1,intD (endCh s i want).2.2]):=by
 refine hide_r fun R hR=>?_
 have c1:=swrong_A s hs
 unfold endCh at hR
 by_cases h:wrongS s=0
 ·have ok:=wrongS_zero.1 h
  have hl:=ok.lch
  rw [h] at c1
  rw [if_pos h] at hR
  by_cases h2:i < 0∨(s.chs.length:Int)≤i
  ·rw [if_pos h2] at hR
   clear ok h hs
   refine callD_W 58 Tryz.func70 rfl rfl rfl (fun _ _=>rfl) ?_
   exact wkl trivial
  ·rw [if_neg h2] at hR
   have hi:i.toNat < s.chs.length:=by omega
   have s0:=get_lt (f:=encCh) hi
   have c2:=overch_A s ok (chAt s i).cn
   rw [(chAt_mem (s:=s) (i:=i) (by omega)).1] at hR c2
   clear ok h hs
   generalize s.chs[i.toNat]=x at *
   generalize overCh s x.cn=E at *
   refine callD_W 58 Tryz.func70 rfl rfl rfl (fun _ _=>rfl) ?_
   exact wkl trivial
 ·rw [if_neg h] at hR
  generalize wrongS s=W at *
  clear hs
  refine callD_W 58 Tryz.func70 rfl rfl rfl (fun _ _=>rfl) ?_
  exact wkl trivial
theorem nowch_A (s:StateD) (ok:StOk s) (i how oc:Int) (hi:0≤i∧i < (s.chs.length:Int)):PureD Tryz.prog 71 [stateD s,intD i,intD how,intD oc] (stateD (nowCh s i how oc)):=by
 refine hide_r fun R hR=>?_
 have e1:=sown_D s ok.sm
 have hl:=ok.lch
 unfold nowCh at hR
 rw [(chAt_mem hi).1] at hR
 have hi':i.toNat < s.chs.length:=by omega
 have s0:=get_lt (f:=encCh) hi'
 have s1:=fun x=>List.getElem?_set_self (l:=s.chs.map encCh) (i:=i.toNat) (a:=x) (by simpa using hi')
 have s2:∀ x y,((s.chs.map encCh).set i.toNat x).set i.toNat y=(s.chs.map encCh).set i.toNat y:=fun x y=>List.set_set x
 have s3:(s.chs.map encCh).set i.toNat (encCh { s.chs[i.toNat] with st:=how,oc:=oc })=(s.chs.set i.toNat { s.chs[i.toNat] with st:=how,oc:=oc }).map encCh:=List.map_set.symm
 have s4:s.chs.length=(s.chs.set i.toNat { s.chs[i.toNat] with st:=how,oc:=oc }).length:=by simp
 generalize s.chs.set i.toNat { s.chs[i.toNat] with st:=how,oc:=oc }=L at *
 generalize s.chs[i.toNat]=x at *
 simp only [encCh] at s3
 clear ok
 refine callD_W 25 Tryz.func71 rfl rfl rfl (fun _ _=>rfl) ?_
 exact wkl trivial
end Go.Proofs.YtmclpbcipkdmcaaGreatDoor
