/- Chapter 14, plain: who is open is met, where only who carries truly acts. No program is in sight. -/
import Derived.Test.YtfenipelcpmkpaaGreatDoorLaw14Q
import Derived.Test.YtfenipelcpmkpaaGreatDoorUnP
set_option linter.all false
namespace Go.Proofs.YtfenipelcpmkpaaGreatDoor
open Go Go.Abs
inductive abD (s:StateD) (m:MsgD) (t:StateD):Prop
 | same (h:t.cns=s.cns)
 | add (c:ConnD) (h:t.cns=s.cns++[c]) (hs:¬ c.st=3)
 | opn (i:Nat) (k st:Int) (hi:i < s.cns.length) (h:t.cns=s.cns.set i { cnAt s (i:Int) with st:=3,on:=k }) (hst:st=2\/st=3) (hs:(cnAt s (i:Int)).st=1\/((cnAt s (i:Int)).st=2/\k=(cnAt s (i:Int)).on)) (hk:N12 0 k) (kind:m.kind=6\/m.kind=7)
   (mem:eH (kG s (cnAt s (i:Int)).cl) s.t m.sh.h (keyC k) (qO ⟨st,(cnAt s (i:Int)).oc,(cnAt s (i:Int)).cl,i⟩) m.sh.p=0)
inductive abE (s:StateD) (m:MsgD) (t:StateD):Prop
 | same (h:t.chs=s.chs)
 | add (c:ChanD) (h:t.chs=s.chs++[c]) (hs:¬ c.st=3)
 | upd (i:Nat) (c:ChanD) (hi:i < s.chs.length) (h:t.chs=s.chs.set i c) (h1:c.cn=(chAt s (i:Int)).cn) (h2:c.ord=(chAt s (i:Int)).ord) (h3:c.oc=(chAt s (i:Int)).oc) (hs:c.st=(chAt s (i:Int)).st\/c.st=4)
 | opn (i:Nat) (k st:Int) (hi:i < s.chs.length) (h:t.chs=s.chs.set i { chAt s (i:Int) with st:=3,oc:=k }) (hst:st=2\/st=3) (hs:(chAt s (i:Int)).st=1\/((chAt s (i:Int)).st=2/\k=(chAt s (i:Int)).oc)) (hk:N12 0 k) (kind:m.kind=10\/m.kind=11)
   (ov:(overCh s (chAt s (i:Int)).cn).2=0) (mem:eH (kG s (cnAt s (chAt s (i:Int)).cn).cl) s.t m.sh.h (keyH k) (oN ⟨st,(chAt s (i:Int)).ord,(cnAt s (chAt s (i:Int)).cn).on,i,0,0,0⟩) m.sh.p=0)
structure QZ (s t:StateD):Prop where
 len:s.cns.length<=t.cns.length
 cn:∀ i:Nat,i < s.cns.length->(cnAt t (i:Int)).cl=(cnAt s (i:Int)).cl/\(cnAt t (i:Int)).oc=(cnAt s (i:Int)).oc/\(2<=(cnAt s (i:Int)).st->2<=(cnAt t (i:Int)).st/\(cnAt t (i:Int)).on=(cnAt s (i:Int)).on)/\((cnAt s (i:Int)).st=3->(cnAt t (i:Int)).st=3)
 lenh:s.chs.length<=t.chs.length
 ch:∀ i:Nat,i < s.chs.length->(chAt t (i:Int)).cn=(chAt s (i:Int)).cn/\(chAt t (i:Int)).ord=(chAt s (i:Int)).ord/\(2<=(chAt s (i:Int)).st->2<=(chAt t (i:Int)).st/\(chAt t (i:Int)).oc=(chAt s (i:Int)).oc)
theorem QZ.refl (s:StateD):QZ s s:=⟨Nat.le_refl _,fun i _=>⟨rfl,rfl,fun h=>⟨h,rfl⟩,fun h=>h⟩,Nat.le_refl _,fun i _=>⟨rfl,rfl,fun h=>⟨h,rfl⟩⟩⟩
theorem QZ.trans {a b c:StateD} (h:QZ a b) (g:QZ b c):QZ a c:=by
 have l1:=h.len; have l2:=g.len; have l3:=h.lenh; have l4:=g.lenh
 refine ⟨by omega,fun i hi=>?_,by omega,fun i hi=>?_⟩
 ·obtain ⟨a1,a2,a3,a4⟩:=h.cn i hi
  obtain ⟨b1,b2,b3,b4⟩:=g.cn i (by omega)
  exact ⟨b1.trans a1,b2.trans a2,fun q=>⟨(b3 (a3 q).1).1,((b3 (a3 q).1).2).trans (a3 q).2⟩,fun q=>b4 (a4 q)⟩
 ·obtain ⟨a1,a2,a3⟩:=h.ch i hi
  obtain ⟨b1,b2,b3⟩:=g.ch i (by omega)
  exact ⟨b1.trans a1,b2.trans a2,fun q=>⟨(b3 (a3 q).1).1,((b3 (a3 q).1).2).trans (a3 q).2⟩⟩
theorem Je (c o:aJ) (m:MsgD):(oZ c o m).kind=m.kind:=by
 unfold oZ EI
 split
 ·rfl
 ·split
  ·rfl
  ·split <;> rfl
def trueEv (e:EvD):Prop:=if e.kind=4 then m4 e.m.kind else ¬ (e.kind=5/\e.m.kind<=3)
where m4 (k:Int):Prop:=k=4\/k=8\/k=12\/k=14\/k=18
structure NG (c o:aJ):Prop where
 past:∀ e∈c.past,QZ e.st c.s
 cn:∀ i:Nat,i < c.s.cns.length->(cnAt c.s (i:Int)).st=3->∃ k:Nat,(cnAt c.s (i:Int)).on=k/\k < o.s.cns.length/\2<=(cnAt o.s (k:Int)).st/\(cnAt o.s (k:Int)).on=i/\(cnAt o.s (k:Int)).cl=(cnAt c.s (i:Int)).oc/\(cnAt o.s (k:Int)).oc=(cnAt c.s (i:Int)).cl
 ch:∀ i:Nat,i < c.s.chs.length->(chAt c.s (i:Int)).st=3->∃ k:Nat,(chAt c.s (i:Int)).oc=k/\k < o.s.chs.length/\2<=(chAt o.s (k:Int)).st/\(chAt o.s (k:Int)).oc=i/\(chAt o.s (k:Int)).ord=(chAt c.s (i:Int)).ord /\
  ∃ j:Nat,(chAt c.s (i:Int)).cn=j/\j < c.s.cns.length/\(cnAt c.s (j:Int)).st=3/\(cnAt c.s (j:Int)).on=(chAt o.s (k:Int)).cn
theorem NG.own {c o:aJ} {t:StateD} (h:NG c o) (hm:QZ c.s t) (hcn:t.cns=c.s.cns) (hch:t.chs=c.s.chs) {p:List EndD} (hp:∀ e∈p,QZ e.st t):NG { c with s:=t,past:=p } o:=by
 have e1:∀ i:Int,cnAt t i=cnAt c.s i:=fun i=>by unfold cnAt; rw [hcn]
 have e2:∀ i:Int,chAt t i=chAt c.s i:=fun i=>by unfold chAt; rw [hch]
 refine ⟨hp,fun i hi hs=>?_,fun i hi hs=>?_⟩
 ·simp only [e1] at hs ⊢
  exact h.cn i (by rw [<- hcn]; exact hi) hs
 ·simp only [e1,e2] at hs ⊢
  simp only [hcn]
  exact h.ch i (by rw [<- hch]; exact hi) hs
structure abf (w:qA):Prop where
 a:NG w.1 w.2
 b:NG w.2 w.1
end Go.Proofs.YtfenipelcpmkpaaGreatDoor
