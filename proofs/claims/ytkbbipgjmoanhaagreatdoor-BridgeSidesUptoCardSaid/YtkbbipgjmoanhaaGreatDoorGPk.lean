/- Merged texts: PkP, PkL, PkA, PkB, PkC, PkD. -/
import Derived.Test.YtkbbipgjmoanhaaGreatDoorGCh
set_option linter.all false
set_option maxHeartbeats 16000000
set_option maxRecDepth 20000
namespace Go.Proofs.YtkbbipgjmoanhaaGreatDoor
open Go Go.Abs
structure dG where
 fr:Int
 de:Int
 seq:Int
 data:List UInt8
 tout:Int
def Xo (p:dG):List I:=[.s (.int .i64 p.fr),.s (.int .i64 p.de),.s (.int .i64 p.seq),bI p.data,.s (.int .i64 p.tout)]
def uF (p:dG):D:=.agg [.i (.s (.int .i64 p.fr)),.i (.s (.int .i64 p.de)),.i (.s (.int .i64 p.seq)),.i (bI p.data),.i (.s (.int .i64 p.tout))]
def zeroPk:dG:=⟨0,0,0,[],0⟩
attribute [simp,go_sem] Xo uF zeroPk
def wP (p:dG):List bU:=[numP (u64 p.fr),numP (u64 p.de),numP (u64 p.seq),IC p.data,numP (u64 p.tout)]
def digPk (p:dG):List UInt8:=sha (bZ (wP p)).1
def dP (p:dG):Int :=
 if p.fr < 0\/1000000000000 < p.fr\/p.de < 0\/1000000000000 < p.de\/p.seq < 1\/1000000000000 < p.seq\/p.tout < 1\/1000000000000 < p.tout then 3 else if (150:Int) < p.data.length then 4 else 0
structure Yi (p:dG):Prop where
 fr:N12 0 p.fr
 de:N12 0 p.de
 seq:N12 1 p.seq
 tout:N12 1 p.tout
 data:p.data.length<=150
theorem bK {p:dG}:dP p=0↔Yi p:=by
 unfold dP
 constructor
 ·intro h
  split at h
  ·cases h
  ·split at h
   ·cases h
   ·exact ⟨by unfold N12; omega,by unfold N12; omega,by unfold N12; omega,by unfold N12; omega,by omega⟩
 ·rintro ⟨a,b,c,d,e⟩
  unfold N12 at *
  rw [if_neg (by omega),if_neg (by omega)]
def stIn (st:Int) (ws:List Int):Bool:=ws.any fun w=>decide (st=w)
def endPk (s:StateD) (i:Int) (ws:List Int):ChanD × ConnD × Int :=
 if bg s=0 then (if i < 0\/(s.chs.length:Int)<=i then (zeroCh,zeroCn,6) else if stIn (chAt s i).st ws=true then (chAt s i,(overCh s (chAt s i).cn).1,(overCh s (chAt s i).cn).2) else (zeroCh,zeroCn,12)) else (zeroCh,zeroCn,bg s)
theorem endPk_zero {s:StateD} {i:Int} {ws:List Int}:(endPk s i ws).2.2=0↔StOk s/\(0<=i/\i < (s.chs.length:Int))/\stIn (chAt s i).st ws=true/\(overCh s (chAt s i).cn).2=0:=by
 unfold endPk
 rw [<- aG]
 constructor
 ·intro h
  split at h
  ·split at h
   ·cases h
   ·split at h
    ·exact ⟨by assumption,by omega,by assumption,h⟩
    ·cases h
  ·exact absurd h ‹_›
 ·rintro ⟨a,b,c,d⟩
  rw [if_pos a,if_neg (by omega),if_pos c]; exact d
theorem kV {s:StateD} {i:Int} {ws:List Int} (h:(endPk s i ws).2.2=0):endPk s i ws=(chAt s i,cnAt s (chAt s i).cn,0):=by
 obtain ⟨a,b,c,d⟩:=endPk_zero.1 h
 unfold endPk
 rw [if_pos (aG.2 a),if_neg (by omega),if_pos c,oL d]
def Dl (s:StateD) (i:Int):aD:=kC s (cnAt s (chAt s i).cn).cl
def Bn (s:StateD) (i:Int) (p:dG):StateD:={ s with sent:=uD s.sent ⟨i,p.seq,digPk p⟩,chs:=s.chs.set i.toNat { chAt s i with snd:=(chAt s i).snd+1 } }
def jy (s:StateD) (i:Int) (data:List UInt8) (tout:Int):StateD × dG × Int :=
 if (endPk s i [3]).2.2=0 then
  (if dP ⟨i,(chAt s i).oc,(chAt s i).snd,data,tout⟩=0 then
   (if tout<=(kw (Dl s i)).h then (zeroSt,zeroPk,11)
   else if (s.sent.length:Int)=50\/(chAt s i).snd=1000000000000 then (zeroSt,zeroPk,5)
   else (Bn s i ⟨i,(chAt s i).oc,(chAt s i).snd,data,tout⟩,⟨i,(chAt s i).oc,(chAt s i).snd,data,tout⟩,0))
  else (zeroSt,zeroPk,dP ⟨i,(chAt s i).oc,(chAt s i).snd,data,tout⟩))
 else (zeroSt,zeroPk,(endPk s i [3]).2.2)
def ny:List UInt8:=[115,101,110,116]
def FO:List UInt8:=[103,111,116]
def FP:List UInt8:=[97,99,107]
def IB (s:StateD) (p:dG) (ack:List UInt8):StateD :=
 if (chAt s p.de).ord=true then { s with chs:=s.chs.set p.de.toNat { chAt s p.de with rcv:=(chAt s p.de).rcv+1 },acks:=uD s.acks ⟨p.de,p.seq,sha ack⟩ }
 else { s with got:=uD s.got ⟨p.de,p.seq,digPk p⟩,acks:=uD s.acks ⟨p.de,p.seq,sha ack⟩ }
def jX (s:StateD) (p:dG) (ack:List UInt8) (w:bJ):StateD × Int :=
 if dP p=0 then
  (if (endPk s p.de [3]).2.2=0 then
   (if (chAt s p.de).oc=p.fr then
    (if p.tout<=s.h then (zeroSt,11)
    else if ((chAt s p.de).ord=true/\¬ p.seq=(chAt s p.de).rcv)\/((chAt s p.de).ord=false/\(oo s.got p.de p.seq).isSome=true) then (zeroSt,12)
    else if (s.got.length:Int)=50\/(s.acks.length:Int)=50\/(150:Int) < ack.length\/(chAt s p.de).rcv=1000000000000 then (zeroSt,5)
    else if fw (Dl s p.de) s.t w.h (keyM ny p.fr p.seq) (digPk p) w.p=0 then (IB s p ack,0)
    else (zeroSt,fw (Dl s p.de) s.t w.h (keyM ny p.fr p.seq) (digPk p) w.p))
   else (zeroSt,8))
  else (zeroSt,(endPk s p.de [3]).2.2))
 else (zeroSt,dP p)
def qx (s:StateD) (p:dG):Int :=
 if dP p=0 then
  (if (endPk s p.fr [3,4]).2.2=0 then
   (if (chAt s p.fr).oc=p.de then
    (match oo s.sent p.fr p.seq with
    | none=>6
    | some m=>if m.dg=digPk p then 0 else 8)
   else 8)
  else (endPk s p.fr [3,4]).2.2)
 else dP p
def uX (s:StateD) (p:dG):ChanD:=if dP p=0 then (endPk s p.fr [3,4]).1 else zeroCh
def uW (s:StateD) (p:dG):ConnD:=if dP p=0 then (endPk s p.fr [3,4]).2.1 else zeroCn
def jG (s:StateD) (p:dG) (c:ChanD):StateD:={ s with sent:=kY s.sent p.fr p.seq,chs:=s.chs.set p.fr.toNat c }
def Gs (s:StateD) (p:dG):StateD:={ s with sent:=kY s.sent p.fr p.seq }
def qb (s:StateD) (p:dG) (ack:List UInt8) (w:bJ):StateD × Int :=
 if qx s p=0 then
  (if (150:Int) < ack.length then (zeroSt,4)
  else if (chAt s p.fr).ord=true/\¬ p.seq=(chAt s p.fr).ack then (zeroSt,12)
  else if (chAt s p.fr).ord=true/\(chAt s p.fr).ack=1000000000000 then (zeroSt,5)
  else if fw (Dl s p.fr) s.t w.h (keyM FP p.de p.seq) (sha ack) w.p=0 then
   (if (chAt s p.fr).ord=true then (jG s p { chAt s p.fr with ack:=(chAt s p.fr).ack+1 },0) else (Gs s p,0))
  else (zeroSt,fw (Dl s p.fr) s.t w.h (keyM FP p.de p.seq) (sha ack) w.p))
 else (zeroSt,qx s p)
def jE (s:StateD) (p:dG) (next:Int) (w:bJ):StateD × Int :=
 if qx s p=0 then
  (if w.h < p.tout then (zeroSt,11)
  else if (chAt s p.fr).ord=true then
   (if next < 1\/p.seq < next then (zeroSt,12)
   else if fw (Dl s p.fr) s.t w.h (keyN p.de) (FT next) w.p=0 then (jG s p { chAt s p.fr with st:=4 },0)
   else (zeroSt,fw (Dl s p.fr) s.t w.h (keyN p.de) (FT next) w.p))
  else if nQ (Dl s p.fr) s.t w.h (keyM FO p.de p.seq) w.g=0 then (Gs s p,0)
  else (zeroSt,nQ (Dl s p.fr) s.t w.h (keyM FO p.de p.seq) w.g))
 else (zeroSt,qx s p)
structure mH (l:List bD):Prop where
 ok:ky l
 len:l.length<=50
theorem StOk.pk {s:StateD} (h:StOk s) {x:List ChanD} {a b c:List bD} (hl:x.length=s.chs.length) (hx:∀ c∈x,ChOk c) (h1:mH a) (h2:mH b) (h3:mH c):StOk { s with chs:=x,sent:=a,got:=b,acks:=c } :=
 ⟨h.name,h.h,h.t,h.lcl,h.lcn,by have:=h.lch; simp only; omega,h1.len,h2.len,h3.len,h.lpus,h.cls,h.cns,hx,h1.ok,h2.ok,h3.ok,h.pus⟩
theorem StOk.l1 {s:StateD} (h:StOk s):mH s.sent:=⟨h.sent,h.lsent⟩
theorem StOk.l2 {s:StateD} (h:StOk s):mH s.got:=⟨h.got,h.lgot⟩
theorem StOk.l3 {s:StateD} (h:StOk s):mH s.acks:=⟨h.acks,h.lacks⟩
theorem qR {l:List bD} (h:mH l) (hl:¬ l.length=50) {m:bD} (hm:Nq m):mH (uD l m):=by
 refine ⟨⟨fun x hx=>?_,KL.srt_put cmpM_ok h.ok.srt (fun x hx=>by cases hx; rfl)⟩,?_⟩
 ·rcases (KL.mem_put cmpM_ok).1 hx with hx | hx
  ·exact h.ok.all x hx.1
  ·cases hx; exact hm
 ·rw [Em h.ok]
  have:=h.len
  split <;> omega
theorem KI {l:List bD} (h:ky l) (ch seq:Int):(kY l ch seq).length<=l.length:=by
 unfold kY
 cases hg:oo l ch seq with
 | none=>rw [KL.put_none cmpM_ok h.srt hg]; exact Nat.le_refl _
 | some u=>rw [KL.put_del cmpM_ok h.srt hg]; simp; omega
theorem KH {l:List bD} (h:mH l) (ch seq:Int):mH (kY l ch seq):=by
 refine ⟨⟨fun x hx=>?_,KL.srt_put cmpM_ok h.ok.srt (fun x hx=>by cases hx)⟩,?_⟩
 ·rcases (KL.mem_put cmpM_ok).1 hx with hx | hx
  ·exact h.ok.all x hx.1
  ·cases hx
 ·have:=KI h.ok ch seq
  have:=h.len
  omega
theorem Bl {s:StateD} (ok:StOk s) {i:Int} {c:ChanD} (hc:ChOk c):∀ x∈s.chs.set i.toNat c,ChOk x:=fun x hx=>by
 rcases List.mem_or_eq_of_mem_set hx with hx | rfl
 ·exact ok.chs x hx
 ·exact hc
theorem Pd {l:List bD} (h:ky l) (m:bD) (ch seq:Int):oo (uD l m) ch seq=if ch=m.ch/\seq=m.seq then some m else oo l ch seq:=by
 unfold oo uD
 have:=KL.get_put (κ:=mk) cmpM_ok h.srt (k:=(m.ch,m.seq)) (v:=some m) (fun x hx=>by cases hx; rfl) (ch,seq)
 rw [this]
 by_cases e:ch=m.ch/\seq=m.seq
 ·rw [if_pos e,if_pos (by rw [e.1,e.2])]
 ·rw [if_neg e,if_neg (fun hh=>e (by simp only [Prod.mk.injEq] at hh; exact hh))]
theorem Ki {l:List bD} (h:ky l) (ch' seq' ch seq:Int):oo (kY l ch' seq') ch seq=if ch=ch'/\seq=seq' then none else oo l ch seq:=by
 unfold oo kY
 have:=KL.get_put (κ:=mk) cmpM_ok h.srt (k:=(ch',seq')) (v:=none) (fun x hx=>by cases hx) (ch,seq)
 rw [this]
 by_cases e:ch=ch'/\seq=seq'
 ·rw [if_pos e,if_pos (by rw [e.1,e.2])]
 ·rw [if_neg e,if_neg (fun hh=>e (by simp only [Prod.mk.injEq] at hh; exact hh))]
structure FK (s:StateD) (own:Int) (t:StateD):Prop where
 ok:StOk t
 same:{ t with chs:=s.chs,sent:=s.sent,got:=s.got,acks:=s.acks }=s
 len:t.chs.length=s.chs.length
 chs:∀ i (h:i < s.chs.length) (h':i < t.chs.length),¬ (i:Int)=own->t.chs[i]=s.chs[i]
 sent:∀ m∈s.sent,¬ m.ch=own->oo t.sent m.ch m.seq=some m
 got:∀ m∈s.got,¬ m.ch=own->oo t.got m.ch m.seq=some m
 acks:∀ m∈s.acks,¬ m.ch=own->oo t.acks m.ch m.seq=some m
theorem iw {l:List bD} (h:ky l) {m:bD} (hm:m∈l):oo l m.ch m.seq=some m:=(KL.get_iff cmpM_ok h.srt).2 ⟨hm,rfl⟩
theorem qY {l:List bD} (h:ky l) {x m:bD} (hm:m∈l) (hne:¬ m.ch=x.ch):oo (uD l x) m.ch m.seq=some m:=by
 rw [Pd h,if_neg (fun e=>hne e.1)]; exact iw h hm
theorem JN {l:List bD} (h:ky l) {ch seq:Int} {m:bD} (hm:m∈l) (hne:¬ m.ch=ch):oo (kY l ch seq) m.ch m.seq=some m:=by
 rw [Ki h,if_neg (fun e=>hne e.1)]; exact iw h hm
theorem wH {l:List ChanD} {own:Int} (h0:0<=own) {c:ChanD} (i:Nat) (h:i < l.length) (h':i < (l.set own.toNat c).length) (hne:¬ (i:Int)=own):(l.set own.toNat c)[i]=l[i]:=by
 rw [List.getElem_set_ne]; omega
theorem endPk_ok {s:StateD} {i:Int} {ws:List Int} (h:(endPk s i ws).2.2=0):StOk s/\(0<=i/\i < (s.chs.length:Int))/\ChOk (chAt s i):=by
 obtain ⟨a,b,_,_⟩:=endPk_zero.1 h
 exact ⟨a,b,a.chs _ (bR b).2⟩
theorem yl (p:dG):(digPk p).length=32:=dn _
theorem i12 {s:StateD} (ok:StOk s) {i:Int} (h:0<=i/\i < (s.chs.length:Int)):N12 0 i:=by
 have:=ok.lch
 unfold N12; omega
structure Mx (s:StateD) (i:Int) (data:List UInt8) (tout:Int):Prop where
 en:(endPk s i [3]).2.2=0
 pk:Yi ⟨i,(chAt s i).oc,(chAt s i).snd,data,tout⟩
 late:(kw (Dl s i)).h < tout
 room:¬ s.sent.length=50/\¬ (chAt s i).snd=1000000000000
theorem rT {s:StateD} {i:Int} {data:List UInt8} {tout:Int}:(jy s i data tout).2.2=0↔Mx s i data tout:=by
 unfold jy
 constructor
 ·intro h
  split at h
  ·split at h
   ·split at h
    ·cases h
    ·split at h
     ·cases h
     ·exact ⟨by assumption,bK.1 (by assumption),by omega,by omega⟩
   ·exact absurd h ‹_›
  ·exact absurd h ‹_›
 ·rintro ⟨a,b,c,d⟩
  rw [if_pos a,if_pos (bK.2 b),if_neg (by omega),if_neg (by omega)]
theorem rU {s:StateD} {i:Int} {data:List UInt8} {tout:Int} (h:Mx s i data tout):jy s i data tout=(Bn s i ⟨i,(chAt s i).oc,(chAt s i).snd,data,tout⟩,⟨i,(chAt s i).oc,(chAt s i).snd,data,tout⟩,0):=by
 obtain ⟨a,b,c,d⟩:=h
 unfold jy
 rw [if_pos a,if_pos (bK.2 b),if_neg (by omega),if_neg (by omega)]
theorem Ip {s:StateD} {i:Int} {data:List UInt8} {tout:Int} (h:Mx s i data tout):FK s i (Bn s i ⟨i,(chAt s i).oc,(chAt s i).snd,data,tout⟩):=by
 obtain ⟨ok,hi,hc⟩:=endPk_ok h.en
 have hk:Nq ⟨i,(chAt s i).snd,digPk ⟨i,(chAt s i).oc,(chAt s i).snd,data,tout⟩⟩:=⟨i12 ok hi,hc.snd,yl _⟩
 refine ⟨?_,rfl,by simp [Bn],fun j h1 h2 hne=>wH hi.1 j h1 h2 hne,fun m hm hne=>qY ok.sent hm hne,fun m hm _=>iw ok.got hm,fun m hm _=>iw ok.acks hm⟩
 exact ok.pk (by simp) (Bl ok ⟨hc.st,hc.cn,hc.oc,by have:=hc.snd; have:=h.room; unfold N12 at *; simp only; omega,hc.rcv,hc.ack⟩) (qR ok.l1 h.room.1 hk) ok.l2 ok.l3
structure MF (s:StateD) (p:dG) (ack:List UInt8) (w:bJ):Prop where
 pk:Yi p
 en:(endPk s p.de [3]).2.2=0
 fit:(chAt s p.de).oc=p.fr
 time:s.h < p.tout
 new:¬ (((chAt s p.de).ord=true/\¬ p.seq=(chAt s p.de).rcv)\/((chAt s p.de).ord=false/\(oo s.got p.de p.seq).isSome=true))
 room:¬ s.got.length=50/\¬ s.acks.length=50/\ack.length<=150/\¬ (chAt s p.de).rcv=1000000000000
 shown:fw (Dl s p.de) s.t w.h (keyM ny p.fr p.seq) (digPk p) w.p=0
theorem Bo {s:StateD} {p:dG} {ack:List UInt8} {w:bJ}:(jX s p ack w).2=0↔MF s p ack w:=by
 unfold jX
 constructor
 ·intro h
  split at h
  ·split at h
   ·split at h
    ·split at h
     ·cases h
     ·split at h
      ·cases h
      ·split at h
       ·cases h
       ·split at h
        ·exact ⟨bK.1 (by assumption),by assumption,by assumption,by omega,by assumption,by omega,by assumption⟩
        ·exact absurd h ‹_›
    ·cases h
   ·exact absurd h ‹_›
  ·exact absurd h ‹_›
 ·rintro ⟨a,b,c,d,e,f,g⟩
  rw [if_pos (bK.2 a),if_pos b,if_pos c,if_neg (by omega),if_neg e,if_neg (by omega),if_pos g]
theorem Bp {s:StateD} {p:dG} {ack:List UInt8} {w:bJ} (h:MF s p ack w):jX s p ack w=(IB s p ack,0):=by
 obtain ⟨a,b,c,d,e,f,g⟩:=h
 unfold jX
 rw [if_pos (bK.2 a),if_pos b,if_pos c,if_neg (by omega),if_neg e,if_neg (by omega),if_pos g]
theorem IA {s:StateD} {p:dG} {ack:List UInt8} {w:bJ} (h:MF s p ack w):FK s p.de (IB s p ack):=by
 obtain ⟨ok,hi,hc⟩:=endPk_ok h.en
 have k1:Nq ⟨p.de,p.seq,digPk p⟩:=⟨h.pk.de,h.pk.seq,yl _⟩
 have k2:Nq ⟨p.de,p.seq,sha ack⟩:=⟨h.pk.de,h.pk.seq,dn _⟩
 unfold IB
 split
 ·refine ⟨?_,rfl,by simp,fun j h1 h2 hne=>wH hi.1 j h1 h2 hne,fun m hm _=>iw ok.sent hm,fun m hm _=>iw ok.got hm,fun m hm hne=>qY ok.acks hm hne⟩
  exact ok.pk (by simp) (Bl ok ⟨hc.st,hc.cn,hc.oc,hc.snd,by have:=hc.rcv; have:=h.room; unfold N12 at *; simp only; omega,hc.ack⟩) ok.l1 ok.l2 (qR ok.l3 h.room.2.1 k2)
 ·refine ⟨?_,rfl,rfl,fun j h1 h2 hne=>rfl,fun m hm _=>iw ok.sent hm,fun m hm hne=>qY ok.got hm hne,fun m hm hne=>qY ok.acks hm hne⟩
  exact ok.pk (x:=s.chs) rfl ok.chs ok.l1 (qR ok.l2 h.room.1 k1) (qR ok.l3 h.room.2.1 k2)
structure uA (s:StateD) (p:dG):Prop where
 pk:Yi p
 en:(endPk s p.fr [3,4]).2.2=0
 fit:(chAt s p.fr).oc=p.de
 there:oo s.sent p.fr p.seq=some ⟨p.fr,p.seq,digPk p⟩
theorem lJ {s:StateD} {p:dG}:qx s p=0↔uA s p:=by
 unfold qx
 constructor
 ·intro h
  by_cases h1:dP p=0
  ·rw [if_pos h1] at h
   by_cases h2:(endPk s p.fr [3,4]).2.2=0
   ·rw [if_pos h2] at h
    by_cases h3:(chAt s p.fr).oc=p.de
    ·rw [if_pos h3] at h
     cases hm:oo s.sent p.fr p.seq with
     | none=>rw [hm] at h; cases h
     | some m =>
      rw [hm] at h
      simp only at h
      by_cases hd:m.dg=digPk p
      ·refine ⟨bK.1 h1,h2,h3,?_⟩
       obtain ⟨ok,_,_⟩:=endPk_ok h2
       have:=((KL.get_iff cmpM_ok ok.sent.srt).1 hm).2
       simp only [mk,Prod.mk.injEq] at this
       rw [hm]
       obtain ⟨a,b,c⟩:=m
       simp only at this hd
       rw [this.1,this.2,hd]
      ·rw [if_neg hd] at h; cases h
    ·rw [if_neg h3] at h; cases h
   ·rw [if_neg h2] at h; exact absurd h h2
  ·rw [if_neg h1] at h; exact absurd h h1
 ·rintro ⟨a,b,c,d⟩
  rw [if_pos (bK.2 a),if_pos b,if_pos c,d]
  simp
theorem KF {s:StateD} {p:dG} (h:uA s p) {c:ChanD} (hc:ChOk c):FK s p.fr (jG s p c):=by
 obtain ⟨ok,hi,_⟩:=endPk_ok h.en
 refine ⟨?_,rfl,by simp [jG],fun j h1 h2 hne=>wH hi.1 j h1 h2 hne,fun m hm hne=>JN ok.sent hm hne,fun m hm _=>iw ok.got hm,fun m hm _=>iw ok.acks hm⟩
 exact ok.pk (by simp) (Bl ok hc) (KH ok.l1 _ _) ok.l2 ok.l3
theorem ES {s:StateD} {p:dG} (h:uA s p):Gs s p=jG s p (chAt s p.fr):=by
 obtain ⟨ok,hi,_⟩:=endPk_ok h.en
 unfold Gs jG
 have:s.chs.set p.fr.toNat (chAt s p.fr)=s.chs:=by
  rw [(bR hi).1]
  exact List.set_getElem_self _
 rw [this]
theorem ackPk_zero {s:StateD} {p:dG} {ack:List UInt8} {w:bJ} (h:(qb s p ack w).2=0):uA s p/\∃ c:ChanD,ChOk c/\c.st=(chAt s p.fr).st/\c.oc=(chAt s p.fr).oc/\c.cn=(chAt s p.fr).cn/\(qb s p ack w).1=jG s p c:=by
 unfold qb at h ⊢
 split at h
 ·rename_i h1
  rw [if_pos h1]
  have hp:=lJ.1 h1
  obtain ⟨ok,hi,hc⟩:=endPk_ok hp.en
  refine ⟨hp,?_⟩
  split at h
  ·cases h
  ·rename_i h2
   rw [if_neg h2]
   split at h
   ·cases h
   ·rename_i h3
    rw [if_neg h3]
    split at h
    ·cases h
    ·rename_i h4
     rw [if_neg h4]
     split at h
     ·rename_i h5
      rw [if_pos h5]
      by_cases ho:(chAt s p.fr).ord=true
      ·rw [if_pos ho]
       refine ⟨{ chAt s p.fr with ack:=(chAt s p.fr).ack+1 },⟨hc.st,hc.cn,hc.oc,hc.snd,hc.rcv,?_⟩,rfl,rfl,rfl,rfl⟩
       have:=hc.ack
       have:¬ (chAt s p.fr).ack=1000000000000:=fun e=>h4 ⟨ho,e⟩
       unfold N12 at *; simp only; omega
      ·rw [if_neg ho]
       exact ⟨chAt s p.fr,hc,rfl,rfl,rfl,ES hp⟩
     ·exact absurd h ‹_›
 ·exact absurd h ‹_›
theorem latePk_zero {s:StateD} {p:dG} {next:Int} {w:bJ} (h:(jE s p next w).2=0):uA s p/\∃ c:ChanD,ChOk c/\(c.st=4\/c.st=(chAt s p.fr).st)/\c.oc=(chAt s p.fr).oc/\c.cn=(chAt s p.fr).cn/\(jE s p next w).1=jG s p c:=by
 unfold jE at h ⊢
 split at h
 ·rename_i h1
  rw [if_pos h1]
  have hp:=lJ.1 h1
  obtain ⟨ok,hi,hc⟩:=endPk_ok hp.en
  refine ⟨hp,?_⟩
  split at h
  ·cases h
  ·rename_i h2
   rw [if_neg h2]
   split at h
   ·rename_i ho
    rw [if_pos ho]
    split at h
    ·cases h
    ·rename_i h3
     rw [if_neg h3]
     split at h
     ·rename_i h4
      rw [if_pos h4]
      exact ⟨{ chAt s p.fr with st:=4 },⟨by simp,hc.cn,hc.oc,hc.snd,hc.rcv,hc.ack⟩,.inl rfl,rfl,rfl,rfl⟩
     ·exact absurd h ‹_›
   ·rename_i ho
    rw [if_neg ho]
    split at h
    ·rename_i h4
     rw [if_pos h4]
     exact ⟨chAt s p.fr,hc,.inr rfl,rfl,rfl,ES hp⟩
    ·exact absurd h ‹_›
 ·exact absurd h ‹_›
open Go.RowKit Go.Proofs.YtkbbipgjmoanhaaGreatDoor.Ty
theorem N_ (x:Int):PureD Tryz.prog 229 [intD x] (.agg [.i (.s (.int .i64 1)),.i (.s (.int .u64 (u64 x))),.i (.sl [])]):=by
 refine aj fun R hR=>?_
 have w1:=wrap_u x
 refine aa 6 Tryz.func229 rfl rfl rfl (fun _ _=>rfl) ?_
 exact wkl trivial
theorem Br (p:dG) (hd:p.data.length<=1048576):PureD Tryz.prog 193 [uF p] (.i (bI (digPk p))):=by
 refine aj fun R hR=>?_
 have c1:=N_ p.fr
 have c2:=N_ p.de
 have c3:=N_ p.seq
 have c4:=N_ p.tout
 have c5:=vK (wP p) (by simp [wP]) (by intro q hq; simp only [wP,numP,IC,List.mem_cons,List.not_mem_nil,or_false] at hq; rcases hq with rfl | rfl | rfl | rfl | rfl <;> simp <;> omega)
  (by intro q hq; simp only [wP,numP,IC,List.mem_cons,List.not_mem_nil,or_false] at hq; rcases hq with rfl | rfl | rfl | rfl | rfl <;> first | exact u64_lt _ | (simp only; omega))
 have c6:=NH (bZ (wP p)).1 (by have:=lD (wP p); omega)
 unfold digPk at hR
 generalize bZ (wP p)=W at *
 simp only [wP,numP,IC,List.map_cons,List.map_nil,encP,faultD,bI] at c5
 generalize u64 p.fr=a1 at *
 generalize u64 p.de=a2 at *
 generalize u64 p.seq=a3 at *
 generalize u64 p.tout=a4 at *
 refine aa 27 Tryz.func193 rfl rfl rfl (fun _ _=>rfl) ?_
 exact wkl trivial
theorem si (p:dG):PureD Tryz.prog 191 [uF p] (intD (dP p)):=by
 refine aj fun R hR=>?_
 unfold dP at hR
 refine aa 47 Tryz.func191 rfl rfl rfl (fun _ _=>rfl) ?_
 exact wkl trivial
def encW (w:Int):List I:=[.s (.int .i64 w)]
attribute [simp,go_sem] encW
theorem RB {st:Int} {ws:List Int} {i:Nat} (h:i < ws.length):stIn st (ws.drop i)=(decide (st=ws[i]) || stIn st (ws.drop (i+1))):=by
 unfold stIn; rw [List.drop_eq_getElem_cons h,List.any_cons]
theorem CP (s:StateD) (hs:StSm s) (i:Int) (ws:List Int) (hw:ws.length<=1000):PureD Tryz.prog 190 [.rp (encSt s) 0,intD i,.i (.sl (ws.map encW))] (.tup [chanD (endPk s i ws).1,connD (endPk s i ws).2.1,intD (endPk s i ws).2.2]):=by
 refine aj fun R hR=>?_
 have c1:=gI s hs
 unfold endPk at hR
 by_cases h:bg s=0
 ·have ok:=aG.1 h
  have hl:=ok.lch
  rw [h] at c1
  rw [if_pos h] at hR
  by_cases h2:i < 0\/(s.chs.length:Int)<=i
  ·rw [if_pos h2] at hR
   clear ok h hs
   refine aa 67 Tryz.func190 rfl rfl rfl (fun _ _=>rfl) ?_
   exact wkl trivial
  ·rw [if_neg h2] at hR
   have hi:i.toNat < s.chs.length:=by omega
   have s0:=get_lt (f:=bu) hi
   have c2:=qV s ok (chAt s i).cn
   rw [(bR (s:=s) (i:=i) (by omega)).1] at hR c2
   clear ok h hs
   generalize s.chs[i.toNat]=x at *
   generalize overCh s x.cn=E at *
   refine aa 67 Tryz.func190 rfl rfl rfl (fun _ _=>rfl) ?_
   refine wkl ?_
   clear hR; intro hR
   have hR':Hr (if stIn x.st (ws.drop 0)=true then D.tup [chanD x,connD E.1,intD E.2] else D.tup [chanD zeroCh,connD zeroCn,intD 12]) R:=by
    rw [List.drop_zero]
    revert hR
    split <;> exact id
   clear hR
   refine aT (ι:=Nat) (fun j=>j<=ws.length/\Hr (if stIn x.st (ws.drop j)=true then D.tup [chanD x,connD E.1,intD E.2] else D.tup [chanD zeroCh,connD zeroCn,intD 12]) R)
    (fun j=>dW [(0,.rp (encSt s) 0),(6,.pt 101 0 0 0),(7,.pt 102 0 0 0),(8,intD 0),(10,.pt 100 0 0 0),(44,.i (.sl (ws.map encW))),(45,intD ws.length),(46,intD j)] [(100,.box ((bu x).map .i)),(101,.box ((bu zeroCh).map .i)),(102,.box ((dA zeroCn).map .i))]) (fun j=>ws.length - j) 0 ⟨Nat.zero_le _,hR'⟩ ?_ ?_
   ·exact dF [] [(100,2543),(101,1000),(102,1001)]
   ·rintro j ⟨hj,hR⟩ RL hL
    clear hR'
    rw [au]
    by_cases h':j < ws.length
    ·have s1:=get_lt (f:=encW) h'
     rw [RB h'] at hR
     have b1:=fun σ' (hq:Hr _ R)=>bk [] [(100,100),(101,101),(102,102)] (hL (j+1) σ' ⟨h',hq⟩)
     clear hL
     generalize ws[j]=w at *
     by_cases e:x.st=w
     ·simp only [e,decide_true,Bool.true_or,if_true] at hR
      clear b1
      exact wkl trivial
     ·simp only [e,decide_false,Bool.false_or] at hR
      exact wkl trivial
    ·rw [List.drop_eq_nil_of_le (by omega)] at hR
     simp only [stIn,List.any_nil,Bool.false_eq_true,if_false] at hR
     clear hL
     exact wkl trivial
 ·rw [if_neg h] at hR
  generalize bg s=W at *
  clear hs
  refine aa 67 Tryz.func190 rfl rfl rfl (fun _ _=>rfl) ?_
  exact wkl trivial
theorem last_get {c:aD} (h:1<=c.known.length):∃ hp:c.known.length - 1 < c.known.length,kw c=c.known[c.known.length - 1] :=
 ⟨by omega,by unfold kw; rw [List.getLastD_eq_getLast?,List.getLast?_eq_getElem?,List.getElem?_eq_getElem (by omega)]; rfl⟩
theorem NR (s:StateD) (hs:StSm s) (i:Int) (data:List UInt8) (hd:data.length<=1048576) (tout:Int) :
  PureD Tryz.prog 132 [stateD s,intD i,.i (bI data),intD tout] (.tup [stateD (jy s i data tout).1,uF (jy s i data tout).2.1,intD (jy s i data tout).2.2]):=by
 refine aj fun R hR=>?_
 have c1:=CP s hs i [3] (by simp)
 simp only [List.map_cons,List.map_nil] at c1
 unfold jy at hR
 by_cases h:(endPk s i [3]).2.2=0
 ·rw [if_pos h] at hR
  rw [kV h] at c1
  obtain ⟨ok,hi,hst,hov⟩:=endPk_zero.1 h
  obtain ⟨hj,h4,h5,h6,h7⟩:=overCh_zero.1 hov
  have hch:=ok.chs _ (bR hi).2
  have hcn:=ok.cns _ (dB hj).2
  have c2:=dN data (by omega)
  have c3:=si ⟨i,(chAt s i).oc,(chAt s i).snd,data,tout⟩
  by_cases h2:dP ⟨i,(chAt s i).oc,(chAt s i).snd,data,tout⟩=0
  ·rw [if_pos h2] at hR
   rw [h2] at c3
   have hcl:0<=(cnAt s (chAt s i).cn).cl/\(cnAt s (chAt s i).cn).cl < (s.cls.length:Int):=⟨hcn.cl.1,h6⟩
   have hm:=eZ hcl
   have hcok:=ok.cls _ hm.2
   have hkl:=hcok.len
   have s0:=get_lt (f:=fM) (l:=s.cls) (i:=(cnAt s (chAt s i).cn).cl.toNat) (by omega)
   rw [<- hm.1] at s0
   obtain ⟨hlp,hlast⟩:=last_get hkl.1
   have s1:=get_lt (f:=iQ) hlp
   unfold Dl at hR
   rw [hlast] at hR
   have w1:IntKind.i64.wrap (((kC s (cnAt s (chAt s i).cn).cl).known.length:Int) - 1)=(((kC s (cnAt s (chAt s i).cn).cl).known.length - 1:Nat):Int):=by rw [ay (by omega) (by omega)]; omega
   have hlen:=ok.lsent
   have hch1:=hch.snd
   have e1:=jW s ok.sm
   have c4:=Br ⟨i,(chAt s i).oc,(chAt s i).snd,data,tout⟩ hd
   have e2:=JE s.sent ⟨i,(chAt s i).snd,digPk ⟨i,(chAt s i).oc,(chAt s i).snd,data,tout⟩⟩ (by omega) ok.sent ⟨i12 ok hi,hch1,yl _⟩
   unfold Bn at hR
   have hi':i.toNat < s.chs.length:=by omega
   have s2:=get_lt (f:=bu) hi'
   have w2:IntKind.i64.wrap ((chAt s i).snd+1)=(chAt s i).snd+1:=by unfold N12 at hch1; rw [ay (by omega) (by omega)]
   have s3:(s.chs.map bu).set i.toNat (bu { chAt s i with snd:=(chAt s i).snd+1 })=(s.chs.set i.toNat { chAt s i with snd:=(chAt s i).snd+1 }).map bu:=List.map_set.symm
   have s4:s.chs.length=(s.chs.set i.toNat { chAt s i with snd:=(chAt s i).snd+1 }).length:=by simp
   rw [<- (bR hi).1] at s2
   clear hs h ok hst hov hj h4 h5 h7 hch hcn h2 hm hcok hch1
   generalize s.chs.set i.toNat { chAt s i with snd:=(chAt s i).snd+1 }=L at *
   generalize digPk ⟨i,(chAt s i).oc,(chAt s i).snd,data,tout⟩=G at *
   generalize chAt s i=x at *
   generalize cnAt s x.cn=y at *
   generalize kC s y.cl=z at *
   generalize z.known[z.known.length - 1]=k at *
   generalize uD s.sent ⟨i,x.snd,G⟩=M at *
   clear hlast hlp
   simp only [bu] at s3
   simp only [Gp,bI] at e2
   refine aa 100 Tryz.func132 rfl rfl rfl (fun _ _=>rfl) ?_
   exact wkl trivial
  ·rw [if_neg h2] at hR
   generalize dP ⟨i,(chAt s i).oc,(chAt s i).snd,data,tout⟩=W at *
   clear hs h ok hst hov h4 h5 h6 h7 hch hcn
   generalize chAt s i=x at *
   generalize cnAt s x.cn=y at *
   refine aa 100 Tryz.func132 rfl rfl rfl (fun _ _=>rfl) ?_
   exact wkl trivial
 ·rw [if_neg h] at hR
  generalize endPk s i [3]=W at *
  clear hs
  refine aa 100 Tryz.func132 rfl rfl rfl (fun _ _=>rfl) ?_
  exact wkl trivial
theorem Eh (s:StateD) (hs:StSm s) (p:dG) (hd:p.data.length<=1048576) (ack:List UInt8) (ha:ack.length<=1048576) (w:bJ) :
  PureD Tryz.prog 135 [stateD s,uF p,.i (bI ack),shD w] (.tup [stateD (jX s p ack w).1,intD (jX s p ack w).2]):=by
 refine aj fun R hR=>?_
 have c1:=si p
 unfold jX at hR
 by_cases h0:dP p=0
 ·rw [if_pos h0] at hR
  rw [h0] at c1
  have hpk:=bK.1 h0
  have c2:=CP s hs p.de [3] (by simp)
  simp only [List.map_cons,List.map_nil] at c2
  by_cases h:(endPk s p.de [3]).2.2=0
  ·rw [if_pos h] at hR
   rw [kV h] at c2
   obtain ⟨ok,hi,hst,hov⟩:=endPk_zero.1 h
   obtain ⟨hj,h4,h5,h6,h7⟩:=overCh_zero.1 hov
   have hch:=ok.chs _ (bR hi).2
   have hcn:=ok.cns _ (dB hj).2
   have q1:=hpk.de
   have q2:=hpk.seq
   have q3:=hpk.fr
   have n1:=ok.lgot
   have n2:=ok.lacks
   have c3:=xB s.got p.de p.seq (by omega) ok.got (by unfold N12 at *; omega) (by unfold N12 at *; omega)
   have hcl:0<=(cnAt s (chAt s p.de).cn).cl/\(cnAt s (chAt s p.de).cn).cl < (s.cls.length:Int):=⟨hcn.cl.1,h6⟩
   have hm:=eZ hcl
   have hcok:=ok.cls _ hm.2
   have hkl:=hcok.len
   have s0:=get_lt (f:=fM) (l:=s.cls) (i:=(cnAt s (chAt s p.de).cn).cl.toNat) (by omega)
   rw [<- hm.1] at s0
   unfold Dl at hR
   have c4:=nP ny p.fr p.seq (by decide) (by unfold N12 gK at *; omega) (by unfold N12 gK at *; omega)
   have c5:=Br p hd
   have c6:=lm (kC s (cnAt s (chAt s p.de).cn).cl) s.t w.h (keyM ny p.fr p.seq) (digPk p) w.p (by omega)
   have c7:=NH ack (by omega)
   have e1:=jW s ok.sm
   have e2:=JE s.acks ⟨p.de,p.seq,sha ack⟩ (by omega) ok.acks ⟨q1,q2,dn _⟩
   have e3:=JE s.got ⟨p.de,p.seq,digPk p⟩ (by omega) ok.got ⟨q1,q2,yl _⟩
   unfold IB at hR
   have hi':p.de.toNat < s.chs.length:=by omega
   have s2:=get_lt (f:=bu) hi'
   have hrc:=hch.rcv
   have w2:IntKind.i64.wrap ((chAt s p.de).rcv+1)=(chAt s p.de).rcv+1:=by unfold N12 at hrc; rw [ay (by omega) (by omega)]
   have s3:(s.chs.map bu).set p.de.toNat (bu { chAt s p.de with rcv:=(chAt s p.de).rcv+1 })=(s.chs.set p.de.toNat { chAt s p.de with rcv:=(chAt s p.de).rcv+1 }).map bu:=List.map_set.symm
   have s4:s.chs.length=(s.chs.set p.de.toNat { chAt s p.de with rcv:=(chAt s p.de).rcv+1 }).length:=by simp
   rw [<- (bR hi).1] at s2
   clear hs h ok hst hov hj h4 h5 h7 hch hcn hm hcok hrc hpk h0
   generalize s.chs.set p.de.toNat { chAt s p.de with rcv:=(chAt s p.de).rcv+1 }=L at *
   generalize fw (kC s (cnAt s (chAt s p.de).cn).cl) s.t w.h (keyM ny p.fr p.seq) (digPk p) w.p=E at *
   generalize keyM ny p.fr p.seq=K at *
   generalize digPk p=G at *
   generalize sha ack=G2 at *
   generalize chAt s p.de=x at *
   generalize cnAt s x.cn=y at *
   generalize kC s y.cl=z at *
   generalize placeM s.got p.de p.seq=pl at *
   generalize (oo s.got p.de p.seq).isSome=had at *
   generalize uD s.got ⟨p.de,p.seq,G⟩=M at *
   generalize uD s.acks ⟨p.de,p.seq,G2⟩=M2 at *
   simp only [bu] at s3
   simp only [Gp,bI] at e2 e3
   simp only [ny] at c4
   cases ho:x.ord
   ·simp only [ho,Bool.false_eq_true,false_and,true_and,false_or,if_false] at hR
    clear s2 s3 s4 w2
    refine aa 162 Tryz.func135 rfl rfl rfl (fun _ _=>rfl) ?_
    exact wkl trivial
   ·simp only [ho,Bool.true_eq_false,false_and,true_and,or_false,if_true] at hR
    clear e3
    simp only [ho] at s3
    obtain ⟨fr,de,seq,data,tout⟩:=p
    simp only at *
    by_cases hq:seq=x.rcv
    ·subst hq
     simp only [not_true_eq_false,if_false] at hR
     by_cases hf:x.oc=fr
     ·subst hf
      simp only [if_true] at hR
      refine aa 162 Tryz.func135 rfl rfl rfl (fun _ _=>rfl) ?_
      exact wkl trivial
     ·simp only [hf,if_false] at hR
      clear e1 e2
      refine aa 162 Tryz.func135 rfl rfl rfl (fun _ _=>rfl) ?_
      exact wkl trivial
    ·simp only [hq,not_false_eq_true,if_true] at hR
     clear e1 e2
     refine aa 162 Tryz.func135 rfl rfl rfl (fun _ _=>rfl) ?_
     exact wkl trivial
  ·rw [if_neg h] at hR
   generalize endPk s p.de [3]=W at *
   clear hs hpk
   refine aa 162 Tryz.func135 rfl rfl rfl (fun _ _=>rfl) ?_
   exact wkl trivial
 ·rw [if_neg h0] at hR
  generalize dP p=W at *
  clear hs
  refine aa 162 Tryz.func135 rfl rfl rfl (fun _ _=>rfl) ?_
  exact wkl trivial
theorem QF (s:StateD) (hs:StSm s) (p:dG) (hd:p.data.length<=1048576) :
  PureD Tryz.prog 201 [.rp (encSt s) 0,.rp (Xo p) 0] (.tup [chanD (uX s p),connD (uW s p),intD (qx s p)]):=by
 refine aj fun R hR=>?_
 have c1:=si p
 unfold qx uX uW at hR
 by_cases h0:dP p=0
 ·rw [if_pos h0,if_pos h0,if_pos h0] at hR
  rw [h0] at c1
  have hpk:=bK.1 h0
  have c2:=CP s hs p.fr [3,4] (by simp)
  simp only [List.map_cons,List.map_nil] at c2
  by_cases h:(endPk s p.fr [3,4]).2.2=0
  ·rw [if_pos h,kV h] at hR
   rw [kV h] at c2
   simp only at hR c2
   obtain ⟨ok,hi,hst,hov⟩:=endPk_zero.1 h
   have q1:=hpk.fr
   have q2:=hpk.seq
   have n1:=ok.lsent
   have c3:=xB s.sent p.fr p.seq (by omega) ok.sent (by unfold N12 at *; omega) (by unfold N12 at *; omega)
   have c4:=Br p hd
   cases hg:oo s.sent p.fr p.seq with
   | none =>
    rw [hg] at c3 hR
    simp only [Option.isSome_none] at c3
    clear hs h ok hst hov hpk h0 hg
    generalize chAt s p.fr=x at *
    generalize cnAt s x.cn=y at *
    generalize placeM s.sent p.fr p.seq=pl at *
    clear c4
    refine aa 88 Tryz.func201 rfl rfl rfl (fun _ _=>rfl) ?_
    exact wkl trivial
   | some m =>
    rw [hg] at c3 hR
    simp only [Option.isSome_some] at c3 hR
    obtain ⟨hp,hv⟩:=KL.place_lt cmpM_ok ok.sent.srt hg
    have s0:(s.sent.map bq)[placeM s.sent p.fr p.seq]?=some (bq m):=by rw [<- hv]; exact get_lt hp
    have c5:=fZ m.dg (digPk p)
    clear hs h ok hst hov hpk h0 hg hv
    generalize chAt s p.fr=x at *
    generalize cnAt s x.cn=y at *
    have hp':placeM s.sent p.fr p.seq < s.sent.length:=hp
    clear hp
    generalize placeM s.sent p.fr p.seq=pl at *
    generalize digPk p=G at *
    by_cases hdd:m.dg=G
    ·rw [decide_eq_true hdd] at c5
     rw [if_pos hdd] at hR
     clear hdd
     refine aa 88 Tryz.func201 rfl rfl rfl (fun _ _=>rfl) ?_
     exact wkl trivial
    ·rw [decide_eq_false hdd] at c5
     rw [if_neg hdd] at hR
     clear hdd
     refine aa 88 Tryz.func201 rfl rfl rfl (fun _ _=>rfl) ?_
     exact wkl trivial
  ·rw [if_neg h] at hR
   generalize endPk s p.fr [3,4]=W at *
   clear hs hpk
   refine aa 88 Tryz.func201 rfl rfl rfl (fun _ _=>rfl) ?_
   exact wkl trivial
 ·rw [if_neg h0,if_neg h0,if_neg h0] at hR
  generalize dP p=W at *
  clear hs
  refine aa 88 Tryz.func201 rfl rfl rfl (fun _ _=>rfl) ?_
  exact wkl trivial
theorem nN {s:StateD} {p:dG} (h:uA s p):uX s p=chAt s p.fr/\uW s p=cnAt s (chAt s p.fr).cn:=by
 unfold uX uW
 rw [if_pos (bK.2 h.pk),if_pos (bK.2 h.pk),kV h.en]
 exact ⟨rfl,rfl⟩
theorem JG (l:List bD) (ch seq:Int) (hl:l.length<=1000) (hk:ky l) (h1:N12 0 ch) (h2:N12 1 seq) {u:bD} (hg:oo l ch seq=some u) :
  aN Tryz.prog 202 [.os 0 3 0 l.length,intD ch,intD seq] (hF [(0,.arr 3 (l.map bq))]) (.os 1 3 0 (kY l ch seq).length) (hOf (hF [(0,.arr 3 (l.map bq))]) [(1,.arr 3 ((kY l ch seq).map bq))]):=by
 refine iN fun R R' hR hR'=>?_
 have c1:=xB l ch seq (by omega) hk (by unfold N12 at *; omega) (by unfold N12 at *; omega)
 rw [hg] at c1
 obtain ⟨hp,hv⟩:=KL.place_lt cmpM_ok hk.srt hg
 have hp':placeM l ch seq < l.length:=hp
 have e2:=KN (l.map bq) (placeM l ch seq) (by simpa using hp) (by simp; omega) (uM l)
 have he:(l.map bq).take (placeM l ch seq)++(l.map bq).drop (placeM l ch seq+1)=(kY l ch seq).map bq:=by
  unfold kY; rw [KL.put_del cmpM_ok hk.srt hg]; simp
 have hlen:(kY l ch seq).length=l.length - 1:=by
  unfold kY; rw [KL.put_del cmpM_ok hk.srt hg]
  simp; omega
 rw [he,List.length_map,<- hlen] at e2
 simp only [Option.isSome_some] at c1
 have d1:iV [] [(1,901)]:=⟨trivial⟩
 have w1:IntKind.i64.wrap ((placeM l ch seq:Int)+1)=((placeM l ch seq+1:Nat):Int):=by rw [ay (by omega) (by omega)]; omega
 clear he hk hg hv hp
 generalize placeM l ch seq=p at *
 generalize kY l ch seq=L at *
 clear hlen
 simp only [intD] at e2
 obtain ⟨rfl⟩:=hR
 obtain ⟨rfl⟩:=hR'
 refine aa 23 Tryz.func202 rfl rfl rfl (fun o ho=>by simp [hF,lk,show o≠0 by omega,show o≠1 by omega,show o≠2 by omega,show o≠3 by omega,show o≠4 by omega,show o≠5 by omega]) ?_
 exact wkl trivial
theorem Uw (s:StateD) (hs:StSm s) (p:dG) (hd:p.data.length<=1048576) (ack:List UInt8) (ha:ack.length<=1048576) (w:bJ) :
  PureD Tryz.prog 137 [stateD s,uF p,.i (bI ack),shD w] (.tup [stateD (qb s p ack w).1,intD (qb s p ack w).2]):=by
 refine aj fun R hR=>?_
 have c1:=QF s hs p hd
 unfold qb at hR
 by_cases h:qx s p=0
 ·rw [if_pos h] at hR
  have hp:=lJ.1 h
  rw [h,(nN hp).1,(nN hp).2] at c1
  obtain ⟨ok,hi,hst,hov⟩:=endPk_zero.1 hp.en
  obtain ⟨hj,h4,h5,h6,h7⟩:=overCh_zero.1 hov
  have hch:=ok.chs _ (bR hi).2
  have hcn:=ok.cns _ (dB hj).2
  have q1:=hp.pk.de
  have q2:=hp.pk.seq
  have q3:=hp.pk.fr
  have n1:=ok.lsent
  have hcl:0<=(cnAt s (chAt s p.fr).cn).cl/\(cnAt s (chAt s p.fr).cn).cl < (s.cls.length:Int):=⟨hcn.cl.1,h6⟩
  have hm:=eZ hcl
  have hkl:=(ok.cls _ hm.2).len
  have s0:=get_lt (f:=fM) (l:=s.cls) (i:=(cnAt s (chAt s p.fr).cn).cl.toNat) (by omega)
  rw [<- hm.1] at s0
  unfold Dl at hR
  have c4:=nP FP p.de p.seq (by decide) (by unfold N12 gK at *; omega) (by unfold N12 gK at *; omega)
  have c6:=lm (kC s (cnAt s (chAt s p.fr).cn).cl) s.t w.h (keyM FP p.de p.seq) (sha ack) w.p (by omega)
  have c7:=NH ack (by omega)
  have e1:=jW s ok.sm
  have e2:=JG s.sent p.fr p.seq (by omega) ok.sent q3 q2 hp.there
  unfold jG Gs at hR
  have hi':p.fr.toNat < s.chs.length:=by omega
  have s2:=get_lt (f:=bu) hi'
  have hrc:=hch.ack
  have w2:IntKind.i64.wrap ((chAt s p.fr).ack+1)=(chAt s p.fr).ack+1:=by unfold N12 at hrc; rw [ay (by omega) (by omega)]
  have s3:(s.chs.map bu).set p.fr.toNat (bu { chAt s p.fr with ack:=(chAt s p.fr).ack+1 })=(s.chs.set p.fr.toNat { chAt s p.fr with ack:=(chAt s p.fr).ack+1 }).map bu:=List.map_set.symm
  have s4:s.chs.length=(s.chs.set p.fr.toNat { chAt s p.fr with ack:=(chAt s p.fr).ack+1 }).length:=by simp
  rw [<- (bR hi).1] at s2
  clear hs h ok hst hov hj h4 h5 h7 hch hcn hm hrc hp
  generalize s.chs.set p.fr.toNat { chAt s p.fr with ack:=(chAt s p.fr).ack+1 }=L at *
  generalize fw (kC s (cnAt s (chAt s p.fr).cn).cl) s.t w.h (keyM FP p.de p.seq) (sha ack) w.p=E at *
  generalize keyM FP p.de p.seq=K at *
  generalize sha ack=G2 at *
  generalize chAt s p.fr=x at *
  generalize cnAt s x.cn=y at *
  generalize kC s y.cl=z at *
  generalize kY s.sent p.fr p.seq=M at *
  simp only [bu] at s3
  simp only [intD] at e2
  simp only [FP] at c4
  obtain ⟨fr,de,seq,data,tout⟩:=p
  simp only at *
  cases ho:x.ord
  ·simp only [ho,Bool.false_eq_true,false_and,if_false] at hR
   clear s2 s3 s4 w2
   refine aa 93 Tryz.func137 rfl rfl rfl (fun _ _=>rfl) ?_
   exact wkl trivial
  ·simp only [ho,true_and,if_true] at hR
   simp only [ho] at s3
   by_cases hq:seq=x.ack
   ·subst hq
    simp only [not_true_eq_false,if_false] at hR
    refine aa 93 Tryz.func137 rfl rfl rfl (fun _ _=>rfl) ?_
    exact wkl trivial
   ·simp only [hq,not_false_eq_true,if_true] at hR
    clear e1 e2
    refine aa 93 Tryz.func137 rfl rfl rfl (fun _ _=>rfl) ?_
    exact wkl trivial
 ·rw [if_neg h] at hR
  generalize qx s p=W at *
  generalize uX s p=x at *
  generalize uW s p=y at *
  clear hs
  refine aa 93 Tryz.func137 rfl rfl rfl (fun _ _=>rfl) ?_
  exact wkl trivial
theorem OA (s:StateD) (hs:StSm s) (p:dG) (hd:p.data.length<=1048576) (next:Int) (w:bJ) :
  PureD Tryz.prog 138 [stateD s,uF p,intD next,shD w] (.tup [stateD (jE s p next w).1,intD (jE s p next w).2]):=by
 refine aj fun R hR=>?_
 have c1:=QF s hs p hd
 unfold jE at hR
 by_cases h:qx s p=0
 ·rw [if_pos h] at hR
  have hp:=lJ.1 h
  rw [h,(nN hp).1,(nN hp).2] at c1
  obtain ⟨ok,hi,hst,hov⟩:=endPk_zero.1 hp.en
  obtain ⟨hj,h4,h5,h6,h7⟩:=overCh_zero.1 hov
  have hcn:=ok.cns _ (dB hj).2
  have q1:=hp.pk.de
  have q2:=hp.pk.seq
  have q3:=hp.pk.fr
  have n1:=ok.lsent
  have hcl:0<=(cnAt s (chAt s p.fr).cn).cl/\(cnAt s (chAt s p.fr).cn).cl < (s.cls.length:Int):=⟨hcn.cl.1,h6⟩
  have hm:=eZ hcl
  have hkl:=(ok.cls _ hm.2).len
  have s0:=get_lt (f:=fM) (l:=s.cls) (i:=(cnAt s (chAt s p.fr).cn).cl.toNat) (by omega)
  rw [<- hm.1] at s0
  unfold Dl at hR
  have c2:=Jv p.de (by unfold N12 gK at *; omega)
  have c3:=JA next
  have c4:=nP FO p.de p.seq (by decide) (by unfold N12 gK at *; omega) (by unfold N12 gK at *; omega)
  have c5:=lm (kC s (cnAt s (chAt s p.fr).cn).cl) s.t w.h (keyN p.de) (FT next) w.p (by omega)
  have c6:=Gw (kC s (cnAt s (chAt s p.fr).cn).cl) s.t w.h (keyM FO p.de p.seq) w.g (by omega)
  have e1:=jW s ok.sm
  have e2:=JG s.sent p.fr p.seq (by omega) ok.sent q3 q2 hp.there
  unfold jG Gs at hR
  have hi':p.fr.toNat < s.chs.length:=by omega
  have s2:=get_lt (f:=bu) hi'
  have s3:(s.chs.map bu).set p.fr.toNat (bu { chAt s p.fr with st:=4 })=(s.chs.set p.fr.toNat { chAt s p.fr with st:=4 }).map bu:=List.map_set.symm
  have s4:s.chs.length=(s.chs.set p.fr.toNat { chAt s p.fr with st:=4 }).length:=by simp
  rw [<- (bR hi).1] at s2
  clear hs h ok hst hov hj h4 h5 h7 hcn hm hp
  generalize s.chs.set p.fr.toNat { chAt s p.fr with st:=4 }=L at *
  generalize fw (kC s (cnAt s (chAt s p.fr).cn).cl) s.t w.h (keyN p.de) (FT next) w.p=E at *
  generalize nQ (kC s (cnAt s (chAt s p.fr).cn).cl) s.t w.h (keyM FO p.de p.seq) w.g=E2 at *
  generalize keyM FO p.de p.seq=K at *
  generalize keyN p.de=K2 at *
  generalize FT next=V at *
  generalize chAt s p.fr=x at *
  generalize cnAt s x.cn=y at *
  generalize kC s y.cl=z at *
  generalize kY s.sent p.fr p.seq=M at *
  simp only [bu] at s3
  simp only [intD] at e2
  simp only [FO] at c4
  cases ho:x.ord
  ·simp only [ho,Bool.false_eq_true,if_false] at hR
   clear s2 s3 s4 c2 c3 c5
   refine aa 96 Tryz.func138 rfl rfl rfl (fun _ _=>rfl) ?_
   exact wkl trivial
  ·simp only [ho,if_true] at hR
   simp only [ho] at s3
   clear c4 c6
   refine aa 96 Tryz.func138 rfl rfl rfl (fun _ _=>rfl) ?_
   exact wkl trivial
 ·rw [if_neg h] at hR
  generalize qx s p=W at *
  generalize uX s p=x at *
  generalize uW s p=y at *
  clear hs
  refine aa 96 Tryz.func138 rfl rfl rfl (fun _ _=>rfl) ?_
  exact wkl trivial
end Go.Proofs.YtkbbipgjmoanhaaGreatDoor
