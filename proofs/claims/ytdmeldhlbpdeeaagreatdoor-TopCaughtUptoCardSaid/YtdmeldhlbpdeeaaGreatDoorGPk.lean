/- Merged texts: PkP, PkL, PkA, PkB, PkC, PkD. -/
import Derived.Test.YtdmeldhlbpdeeaaGreatDoorGCh
set_option linter.all false
set_option maxHeartbeats 16000000
set_option maxRecDepth 20000
namespace Go.Proofs.YtdmeldhlbpdeeaaGreatDoor
open Go Go.Abs
structure dX where
 fr:Int
 de:Int
 seq:Int
 data:List UInt8
 tout:Int
def PL (p:dX):List I:=[.s (.int .i64 p.fr),.s (.int .i64 p.de),.s (.int .i64 p.seq),bI p.data,.s (.int .i64 p.tout)]
def xw (p:dX):D:=.agg [.i (.s (.int .i64 p.fr)),.i (.s (.int .i64 p.de)),.i (.s (.int .i64 p.seq)),.i (bI p.data),.i (.s (.int .i64 p.tout))]
def zeroPk:dX:=⟨0,0,0,[],0⟩
attribute [simp,go_sem] PL xw zeroPk
def zG (p:dX):List bC:=[jh (u64 p.fr),jh (u64 p.de),jh (u64 p.seq),El p.data,jh (u64 p.tout)]
def digPk (p:dX):List UInt8:=sha (bD (zG p)).1
def fo (p:dX):Int :=
 if p.fr<0\/1000000000000<p.fr\/p.de<0\/1000000000000<p.de\/p.seq<1\/1000000000000<p.seq\/p.tout<1\/1000000000000<p.tout then 3 else if(150:Int)<p.data.length then 4 else 0
structure Yu (p:dX):Prop where
 fr:N12 0 p.fr
 de:N12 0 p.de
 seq:N12 1 p.seq
 tout:N12 1 p.tout
 data:p.data.length<=150
theorem bP {p:dX}:fo p=0↔Yu p:=by
 unfold fo;constructor
 ·intro h;split at h
  ·cases h
  ·split at h
   ·cases h
   ·exact⟨by unfold N12;omega,by unfold N12;omega,by unfold N12;omega,by unfold N12;omega,by omega⟩
 ·rintro⟨a,b,c,d,e⟩;unfold N12 at*;rw[if_neg (by omega),if_neg (by omega)]
def stIn (st:Int)(ws:List Int):Bool:=ws.any λw=>decide (st=w)
def endPk (s:StateD)(i:Int)(ws:List Int):ChanD×ConnD×Int :=
 if bq s=0 then(if i<0\/(s.chs.length:Int)<=i then(zeroCh,zeroCn,6)else if stIn (chAt s i).st ws=true then(chAt s i,(overCh s (chAt s i).cn).1,(overCh s (chAt s i).cn).2)else(zeroCh,zeroCn,12))else(zeroCh,zeroCn,bq s)
theorem endPk_zero {s:StateD}{i:Int}{ws:List Int}:(endPk s i ws).2.2=0↔StOk s/\(0<=i/\i<(s.chs.length:Int))/\stIn (chAt s i).st ws=true/\(overCh s (chAt s i).cn).2=0:=by
 unfold endPk;rw[<- aC];constructor
 ·intro h;split at h
  ·split at h
   ·cases h
   ·split at h
    ·exact⟨by assumption,by omega,by assumption,h⟩
    ·cases h
  ·exact absurd h ‹_›
 ·rintro⟨a,b,c,d⟩;rw[if_pos a,if_neg (by omega),if_pos c];exact d
theorem nD {s:StateD}{i:Int}{ws:List Int}(h:(endPk s i ws).2.2=0):endPk s i ws=(chAt s i,cnAt s (chAt s i).cn,0):=by obtain⟨a,b,c,d⟩:=endPk_zero.1 h;unfold endPk;rw[if_pos (aC.2 a),if_neg (by omega),if_pos c,rO d]
def Bf (s:StateD)(i:Int):aD:=gU s (cnAt s (chAt s i).cn).cl
def xq (s:StateD)(i:Int)(p:dX):StateD:={s with sent:=ui s.sent ⟨i,p.seq,digPk p⟩,chs:=s.chs.set i.toNat {chAt s i with snd:=(chAt s i).snd+1}}
def lg (s:StateD)(i:Int)(data:List UInt8)(tout:Int):StateD×dX×Int :=
 if(endPk s i [3]).2.2=0 then
  (if fo ⟨i,(chAt s i).oc,(chAt s i).snd,data,tout⟩=0 then
   (if tout<=(ky (Bf s i)).h then(zeroSt,zeroPk,11)
   else if(s.sent.length:Int)=50\/(chAt s i).snd=1000000000000 then(zeroSt,zeroPk,5)
   else(xq s i ⟨i,(chAt s i).oc,(chAt s i).snd,data,tout⟩,⟨i,(chAt s i).oc,(chAt s i).snd,data,tout⟩,0))
  else(zeroSt,zeroPk,fo ⟨i,(chAt s i).oc,(chAt s i).snd,data,tout⟩))
 else(zeroSt,zeroPk,(endPk s i [3]).2.2)
def mK:List UInt8:=[115,101,110,116]
def FP:List UInt8:=[103,111,116]
def FQ:List UInt8:=[97,99,107]
def recvS (s:StateD)(p:dX)(ack:List UInt8):StateD :=
 if(chAt s p.de).ord=true then{s with chs:=s.chs.set p.de.toNat {chAt s p.de with rcv:=(chAt s p.de).rcv+1},acks:=ui s.acks ⟨p.de,p.seq,sha ack⟩}
 else{s with got:=ui s.got ⟨p.de,p.seq,digPk p⟩,acks:=ui s.acks ⟨p.de,p.seq,sha ack⟩}
def kG (s:StateD)(p:dX)(ack:List UInt8)(w:bH):StateD×Int :=
 if fo p=0 then
  (if(endPk s p.de [3]).2.2=0 then
   (if(chAt s p.de).oc=p.fr then
    (if p.tout<=s.h then(zeroSt,11)
    else if((chAt s p.de).ord=true/\¬p.seq=(chAt s p.de).rcv)\/((chAt s p.de).ord=false/\(pQ s.got p.de p.seq).isSome=true)then(zeroSt,12)
    else if(s.got.length:Int)=50\/(s.acks.length:Int)=50\/(150:Int)<ack.length\/(chAt s p.de).rcv=1000000000000 then(zeroSt,5)
    else if bF (Bf s p.de) s.t w.h (keyM mK p.fr p.seq) (digPk p) w.p=0 then(recvS s p ack,0)
    else(zeroSt,bF (Bf s p.de) s.t w.h (keyM mK p.fr p.seq) (digPk p) w.p))
   else(zeroSt,8))
  else(zeroSt,(endPk s p.de [3]).2.2))
 else(zeroSt,fo p)
def uk (s:StateD)(p:dX):Int :=
 if fo p=0 then
  (if(endPk s p.fr [3,4]).2.2=0 then
   (if(chAt s p.fr).oc=p.de then
    (match pQ s.sent p.fr p.seq with
    |none=>6
    |some m=>if m.dg=digPk p then 0 else 8)
   else 8)
  else(endPk s p.fr [3,4]).2.2)
 else fo p
def xO (s:StateD)(p:dX):ChanD:=if fo p=0 then(endPk s p.fr [3,4]).1 else zeroCh
def xN (s:StateD)(p:dX):ConnD:=if fo p=0 then(endPk s p.fr [3,4]).2.1 else zeroCn
def lJ (s:StateD)(p:dX)(c:ChanD):StateD:={s with sent:=nG s.sent p.fr p.seq,chs:=s.chs.set p.fr.toNat c}
def KU (s:StateD)(p:dX):StateD:={s with sent:=nG s.sent p.fr p.seq}
def sM (s:StateD)(p:dX)(ack:List UInt8)(w:bH):StateD×Int :=
 if uk s p=0 then
  (if(150:Int)<ack.length then(zeroSt,4)
  else if(chAt s p.fr).ord=true/\¬p.seq=(chAt s p.fr).ack then(zeroSt,12)
  else if(chAt s p.fr).ord=true/\(chAt s p.fr).ack=1000000000000 then(zeroSt,5)
  else if bF (Bf s p.fr) s.t w.h (keyM FQ p.de p.seq) (sha ack) w.p=0 then
   (if(chAt s p.fr).ord=true then(lJ s p {chAt s p.fr with ack:=(chAt s p.fr).ack+1},0)else(KU s p,0))
  else(zeroSt,bF (Bf s p.fr) s.t w.h (keyM FQ p.de p.seq) (sha ack) w.p))
 else(zeroSt,uk s p)
def lC (s:StateD)(p:dX)(next:Int)(w:bH):StateD×Int :=
 if uk s p=0 then
  (if w.h<p.tout then(zeroSt,11)
  else if(chAt s p.fr).ord=true then
   (if next<1\/p.seq<next then(zeroSt,12)
   else if bF (Bf s p.fr) s.t w.h (keyN p.de) (Dw next) w.p=0 then(lJ s p {chAt s p.fr with st:=4},0)
   else(zeroSt,bF (Bf s p.fr) s.t w.h (keyN p.de) (Dw next) w.p))
  else if kI (Bf s p.fr) s.t w.h (keyM FP p.de p.seq) w.g=0 then(KU s p,0)
  else(zeroSt,kI (Bf s p.fr) s.t w.h (keyM FP p.de p.seq) w.g))
 else(zeroSt,uk s p)
structure oV (l:List MarkD):Prop where
 ok:lN l
 len:l.length<=50
theorem StOk.pk {s:StateD}(h:StOk s){x:List ChanD}{a b c:List MarkD}(hl:x.length=s.chs.length)(hx:∀c∈x,ChOk c)(h1:oV a)(h2:oV b)(h3:oV c):StOk {s with chs:=x,sent:=a,got:=b,acks:=c} :=
 ⟨h.name,h.h,h.t,h.lcl,h.lcn,by have:=h.lch;simp only;omega,h1.len,h2.len,h3.len,h.lpus,h.cls,h.cns,hx,h1.ok,h2.ok,h3.ok,h.pus⟩
theorem StOk.l1 {s:StateD}(h:StOk s):oV s.sent:=⟨h.sent,h.lsent⟩
theorem StOk.l2 {s:StateD}(h:StOk s):oV s.got:=⟨h.got,h.lgot⟩
theorem StOk.l3 {s:StateD}(h:StOk s):oV s.acks:=⟨h.acks,h.lacks⟩
theorem uP {l:List MarkD}(h:oV l)(hl:¬l.length=50){m:MarkD}(hm:Sd m):oV (ui l m):=by
 refine⟨⟨λx hx=>?_,KL.srt_put cmpM_ok h.ok.srt (λx hx=>by cases hx;rfl)⟩,?_⟩
 ·rcases(KL.mem_put cmpM_ok).1 hx with hx|hx
  ·exact h.ok.all x hx.1
  ·cases hx;exact hm
 ·rw[GA h.ok];have:=h.len;split<;>omega
theorem PP {l:List MarkD}(h:lN l)(ch seq:Int):(nG l ch seq).length<=l.length:=by
 unfold nG;cases hg:pQ l ch seq with
 |none=>rw[KL.put_none cmpM_ok h.srt hg];exact Nat.le_refl _
 |some u=>rw[KL.put_del cmpM_ok h.srt hg];simp;omega
theorem PO {l:List MarkD}(h:oV l)(ch seq:Int):oV (nG l ch seq):=by
 refine⟨⟨λx hx=>?_,KL.srt_put cmpM_ok h.ok.srt (λx hx=>by cases hx)⟩,?_⟩
 ·rcases(KL.mem_put cmpM_ok).1 hx with hx|hx
  ·exact h.ok.all x hx.1
  ·cases hx
 ·have:=PP h.ok ch seq;have:=h.len;omega
theorem Eh {s:StateD}(ok:StOk s){i:Int}{c:ChanD}(hc:ChOk c):∀x∈s.chs.set i.toNat c,ChOk x:=λx hx=>by
 rcases List.mem_or_eq_of_mem_set hx with hx|rfl
 ·exact ok.chs x hx
 ·exact hc
theorem Uy {l:List MarkD}(h:lN l)(m:MarkD)(ch seq:Int):pQ (ui l m) ch seq=if ch=m.ch/\seq=m.seq then some m else pQ l ch seq:=by
 unfold pQ ui;have:=KL.get_put (κ:=mk) cmpM_ok h.srt (k:=(m.ch,m.seq)) (v:=some m) (λx hx=>by cases hx;rfl) (ch,seq);rw[this];by_cases e:ch=m.ch/\seq=m.seq
 ·rw[if_pos e,if_pos (by rw[e.1,e.2])]
 ·rw[if_neg e,if_neg (λhh=>e (by simp only[Prod.mk.injEq]at hh;exact hh))]
theorem Pm {l:List MarkD}(h:lN l)(ch' seq' ch seq:Int):pQ (nG l ch' seq') ch seq=if ch=ch'/\seq=seq' then none else pQ l ch seq:=by
 unfold pQ nG;have:=KL.get_put (κ:=mk) cmpM_ok h.srt (k:=(ch',seq')) (v:=none) (λx hx=>by cases hx) (ch,seq);rw[this];by_cases e:ch=ch'/\seq=seq'
 ·rw[if_pos e,if_pos (by rw[e.1,e.2])]
 ·rw[if_neg e,if_neg (λhh=>e (by simp only[Prod.mk.injEq]at hh;exact hh))]
structure JW (s:StateD) (own:Int) (t:StateD):Prop where
 ok:StOk t
 same:{t with chs:=s.chs,sent:=s.sent,got:=s.got,acks:=s.acks}=s
 len:t.chs.length=s.chs.length
 chs:∀i (h:i<s.chs.length) (h':i<t.chs.length),¬(i:Int)=own->t.chs[i]=s.chs[i]
 sent:∀m∈s.sent,¬m.ch=own->pQ t.sent m.ch m.seq=some m
 got:∀m∈s.got,¬m.ch=own->pQ t.got m.ch m.seq=some m
 acks:∀m∈s.acks,¬m.ch=own->pQ t.acks m.ch m.seq=some m
theorem jB {l:List MarkD}(h:lN l){m:MarkD}(hm:m∈l):pQ l m.ch m.seq=some m:=(KL.get_iff cmpM_ok h.srt).2 ⟨hm,rfl⟩
theorem uT {l:List MarkD}(h:lN l){x m:MarkD}(hm:m∈l)(hne:¬m.ch=x.ch):pQ (ui l x) m.ch m.seq=some m:=by rw[Uy h,if_neg (λe=>hne e.1)];exact jB h hm
theorem OM {l:List MarkD}(h:lN l){ch seq:Int}{m:MarkD}(hm:m∈l)(hne:¬m.ch=ch):pQ (nG l ch seq) m.ch m.seq=some m:=by rw[Pm h,if_neg (λe=>hne e.1)];exact jB h hm
theorem zx {l:List ChanD}{own:Int}(h0:0<=own){c:ChanD}(i:Nat)(h:i<l.length)(h':i<(l.set own.toNat c).length)(hne:¬(i:Int)=own):(l.set own.toNat c)[i]=l[i]:=by rw[List.getElem_set_ne];omega
theorem endPk_ok {s:StateD}{i:Int}{ws:List Int}(h:(endPk s i ws).2.2=0):StOk s/\(0<=i/\i<(s.chs.length:Int))/\ChOk (chAt s i):=by obtain⟨a,b,_,_⟩:=endPk_zero.1 h;exact⟨a,b,a.chs _ (dD b).2⟩
theorem Au (p:dX):(digPk p).length=32:=bg _
theorem i12 {s:StateD}(ok:StOk s){i:Int}(h:0<=i/\i<(s.chs.length:Int)):N12 0 i:=by have:=ok.lch;unfold N12;omega
structure JR (s:StateD) (i:Int) (data:List UInt8) (tout:Int):Prop where
 en:(endPk s i [3]).2.2=0
 pk:Yu ⟨i,(chAt s i).oc,(chAt s i).snd,data,tout⟩
 late:(ky (Bf s i)).h<tout
 room:¬s.sent.length=50/\¬(chAt s i).snd=1000000000000
theorem vO {s:StateD}{i:Int}{data:List UInt8}{tout:Int}:(lg s i data tout).2.2=0↔JR s i data tout:=by
 unfold lg;constructor
 ·intro h;split at h
  ·split at h
   ·split at h
    ·cases h
    ·split at h
     ·cases h
     ·exact⟨by assumption,bP.1 (by assumption),by omega,by omega⟩
   ·exact absurd h ‹_›
  ·exact absurd h ‹_›
 ·rintro⟨a,b,c,d⟩;rw[if_pos a,if_pos (bP.2 b),if_neg (by omega),if_neg (by omega)]
theorem pg {s:StateD}{i:Int}{data:List UInt8}{tout:Int}(h:JR s i data tout):lg s i data tout=(xq s i ⟨i,(chAt s i).oc,(chAt s i).snd,data,tout⟩,⟨i,(chAt s i).oc,(chAt s i).snd,data,tout⟩,0):=by obtain⟨a,b,c,d⟩:=h;unfold lg;rw[if_pos a,if_pos (bP.2 b),if_neg (by omega),if_neg (by omega)]
theorem MO {s:StateD}{i:Int}{data:List UInt8}{tout:Int}(h:JR s i data tout):JW s i (xq s i ⟨i,(chAt s i).oc,(chAt s i).snd,data,tout⟩):=by
 obtain⟨ok,hi,hc⟩:=endPk_ok h.en;have hk:Sd ⟨i,(chAt s i).snd,digPk ⟨i,(chAt s i).oc,(chAt s i).snd,data,tout⟩⟩:=⟨i12 ok hi,hc.snd,Au _⟩
 refine⟨?_,rfl,by simp[xq],λj h1 h2 hne=>zx hi.1 j h1 h2 hne,λm hm hne=>uT ok.sent hm hne,λm hm _=>jB ok.got hm,λm hm _=>jB ok.acks hm⟩;exact ok.pk (by simp) (Eh ok ⟨hc.st,hc.cn,hc.oc,by have:=hc.snd;have:=h.room;unfold N12 at*;simp only;omega,hc.rcv,hc.ack⟩) (uP ok.l1 h.room.1 hk) ok.l2 ok.l3
structure JU (s:StateD) (p:dX) (ack:List UInt8) (w:bH):Prop where
 pk:Yu p
 en:(endPk s p.de [3]).2.2=0
 fit:(chAt s p.de).oc=p.fr
 time:s.h<p.tout
 new:¬(((chAt s p.de).ord=true/\¬p.seq=(chAt s p.de).rcv)\/((chAt s p.de).ord=false/\(pQ s.got p.de p.seq).isSome=true))
 room:¬s.got.length=50/\¬s.acks.length=50/\ack.length<=150/\¬(chAt s p.de).rcv=1000000000000
 shown:bF (Bf s p.de) s.t w.h (keyM mK p.fr p.seq) (digPk p) w.p=0
theorem Ej {s:StateD}{p:dX}{ack:List UInt8}{w:bH}:(kG s p ack w).2=0↔JU s p ack w:=by
 unfold kG;constructor
 ·intro h;split at h
  ·split at h
   ·split at h
    ·split at h
     ·cases h
     ·split at h
      ·cases h
      ·split at h
       ·cases h
       ·split at h
        ·exact⟨bP.1 (by assumption),by assumption,by assumption,by omega,by assumption,by omega,by assumption⟩
        ·exact absurd h ‹_›
    ·cases h
   ·exact absurd h ‹_›
  ·exact absurd h ‹_›
 ·rintro⟨a,b,c,d,e,f,g⟩;rw[if_pos (bP.2 a),if_pos b,if_pos c,if_neg (by omega),if_neg e,if_neg (by omega),if_pos g]
theorem vT {s:StateD}{p:dX}{ack:List UInt8}{w:bH}(h:JU s p ack w):kG s p ack w=(recvS s p ack,0):=by obtain⟨a,b,c,d,e,f,g⟩:=h;unfold kG;rw[if_pos (bP.2 a),if_pos b,if_pos c,if_neg (by omega),if_neg e,if_neg (by omega),if_pos g]
theorem Ng {s:StateD}{p:dX}{ack:List UInt8}{w:bH}(h:JU s p ack w):JW s p.de (recvS s p ack):=by
 obtain⟨ok,hi,hc⟩:=endPk_ok h.en;have k1:Sd ⟨p.de,p.seq,digPk p⟩:=⟨h.pk.de,h.pk.seq,Au _⟩
 have k2:Sd ⟨p.de,p.seq,sha ack⟩:=⟨h.pk.de,h.pk.seq,bg _⟩
 unfold recvS;split
 ·refine⟨?_,rfl,by simp,λj h1 h2 hne=>zx hi.1 j h1 h2 hne,λm hm _=>jB ok.sent hm,λm hm _=>jB ok.got hm,λm hm hne=>uT ok.acks hm hne⟩;exact ok.pk (by simp) (Eh ok ⟨hc.st,hc.cn,hc.oc,hc.snd,by have:=hc.rcv;have:=h.room;unfold N12 at*;simp only;omega,hc.ack⟩) ok.l1 ok.l2 (uP ok.l3 h.room.2.1 k2)
 ·refine⟨?_,rfl,rfl,λj h1 h2 hne=>rfl,λm hm _=>jB ok.sent hm,λm hm hne=>uT ok.got hm hne,λm hm hne=>uT ok.acks hm hne⟩;exact ok.pk (x:=s.chs) rfl ok.chs ok.l1 (uP ok.l2 h.room.1 k1) (uP ok.l3 h.room.2.1 k2)
structure xm (s:StateD) (p:dX):Prop where
 pk:Yu p
 en:(endPk s p.fr [3,4]).2.2=0
 fit:(chAt s p.fr).oc=p.de
 there:pQ s.sent p.fr p.seq=some ⟨p.fr,p.seq,digPk p⟩
theorem om {s:StateD}{p:dX}:uk s p=0↔xm s p:=by
 unfold uk;constructor
 ·intro h;by_cases h1:fo p=0
  ·rw[if_pos h1]at h;by_cases h2:(endPk s p.fr [3,4]).2.2=0
   ·rw[if_pos h2]at h;by_cases h3:(chAt s p.fr).oc=p.de
    ·rw[if_pos h3]at h;cases hm:pQ s.sent p.fr p.seq with
     |none=>rw[hm]at h;cases h
     |some m =>
      rw[hm]at h;simp only at h;by_cases hd:m.dg=digPk p
      ·refine⟨bP.1 h1,h2,h3,?_⟩;obtain⟨ok,_,_⟩:=endPk_ok h2;have:=((KL.get_iff cmpM_ok ok.sent.srt).1 hm).2;simp only[mk,Prod.mk.injEq]at this;rw[hm];obtain⟨a,b,c⟩:=m;simp only at this hd;rw[this.1,this.2,hd]
      ·rw[if_neg hd]at h;cases h
    ·rw[if_neg h3]at h;cases h
   ·rw[if_neg h2]at h;exact absurd h h2
  ·rw[if_neg h1]at h;exact absurd h h1
 ·rintro⟨a,b,c,d⟩;rw[if_pos (bP.2 a),if_pos b,if_pos c,d];simp
theorem PN {s:StateD}{p:dX}(h:xm s p){c:ChanD}(hc:ChOk c):JW s p.fr (lJ s p c):=by obtain⟨ok,hi,_⟩:=endPk_ok h.en;refine⟨?_,rfl,by simp[lJ],λj h1 h2 hne=>zx hi.1 j h1 h2 hne,λm hm hne=>OM ok.sent hm hne,λm hm _=>jB ok.got hm,λm hm _=>jB ok.acks hm⟩;exact ok.pk (by simp) (Eh ok hc) (PO ok.l1 _ _) ok.l2 ok.l3
theorem I_ {s:StateD}{p:dX}(h:xm s p):KU s p=lJ s p (chAt s p.fr):=by
 obtain⟨ok,hi,_⟩:=endPk_ok h.en;unfold KU lJ;have:s.chs.set p.fr.toNat (chAt s p.fr)=s.chs:=by rw[(dD hi).1];exact List.set_getElem_self _
 rw[this]
theorem ackPk_zero {s:StateD}{p:dX}{ack:List UInt8}{w:bH}(h:(sM s p ack w).2=0):xm s p/\∃c:ChanD,ChOk c/\c.st=(chAt s p.fr).st/\c.oc=(chAt s p.fr).oc/\c.cn=(chAt s p.fr).cn/\(sM s p ack w).1=lJ s p c:=by
 unfold sM at h⊢;split at h
 ·rename_i h1;rw[if_pos h1];have hp:=om.1 h1;obtain⟨ok,hi,hc⟩:=endPk_ok hp.en;refine⟨hp,?_⟩;split at h
  ·cases h
  ·rename_i h2;rw[if_neg h2];split at h
   ·cases h
   ·rename_i h3;rw[if_neg h3];split at h
    ·cases h
    ·rename_i h4;rw[if_neg h4];split at h
     ·rename_i h5;rw[if_pos h5];by_cases ho:(chAt s p.fr).ord=true
      ·rw[if_pos ho];refine⟨{chAt s p.fr with ack:=(chAt s p.fr).ack+1},⟨hc.st,hc.cn,hc.oc,hc.snd,hc.rcv,?_⟩,rfl,rfl,rfl,rfl⟩;have:=hc.ack;have:¬(chAt s p.fr).ack=1000000000000:=λe=>h4 ⟨ho,e⟩;unfold N12 at*;simp only;omega
      ·rw[if_neg ho];exact⟨chAt s p.fr,hc,rfl,rfl,rfl,I_ hp⟩
     ·exact absurd h ‹_›
 ·exact absurd h ‹_›
theorem latePk_zero {s:StateD}{p:dX}{next:Int}{w:bH}(h:(lC s p next w).2=0):xm s p/\∃c:ChanD,ChOk c/\(c.st=4\/c.st=(chAt s p.fr).st)/\c.oc=(chAt s p.fr).oc/\c.cn=(chAt s p.fr).cn/\(lC s p next w).1=lJ s p c:=by
 unfold lC at h⊢;split at h
 ·rename_i h1;rw[if_pos h1];have hp:=om.1 h1;obtain⟨ok,hi,hc⟩:=endPk_ok hp.en;refine⟨hp,?_⟩;split at h
  ·cases h
  ·rename_i h2;rw[if_neg h2];split at h
   ·rename_i ho;rw[if_pos ho];split at h
    ·cases h
    ·rename_i h3;rw[if_neg h3];split at h
     ·rename_i h4;rw[if_pos h4];exact⟨{chAt s p.fr with st:=4},⟨by simp,hc.cn,hc.oc,hc.snd,hc.rcv,hc.ack⟩,.inl rfl,rfl,rfl,rfl⟩
     ·exact absurd h ‹_›
   ·rename_i ho;rw[if_neg ho];split at h
    ·rename_i h4;rw[if_pos h4];exact⟨chAt s p.fr,hc,.inr rfl,rfl,rfl,I_ hp⟩
    ·exact absurd h ‹_›
 ·exact absurd h ‹_›
open Go.RowKit Go.Proofs.YtdmeldhlbpdeeaaGreatDoor.Ty
theorem Tx (x:Int):PureD Tryz.prog 266 [intD x] (.agg [.i (.s (.int .i64 1)),.i (.s (.int .u64 (u64 x))),.i (.sl [])]):=by refine ai λR hR=>?_;have w1:=LU x;refine aa 6 Tryz.func266 ?_;exact wkl trivial
theorem En (p:dX)(hd:p.data.length<=1048576):PureD Tryz.prog 247 [xw p] (.i (bI (digPk p))):=by
 refine ai λR hR=>?_;have c1:=Tx p.fr;have c2:=Tx p.de;have c3:=Tx p.seq;have c4:=Tx p.tout;have c5:=yP (zG p) (by simp[zG]) (by intro q hq;simp only[zG,jh,El,List.mem_cons,List.not_mem_nil,or_false]at hq;rcases hq with rfl|rfl|rfl|rfl|rfl<;>simp<;>omega)
  (by intro q hq;simp only[zG,jh,El,List.mem_cons,List.not_mem_nil,or_false]at hq;rcases hq with rfl|rfl|rfl|rfl|rfl<;>first|exact u64_lt _|(simp only;omega))
 have c6:=Kq (bD (zG p)).1 (by have:=nQ (zG p);omega);unfold digPk at hR;generalize bD (zG p)=W at*;simp only[zG,jh,El,List.map_cons,List.map_nil,wM,oU,bI]at c5;generalize u64 p.fr=a1 at*;generalize u64 p.de=a2 at*;generalize u64 p.seq=a3 at*;generalize u64 p.tout=a4 at*;refine aa 27 Tryz.func247 ?_;exact wkl trivial
theorem vW (p:dX):PureD Tryz.prog 245 [xw p] (intD (fo p)):=by refine ai λR hR=>?_;unfold fo at hR;refine aa 47 Tryz.func245 ?_;exact wkl trivial
def encW (w:Int):List I:=[.s (.int .i64 w)]
attribute [simp,go_sem] encW
theorem YX {st:Int}{ws:List Int}{i:Nat}(h:i<ws.length):stIn st (ws.drop i)=(decide (st=ws[i])||stIn st (ws.drop (i+1))):=by unfold stIn;rw[List.drop_eq_getElem_cons h,List.any_cons]
theorem Fb (s:StateD)(hs:StSm s)(i:Int)(ws:List Int)(hw:ws.length<=1000):PureD Tryz.prog 244 [.rp (encSt s) 0,intD i,.i (.sl (ws.map encW))] (.tup [chanD (endPk s i ws).1,connD (endPk s i ws).2.1,intD (endPk s i ws).2.2]):=by
 refine ai λR hR=>?_;have c1:=iL s hs;unfold endPk at hR;by_cases h:bq s=0
 ·have ok:=aC.1 h;have hl:=ok.lch;rw[h]at c1;rw[if_pos h]at hR;by_cases h2:i<0\/(s.chs.length:Int)<=i
  ·rw[if_pos h2]at hR;clear ok h hs;refine aa 67 Tryz.func244 ?_;exact wkl trivial
  ·rw[if_neg h2]at hR;have hi:i.toNat<s.chs.length:=by omega
   have s0:=aI (f:=bK) hi;have c2:=uQ s ok (chAt s i).cn;rw[(dD (s:=s) (i:=i) (by omega)).1]at hR c2;clear ok h hs;generalize s.chs[i.toNat]=x at*;generalize overCh s x.cn=E at*;refine aa 67 Tryz.func244 ?_;refine wkl ?_;clear hR;intro hR;have hR':Hr (if stIn x.st (ws.drop 0)=true then D.tup [chanD x,connD E.1,intD E.2]else D.tup [chanD zeroCh,connD zeroCn,intD 12]) R:=by rw[List.drop_zero];revert hR;split<;>exact id
   clear hR;refine aS (ι:=Nat) (λj=>j<=ws.length/\Hr (if stIn x.st (ws.drop j)=true then D.tup [chanD x,connD E.1,intD E.2]else D.tup [chanD zeroCh,connD zeroCn,intD 12]) R)
    (λj=>dP [(0,.rp (encSt s) 0),(6,.pt 101 0 0 0),(7,.pt 102 0 0 0),(8,intD 0),(10,.pt 100 0 0 0),(44,.i (.sl (ws.map encW))),(45,intD ws.length),(46,intD j)] [(100,.box ((bK x).map .i)),(101,.box ((bK zeroCh).map .i)),(102,.box ((d_ zeroCn).map .i))]) (λj=>ws.length-j) 0 ⟨Nat.zero_le _,hR'⟩ ?_ ?_
   ·exact dB [] [(100,2543),(101,1000),(102,1001)]
   ·rintro j ⟨hj,hR⟩ RL hL;clear hR';rw[ag];by_cases h':j<ws.length
    ·have s1:=aI (f:=encW) h';rw[YX h']at hR;have b1:=λσ' (hq:Hr _ R)=>bk [] [(100,100),(101,101),(102,102)] (hL (j+1) σ' ⟨h',hq⟩);clear hL;generalize ws[j]=w at*;by_cases e:x.st=w
     ·simp only[e,decide_true,Bool.true_or,if_true]at hR;clear b1;exact wkl trivial
     ·simp only[e,decide_false,Bool.false_or]at hR;exact wkl trivial
    ·rw[List.drop_eq_nil_of_le (by omega)]at hR;simp only[stIn,List.any_nil,Bool.false_eq_true,if_false]at hR;clear hL;exact wkl trivial
 ·rw[if_neg h]at hR;generalize bq s=W at*;clear hs;refine aa 67 Tryz.func244 ?_;exact wkl trivial
theorem last_get {c:aD}(h:1<=c.known.length):∃hp:c.known.length-1<c.known.length,ky c=c.known[c.known.length-1] :=
 ⟨by omega,by unfold ky;rw[List.getLastD_eq_getLast?,List.getLast?_eq_getElem?,List.getElem?_eq_getElem (by omega)];rfl⟩
theorem Tg (s:StateD)(hs:StSm s)(i:Int)(data:List UInt8)(hd:data.length<=1048576)(tout:Int):
  PureD Tryz.prog 208 [stateD s,intD i,.i (bI data),intD tout] (.tup [stateD (lg s i data tout).1,xw (lg s i data tout).2.1,intD (lg s i data tout).2.2]):=by
 refine ai λR hR=>?_;have c1:=Fb s hs i [3] (by simp);simp only[List.map_cons,List.map_nil]at c1;unfold lg at hR;by_cases h:(endPk s i [3]).2.2=0
 ·rw[if_pos h]at hR;rw[nD h]at c1;obtain⟨ok,hi,hst,hov⟩:=endPk_zero.1 h;obtain⟨hj,h4,h5,h6,h7⟩:=overCh_zero.1 hov;have hch:=ok.chs _ (dD hi).2;have hcn:=ok.cns _ (eF hj).2;have c2:=eT data (by omega);have c3:=vW ⟨i,(chAt s i).oc,(chAt s i).snd,data,tout⟩;by_cases h2:fo ⟨i,(chAt s i).oc,(chAt s i).snd,data,tout⟩=0
  ·rw[if_pos h2]at hR;rw[h2]at c3;have hcl:0<=(cnAt s (chAt s i).cn).cl/\(cnAt s (chAt s i).cn).cl<(s.cls.length:Int):=⟨hcn.cl.1,h6⟩
   have hm:=gz hcl;have hcok:=ok.cls _ hm.2;have hkl:=hcok.len;have s0:=aI (f:=gF) (l:=s.cls) (i:=(cnAt s (chAt s i).cn).cl.toNat) (by omega);rw[<- hm.1]at s0;obtain⟨hlp,hlast⟩:=last_get hkl.1;have s1:=aI (f:=gL) hlp;unfold Bf at hR;rw[hlast]at hR;have w1:IntKind.i64.wrap (((gU s (cnAt s (chAt s i).cn).cl).known.length:Int)-1)=(((gU s (cnAt s (chAt s i).cn).cl).known.length-1:Nat):Int):=by rw[au (by omega) (by omega)];omega
   have hlen:=ok.lsent;have hch1:=hch.snd;have e1:=mE s ok.sm;have c4:=En ⟨i,(chAt s i).oc,(chAt s i).snd,data,tout⟩ hd;have e2:=Om s.sent ⟨i,(chAt s i).snd,digPk ⟨i,(chAt s i).oc,(chAt s i).snd,data,tout⟩⟩ (by omega) ok.sent ⟨i12 ok hi,hch1,Au _⟩;unfold xq at hR;have hi':i.toNat<s.chs.length:=by omega
   have s2:=aI (f:=bK) hi';have w2:IntKind.i64.wrap ((chAt s i).snd+1)=(chAt s i).snd+1:=by unfold N12 at hch1;rw[au (by omega) (by omega)]
   have s3:(s.chs.map bK).set i.toNat (bK {chAt s i with snd:=(chAt s i).snd+1})=(s.chs.set i.toNat {chAt s i with snd:=(chAt s i).snd+1}).map bK:=List.map_set.symm;have s4:s.chs.length=(s.chs.set i.toNat {chAt s i with snd:=(chAt s i).snd+1}).length:=by simp
   rw[<- (dD hi).1]at s2;clear hs h ok hst hov hj h4 h5 h7 hch hcn h2 hm hcok hch1;generalize s.chs.set i.toNat {chAt s i with snd:=(chAt s i).snd+1}=L at*;generalize digPk ⟨i,(chAt s i).oc,(chAt s i).snd,data,tout⟩=G at*;generalize chAt s i=x at*;generalize cnAt s x.cn=y at*;generalize gU s y.cl=z at*;generalize z.known[z.known.length-1]=k at*;generalize ui s.sent ⟨i,x.snd,G⟩=M at*;clear hlast hlp;simp only[bK]at s3;simp only[KN,bI]at e2;refine aa 100 Tryz.func208 ?_;exact wkl trivial
  ·rw[if_neg h2]at hR;generalize fo ⟨i,(chAt s i).oc,(chAt s i).snd,data,tout⟩=W at*;clear hs h ok hst hov h4 h5 h6 h7 hch hcn;generalize chAt s i=x at*;generalize cnAt s x.cn=y at*;refine aa 100 Tryz.func208 ?_;exact wkl trivial
 ·rw[if_neg h]at hR;generalize endPk s i [3]=W at*;clear hs;refine aa 100 Tryz.func208 ?_;exact wkl trivial
theorem Gs (s:StateD)(hs:StSm s)(p:dX)(hd:p.data.length<=1048576)(ack:List UInt8)(ha:ack.length<=1048576)(w:bH):
  PureD Tryz.prog 211 [stateD s,xw p,.i (bI ack),shD w] (.tup [stateD (kG s p ack w).1,intD (kG s p ack w).2]):=by
 refine ai λR hR=>?_;have c1:=vW p;unfold kG at hR;by_cases h0:fo p=0
 ·rw[if_pos h0]at hR;rw[h0]at c1;have hpk:=bP.1 h0;have c2:=Fb s hs p.de [3] (by simp);simp only[List.map_cons,List.map_nil]at c2;by_cases h:(endPk s p.de [3]).2.2=0
  ·rw[if_pos h]at hR;rw[nD h]at c2;obtain⟨ok,hi,hst,hov⟩:=endPk_zero.1 h;obtain⟨hj,h4,h5,h6,h7⟩:=overCh_zero.1 hov;have hch:=ok.chs _ (dD hi).2;have hcn:=ok.cns _ (eF hj).2;have q1:=hpk.de;have q2:=hpk.seq;have q3:=hpk.fr;have n1:=ok.lgot;have n2:=ok.lacks;have c3:=zV s.got p.de p.seq (by omega) ok.got (by unfold N12 at*;omega) (by unfold N12 at*;omega);have hcl:0<=(cnAt s (chAt s p.de).cn).cl/\(cnAt s (chAt s p.de).cn).cl<(s.cls.length:Int):=⟨hcn.cl.1,h6⟩
   have hm:=gz hcl;have hcok:=ok.cls _ hm.2;have hkl:=hcok.len;have s0:=aI (f:=gF) (l:=s.cls) (i:=(cnAt s (chAt s p.de).cn).cl.toNat) (by omega);rw[<- hm.1]at s0;unfold Bf at hR;have c4:=qG mK p.fr p.seq (by decide) (by unfold N12 gT at*;omega) (by unfold N12 gT at*;omega);have c5:=En p hd;have c6:=jZ (gU s (cnAt s (chAt s p.de).cn).cl) s.t w.h (keyM mK p.fr p.seq) (digPk p) w.p (by omega);have c7:=Kq ack (by omega);have e1:=mE s ok.sm;have e2:=Om s.acks ⟨p.de,p.seq,sha ack⟩ (by omega) ok.acks ⟨q1,q2,bg _⟩;have e3:=Om s.got ⟨p.de,p.seq,digPk p⟩ (by omega) ok.got ⟨q1,q2,Au _⟩;unfold recvS at hR;have hi':p.de.toNat<s.chs.length:=by omega
   have s2:=aI (f:=bK) hi';have hrc:=hch.rcv;have w2:IntKind.i64.wrap ((chAt s p.de).rcv+1)=(chAt s p.de).rcv+1:=by unfold N12 at hrc;rw[au (by omega) (by omega)]
   have s3:(s.chs.map bK).set p.de.toNat (bK {chAt s p.de with rcv:=(chAt s p.de).rcv+1})=(s.chs.set p.de.toNat {chAt s p.de with rcv:=(chAt s p.de).rcv+1}).map bK:=List.map_set.symm;have s4:s.chs.length=(s.chs.set p.de.toNat {chAt s p.de with rcv:=(chAt s p.de).rcv+1}).length:=by simp
   rw[<- (dD hi).1]at s2;clear hs h ok hst hov hj h4 h5 h7 hch hcn hm hcok hrc hpk h0;generalize s.chs.set p.de.toNat {chAt s p.de with rcv:=(chAt s p.de).rcv+1}=L at*;generalize bF (gU s (cnAt s (chAt s p.de).cn).cl) s.t w.h (keyM mK p.fr p.seq) (digPk p) w.p=E at*;generalize keyM mK p.fr p.seq=K at*;generalize digPk p=G at*;generalize sha ack=G2 at*;generalize chAt s p.de=x at*;generalize cnAt s x.cn=y at*;generalize gU s y.cl=z at*;generalize placeM s.got p.de p.seq=pl at*;generalize(pQ s.got p.de p.seq).isSome=had at*;generalize ui s.got ⟨p.de,p.seq,G⟩=M at*;generalize ui s.acks ⟨p.de,p.seq,G2⟩=M2 at*;simp only[bK]at s3;simp only[KN,bI]at e2 e3;simp only[mK]at c4;cases ho:x.ord
   ·simp only[ho,Bool.false_eq_true,false_and,true_and,false_or,if_false]at hR;clear s2 s3 s4 w2;refine aa 162 Tryz.func211 ?_;exact wkl trivial
   ·simp only[ho,Bool.true_eq_false,false_and,true_and,or_false,if_true]at hR;clear e3;simp only[ho]at s3;obtain⟨fr,de,seq,data,tout⟩:=p;simp only at*;by_cases hq:seq=x.rcv
    ·subst hq;simp only[not_true_eq_false,if_false]at hR;by_cases hf:x.oc=fr
     ·subst hf;simp only[if_true]at hR;refine aa 162 Tryz.func211 ?_;exact wkl trivial
     ·simp only[hf,if_false]at hR;clear e1 e2;refine aa 162 Tryz.func211 ?_;exact wkl trivial
    ·simp only[hq,not_false_eq_true,if_true]at hR;clear e1 e2;refine aa 162 Tryz.func211 ?_;exact wkl trivial
  ·rw[if_neg h]at hR;generalize endPk s p.de [3]=W at*;clear hs hpk;refine aa 162 Tryz.func211 ?_;exact wkl trivial
 ·rw[if_neg h0]at hR;generalize fo p=W at*;clear hs;refine aa 162 Tryz.func211 ?_;exact wkl trivial
theorem WC (s:StateD)(hs:StSm s)(p:dX)(hd:p.data.length<=1048576):
  PureD Tryz.prog 254 [.rp (encSt s) 0,.rp (PL p) 0] (.tup [chanD (xO s p),connD (xN s p),intD (uk s p)]):=by
 refine ai λR hR=>?_;have c1:=vW p;unfold uk xO xN at hR;by_cases h0:fo p=0
 ·rw[if_pos h0,if_pos h0,if_pos h0]at hR;rw[h0]at c1;have hpk:=bP.1 h0;have c2:=Fb s hs p.fr [3,4] (by simp);simp only[List.map_cons,List.map_nil]at c2;by_cases h:(endPk s p.fr [3,4]).2.2=0
  ·rw[if_pos h,nD h]at hR;rw[nD h]at c2;simp only at hR c2;obtain⟨ok,hi,hst,hov⟩:=endPk_zero.1 h;have q1:=hpk.fr;have q2:=hpk.seq;have n1:=ok.lsent;have c3:=zV s.sent p.fr p.seq (by omega) ok.sent (by unfold N12 at*;omega) (by unfold N12 at*;omega);have c4:=En p hd;cases hg:pQ s.sent p.fr p.seq with
   |none =>rw[hg]at c3 hR;simp only[Option.isSome_none]at c3;clear hs h ok hst hov hpk h0 hg;generalize chAt s p.fr=x at*;generalize cnAt s x.cn=y at*;generalize placeM s.sent p.fr p.seq=pl at*;clear c4;refine aa 88 Tryz.func254 ?_;exact wkl trivial
   |some m =>
    rw[hg]at c3 hR;simp only[Option.isSome_some]at c3 hR;obtain⟨hp,hv⟩:=KL.place_lt cmpM_ok ok.sent.srt hg;have s0:(s.sent.map bJ)[placeM s.sent p.fr p.seq]?=some (bJ m):=by rw[<- hv];exact aI hp
    have c5:=iq m.dg (digPk p);clear hs h ok hst hov hpk h0 hg hv;generalize chAt s p.fr=x at*;generalize cnAt s x.cn=y at*;have hp':placeM s.sent p.fr p.seq<s.sent.length:=hp;clear hp;generalize placeM s.sent p.fr p.seq=pl at*;generalize digPk p=G at*;by_cases hdd:m.dg=G
    ·rw[decide_eq_true hdd]at c5;rw[if_pos hdd]at hR;clear hdd;refine aa 88 Tryz.func254 ?_;exact wkl trivial
    ·rw[decide_eq_false hdd]at c5;rw[if_neg hdd]at hR;clear hdd;refine aa 88 Tryz.func254 ?_;exact wkl trivial
  ·rw[if_neg h]at hR;generalize endPk s p.fr [3,4]=W at*;clear hs hpk;refine aa 88 Tryz.func254 ?_;exact wkl trivial
 ·rw[if_neg h0,if_neg h0,if_neg h0]at hR;generalize fo p=W at*;clear hs;refine aa 88 Tryz.func254 ?_;exact wkl trivial
theorem qA {s:StateD}{p:dX}(h:xm s p):xO s p=chAt s p.fr/\xN s p=cnAt s (chAt s p.fr).cn:=by unfold xO xN;rw[if_pos (bP.2 h.pk),if_pos (bP.2 h.pk),nD h.en];exact⟨rfl,rfl⟩
theorem Ot (l:List MarkD)(ch seq:Int)(hl:l.length<=1000)(hk:lN l)(h1:N12 0 ch)(h2:N12 1 seq){u:MarkD}(hg:pQ l ch seq=some u):
  aL Tryz.prog 255 [.os 0 3 0 l.length,intD ch,intD seq] (hF [(0,.arr 3 (l.map bJ))]) (.os 1 3 0 (nG l ch seq).length) (hOf (hF [(0,.arr 3 (l.map bJ))]) [(1,.arr 3 ((nG l ch seq).map bJ))]):=by
 refine ik λR R' hR hR'=>?_;have c1:=zV l ch seq (by omega) hk (by unfold N12 at*;omega) (by unfold N12 at*;omega);rw[hg]at c1;obtain⟨hp,hv⟩:=KL.place_lt cmpM_ok hk.srt hg;have hp':placeM l ch seq<l.length:=hp;have e2:=PS (l.map bJ) (placeM l ch seq) (by simpa using hp) (by simp;omega) (uM l);have he:(l.map bJ).take (placeM l ch seq)++(l.map bJ).drop (placeM l ch seq+1)=(nG l ch seq).map bJ:=by unfold nG;rw[KL.put_del cmpM_ok hk.srt hg];simp
 have hlen:(nG l ch seq).length=l.length-1:=by unfold nG;rw[KL.put_del cmpM_ok hk.srt hg];simp;omega
 rw[he,List.length_map,<- hlen]at e2;simp only[Option.isSome_some]at c1;have d1:iY [] [(1,901)]:=⟨trivial⟩
 have w1:IntKind.i64.wrap ((placeM l ch seq:Int)+1)=((placeM l ch seq+1:Nat):Int):=by rw[au (by omega) (by omega)];omega
 clear he hk hg hv hp;generalize placeM l ch seq=p at*;generalize nG l ch seq=L at*;clear hlen;simp only[intD]at e2;obtain⟨rfl⟩:=hR;obtain⟨rfl⟩:=hR';refine aP 23 Tryz.func255 rfl rfl rfl (λo ho=>by simp[hF,lk,show o≠0 by omega,show o≠1 by omega,show o≠2 by omega,show o≠3 by omega,show o≠4 by omega,show o≠5 by omega]) ?_;exact wkl trivial
theorem abb (s:StateD)(hs:StSm s)(p:dX)(hd:p.data.length<=1048576)(ack:List UInt8)(ha:ack.length<=1048576)(w:bH):
  PureD Tryz.prog 213 [stateD s,xw p,.i (bI ack),shD w] (.tup [stateD (sM s p ack w).1,intD (sM s p ack w).2]):=by
 refine ai λR hR=>?_;have c1:=WC s hs p hd;unfold sM at hR;by_cases h:uk s p=0
 ·rw[if_pos h]at hR;have hp:=om.1 h;rw[h,(qA hp).1,(qA hp).2]at c1;obtain⟨ok,hi,hst,hov⟩:=endPk_zero.1 hp.en;obtain⟨hj,h4,h5,h6,h7⟩:=overCh_zero.1 hov;have hch:=ok.chs _ (dD hi).2;have hcn:=ok.cns _ (eF hj).2;have q1:=hp.pk.de;have q2:=hp.pk.seq;have q3:=hp.pk.fr;have n1:=ok.lsent;have hcl:0<=(cnAt s (chAt s p.fr).cn).cl/\(cnAt s (chAt s p.fr).cn).cl<(s.cls.length:Int):=⟨hcn.cl.1,h6⟩
  have hm:=gz hcl;have hkl:=(ok.cls _ hm.2).len;have s0:=aI (f:=gF) (l:=s.cls) (i:=(cnAt s (chAt s p.fr).cn).cl.toNat) (by omega);rw[<- hm.1]at s0;unfold Bf at hR;have c4:=qG FQ p.de p.seq (by decide) (by unfold N12 gT at*;omega) (by unfold N12 gT at*;omega);have c6:=jZ (gU s (cnAt s (chAt s p.fr).cn).cl) s.t w.h (keyM FQ p.de p.seq) (sha ack) w.p (by omega);have c7:=Kq ack (by omega);have e1:=mE s ok.sm;have e2:=Ot s.sent p.fr p.seq (by omega) ok.sent q3 q2 hp.there;unfold lJ KU at hR;have hi':p.fr.toNat<s.chs.length:=by omega
  have s2:=aI (f:=bK) hi';have hrc:=hch.ack;have w2:IntKind.i64.wrap ((chAt s p.fr).ack+1)=(chAt s p.fr).ack+1:=by unfold N12 at hrc;rw[au (by omega) (by omega)]
  have s3:(s.chs.map bK).set p.fr.toNat (bK {chAt s p.fr with ack:=(chAt s p.fr).ack+1})=(s.chs.set p.fr.toNat {chAt s p.fr with ack:=(chAt s p.fr).ack+1}).map bK:=List.map_set.symm;have s4:s.chs.length=(s.chs.set p.fr.toNat {chAt s p.fr with ack:=(chAt s p.fr).ack+1}).length:=by simp
  rw[<- (dD hi).1]at s2;clear hs h ok hst hov hj h4 h5 h7 hch hcn hm hrc hp;generalize s.chs.set p.fr.toNat {chAt s p.fr with ack:=(chAt s p.fr).ack+1}=L at*;generalize bF (gU s (cnAt s (chAt s p.fr).cn).cl) s.t w.h (keyM FQ p.de p.seq) (sha ack) w.p=E at*;generalize keyM FQ p.de p.seq=K at*;generalize sha ack=G2 at*;generalize chAt s p.fr=x at*;generalize cnAt s x.cn=y at*;generalize gU s y.cl=z at*;generalize nG s.sent p.fr p.seq=M at*;simp only[bK]at s3;simp only[intD]at e2;simp only[FQ]at c4;obtain⟨fr,de,seq,data,tout⟩:=p;simp only at*;cases ho:x.ord
  ·simp only[ho,Bool.false_eq_true,false_and,if_false]at hR;clear s2 s3 s4 w2;refine aa 93 Tryz.func213 ?_;exact wkl trivial
  ·simp only[ho,true_and,if_true]at hR;simp only[ho]at s3;by_cases hq:seq=x.ack
   ·subst hq;simp only[not_true_eq_false,if_false]at hR;refine aa 93 Tryz.func213 ?_;exact wkl trivial
   ·simp only[hq,not_false_eq_true,if_true]at hR;clear e1 e2;refine aa 93 Tryz.func213 ?_;exact wkl trivial
 ·rw[if_neg h]at hR;generalize uk s p=W at*;generalize xO s p=x at*;generalize xN s p=y at*;clear hs;refine aa 93 Tryz.func213 ?_;exact wkl trivial
theorem Ub (s:StateD)(hs:StSm s)(p:dX)(hd:p.data.length<=1048576)(next:Int)(w:bH):
  PureD Tryz.prog 214 [stateD s,xw p,intD next,shD w] (.tup [stateD (lC s p next w).1,intD (lC s p next w).2]):=by
 refine ai λR hR=>?_;have c1:=WC s hs p hd;unfold lC at hR;by_cases h:uk s p=0
 ·rw[if_pos h]at hR;have hp:=om.1 h;rw[h,(qA hp).1,(qA hp).2]at c1;obtain⟨ok,hi,hst,hov⟩:=endPk_zero.1 hp.en;obtain⟨hj,h4,h5,h6,h7⟩:=overCh_zero.1 hov;have hcn:=ok.cns _ (eF hj).2;have q1:=hp.pk.de;have q2:=hp.pk.seq;have q3:=hp.pk.fr;have n1:=ok.lsent;have hcl:0<=(cnAt s (chAt s p.fr).cn).cl/\(cnAt s (chAt s p.fr).cn).cl<(s.cls.length:Int):=⟨hcn.cl.1,h6⟩
  have hm:=gz hcl;have hkl:=(ok.cls _ hm.2).len;have s0:=aI (f:=gF) (l:=s.cls) (i:=(cnAt s (chAt s p.fr).cn).cl.toNat) (by omega);rw[<- hm.1]at s0;unfold Bf at hR;have c2:=Og p.de (by unfold N12 gT at*;omega);have c3:=Oh next
  have c4:=qG FP p.de p.seq (by decide) (by unfold N12 gT at*;omega) (by unfold N12 gT at*;omega);have c5:=jZ (gU s (cnAt s (chAt s p.fr).cn).cl) s.t w.h (keyN p.de) (Dw next) w.p (by omega);have c6:=yj (gU s (cnAt s (chAt s p.fr).cn).cl) s.t w.h (keyM FP p.de p.seq) w.g (by omega);have e1:=mE s ok.sm;have e2:=Ot s.sent p.fr p.seq (by omega) ok.sent q3 q2 hp.there;unfold lJ KU at hR;have hi':p.fr.toNat<s.chs.length:=by omega
  have s2:=aI (f:=bK) hi';have s3:(s.chs.map bK).set p.fr.toNat (bK {chAt s p.fr with st:=4})=(s.chs.set p.fr.toNat {chAt s p.fr with st:=4}).map bK:=List.map_set.symm;have s4:s.chs.length=(s.chs.set p.fr.toNat {chAt s p.fr with st:=4}).length:=by simp
  rw[<- (dD hi).1]at s2;clear hs h ok hst hov hj h4 h5 h7 hcn hm hp;generalize s.chs.set p.fr.toNat {chAt s p.fr with st:=4}=L at*;generalize bF (gU s (cnAt s (chAt s p.fr).cn).cl) s.t w.h (keyN p.de) (Dw next) w.p=E at*;generalize kI (gU s (cnAt s (chAt s p.fr).cn).cl) s.t w.h (keyM FP p.de p.seq) w.g=E2 at*;generalize keyM FP p.de p.seq=K at*;generalize keyN p.de=K2 at*;generalize Dw next=V at*
  generalize chAt s p.fr=x at*;generalize cnAt s x.cn=y at*;generalize gU s y.cl=z at*;generalize nG s.sent p.fr p.seq=M at*;simp only[bK]at s3;simp only[intD]at e2;simp only[FP]at c4;cases ho:x.ord
  ·simp only[ho,Bool.false_eq_true,if_false]at hR;clear s2 s3 s4 c2 c3 c5;refine aa 96 Tryz.func214 ?_;exact wkl trivial
  ·simp only[ho,if_true]at hR;simp only[ho]at s3;clear c4 c6;refine aa 96 Tryz.func214 ?_;exact wkl trivial
 ·rw[if_neg h]at hR;generalize uk s p=W at*;generalize xO s p=x at*;generalize xN s p=y at*;clear hs;refine aa 96 Tryz.func214 ?_;exact wkl trivial
end Go.Proofs.YtdmeldhlbpdeeaaGreatDoor
