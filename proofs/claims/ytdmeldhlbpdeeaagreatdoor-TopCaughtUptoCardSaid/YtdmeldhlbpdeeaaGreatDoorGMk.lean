/- Merged texts: MkP, InsL, InsMk, DelMk, MkF. -/
import Derived.Test.YtdmeldhlbpdeeaaGreatDoorGSt
set_option linter.all false
set_option maxHeartbeats 8000000
set_option maxRecDepth 20000
namespace Go.Proofs.YtdmeldhlbpdeeaaGreatDoor
open Go Go.Abs
abbrev ahU:=Int×Int
def mk (m:MarkD):ahU:=(m.ch,m.seq)
def xy (a b:ahU):Int:=if a.1=b.1 then a.2-b.2 else a.1-b.1
theorem cmpM_ok:KL.CmpOk xy where
 zero:=λa b=>by
  unfold xy;by_cases h:a.1=b.1
  ·rw[if_pos h];exact⟨λe=>Prod.ext h (by omega),λe=>by rw[e];omega⟩
  ·rw[if_neg h];exact⟨λe=>absurd (by omega) h,λe=>absurd (by rw[e]) h⟩
 neg:=λa b=>by unfold xy;split<;>split<;>omega
 trans:=λa b d h1 h2=>by unfold xy at*;split at h1<;>split at h2<;>split<;>omega
abbrev aix (l:List MarkD):Prop:=KL.Srt mk xy l
def N12 (least n:Int):Prop:=least<=n/\n<=1000000000000
theorem tF {n least:Int}:nm n least=true↔N12 least n:=by unfold nm N12;simp
structure Sd (m:MarkD):Prop where
 ch:N12 0 m.ch
 seq:N12 1 m.seq
 dg:m.dg.length=32
theorem vY {m:MarkD}{ch seq:Int}(hm:Sd m)(h1:N12 (-1) ch)(h2:N12 0 seq):kH m ch seq=xy (mk m) (ch,seq):=by
 have a:=hm.ch;have b:=hm.seq;unfold N12 at*;unfold kH xy mk;simp only;by_cases h:m.ch=ch
 ·rw[if_pos h,if_pos h,au (by omega) (by omega)]
 ·rw[if_neg h,if_neg h,au (by omega) (by omega)]
structure lN (l:List MarkD):Prop where
 all:∀m∈l,Sd m
 srt:aix l
theorem Ck:∀{o:Option MarkD}{l:List MarkD},(∀q,o=some q->Sd q)->(rU o l=0↔lN l/\∀q,o=some q->∀m∈l,xy (mk q) (mk m)<0)
 |o,[],_=>⟨λ_=>⟨⟨by simp,List.Pairwise.nil⟩,by simp⟩,λ_=>rfl⟩
 |o,m::t,ho=>by
  rw[rU];by_cases h1:¬nm m.ch 0=true\/¬nm m.seq 1=true
  ·rw[if_pos h1];rw[tF,tF]at h1;refine⟨λh=>(by cases h),λh=>?_⟩;have:=h.1.all m (List.mem_cons_self ..);exact(h1.elim (absurd this.ch) (absurd this.seq))
  ·rw[if_neg h1];rw[tF,tF]at h1;by_cases h2:¬(m.dg.length:Int)=32
   ·rw[if_pos h2];refine⟨λh=>(by cases h),λh=>?_⟩;have:=(h.1.all m (List.mem_cons_self ..)).dg;omega
   ·rw[if_neg h2];have hc:N12 0 m.ch/\N12 1 m.seq:=⟨Classical.byContradiction λh=>h1 (.inl h),Classical.byContradiction λh=>h1 (.inr h)⟩
    have hm:Sd m:=⟨hc.1,hc.2,by omega⟩
    have ih:=Ck (o:=some m) (l:=t) (λq hq=>by cases hq;exact hm);have hord:∀q,o=some q->kH q m.ch m.seq=xy (mk q) (mk m):=λq hq=>vY (ho q hq) (by have:=hc.1;unfold N12 at*;omega) (by have:=hc.2;unfold N12 at*;omega);by_cases h3:(o.any λq=>decide (0<=kH q m.ch m.seq))=true
    ·rw[if_pos h3];refine⟨λh=>(by cases h),λh=>?_⟩;cases o with
     |none=>simp at h3
     |some q =>have:=h.2 q rfl m (List.mem_cons_self ..);simp only[Option.any_some,decide_eq_true_eq,hord q rfl]at h3;omega
    ·rw[if_neg h3,ih];have hq:∀q,o=some q->xy (mk q) (mk m)<0:=λq hq=>by
      subst hq;simp only[Option.any_some,decide_eq_true_eq,hord q rfl]at h3;omega
     constructor
     ·rintro⟨a,b⟩;refine⟨⟨λx hx=>?_,List.pairwise_cons.2 ⟨b m rfl,a.srt⟩⟩,λq hqq x hx=>?_⟩
      ·rcases List.mem_cons.1 hx with rfl|hx
       ·exact hm
       ·exact a.all x hx
      ·rcases List.mem_cons.1 hx with rfl|hx
       ·exact hq q hqq
       ·exact cmpM_ok.trans _ _ _ (hq q hqq) (b m rfl x hx)
     ·rintro⟨a,b⟩;have hs:=List.pairwise_cons.1 a.srt;exact⟨⟨λx hx=>a.all x (List.mem_cons_of_mem _ hx),hs.2⟩,λq hqq=>by cases hqq;exact hs.1⟩
structure ahT (p:PurseD):Prop where
 o:1<=p.o.size/\p.o.size<=40
 d:1<=p.d.size/\p.d.size<=40
 n:p.n≠0
structure abj (l:List PurseD):Prop where
 all:∀p∈l,ahT p
 srt:abh l
theorem Qp {q p:PurseD}:pG (pk q) (pk p)<0↔¬(0<nJ q.o p.o\/q.o=p.o/\0<=nJ q.d p.d):=by
 unfold pG pk;simp only;have:=@cmpS_zero q.o p.o;by_cases h:nJ q.o p.o=0
 ·rw[if_pos h];have e:(0<nJ q.o p.o\/q.o=p.o/\0<=nJ q.d p.d)↔0<=nJ q.d p.d:=by simp[this.1 h,cmpS_zero.2 rfl]
  rw[e];omega
 ·rw[if_neg h];have e:¬q.o=p.o:=λe=>h (this.2 e);simp only[e,false_and,or_false];omega
theorem BP:∀{o:Option PurseD}{l:List PurseD},KA o l=0↔abj l/\∀q,o=some q->∀m∈l,pG (pk q) (pk m)<0
 |o,[]=>⟨λ_=>⟨⟨by simp,List.Pairwise.nil⟩,by simp⟩,λ_=>rfl⟩
 |o,m::t=>by
  rw[KA];by_cases h1:(m.o.size:Int)<1\/(40:Int)<m.o.size\/(m.d.size:Int)<1\/(40:Int)<m.d.size
  ·rw[if_pos h1];refine⟨λh=>(by cases h),λh=>?_⟩;have k:=h.1.all m (List.mem_cons_self ..);have:=k.o;have:=k.d;omega
  ·rw[if_neg h1];by_cases h2:m.n=0
   ·rw[if_pos h2];refine⟨λh=>(by cases h),λh=>?_⟩;have:=(h.1.all m (List.mem_cons_self ..)).n;omega
   ·rw[if_neg h2];have hm:ahT m:=⟨by omega,by omega,by omega⟩
    have ih:=BP (o:=some m) (l:=t);by_cases h3:(o.any λq=>decide (0<nJ q.o m.o\/q.o=m.o/\0<=nJ q.d m.d))=true
    ·rw[if_pos h3];refine⟨λh=>(by cases h),λh=>?_⟩;cases o with
     |none=>simp at h3
     |some q =>have:=Qp.1 (h.2 q rfl m (List.mem_cons_self ..));simp only[Option.any_some,decide_eq_true_eq]at h3;exact absurd h3 this
    ·rw[if_neg h3,ih];have hq:∀q,o=some q->pG (pk q) (pk m)<0:=λq hq=>by
      subst hq;simp only[Option.any_some,decide_eq_true_eq]at h3;exact Qp.2 h3
     constructor
     ·rintro⟨a,b⟩;refine⟨⟨λx hx=>?_,List.pairwise_cons.2 ⟨b m rfl,a.srt⟩⟩,λq hqq x hx=>?_⟩
      ·rcases List.mem_cons.1 hx with rfl|hx
       ·exact hm
       ·exact a.all x hx
      ·rcases List.mem_cons.1 hx with rfl|hx
       ·exact hq q hqq
       ·exact cmpP_ok.trans _ _ _ (hq q hqq) (b m rfl x hx)
     ·rintro⟨a,b⟩;have hs:=List.pairwise_cons.1 a.srt;exact⟨⟨λx hx=>a.all x (List.mem_cons_of_mem _ hx),hs.2⟩,λq hqq=>by cases hqq;exact hs.1⟩
theorem jX {α:Type}{f:α->Int}:∀{l:List α},fstE f l=0↔∀x∈l,f x=0
 |[]=>by simp[fstE]
 |a::t=>by
  rw[fstE];by_cases h:f a=0
  ·rw[if_pos h,jX];simp[h]
  ·rw[if_neg h];simp[h]
structure afP (c:ConnD):Prop where
 st:1<=c.st/\c.st<=3
 cl:N12 0 c.cl
 oc:N12 0 c.oc
 on:N12 (-1) c.on
structure ChOk (c:ChanD):Prop where
 st:1<=c.st/\c.st<=4
 cn:N12 0 c.cn
 oc:N12 (-1) c.oc
 snd:N12 1 c.snd
 rcv:N12 1 c.rcv
 ack:N12 1 c.ack
theorem Jq {c:ConnD}:cnE c=0↔afP c:=by
 unfold cnE;constructor
 ·intro h;split at h
  ·cases h
  ·split at h
   ·cases h
   ·rename_i a b;simp only[not_or,Classical.not_not,tF]at b;exact⟨by omega,b.1,b.2.1,b.2.2⟩
 ·rintro⟨a,b,d,e⟩;rw[if_neg (by omega),if_neg (by simp[tF,b,d,e])]
theorem Jw {c:ChanD}:chE c=0↔ChOk c:=by
 unfold chE;constructor
 ·intro h;split at h
  ·cases h
  ·split at h
   ·cases h
   ·rename_i a b;simp only[not_or,Classical.not_not,tF]at b;exact⟨by omega,b.1,b.2.1,b.2.2.1,b.2.2.2.1,b.2.2.2.2⟩
 ·rintro⟨a,b,d,e,f,g⟩;rw[if_neg (by omega),if_neg (by simp[tF,b,d,e,f,g])]
structure StOk (s:StateD):Prop where
 name:ic s.name=true
 h:N12 0 s.h
 t:N12 0 s.t
 lcl:s.cls.length<=4
 lcn:s.cns.length<=8
 lch:s.chs.length<=8
 lsent:s.sent.length<=50
 lgot:s.got.length<=50
 lacks:s.acks.length<=50
 lpus:s.pus.length<=60
 cls:∀c∈s.cls,xD c
 cns:∀c∈s.cns,afP c
 chs:∀c∈s.chs,ChOk c
 sent:lN s.sent
 got:lN s.got
 acks:lN s.acks
 pus:abj s.pus
theorem rT {l:List MarkD}:rU none l=0↔lN l:=by rw[Ck (λ_ h=>by cases h)];exact⟨λh=>h.1,λh=>⟨h,λ_ h=>by cases h⟩⟩
theorem Nh {l:List PurseD}:KA none l=0↔abj l:=by rw[BP];exact⟨λh=>h.1,λh=>⟨h,λ_ h=>by cases h⟩⟩
theorem aC {s:StateD}:bq s=0↔StOk s:=by
 unfold bq aeF mksS;constructor
 ·intro h;split at h
  ·split at h
   ·cases h
   ·split at h
    ·cases h
    ·rename_i h1 h2 h3;simp only[lw,decide_eq_true_eq]at h2;split at h
     ·rename_i h4;split at h
      ·rename_i h5;split at h
       ·rename_i h6;split at h
        ·rename_i h7;split at h
         ·rename_i h8;split at h
          ·rename_i h9;exact⟨h1,by unfold N12;omega,by unfold N12;omega,by omega,by omega,by omega,by omega,by omega,by omega,by omega,λc hc=>cu.1 (jX.1 h4 c hc),λc hc=>Jq.1 (jX.1 h5 c hc),λc hc=>Jw.1 (jX.1 h6 c hc),rT.1 h7,rT.1 h8,rT.1 h9,Nh.1 h⟩
          ·exact absurd h ‹_›
         ·exact absurd h ‹_›
        ·exact absurd h ‹_›
       ·exact absurd h ‹_›
      ·exact absurd h ‹_›
     ·exact absurd h ‹_›
  ·cases h
 ·intro h;have n1:lw s.h=true:=by have:=h.h;unfold N12 at this;simp[lw];omega
  have n2:lw s.t=true:=by have:=h.t;unfold N12 at this;simp[lw];omega
  have:=h.lcl;have:=h.lcn;have:=h.lch;have:=h.lsent;have:=h.lgot;have:=h.lacks;have:=h.lpus;rw[if_pos h.name,if_neg (by simp[n1,n2]),if_neg (by omega),if_pos (jX.2 λc hc=>cu.2 (h.cls c hc)),if_pos (jX.2 λc hc=>Jq.2 (h.cns c hc)),if_pos (jX.2 λc hc=>Jw.2 (h.chs c hc)),if_pos (rT.2 h.sent),if_pos (rT.2 h.got),if_pos (rT.2 h.acks)];exact Nh.2 h.pus
theorem StOk.sm {s:StateD}(h:StOk s):StSm s:=⟨by have:=h.lcl;omega,λc hc=>(h.cls c hc).sm,by have:=h.lcn;omega,by have:=h.lch;omega,by have:=h.lsent;omega,by have:=h.lgot;omega,by have:=h.lacks;omega,
 λm hm=>by
  have k:Sd m:=by
   rcases hm with hm|hm|hm
   ·exact h.sent.all m hm
   ·exact h.got.all m hm
   ·exact h.acks.all m hm
  have:=k.dg;omega,by have:=h.lpus;omega⟩
open Go.RowKit
theorem rM {a b E:List (List I)}{off:Nat}(h:off=a.length):over (a++b) off E=a++(E++b.drop E.length):=by
 subst h;unfold over;have hd:List.drop (a.length+E.length) (a++b)=b.drop E.length:=by rw[List.drop_append,List.drop_eq_nil_of_le (Nat.le_add_right _ _),List.nil_append,Nat.add_sub_cancel_left]
 rw[List.take_left,List.append_assoc,hd]
theorem wG {es:List (List I)}{p:List I}{i:Nat}(hlt:i<es.length):over (over es (i+1) (es.drop i)) i [p]=es.take i++p::es.drop i:=by
 have hd:(es.drop (i+1)).drop (es.drop i).length=[]:=List.drop_eq_nil_of_le (by simp;omega);have h1:over es (i+1) (es.drop i)=es.take (i+1)++(es.drop i++[]):=by have:=rM (a:=es.take (i+1)) (b:=es.drop (i+1)) (E:=es.drop i) (off:=i+1) (by simp;omega);rw[List.take_append_drop,hd]at this;exact this
 rw[h1,List.append_nil,List.take_succ_eq_append_getElem hlt,List.append_assoc,rM (by simp;omega)];simp
theorem Ac {es R:List (List I)}{p:List I}{i:Nat}(hlt:i<es.length)(hR:R.length=es.length+1-i):over (over (es.take i++R) i [p]) (i+1) (es.drop i)=es.take i++p::es.drop i:=by
 rw[rM (by simp;omega)];have h1:es.take i++([p]++R.drop [p].length)=(es.take i++[p])++R.drop 1:=by simp
 have hd:(R.drop 1).drop (es.drop i).length=[]:=List.drop_eq_nil_of_le (by simp only[List.length_drop];omega);rw[h1,rM (by simp;omega),hd];simp
theorem zK {es E:List (List I)}{off:Nat}(h:off+E.length<=es.length):(over es off E).length=es.length:=by simp[over];omega
theorem uN {n:Nat}{es:List (List I)}(h:∀e∈es,e.length=n):uni n es=true:=by simp only[uni,List.all_eq_true,beq_iff_eq];exact h
theorem Jc {es R:List (List I)}{i:Nat}(hlt:i<es.length):(over (over es i (es.drop (i+1))) (es.length-1) R).take (es.length-1)=es.take i++es.drop (i+1):=by
 have h1:over es i (es.drop (i+1))=(es.take i++es.drop (i+1))++(es.drop i).drop (es.drop (i+1)).length:=by have:=rM (a:=es.take i) (b:=es.drop i) (E:=es.drop (i+1)) (off:=i) (by simp;omega);rw[List.take_append_drop]at this;rw[this,List.append_assoc]
 have hl:(es.take i++es.drop (i+1)).length=es.length-1:=by simp;omega
 rw[h1,rM hl.symm,<- hl,List.take_left]
open Go.Proofs.YtdmeldhlbpdeeaaGreatDoor.Ty
def uE:=an6 @Ty.T3 @Ty.T4 @Ty.T5 @Ty.T25 @Ty.T29 @Ty.ai_
theorem Eu {G:Nat->Ob}{o o2 off off2 len len2 cap:Nat}{es es2:List (List I)}(ho:G o=.arr 3 es)(ho2:G o2=.arr 3 es2)(hne:o≠o2)(h1:0<len)(h2:0<len2):
  Sg Tryz.prog 279 [.os o2 3 off2 len2,.oc o 3 off len cap] G (boolD false) G:=by
 intro K0 T K vs hr hrd;obtain⟨hs,hg⟩:=hrd;have e:vs=#[vs.getD 0 undef,vs.getD 1 undef]:=by
  apply Array.ext
  ·simpa using hs
  ·intro i h1 h2;simp at hs;have:i=0\/i=1:=by omega
   rcases this with rfl|rfl<;>simp[Array.getD,hs]
 have hrun:=nz (P:=Tryz.prog) (t:=25) (tR:=4) (s:=3) Tryz.underlying25 (fD (by kernel_rfl)) hr (hg 0 _ rfl) (hg 1 _ rfl) ho ho2 hne h1 h2;rw[e];refine⟨.bool false,K,?_,Ext.refl K,hr,.i (.s _ rfl)⟩;rw[run_callFunc_extern Tryz.func279 (by kernel_rfl) (by kernel_rfl) (by kernel_rfl) (e:=Extern.SlicesOverlaps.overlaps #[25,25] #[4]) (by kernel_rfl),hrun];rfl
theorem OV (es:List (List I))(p:List I)(i:Nat)(hi:i<=es.length)(hl:es.length<=1048576)(hu:∀e∈es,e.length=3)(hp:p.length=3):
  aL Tryz.prog 265 [.os 0 3 0 es.length,intD i,.os 2 3 0 1] (hF [(0,.arr 3 es),(2,.arr 3 [p])]) (.os 1 3 0 (es.length+1))
   (hOf (hF [(0,.arr 3 es),(2,.arr 3 [p])]) [(1,.arr 3 (es.take i++p::es.drop i))]):=by
 have hu2:=uN hu;by_cases hin:i=es.length
 ·subst hin;have e3:es.length+1<=140737488355328:=by omega
  have e4:(es.length+1)*40<=140737488355328:=by omega
  refine aP 95 Tryz.func265 rfl rfl rfl (λo ho=>by simp[hF,lk,show o≠0 by omega,show o≠1 by omega,show o≠2 by omega,show o≠3 by omega,show o≠4 by omega,show o≠5 by omega]) ?_;refine gx (an8 uE @intD.eq_1 e3 e4 @hp hu2 @Int.le_refl @Nat.sub_self) ?_;refine dN [(1,.arr 3 (es++[p]))] [] [(1,2794)] rfl ?_ ?_ rfl ?_ rfl
  ·simp[cv,cv1,cv0,upd,jc,hF,lk]
  ·simp[aX,jc,lk,cvO,frz,upd,hF]
  ·simp[hF,lk]
 ·have hlt:i<es.length:=by omega
  refine wz (by omega) λc hc=>?_;have g1:decide ((i:Int)=(es.length:Int))=false:=decide_eq_false (by omega);have w1:IntKind.i64.wrap ((es.length:Int)+1)=((es.length+1:Nat):Int):=by rw[au (by omega) (by omega)];omega
  have w2:IntKind.i64.wrap ((i:Int)+1)=((i+1:Nat):Int):=by rw[au (by omega) (by omega)];omega
  have l1:(i<=es.length)=True:=eq_true (by omega);have l2:(es.length<=c)=True:=eq_true (by omega);have l3:(i<=es.length+1)=True:=eq_true (by omega);have l6:(i<=c)=True:=eq_true (by omega);have l4:(i+1<=es.length+1)=True:=eq_true (by omega);have m2:i+(es.length-i)=es.length:=by omega
  have m4:min 1 (es.length+1-i)=1:=by omega
  have l7:(es.length-i<=es.length+1-i)=True:=eq_true (by omega);have l8:(i+1<=es.length)=True:=eq_true (by omega);have tk:(es.drop i).take (es.length-i)=es.drop i:=List.take_of_length_le (by simp);have hu3:uni 3 (es.drop i)=true:=uN λe he=>hu e (List.mem_of_mem_drop he);by_cases hroom:es.length+1<=c
  ·have g2:decide ((c:Int)<((es.length+1:Nat):Int))=false:=decide_eq_false (by omega);have l5:(es.length+1<=c)=True:=eq_true (by omega);have m1:min (es.length+1-i) (es.length+1-(i+1))=es.length-i:=by omega
   have l9:(i<=(over es (i+1) (es.drop i)).length)=True:=eq_true (by unfold over;simp;omega);have hos:=wG (p:=p) hlt;refine aP 95 Tryz.func265 rfl rfl rfl (λo ho=>by simp[hF,lk,show o≠0 by omega,show o≠1 by omega,show o≠2 by omega,show o≠3 by omega,show o≠4 by omega,show o≠5 by omega]) ?_;refine gx2 (an9 uE @intD.eq_1 g1 g2 w1 w2 l1 l2 (an9 l3 l4 l5 @true_or @Nat.sub_zero @Nat.zero_le l6 @hp hu2)) ?_;refine⟨_,_,.inr (Eu (len:=es.length+1-(i+1)) (len2:=1) (by simp[hF,lk];rfl) (by simp[hF,lk];rfl) (by decide) (by omega) (by omega)),?_⟩;refine gx2 (an9 uE @boolD.eq_1 @intD.eq_1 w1 w2 l1 l2 l3 (an9 l4 l5 @true_or @Nat.sub_zero @Nat.zero_le l6 @hp hu2 (an8 @m1 @m2 @m4 l7 l8 l9 @tk hu3))) ?_;have hos2:(over (over es (i+1) (es.drop i)) i [p]).take (es.length+1)=es.take i++p::es.drop i:=by rw[hos];exact List.take_of_length_le (by simp;omega)
   rw[<- hos2];exact CO (o:=0) (cap:=c) rfl (by simp[upd]) (by simp[upd,hF,lk]) (by simp[upd,hF,lk]) (by simp[hF,lk]) (by simp[hF,lk])
  ·have g2:decide ((c:Int)<((es.length+1:Nat):Int))=true:=decide_eq_true (by omega);have l5:(c<es.length+1)=True:=eq_true (by omega);have s1:i+(es.length+1-i)=es.length+1:=by omega
   have e3:es.length+1<=140737488355328:=by omega
   have e4:(es.length+1)*40<=140737488355328:=by omega
   have m1:min (es.length-i) (es.length+1-(i+1))=es.length-i:=by omega
   have L1:((i:Int)<=((es.length+1:Nat):Int))=True:=eq_true (by omega);have L2:(((i+1:Nat):Int)<=((es.length+1:Nat):Int))=True:=eq_true (by omega);have hti:(es.take i).length=i:=by simp;omega
   have l9:(i+1<=(over (es.take i++List.replicate (es.length+1-i) [I.s (.int .i64 0),I.s (.int .i64 0),I.sl []]) i [p]).length)=True:=eq_true (by rw[zK (by simp;omega)];simp;omega);have hos:=Ac (es:=es) (R:=List.replicate (es.length+1-i) [I.s (.int .i64 0),I.s (.int .i64 0),I.sl []]) (p:=p) hlt (by simp);have w3:IntKind.i64.wrap (((es.length+1:Nat):Int)-(i:Int))=((es.length+1-i:Nat):Int):=by rw[au (by omega) (by omega)];omega
   refine aP 95 Tryz.func265 rfl rfl rfl (λo ho=>by simp[hF,lk,show o≠0 by omega,show o≠1 by omega,show o≠2 by omega,show o≠3 by omega,show o≠4 by omega,show o≠5 by omega]) ?_;refine gx2 (an9 uE @intD.eq_1 g1 g2 w1 w2 w3 l1 (an9 l2 l3 l4 l5 @true_or @Nat.sub_zero @Nat.zero_le l6 (an9 @hp hu2 @s1 e3 e4 @L1 @L2 @m4 (an8 @m1 @m2 @hti l7 l8 l9 @tk hu3)))) ?_;refine dN [(1,.arr 3 (es.take i++p::es.drop i))] [] [(1,3312)] rfl ?_ ?_ rfl ?_ rfl
   ·simp[cv,cv1,cv0,upd,jc,hF,lk]
   ·simp[aX,jc,lk,cvO,frz,upd,hF,hos]
   ·simp[hF,lk]
def SA:=an5 @Ty.T3 @Ty.T5 @Ty.T25 @Ty.T29 @Ty.ai_
theorem PS (es:List (List I))(i:Nat)(hi:i<es.length)(hl:es.length<=1048576)(hu:∀e∈es,e.length=3):
  aL Tryz.prog 276 [.os 0 3 0 es.length,intD i,intD (i+1:Nat)] (hF [(0,.arr 3 es)]) (.os 1 3 0 (es.length-1))
   (hOf (hF [(0,.arr 3 es)]) [(1,.arr 3 (es.take i++es.drop (i+1)))]):=by
 have hu2:=uN hu;have hu3:uni 3 (es.drop (i+1))=true:=uN λe he=>hu e (List.mem_of_mem_drop he);refine wz (by omega) λc hc=>?_;have g1:decide ((i:Int)=((i+1:Nat):Int))=false:=decide_eq_false (by omega);have l1:(i<=i+1)=True:=eq_true (by omega);have l2:(i+1<=es.length)=True:=eq_true (by omega);have l3:(es.length<=c)=True:=eq_true (by omega);have l4:(i<=c)=True:=eq_true (by omega);have l5:(i<=es.length)=True:=eq_true (by omega);have l6:(es.length-1<=es.length)=True:=eq_true (by omega);have l7:(es.length-1<=c)=True:=eq_true (by omega);have m1:i+(es.length-(i+1))=es.length-1:=by omega
 have m2:i+1+(es.length-(i+1))=es.length:=by omega
 have tk:(es.drop (i+1)).take (es.length-(i+1))=es.drop (i+1):=List.take_of_length_le (by simp);have l8:(es.length-1<=(over es i (es.drop (i+1))).length)=True:=eq_true (by unfold over;simp;omega);refine aP 33 Tryz.func276 rfl rfl rfl (λo ho=>by simp[hF,lk,show o≠0 by omega,show o≠1 by omega,show o≠2 by omega,show o≠3 by omega,show o≠4 by omega,show o≠5 by omega]) ?_;refine gx2 (an9 SA @intD.eq_1 g1 l1 l2 l3 l4 l5 (an9 l6 l7 l8 @m1 @m2 @tk hu2 hu3 (an4 @or_true @true_or @Nat.sub_zero @Nat.zero_le))) ?_;have hos:=Jc (R:=List.replicate (es.length-(es.length-1)) [I.s (.int .i64 0),I.s (.int .i64 0),I.sl []]) hi;rw[<- hos];exact CO (o:=0) (cap:=c) rfl (by simp[upd]) (by simp[upd,hF,lk]) (by simp[upd,hF,lk]) (by simp[hF,lk]) (by simp[hF,lk])
end Go.Proofs.YtdmeldhlbpdeeaaGreatDoor
namespace Go.Abs
open Go Go.RowKit
theorem Ov {H0 H:Nat->Ob}{o id sz len m:Nat}{es:List (List I)}(hl:0<len)(ho:H o=.arr sz es)(hf:H id=.fresh):LER H0 (.os o sz 0 len) H (.os id sz 0 len) (upd (upd H o .dead) id (.arr sz (es.take m))):=by
 intro K0 E0 T K v hE h0 hr hv;cases hv with
 |os0=>omega
 |os _ _ _ _ b off' cap q1 q2 q3 q4 q5 =>exact Il ho hf K0 E0 T K _ hE h0 hr (.oc o sz 0 len cap b off' q1 q2 q3 q4 q5)
theorem aez {P:Program}{sl:Nat->D}{H:Nat->Ob}{fn:Func}{i:Tmp}{H0:Nat->Ob}{o sz len:Nat}{es:List (List I)}(h:fn.results=#[.tmp i])(hl:0<len)(hv:sl i=.os o sz 0 len)(ho:H o=.arr sz es)(hf:H 900=.fresh)(h1:H0 1=.fresh)(h9:H0 900=.fresh):
  Fin P fn H0 (.os 1 sz 0 len) (hOf H0 [(1,.arr sz (es.take len))]) .ret ⟨sl,H⟩:=by
 refine⟨_,uL h,?_⟩;show LER H0 (sl i) H _ _;rw[hv];refine(Ov (id:=900) (m:=len) hl ho hf).trans (Co [(1,.arr sz (es.take len))] [] [(1,900)] ?_ ?_ rfl ?_ rfl)
 ·simp[cv,cv1,cv0,jc,h1,lk]
 ·simp[aX,jc,h1,lk,cvO,frz,upd]
 ·simp[h9]
end Go.Abs
namespace Go.Proofs.YtdmeldhlbpdeeaaGreatDoor
open Go Go.Abs Go.RowKit Go.Proofs.YtdmeldhlbpdeeaaGreatDoor.Ty
abbrev placeM (l:List MarkD)(ch seq:Int):Nat:=KL.place mk xy l (ch,seq)
abbrev pQ (l:List MarkD)(ch seq:Int):Option MarkD:=KL.get mk xy l (ch,seq)
abbrev ui (l:List MarkD)(m:MarkD):List MarkD:=KL.put mk xy l (m.ch,m.seq) (some m)
abbrev nG (l:List MarkD)(ch seq:Int):List MarkD:=KL.put mk xy l (ch,seq) none
theorem Xa (m:MarkD)(ch seq:Int):PureD Tryz.prog 275 [KN m,intD seq,.rp [.s (.int .i64 ch)] 0] (intD (kH m ch seq)):=by refine ai λR hR=>?_;have c1:=Gh m ch seq;generalize kH m ch seq=W at*;refine aa 10 Tryz.func275 ?_;exact wkl trivial
theorem Ol (l:List MarkD)(ch seq:Int)(p:Nat)(hl:l.length<=1048576)(hp:p<=l.length)(hm:∀a (ha:a<l.length),kH l[a] ch seq<0↔a<p):
  PureD Tryz.prog 274 [.i (.sl (l.map bJ)),intD seq,.fn 275 [.rp [.s (.int .i64 ch)] 0]]
   (.tup [intD p,boolD (if ha:p<l.length then decide (kH l[p] ch seq=0)else false)]):=by
 refine ai λR hR=>?_;refine aa 49 Tryz.func274 ?_;refine wkl ?_;clear hR;intro hR;refine aS (ι:=Nat×Nat) (λq=>q.1<=p/\p<=q.2/\q.2<=l.length)
  (λq=>dP [(0,.i (.sl (l.map bJ))),(1,intD seq),(2,.fn 275 [.rp [.s (.int .i64 ch)] 0]),(8,intD l.length),(9,intD q.1),(10,intD q.2)] []) (λq=>q.2-q.1) (0,l.length) ⟨Nat.zero_le _,hp,Nat.le_refl _⟩ ?_ ?_
 ·exact dB [] []
 ·rintro⟨i,j⟩ ⟨h1,h2,h3⟩ RL hL;simp only at h1 h2 h3;rw[ag];by_cases hij:i<j
  ·have hml:(i+j)/2<l.length:=by omega
   have s0:=aI (f:=bJ) hml;have hmm:=hm _ hml;have c1:=Xa l[(i+j)/2] ch seq;have w1:IntKind.i64.wrap ((i:Int)+(j:Int))=((i+j:Nat):Int):=by rw[au (by omega) (by omega)];omega
   have w2:IntKind.u64.wrap ((i+j:Nat):Int)=((i+j:Nat):Int):=by rw[IntKind.wrap_u64];omega
   have w3:((i+j:Nat):Int).fdiv (2^min 1 64)=(((i+j)/2:Nat):Int):=by rw[show min 1 64=1 from rfl,Int.fdiv_eq_ediv_of_nonneg _ (by decide)];omega
   have w4:IntKind.i64.wrap (((i+j)/2:Nat):Int)=(((i+j)/2:Nat):Int):=by rw[au (by omega) (by omega)]
   have hmid1:i<=(i+j)/2:=by omega
   have hmid2:(i+j)/2<j:=by omega
   generalize l[(i+j)/2]=q at*;generalize kH q ch seq=W at*;by_cases hq:W<0
   ·have b1:=λσ'=>bk [] [] (hL ((i+j)/2+1,j) σ' ⟨hmm.1 hq,h2,h3⟩);clear hL;simp only at b1;generalize(i+j)/2=m at*;clear hm hmm hR;exact wkl trivial
   ·have b1:=λσ'=>bk [] [] (hL (i,(i+j)/2) σ' ⟨h1,by have:=λe=>hq (hmm.2 e);omega,by omega⟩);clear hL;simp only at b1;generalize(i+j)/2=m at*;clear hm hmm hR;exact wkl trivial
  ·have hi:i=p:=by omega
   subst hi;clear hL hm;by_cases hlt:i<l.length
   ·have s0:=aI (f:=bJ) hlt;have c1:=Xa l[i] ch seq;rw[dif_pos hlt]at hR;generalize l[i]=q at*;generalize kH q ch seq=W at*;exact wkl trivial
   ·rw[dif_neg hlt]at hR;exact wkl trivial
theorem ED {l:List MarkD}(hk:lN l){ch seq:Int}(h1:N12 (-1) ch)(h2:N12 0 seq):(if h:placeM l ch seq<l.length then decide (kH l[placeM l ch seq] ch seq=0)else false)=(pQ l ch seq).isSome:=by
 unfold pQ placeM;rw[KL.get_place cmpM_ok hk.srt];by_cases h:KL.place mk xy l (ch,seq)<l.length
 ·rw[dif_pos h,dif_pos h,vY (hk.all _ (List.getElem_mem h)) h1 h2];by_cases h2:xy (mk l[KL.place mk xy l (ch,seq)]) (ch,seq)=0
  ·rw[if_pos h2,decide_eq_true h2];rfl
  ·rw[if_neg h2,decide_eq_false h2];rfl
 ·rw[dif_neg h,dif_neg h];rfl
theorem zV (l:List MarkD)(ch seq:Int)(hl:l.length<=1048576)(hk:lN l)(h1:N12 (-1) ch)(h2:N12 0 seq):
  PureD Tryz.prog 253 [.i (.sl (l.map bJ)),intD ch,intD seq] (.tup [intD (placeM l ch seq),boolD (pQ l ch seq).isSome]):=by
 have c1:=Ol l ch seq (placeM l ch seq) hl (KL.place_le cmpM_ok l _) (λa ha=>by rw[vY (hk.all _ (List.getElem_mem ha)) h1 h2];exact KL.place_iff cmpM_ok hk.srt (ch,seq) a ha);rw[ED hk h1 h2]at c1;refine ai λR hR=>?_;generalize placeM l ch seq=p at*;generalize(pQ l ch seq).isSome=b at*;clear hk h1 h2;refine aa 14 Tryz.func253 ?_;exact wkl trivial
theorem uM (l:List MarkD):∀e∈l.map bJ,e.length=3:=by simp[bJ]
theorem GA {l:List MarkD}(hk:lN l)(m:MarkD):(ui l m).length=if(pQ l m.ch m.seq).isSome then l.length else l.length+1:=by
 unfold ui;cases hg:pQ l m.ch m.seq with
 |none =>rw[KL.put_miss cmpM_ok hk.srt hg];have:=KL.place_le (κ:=mk) cmpM_ok l (m.ch,m.seq);simp;omega
 |some u =>rw[KL.put_hit cmpM_ok hk.srt hg];obtain⟨hp,_⟩:=KL.place_lt cmpM_ok hk.srt hg;have hp2:KL.place mk xy l (m.ch,m.seq)<l.length:=hp;simp;omega
theorem Om (l:List MarkD)(m:MarkD)(hl:l.length<=1000)(hk:lN l)(hm:Sd m):
  aL Tryz.prog 246 [.os 0 3 0 l.length,KN m] (hF [(0,.arr 3 (l.map bJ))]) (.os 1 3 0 (ui l m).length) (hOf (hF [(0,.arr 3 (l.map bJ))]) [(1,.arr 3 ((ui l m).map bJ))]):=by
 refine ik λR R' hR hR'=>?_;have c1:=zV l m.ch m.seq (by omega) hk (by have:=hm.ch;unfold N12 at*;omega) (by have:=hm.seq;unfold N12 at*;omega);have hlen:=GA hk m;cases hg:pQ l m.ch m.seq with
 |none =>
  rw[hg]at c1 hlen;have hle:=KL.place_le (κ:=mk) cmpM_ok l (m.ch,m.seq);have e2:=OV (l.map bJ) (bJ m) (placeM l m.ch m.seq) (by simpa using hle) (by simp;omega) (uM l) rfl;have he:(l.map bJ).take (placeM l m.ch m.seq)++bJ m::(l.map bJ).drop (placeM l m.ch m.seq)=(ui l m).map bJ:=by unfold ui;rw[KL.put_miss cmpM_ok hk.srt hg];simp
  rw[he,List.length_map,<- show(ui l m).length=l.length+1 from hlen]at e2;have d1:iY [] [(1,901)]:=⟨trivial⟩
  simp only[Option.isSome_none,Bool.false_eq_true,if_false]at c1 hlen;rw[hlen]at hR;simp only[bJ,bI,intD]at e2;clear he hk hm hg;generalize placeM l m.ch m.seq=p at*;generalize ui l m=L at*;obtain⟨rfl⟩:=hR;obtain⟨rfl⟩:=hR';refine aP 27 Tryz.func246 rfl rfl rfl (λo ho=>by simp[hF,lk,show o≠0 by omega,show o≠1 by omega,show o≠2 by omega,show o≠3 by omega,show o≠4 by omega,show o≠5 by omega]) ?_;exact wkl trivial
 |some u =>
  rw[hg]at c1 hlen;obtain⟨hp,hv⟩:=KL.place_lt cmpM_ok hk.srt hg;have he:(l.map bJ).set (placeM l m.ch m.seq) (bJ m)=(ui l m).map bJ:=by unfold ui;rw[KL.put_hit cmpM_ok hk.srt hg,<- List.map_set,List.set_eq_take_append_cons_drop,if_pos hp]
  have s0:=aI (f:=bJ) hp;simp only[Option.isSome_some,if_true]at c1 hlen;have hl0:0<l.length:=by omega
  have hp':placeM l m.ch m.seq<l.length:=hp;clear hk hm hg hv;generalize l[KL.place mk xy l (m.ch,m.seq)]=q at*;clear hp;rw[<- he,show(l.map bJ).set (placeM l m.ch m.seq) (bJ m)=((l.map bJ).set (placeM l m.ch m.seq) (bJ m)).take l.length from(List.take_of_length_le (by simp)).symm]at hR';rw[hlen]at hR;clear hlen he;generalize placeM l m.ch m.seq=p at*;obtain⟨rfl⟩:=hR;obtain⟨rfl⟩:=hR';refine aP 27 Tryz.func246 rfl rfl rfl (λo ho=>by simp[hF,lk,show o≠0 by omega,show o≠1 by omega,show o≠2 by omega,show o≠3 by omega,show o≠4 by omega,show o≠5 by omega]) ?_;refine wkl ?_;exact aez (o:=0) rfl hl0 (by simp[upd]) (by simp[upd]) (by simp[upd,hF,lk]) (by simp[hF,lk]) (by simp[hF,lk])
end Go.Proofs.YtdmeldhlbpdeeaaGreatDoor
