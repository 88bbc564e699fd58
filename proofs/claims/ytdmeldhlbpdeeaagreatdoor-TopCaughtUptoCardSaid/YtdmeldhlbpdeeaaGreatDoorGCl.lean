/- Merged texts: ClP, ClQ, ClA, ClnKn, ClB, ClO, ClL, ClF. -/
import Derived.Test.YtdmeldhlbpdeeaaGreatDoorGProof
set_option linter.all false
set_option maxHeartbeats 4000000
set_option maxRecDepth 20000
namespace Go.Proofs.YtdmeldhlbpdeeaaGreatDoor
open Go Go.Abs
structure aT where
 h:Int
 t:Int
 root:List UInt8
 next:List UInt8
structure aD where
 c:ByteArray
 trust:Int
 frozen:Bool
 known:List aT
structure yI where
 fr:Int
 sg:gG
 tr:List dA
def gL (k:aT):List I:=[.s (.int .i64 k.h),.s (.int .i64 k.t),bI k.root,bI k.next]
def jT (l:List aT):I:=.sl (l.map gL)
def xU (k:aT):D:=.agg [.i (.s (.int .i64 k.h)),.i (.s (.int .i64 k.t)),.i (bI k.root),.i (bI k.next)]
def gF (c:aD):List I:=[.s (.string c.c),.s (.int .i64 c.trust),.s (.bool c.frozen),jT c.known]
def eU (c:aD):D:=.agg [.i (.s (.string c.c)),.i (.s (.int .i64 c.trust)),.i (.s (.bool c.frozen)),.i (jT c.known)]
def afI (u:yI):List I:=.s (.int .i64 u.fr)::(XF u.sg++[valsI u.tr])
def YM (u:yI):D:=.agg [.i (.s (.int .i64 u.fr)),.i (.s (.string u.sg.hdr.c)),.i (.s (.int .i64 u.sg.hdr.h)),.i (.s (.int .i64 u.sg.hdr.t)),.i (bI u.sg.hdr.root),.i (bI u.sg.hdr.vals),.i (bI u.sg.hdr.next),.i (valsI u.sg.vals),.i (votesI u.sg.votes),.i (valsI u.tr)]
def Bg:aT:=⟨0,0,[],[]⟩
def kw:aD:=⟨⟨#[]⟩,0,false,[]⟩
def knE (k:aT):Int :=
 if k.h<1\/¬lw k.h=true\/¬lw k.t=true then 3
 else if ¬(k.root.length:Int)=32\/¬(k.next.length:Int)=32 then 2 else 0
def Ue:Option aT->List aT->Int
 |_,[]=>0
 |o,k::t=>if knE k=0 then(if(o.any λq=>decide (k.h<=q.h))=true then 2 else Ue (some k) t)else knE k
def wrongC (c:aD):Int :=
 if ic c.c=true then
  (if c.trust<1\/¬lw c.trust=true then 3
  else if(c.known.length:Int)<1\/(30:Int)<c.known.length then 5 else Ue none c.known)
 else 7
def mG (l:List aT)(h:Int)(i:Nat):Int:=match (l.drop i).findIdx? (λk=>decide (k.h=h))with|some j=>((i+j:Nat):Int)|none=>-1
def ixK (l:List aT)(h:Int):Int:=mG l h 0
theorem Cs {l:List aT}{h:Int}{i:Nat}(hi:i<l.length):mG l h i=if l[i].h=h then(i:Int)else mG l h (i+1):=by
 unfold mG;rw[List.drop_eq_getElem_cons hi,List.findIdx?_cons];by_cases e:l[i].h=h
 ·simp[e]
 ·simp only[e,decide_false,Bool.false_eq_true,if_false];cases(l.drop (i+1)).findIdx? (λk=>decide (k.h=h))with
  |none=>rfl
  |some j=>simp;omega
theorem Ct {l:List aT}{h:Int}{i:Nat}(hi:¬i<l.length):mG l h i=-1:=by unfold mG;rw[List.drop_eq_nil_of_le (by omega)];rfl
def atC (c:aD)(h:Int):Option aT:=c.known.find? λk=>decide (k.h=h)
theorem at_case (c:aD)(h:Int):(atC c h=none/\ixK c.known h=-1)\/∃i,∃hi:i<c.known.length,ixK c.known h=i/\atC c h=some c.known[i]:=by
 unfold atC ixK mG;rw[List.drop_zero];cases e:c.known.findIdx? (λk=>decide (k.h=h))with
 |none =>left;rw[List.findIdx?_eq_none_iff]at e;exact⟨List.find?_eq_none.2 λx hx=>by simpa using e x hx,rfl⟩
 |some i =>right;obtain⟨hi,h1,h2⟩:=List.findIdx?_eq_some_iff_getElem.1 e;refine⟨i,hi,by simp,?_⟩;rw[List.find?_eq_some_iff_getElem];exact⟨h1,i,hi,rfl,λj hj=>by simpa using h2 j hj⟩
def atR (c:aD)(h:Int):aT×Bool:=match atC c h with|some k=>(k,true)|none=>(Bg,false)
def ky (c:aD):aT:=c.known.getLastD Bg
def gp (c:aD)(now:Int):Bool:=!c.frozen&&decide (now-(ky c).t<c.trust)
def Dy (c:ByteArray)(trust:Int)(k:aT):aD×Int:=if wrongC ⟨c,trust,false,[k]⟩=0 then(⟨c,trust,false,[k]⟩,0)else(kw,wrongC ⟨c,trust,false,[k]⟩)
def afg (u:yI)(k:aT):Int :=
 if u.sg.hdr.h=k.h+1 then(if u.sg.hdr.vals=k.next then 0 else 8)
 else if kZ u.tr=0 then(if digestV u.tr=k.next then(if TG u.tr u.sg=true then 0 else 10)else 8)else kZ u.tr
def abD (c:aD)(u:yI)(now:Int)(k:aT):Int :=
 if u.sg.hdr.c=c.c then
  (if c.trust<=now-k.t then 11
  else if u.sg.hdr.h<=k.h then 3
  else if u.sg.hdr.t<=k.t\/now+10<u.sg.hdr.t then 11
  else afg u k)
 else 7
def beE (c:aD)(u:yI)(now:Int):Int :=
 if j_ u.sg=0 then(match atC c u.fr with|none=>6|some k=>abD c u now k)else j_ u.sg
def dJ (c:aD)(now:Int):Int :=
 if wrongC c=0 then(if lw now=true then(if c.frozen=true then 12 else 0)else 3)else wrongC c
def ofH (h:kv):aT:=⟨h.h,h.t,h.root,h.next⟩
def jI (l:List aT)(h:Int):Nat:=(l.takeWhile λk=>decide (k.h<h)).length
def KV (l:List aT):List aT:=if(30:Int)<l.length then l.drop 1 else l
def afF (o k:aT):Bool:=decide (o.t=k.t)&&(decide (o.root=k.root)&&decide (o.next=k.next))
def aaX (l:List aT)(i:Nat)(k:aT):Bool:=(decide (0<i)&&(l[i-1]?).any λp=>decide (k.t<=p.t))||(l[i]?).any λp=>decide (p.t<=k.t)
def Bc (c:aD)(k:aT):aD :=
 match atC c k.h with
 |some o=>if afF o k=true then c else{c with frozen:=true}
 |none=>if aaX c.known (jI c.known k.h) k=true then{c with frozen:=true}
  else{c with known:=KV (c.known.take (jI c.known k.h)++k::c.known.drop (jI c.known k.h))}
def fw (c:aD)(u:yI)(now:Int):aD×Int :=
 if dJ c now=0 then(if beE c u now=0 then(Bc c (ofH u.sg.hdr),0)else(kw,beE c u now))else(kw,dJ c now)
def kg (c:aD)(a b:yI)(now:Int):aD×Int :=
 if dJ c now=0 then(if beE c a now=0 then(if beE c b now=0 then(if a.sg.hdr.h=b.sg.hdr.h/\¬a_ a.sg.hdr=a_ b.sg.hdr then({c with frozen:=true},0)else(kw,8))else(kw,beE c b now))else(kw,beE c a now))else(kw,dJ c now)
attribute [simp,go_sem] bW IY valsI votesI abA LC XF mU ahY gL jT xU gF eU afI YM sD dI kw Bg
open Go.RowKit Go.Proofs.YtdmeldhlbpdeeaaGreatDoor.Ty
theorem Ve (k:aT):PureD Tryz.prog 135 [.rp (gL k) 0] (intD (knE k)):=by refine ai λR hR=>?_;have c1:=tK k.h;have c2:=tK k.t;unfold knE at hR;refine aa 40 Tryz.func135 ?_;exact wkl trivial
def Zk (l:List aT)(i:Nat):Option aT:=if i=0 then none else l[i-1]?
theorem Av (c:aD)(hl:c.known.length<=1048576):PureD Tryz.prog 84 [eU c] (intD (wrongC c)):=by
 refine ai λR hR=>?_;have c1:=EQ c.c;have c2:=tK c.trust;unfold wrongC at hR;refine aa 64 Tryz.func84 ?_;refine wkl ?_;clear hR;intro hR _ _ _ _ _;have hR':Hr (intD (Ue (Zk c.known 0) (c.known.drop 0))) R:=hR;clear hR;refine aS (ι:=Nat) (λi=>i<=c.known.length/\Hr (intD (Ue (Zk c.known i) (c.known.drop i))) R)
  (λi=>dP [(1,.pt 100 0 0 0),(33,intD c.known.length),(34,intD i)] [(100,.box ((gF c).map .i))]) (λi=>c.known.length-i) 0 ⟨Nat.zero_le _,hR'⟩ ?_ ?_
 ·exact dB [] [(100,1000)]
 ·rintro i ⟨hi,hR⟩ RL hL;clear hR';rw[ag];by_cases h:i<c.known.length
  ·have e1:=aI (f:=gL) h;rw[List.drop_eq_getElem_cons h,Ue]at hR;have hnx:Zk c.known (i+1)=some c.known[i]:=by simp[Zk,h]
   rw[<- hnx]at hR;have c3:=Ve c.known[i];have b1:=λσ' (hq:Hr _ R)=>bk [] [(100,100)] (hL (i+1) σ' ⟨h,hq⟩);clear hL;cases i with
   |zero =>have hp:Zk c.known 0=none:=rfl;rw[hp]at hR;simp only[Option.any_none,Bool.false_eq_true,if_false]at hR;clear hp hnx;generalize hv0:c.known[0]=v at*;exact wkl trivial
   |succ j =>
    have hj:j<c.known.length:=by omega
    have hp:Zk c.known (j+1)=some c.known[j]:=by simp[Zk,hj]
    have e2:=aI (f:=gL) hj;rw[hp]at hR;simp only[Option.any_some,decide_eq_true_eq]at hR;have hg0:(0:Int)<((j+1:Nat):Int):=by omega
    have w0:IntKind.i64.wrap (((j+1:Nat):Int)-1)=(j:Int):=by rw[au (by omega) (by omega)];omega
    have n0:(((j+1:Nat):Int)).toNat=j+1:=by omega
    clear hnx hp;generalize hv0:c.known[j+1]=v at*;generalize hq0:c.known[j]=q at*;exact wkl trivial
  ·rw[List.drop_eq_nil_of_le (by omega),Ue]at hR;exact wkl trivial
def za:=an6 @Ty.T0 @Ty.T3 @Ty.T5 @Ty.T29 @Ty.T35 @Ty.T76
theorem abS (l:List aT):uni 4 (l.map gL)=true:=by simp[uni,gL]
theorem AA (l:List aT)(hl:l.length<=1048576):aL Tryz.prog 149 [.i (.sl (l.map gL))] noH (.os 1 4 0 l.length) (hOf noH [(1,.arr 4 (l.map gL))]):=by
 cases l with
 |nil =>
  refine ko (gH Tryz.func149 rfl rfl) λK vs hrd=>?_;obtain⟨hs,hg⟩:=hrd;obtain⟨a,c,hv⟩:=sl_nil (hg 0 _ rfl);refine⟨[.i (.s (.slice a 0 c))],?_,hs,λj d hd=>?_⟩
  ·have hun:=aia;refine aa 8 Tryz.func149 ?_;cases a with
   |none =>refine gr (an3 za (jv hun) @Option.isNone_none.{0}) ?_;exact Be [] []
   |some a =>refine gr (an3 za (jv hun) @Option.isNone_some.{0}) ?_;exact Be [] [(1,1770)]
  ·cases j with
   |zero=>simp at hd;subst hd;rw[hv];exact .i (.s _ rfl)
   |succ j=>simp at hd
 |cons p t =>
  have hu:=abS t;have e3:t.length+1<=140737488355328:=by simp at hl;omega
  have e4:(t.length+1)*64<=140737488355328:=by simp at hl;omega
  have e5:(gL p).length=4:=rfl;refine aa 8 Tryz.func149 ?_;refine gx (an8 za hu e3 e4 e5 @List.map_cons.{0,0} @List.length_cons.{0} @List.length_map.{0,0}) ?_;exact Be [] [(1,1770)]
structure ahn (k:aT):Prop where
 r:k.root.length<=1048576
 n:k.next.length<=1048576
structure abG (c:aD):Prop where
 l:c.known.length<=1048576
 k:∀k∈c.known,ahn k
theorem rE {α:Type}{f:α->List I}{l:List α}{i:Nat}(h:i<l.length):(l.map f).set i (f l[i])=l.map f:=by
 refine List.ext_getElem (by simp) λj h1 h2=>?_;rw[List.getElem_set];split
 ·rename_i e;subst e;simp
 ·rfl
theorem PZ (c:aD)(hc:abG c):PureD Tryz.prog 95 [eU c] (eU c):=by
 refine ai λR hR=>?_
 have hcl:=hc.l
 have e1:=AA c.known hcl
 refine aa 35 Tryz.func95 ?_
 refine wkl ?_
 clear hR;intro hR
 refine aS (ι:=Nat) (λi=>i<=c.known.length)
  (λi=>dP [(1,.pt 100 0 0 0),(2,.pt 101 0 0 0),(10,.os 102 4 0 c.known.length),(11,intD c.known.length),(12,intD i)] [(100,.box [.i (.s (.string c.c)),.i (.s (.int .i64 c.trust)),.i (.s (.bool c.frozen)),.os 102 4 0 c.known.length]),(101,.box ((gF kw).map .i)),(102,.arr 4 (c.known.map gL))])
  (λi=>c.known.length-i) 0 (Nat.zero_le _) ?_ ?_
 ·exact dB [] [(100,1000),(101,1001),(102,901)]
 ·rintro i hi RL hL
  rw[ag]
  by_cases h:i<c.known.length
  ·have s0:=aI (f:=gL) h
   have s1:=rE (f:=gL) h
   have hk:=hc.k _ (List.getElem_mem h)
   have c1:=eT c.known[i].root (by have:=hk.r;omega)
   have c2:=eT c.known[i].next (by have:=hk.n;omega)
   have b1:=λσ'=>bk [] [(100,100),(101,101),(102,102)] (hL (i+1) σ' h)
   clear hL e1 hk
   generalize c.known[i]=k at*
   simp only[gL,bI]at s0 s1
   exact wkl trivial
  ·exact wkl trivial
theorem aaD (k:aT)(h:Int):PureD Tryz.prog 105 [xU k,.rp [.s (.int .i64 h)] 0] (boolD (decide (k.h=h))):=by refine ai λR hR=>?_;refine aa 8 Tryz.func105 ?_;exact wkl trivial
theorem Vf (l:List aT)(h:Int)(hl:l.length<=1048576):PureD Tryz.prog 104 [.i (jT l),.fn 105 [.rp [.s (.int .i64 h)] 0]] (intD (ixK l h)):=by
 refine ai λR hR=>?_
 refine aa 19 Tryz.func104 ?_
 refine wkl ?_
 clear hR;intro hR
 have hR':Hr (intD (mG l h 0)) R:=hR
 clear hR
 refine aS (ι:=Nat) (λi=>i<=l.length/\Hr (intD (mG l h i)) R)
  (λi=>dP [(0,.i (jT l)),(1,.fn 105 [.rp [.s (.int .i64 h)] 0]),(7,intD l.length),(8,intD i)] [])
  (λi=>l.length-i) 0 ⟨Nat.zero_le _,hR'⟩ ?_ ?_
 ·exact dB [] []
 ·rintro i ⟨hi,hR⟩ RL hL
  clear hR'
  rw[ag]
  by_cases hlt:i<l.length
  ·have s0:=aI (f:=gL) hlt
   rw[Cs hlt]at hR
   have c1:=aaD l[i] h
   have b1:=λσ' (hq:Hr _ R)=>bk [] [] (hL (i+1) σ' ⟨hlt,hq⟩)
   clear hL
   generalize l[i]=k at*
   exact wkl trivial
  ·rw[Ct hlt]at hR
   exact wkl trivial
theorem aaL (c:aD)(h:Int)(hc:abG c):PureD Tryz.prog 47 [eU c,intD h] (.tup [xU (atR c h).1,boolD (atR c h).2]):=by
 refine ai λR hR=>?_;have c1:=Vf c.known h hc.l;have c2:=PZ c hc;unfold atR at hR;rcases at_case c h with⟨h1,h2⟩|⟨i,hi,h1,h2⟩
 ·rw[h2]at c1;rw[h1]at hR;simp only[Bg]at hR;clear h1 h2;refine aa 20 Tryz.func47 ?_;exact wkl trivial
 ·rw[h1]at c1;rw[h2]at hR;have s0:=aI (f:=gL) hi;have hg:¬(i:Int)<0:=by omega
  clear h1 h2;generalize c.known[i]=k at*;refine aa 20 Tryz.func47 ?_;exact wkl trivial
theorem XM (c:ByteArray)(t:Int)(k:aT)(hk:ahn k):PureD Tryz.prog 41 [sD c,intD t,xU k] (.tup [eU (Dy c t k).1,intD (Dy c t k).2]):=by
 refine ai λR hR=>?_;have c1:=Av ⟨c,t,false,[k]⟩ (by simp);have c2:=PZ ⟨c,t,false,[k]⟩ ⟨by simp,by simpa using hk⟩;unfold Dy at hR;by_cases h:wrongC ⟨c,t,false,[k]⟩=0
 ·rw[if_pos h]at hR;rw[h]at c1;clear h hk;refine aa 23 Tryz.func41 ?_;exact wkl trivial
 ·rw[if_neg h]at hR;simp only[kw]at hR;generalize wrongC ⟨c,t,false,[k]⟩=W at*;clear hk c2;refine aa 23 Tryz.func41 ?_;exact wkl trivial
theorem QF (c:aD)(now:Int)(hl:0<c.known.length)(hn:-1000000000001<=now/\now<=1000000000001)(ht:-1000000000001<=(ky c).t/\(ky c).t<=1000000000001)(hl':c.known.length<=1048576):
  PureD Tryz.prog 48 [eU c,intD now] (boolD (gp c now)):=by
 refine ai λR hR=>?_;unfold gp at hR;have hi:c.known.length-1<c.known.length:=by omega
 have s0:=aI (f:=gL) hi;have hlast:ky c=c.known[c.known.length-1]:=by unfold ky;rw[List.getLastD_eq_getLast?,List.getLast?_eq_getElem?,List.getElem?_eq_getElem hi];rfl
 rw[hlast]at hR ht;have w1:IntKind.i64.wrap ((c.known.length:Int)-1)=((c.known.length-1:Nat):Int):=by rw[au (by omega) (by omega)];omega
 clear hlast;generalize c.known[c.known.length-1]=k at*;have w2:IntKind.i64.wrap (now-k.t)=now-k.t:=au (by omega) (by omega);cases hf:c.frozen;all_goals
  rw[hf]at hR;simp only[Bool.not_true,Bool.not_false,Bool.true_and,Bool.false_and]at hR;refine aa 24 Tryz.func48 ?_;exact wkl trivial
theorem vg (c:aD)(now:Int)(hl:c.known.length<=1048576):PureD Tryz.prog 46 [.rp (gF c) 0,intD now] (intD (dJ c now)):=by refine ai λR hR=>?_;have c1:=Av c hl;have c2:=tK now;unfold dJ at hR;generalize wrongC c=W at*;refine aa 20 Tryz.func46 ?_;exact wkl trivial
theorem check_vals {s:gG}(h:j_ s=0):nM s.vals/\s.votes.length=s.vals.length/\fA s.hdr=0:=by
 unfold j_ at h;by_cases h1:fA s.hdr=0
 ·rw[if_pos h1]at h;by_cases h2:kZ s.vals=0
  ·rw[if_pos h2]at h;by_cases h3:(s.votes.length:Int)=s.vals.length
   ·exact⟨iD.1 h2,by omega,h1⟩
   ·rw[if_neg h3]at h;cases h
  ·rw[if_neg h2]at h;exact absurd h h2
 ·rw[if_neg h1]at h;exact absurd h h1
theorem DL {h:kv}(hw:fA h=0):1<=h.h/\h.h<=1000000000000/\0<=h.t/\h.t<=1000000000000/\h.root.length=32/\h.vals.length=32/\h.next.length=32:=by
 unfold fA lw at hw;simp only[decide_eq_true_eq]at hw;split at hw
 ·split at hw
  ·cases hw
  ·split at hw
   ·cases hw
   ·rename_i a b;omega
 ·cases hw
structure VM (k:aT):Prop where
 h:1<=k.h/\k.h<=1000000000000
 t:0<=k.t/\k.t<=1000000000000
 r:k.root.length=32
 n:k.next.length=32
theorem knE_zero {k:aT}:knE k=0↔VM k:=by
 unfold knE lw;simp only[decide_eq_true_eq];constructor
 ·intro h;split at h
  ·cases h
  ·split at h
   ·cases h
   ·exact⟨by omega,by omega,by omega,by omega⟩
 ·rintro⟨a,b,c,d⟩;rw[if_neg (by omega),if_neg (by omega)]
theorem knsE_zero:∀{o:Option aT}{l:List aT},Ue o l=0↔(∀k∈l,VM k)/\l.Pairwise (λa b=>a.h<b.h)/\(∀q,o=some q->∀k∈l,q.h<k.h)
 |o,[]=>by simp[Ue]
 |o,k::t=>by
  rw[Ue];have ih:=knsE_zero (o:=some k) (l:=t);by_cases h1:knE k=0
  ·rw[if_pos h1];have k1:=knE_zero.1 h1;by_cases h2:(o.any λq=>decide (k.h<=q.h))=true
   ·rw[if_pos h2];constructor
    ·intro h;cases h
    ·rintro⟨_,_,h⟩;cases o with
     |none=>simp at h2
     |some q=>have:=h q rfl k (List.mem_cons_self ..);simp at h2;omega
   ·rw[if_neg h2,ih];constructor
    ·rintro⟨a,b,c⟩;refine⟨λx hx=>?_,List.pairwise_cons.2 ⟨c k rfl,b⟩,λq hq x hx=>?_⟩
     ·rcases List.mem_cons.1 hx with rfl|hx
      ·exact k1
      ·exact a x hx
     ·subst hq;simp at h2;rcases List.mem_cons.1 hx with rfl|hx
      ·omega
      ·have:=c k rfl x hx;omega
    ·rintro⟨a,b,c⟩;have hb:=List.pairwise_cons.1 b;exact⟨λx hx=>a x (List.mem_cons_of_mem _ hx),hb.2,λq hq=>by injection hq with hq;subst hq;exact hb.1⟩
  ·rw[if_neg h1];constructor
   ·intro h;exact absurd h h1
   ·rintro⟨a,_,_⟩;exact absurd (knE_zero.2 (a k (List.mem_cons_self ..))) h1
structure xD (c:aD):Prop where
 name:ic c.c=true
 trust:1<=c.trust/\c.trust<=1000000000000
 len:1<=c.known.length/\c.known.length<=30
 k:∀k∈c.known,VM k
 rise:c.known.Pairwise λa b=>a.h<b.h
theorem cu {c:aD}:wrongC c=0↔xD c:=by
 unfold wrongC lw;simp only[decide_eq_true_eq];constructor
 ·intro h;split at h
  ·split at h
   ·cases h
   ·split at h
    ·cases h
    ·obtain⟨a,b,_⟩:=knsE_zero.1 h;exact⟨by assumption,by omega,by omega,a,b⟩
  ·cases h
 ·rintro⟨a,b,d,e,f⟩;rw[if_pos a,if_neg (by omega),if_neg (by omega)];exact knsE_zero.2 ⟨e,f,λq hq=>by cases hq⟩
theorem xD.sm {c:aD}(h:xD c):abG c:=⟨by have:=h.len;omega,λk hk=>⟨by have:=(h.k k hk).r;omega,by have:=(h.k k hk).n;omega⟩⟩
theorem at_mem {c:aD}{h:Int}{k:aT}(e:atC c h=some k):k∈c.known/\k.h=h:=by unfold atC at e;exact⟨List.mem_of_find?_eq_some e,by simpa using List.find?_some e⟩
theorem Xb (l:List aT)(h:Int):jI l h<=l.length:=(List.takeWhile_prefix _).length_le
theorem rX {h:Int}:∀{l:List aT},l.Pairwise (λa b=>a.h<b.h)->∀a (ha:a<l.length),l[a].h<h↔a<jI l h
 |k::t,hs,a,ha=>by
  obtain⟨h1,h2⟩:=List.pairwise_cons.1 hs;unfold jI;by_cases hk:k.h<h
  ·rw[List.takeWhile_cons_of_pos (by simpa using hk),List.length_cons];cases a with
   |zero=>simp[hk]
   |succ a =>have:=rX (h:=h) h2 a (by simpa using ha);unfold jI at this;simp only[List.getElem_cons_succ];omega
  ·rw[List.takeWhile_cons_of_neg (by simpa using hk),List.length_nil];cases a with
   |zero=>simp only[List.getElem_cons_zero];omega
   |succ a =>
    have ha':a<t.length:=by simpa using ha
    have:=h1 t[a] (List.getElem_mem _);simp only[List.getElem_cons_succ];omega
theorem low_case {c:aD}(h:Int)(hs:c.known.Pairwise λa b=>a.h<b.h):
  (∃hp:jI c.known h<c.known.length,(c.known[jI c.known h]'hp).h=h/\atC c h=some (c.known[jI c.known h]'hp))\/((∀hp:jI c.known h<c.known.length,¬(c.known[jI c.known h]'hp).h=h)/\atC c h=none):=by
 cases e:atC c h with
 |some k =>
  left;obtain⟨hm,hk⟩:=at_mem e;obtain⟨i,hi,rfl⟩:=List.getElem_of_mem hm;have h1:=(rX (h:=h) hs i hi)
  have h2:¬i<jI c.known h:=by rw[<- h1];omega
  have h3:¬jI c.known h<i:=by intro h3;have a1:=rX (h:=h) hs (jI c.known h) (by omega);have a2:=List.pairwise_iff_getElem.1 hs _ _ (by omega) hi h3;omega
  have h4:jI c.known h=i:=by omega
  revert h4;generalize jI c.known h=p;rintro rfl;exact⟨hi,hk,rfl⟩
 |none =>right;refine⟨λhp hk=>?_,rfl⟩;have:=List.find?_eq_none.1 e _ (List.getElem_mem hp);simp[hk]at this
theorem asked_zero {c:aD}{now:Int}:dJ c now=0↔xD c/\(0<=now/\now<=1000000000000)/\c.frozen=false:=by
 unfold dJ lw;simp only[decide_eq_true_eq];constructor
 ·intro h;split at h
  ·rename_i hw;split at h
   ·rename_i hn;split at h
    ·cases h
    ·rename_i hf;exact⟨cu.1 hw,hn,by simpa using hf⟩
   ·cases h
  ·exact absurd h ‹_›
 ·rintro⟨a,b,d⟩;rw[if_pos (cu.2 a),if_pos b,d];rfl
theorem aaU {c:aD}{u:yI}{now:Int}(h:beE c u now=0):j_ u.sg=0/\∃k,atC c u.fr=some k/\abD c u now k=0:=by
 unfold beE at h;split at h
 ·refine⟨by assumption,?_⟩;split at h
  ·cases h
  ·exact⟨_,by assumption,h⟩
 ·exact absurd h ‹_›
theorem be_hdr {c:aD}{u:yI}{now:Int}(h:beE c u now=0):VM (ofH u.sg.hdr)/\u.sg.hdr.vals.length=32:=by have:=DL (check_vals (aaU h).1).2.2;exact⟨⟨⟨this.1,this.2.1⟩,⟨this.2.2.1,this.2.2.2.1⟩,this.2.2.2.2.1,this.2.2.2.2.2.2⟩,this.2.2.2.2.2.1⟩
attribute [simp,go_sem] bR LG bbI
def bF (c:aD)(now h:Int)(key val:List UInt8)(p:b_):Int :=
 if dJ c now=0 then
  (match atC c h with
  |none=>6
  |some k=>if gp c now=true then(if p.k=key/\p.v=val/\dV k.root p=true then 0 else 9)else 11)
 else dJ c now
def kI (c:aD)(now h:Int)(key:List UInt8)(g:YA):Int :=
 if dJ c now=0 then
  (match atC c h with
  |none=>6
  |some k=>if gp c now=true then(if mq k.root key g=true then 0 else 9)else 11)
 else dJ c now
theorem Uc {c:aD}(h:1<=c.known.length):ky c∈c.known:=by unfold ky;rw[List.getLastD_eq_getLast?,List.getLast?_eq_getElem?,List.getElem?_eq_getElem (by omega)];exact List.getElem_mem _
theorem VG {c:aD}{now:Int}(ok:xD c)(hn:0<=now/\now<=1000000000000):PureD Tryz.prog 48 [eU c,intD now] (boolD (gp c now)):=by have hl:=ok.len;have hk:=(ok.k _ (Uc hl.1)).t;exact QF c now (by omega) (by omega) (by omega) (by omega)
theorem jZ (c:aD)(now h:Int)(key val:List UInt8)(p:b_)(hl:c.known.length<=1048576):
  PureD Tryz.prog 10 [eU c,intD now,intD h,.i (bI key),.i (bI val),bR p] (intD (bF c now h key val p)):=by
 refine ai λR hR=>?_;have c1:=vg c now hl;unfold bF at hR;by_cases h1:dJ c now=0
 ·obtain⟨ok,hn,hfz⟩:=asked_zero.1 h1;rw[if_pos h1]at hR;rw[h1]at c1;have c2:=aaL c h ok.sm;have c3:=VG ok hn;have c4:=iq p.k key;have c5:=iq p.v val;unfold atR at c2;clear h1 ok hn hfz hl;cases h2:atC c h with
  |none =>rw[h2]at c2 hR;simp only[Bg]at c2;clear h2;refine aa 55 Tryz.func10 ?_;exact wkl trivial
  |some k =>
   rw[h2]at c2 hR;simp only at c2 hR;have c6:=zu k.root p;clear h2;generalize gp c now=A at*;generalize dV k.root p=B at*;by_cases m1:p.k=key<;>by_cases m2:p.v=val<;>simp only[m1,m2,true_and,false_and,decide_true,decide_false,if_false]at hR c4 c5;all_goals
    refine aa 55 Tryz.func10 ?_;exact wkl trivial
 ·rw[if_neg h1]at hR;generalize dJ c now=W at*;refine aa 55 Tryz.func10 ?_;exact wkl trivial
theorem yj (c:aD)(now h:Int)(key:List UInt8)(g:YA)(hl:c.known.length<=1048576):
  PureD Tryz.prog 12 [eU c,intD now,intD h,.i (bI key),LG g] (intD (kI c now h key g)):=by
 refine ai λR hR=>?_;have c1:=vg c now hl;unfold kI at hR;by_cases h1:dJ c now=0
 ·obtain⟨ok,hn,hfz⟩:=asked_zero.1 h1;rw[if_pos h1]at hR;rw[h1]at c1;have c2:=aaL c h ok.sm;have c3:=VG ok hn;unfold atR at c2;clear h1 ok hn hfz hl;cases h2:atC c h with
  |none =>rw[h2]at c2 hR;simp only[Bg]at c2;clear h2;refine aa 40 Tryz.func12 ?_;exact wkl trivial
  |some k =>rw[h2]at c2 hR;simp only at c2 hR;have c6:=VH k.root key g;clear h2;generalize gp c now=A at*;generalize mq k.root key g=B at*;refine aa 40 Tryz.func12 ?_;exact wkl trivial
 ·rw[if_neg h1]at hR;generalize dJ c now=W at*;refine aa 40 Tryz.func12 ?_;exact wkl trivial
end Go.Proofs.YtdmeldhlbpdeeaaGreatDoor
