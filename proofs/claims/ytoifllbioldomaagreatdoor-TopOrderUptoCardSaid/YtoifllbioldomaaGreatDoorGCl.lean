/- Merged texts: ClP, ClQ, ClA, ClnKn, ClB, ClO, ClL, ClF. -/
import Derived.Test.YtoifllbioldomaaGreatDoorGProof
set_option linter.all false
set_option maxHeartbeats 4000000
set_option maxRecDepth 20000
namespace Go.Proofs.YtoifllbioldomaaGreatDoor
open Go Go.Abs
structure aH where
 h:Int
 t:Int
 root:List UInt8
 next:List UInt8
structure ax where
 c:ByteArray
 trust:Int
 frozen:Bool
 known:List aH
structure AX where
 fr:Int
 sg:gu
 tr:List bW
def jL (k:aH):List I:=[.s (.int .i64 k.h),.s (.int .i64 k.t),bI k.root,bI k.next]
def kM (l:List aH):I:=.sl (l.map jL)
def x_ (k:aH):D:=.agg [.i (.s (.int .i64 k.h)),.i (.s (.int .i64 k.t)),.i (bI k.root),.i (bI k.next)]
def gJ (c:ax):List I:=[.s (.string c.c),.s (.int .i64 c.trust),.s (.bool c.frozen),kM c.known]
def dO (c:ax):D:=.agg [.i (.s (.string c.c)),.i (.s (.int .i64 c.trust)),.i (.s (.bool c.frozen)),.i (kM c.known)]
def aeQ (u:AX):List I:=.s (.int .i64 u.fr)::(WX u.sg++[valsI u.tr])
def aaN (u:AX):D:=.agg [.i (.s (.int .i64 u.fr)),.i (.s (.string u.sg.hdr.c)),.i (.s (.int .i64 u.sg.hdr.h)),.i (.s (.int .i64 u.sg.hdr.t)),.i (bI u.sg.hdr.root),.i (bI u.sg.hdr.vals),.i (bI u.sg.hdr.next),.i (valsI u.sg.vals),.i (votesI u.sg.votes),.i (valsI u.tr)]
def Bd:aH:=⟨0,0,[],[]⟩
def lu:ax:=⟨⟨#[]⟩,0,false,[]⟩
def knE (k:aH):Int :=
 if k.h<1\/¬kz k.h=true\/¬kz k.t=true then 3
 else if ¬(k.root.length:Int)=32\/¬(k.next.length:Int)=32 then 2 else 0
def NZ:Option aH->List aH->Int
 |_,[]=>0
 |o,k::t=>if knE k=0 then(if(o.any λq=>decide (k.h<=q.h))=true then 2 else NZ (some k) t)else knE k
def wrongC (c:ax):Int :=
 if fO c.c=true then
  (if c.trust<1\/¬kz c.trust=true then 3
  else if(c.known.length:Int)<1\/(30:Int)<c.known.length then 5 else NZ none c.known)
 else 7
def mM (l:List aH)(h:Int)(i:Nat):Int:=match (l.drop i).findIdx? (λk=>decide (k.h=h))with|some j=>((i+j:Nat):Int)|none=>-1
def ixK (l:List aH)(h:Int):Int:=mM l h 0
theorem Ck {l:List aH}{h:Int}{i:Nat}(hi:i<l.length):mM l h i=if l[i].h=h then(i:Int)else mM l h (i+1):=by
 unfold mM;rw[List.drop_eq_getElem_cons hi,List.findIdx?_cons];by_cases e:l[i].h=h
 ·simp[e]
 ·simp only[e,decide_false,Bool.false_eq_true,if_false];cases(l.drop (i+1)).findIdx? (λk=>decide (k.h=h))with
  |none=>rfl
  |some j=>simp;omega
theorem Cm {l:List aH}{h:Int}{i:Nat}(hi:¬i<l.length):mM l h i=-1:=by unfold mM;rw[List.drop_eq_nil_of_le (by omega)];rfl
def atC (c:ax)(h:Int):Option aH:=c.known.find? λk=>decide (k.h=h)
theorem at_case (c:ax)(h:Int):(atC c h=none/\ixK c.known h=-1)\/∃i,∃hi:i<c.known.length,ixK c.known h=i/\atC c h=some c.known[i]:=by
 unfold atC ixK mM;rw[List.drop_zero];cases e:c.known.findIdx? (λk=>decide (k.h=h))with
 |none =>left;rw[List.findIdx?_eq_none_iff]at e;exact⟨List.find?_eq_none.2 λx hx=>by simpa using e x hx,rfl⟩
 |some i =>right;obtain⟨hi,h1,h2⟩:=List.findIdx?_eq_some_iff_getElem.1 e;refine⟨i,hi,by simp,?_⟩;rw[List.find?_eq_some_iff_getElem];exact⟨h1,i,hi,rfl,λj hj=>by simpa using h2 j hj⟩
def atR (c:ax)(h:Int):aH×Bool:=match atC c h with|some k=>(k,true)|none=>(Bd,false)
def kE (c:ax):aH:=c.known.getLastD Bd
def gp (c:ax)(now:Int):Bool:=!c.frozen&&decide (now-(kE c).t<c.trust)
def Dr (c:ByteArray)(trust:Int)(k:aH):ax×Int:=if wrongC ⟨c,trust,false,[k]⟩=0 then(⟨c,trust,false,[k]⟩,0)else(lu,wrongC ⟨c,trust,false,[k]⟩)
def aeT (u:AX)(k:aH):Int :=
 if u.sg.hdr.h=k.h+1 then(if u.sg.hdr.vals=k.next then 0 else 8)
 else if lw u.tr=0 then(if bF u.tr=k.next then(if Ta u.tr u.sg=true then 0 else 10)else 8)else lw u.tr
def aen (c:ax)(u:AX)(now:Int)(k:aH):Int :=
 if u.sg.hdr.c=c.c then
  (if c.trust<=now-k.t then 11
  else if u.sg.hdr.h<=k.h then 3
  else if u.sg.hdr.t<=k.t\/now+10<u.sg.hdr.t then 11
  else aeT u k)
 else 7
def beE (c:ax)(u:AX)(now:Int):Int :=
 if kR u.sg=0 then(match atC c u.fr with|none=>6|some k=>aen c u now k)else kR u.sg
def dK (c:ax)(now:Int):Int :=
 if wrongC c=0 then(if kz now=true then(if c.frozen=true then 12 else 0)else 3)else wrongC c
def ofH (h:mX):aH:=⟨h.h,h.t,h.root,h.next⟩
def jK (l:List aH)(h:Int):Nat:=(l.takeWhile λk=>decide (k.h<h)).length
def Kq (l:List aH):List aH:=if(30:Int)<l.length then l.drop 1 else l
def aeN (o k:aH):Bool:=decide (o.t=k.t)&&(decide (o.root=k.root)&&decide (o.next=k.next))
def aab (l:List aH)(i:Nat)(k:aH):Bool:=(decide (0<i)&&(l[i-1]?).any λp=>decide (k.t<=p.t))||(l[i]?).any λp=>decide (p.t<=k.t)
def Ba (c:ax)(k:aH):ax :=
 match atC c k.h with
 |some o=>if aeN o k=true then c else{c with frozen:=true}
 |none=>if aab c.known (jK c.known k.h) k=true then{c with frozen:=true}
  else{c with known:=Kq (c.known.take (jK c.known k.h)++k::c.known.drop (jK c.known k.h))}
def fM (c:ax)(u:AX)(now:Int):ax×Int :=
 if dK c now=0 then(if beE c u now=0 then(Ba c (ofH u.sg.hdr),0)else(lu,beE c u now))else(lu,dK c now)
def pI (c:ax)(a b:AX)(now:Int):ax×Int :=
 if dK c now=0 then(if beE c a now=0 then(if beE c b now=0 then(if a.sg.hdr.h=b.sg.hdr.h/\¬bJ a.sg.hdr=bJ b.sg.hdr then({c with frozen:=true},0)else(lu,8))else(lu,beE c b now))else(lu,beE c a now))else(lu,dK c now)
attribute [simp,go_sem] eQ Km valsI votesI aaB Oy WX pR agR jL kM x_ gJ dO aeQ aaN sD cz lu Bd
open Go.RowKit Go.Proofs.YtoifllbioldomaaGreatDoor.Ty
theorem Uy (k:aH):PureD Tryz.prog 124 [.rp (jL k) 0] (intD (knE k)):=by refine af λR hR=>?_;have c1:=uf k.h;have c2:=uf k.t;unfold knE at hR;refine aa 40 Tryz.func124 ?_;exact wkl trivial
def Dq (l:List aH)(i:Nat):Option aH:=if i=0 then none else l[i-1]?
theorem Ap (c:ax)(hl:c.known.length<=1048576):PureD Tryz.prog 65 [dO c] (intD (wrongC c)):=by
 refine af λR hR=>?_;have c1:=Ey c.c;have c2:=uf c.trust;unfold wrongC at hR;refine aa 64 Tryz.func65 ?_;refine wkl ?_;clear hR;intro hR _ _ _ _ _;have hR':Hr (intD (NZ (Dq c.known 0) (c.known.drop 0))) R:=hR;clear hR;refine aF (ι:=Nat) (λi=>i<=c.known.length/\Hr (intD (NZ (Dq c.known i) (c.known.drop i))) R)
  (λi=>cO [(1,.pt 100 0 0 0),(33,intD c.known.length),(34,intD i)] [(100,.box ((gJ c).map .i))]) (λi=>c.known.length-i) 0 ⟨Nat.zero_le _,hR'⟩ ?_ ?_
 ·exact bO [] [(100,1000)]
 ·rintro i ⟨hi,hR⟩ RL hL;clear hR';rw[ae];by_cases h:i<c.known.length
  ·have e1:=ay (f:=jL) h;rw[List.drop_eq_getElem_cons h,NZ]at hR;have hnx:Dq c.known (i+1)=some c.known[i]:=by simp[Dq,h]
   rw[<- hnx]at hR;have c3:=Uy c.known[i];have b1:=λσ' (hq:Hr _ R)=>bk [] [(100,100)] (hL (i+1) σ' ⟨h,hq⟩);clear hL;cases i with
   |zero =>have hp:Dq c.known 0=none:=rfl;rw[hp]at hR;simp only[Option.any_none,Bool.false_eq_true,if_false]at hR;clear hp hnx;generalize hv0:c.known[0]=v at*;exact wkl trivial
   |succ j =>
    have hj:j<c.known.length:=by omega
    have hp:Dq c.known (j+1)=some c.known[j]:=by simp[Dq,hj]
    have e2:=ay (f:=jL) hj;rw[hp]at hR;simp only[Option.any_some,decide_eq_true_eq]at hR;have hg0:(0:Int)<((j+1:Nat):Int):=by omega
    have w0:IntKind.i64.wrap (((j+1:Nat):Int)-1)=(j:Int):=by rw[ai (by omega) (by omega)];omega
    have n0:(((j+1:Nat):Int)).toNat=j+1:=by omega
    clear hnx hp;generalize hv0:c.known[j+1]=v at*;generalize hq0:c.known[j]=q at*;exact wkl trivial
  ·rw[List.drop_eq_nil_of_le (by omega),NZ]at hR;exact wkl trivial
def zg:=an6 @Ty.T0 @Ty.T3 @Ty.T5 @Ty.T25 @Ty.T50 @Ty.T78
theorem aaQ (l:List aH):uni 4 (l.map jL)=true:=by simp[uni,jL]
theorem Ay (l:List aH)(hl:l.length<=1048576):aI Tryz.prog 87 [.i (.sl (l.map jL))] noH (.os 1 4 0 l.length) (hOf noH [(1,.arr 4 (l.map jL))]):=by
 cases l with
 |nil =>
  refine kv (fQ Tryz.func87 rfl rfl) λK vs hrd=>?_;obtain⟨hs,hg⟩:=hrd;obtain⟨a,c,hv⟩:=sl_nil (hg 0 _ rfl);refine⟨[.i (.s (.slice a 0 c))],?_,hs,λj d hd=>?_⟩
  ·have hun:=agU;refine aa 8 Tryz.func87 ?_;cases a with
   |none =>refine gr (an3 zg (jv hun) @Option.isNone_none.{0}) ?_;exact Bc [] []
   |some a =>refine gr (an3 zg (jv hun) @Option.isNone_some.{0}) ?_;exact Bc [] [(1,1770)]
  ·cases j with
   |zero=>simp at hd;subst hd;rw[hv];exact .i (.s _ rfl)
   |succ j=>simp at hd
 |cons p t =>
  have hu:=aaQ t;have e3:t.length+1<=140737488355328:=by simp at hl;omega
  have e4:(t.length+1)*64<=140737488355328:=by simp at hl;omega
  have e5:(jL p).length=4:=rfl;refine aa 8 Tryz.func87 ?_;refine gx (an8 zg hu e3 e4 e5 @List.map_cons.{0,0} @List.length_cons.{0} @List.length_map.{0,0}) ?_;exact Bc [] [(1,1770)]
structure agi (k:aH):Prop where
 r:k.root.length<=1048576
 n:k.next.length<=1048576
structure aeM (c:ax):Prop where
 l:c.known.length<=1048576
 k:∀k∈c.known,agi k
theorem rU {α:Type}{f:α->List I}{l:List α}{i:Nat}(h:i<l.length):(l.map f).set i (f l[i])=l.map f:=by
 refine List.ext_getElem (by simp) λj h1 h2=>?_;rw[List.getElem_set];split
 ·rename_i e;subst e;simp
 ·rfl
theorem Ps (c:ax)(hc:aeM c):PureD Tryz.prog 66 [dO c] (dO c):=by
 refine af λR hR=>?_
 have hcl:=hc.l
 have e1:=Ay c.known hcl
 refine aa 35 Tryz.func66 ?_
 refine wkl ?_
 clear hR;intro hR
 refine aF (ι:=Nat) (λi=>i<=c.known.length)
  (λi=>cO [(1,.pt 100 0 0 0),(2,.pt 101 0 0 0),(10,.os 102 4 0 c.known.length),(11,intD c.known.length),(12,intD i)] [(100,.box [.i (.s (.string c.c)),.i (.s (.int .i64 c.trust)),.i (.s (.bool c.frozen)),.os 102 4 0 c.known.length]),(101,.box ((gJ lu).map .i)),(102,.arr 4 (c.known.map jL))])
  (λi=>c.known.length-i) 0 (Nat.zero_le _) ?_ ?_
 ·exact bO [] [(100,1000),(101,1001),(102,901)]
 ·rintro i hi RL hL
  rw[ae]
  by_cases h:i<c.known.length
  ·have s0:=ay (f:=jL) h
   have s1:=rU (f:=jL) h
   have hk:=hc.k _ (List.getElem_mem h)
   have c1:=dU c.known[i].root (by have:=hk.r;omega)
   have c2:=dU c.known[i].next (by have:=hk.n;omega)
   have b1:=λσ'=>bk [] [(100,100),(101,101),(102,102)] (hL (i+1) σ' h)
   clear hL e1 hk
   generalize c.known[i]=k at*
   simp only[jL,bI]at s0 s1
   exact wkl trivial
  ·exact wkl trivial
theorem ZL (k:aH)(h:Int):PureD Tryz.prog 194 [x_ k,.rp [.s (.int .i64 h)] 0] (boolD (decide (k.h=h))):=by refine af λR hR=>?_;refine aa 8 Tryz.func194 ?_;exact wkl trivial
theorem Uz (l:List aH)(h:Int)(hl:l.length<=1048576):PureD Tryz.prog 193 [.i (kM l),.fn 194 [.rp [.s (.int .i64 h)] 0]] (intD (ixK l h)):=by
 refine af λR hR=>?_
 refine aa 19 Tryz.func193 ?_
 refine wkl ?_
 clear hR;intro hR
 have hR':Hr (intD (mM l h 0)) R:=hR
 clear hR
 refine aF (ι:=Nat) (λi=>i<=l.length/\Hr (intD (mM l h i)) R)
  (λi=>cO [(0,.i (kM l)),(1,.fn 194 [.rp [.s (.int .i64 h)] 0]),(7,intD l.length),(8,intD i)] [])
  (λi=>l.length-i) 0 ⟨Nat.zero_le _,hR'⟩ ?_ ?_
 ·exact bO [] []
 ·rintro i ⟨hi,hR⟩ RL hL
  clear hR'
  rw[ae]
  by_cases hlt:i<l.length
  ·have s0:=ay (f:=jL) hlt
   rw[Ck hlt]at hR
   have c1:=ZL l[i] h
   have b1:=λσ' (hq:Hr _ R)=>bk [] [] (hL (i+1) σ' ⟨hlt,hq⟩)
   clear hL
   generalize l[i]=k at*
   exact wkl trivial
  ·rw[Cm hlt]at hR
   exact wkl trivial
theorem ZR (c:ax)(h:Int)(hc:aeM c):PureD Tryz.prog 131 [dO c,intD h] (.tup [x_ (atR c h).1,boolD (atR c h).2]):=by
 refine af λR hR=>?_;have c1:=Uz c.known h hc.l;have c2:=Ps c hc;unfold atR at hR;rcases at_case c h with⟨h1,h2⟩|⟨i,hi,h1,h2⟩
 ·rw[h2]at c1;rw[h1]at hR;simp only[Bd]at hR;clear h1 h2;refine aa 20 Tryz.func131 ?_;exact wkl trivial
 ·rw[h1]at c1;rw[h2]at hR;have s0:=ay (f:=jL) hi;have hg:¬(i:Int)<0:=by omega
  clear h1 h2;generalize c.known[i]=k at*;refine aa 20 Tryz.func131 ?_;exact wkl trivial
theorem Xc (c:ByteArray)(t:Int)(k:aH)(hk:agi k):PureD Tryz.prog 34 [sD c,intD t,x_ k] (.tup [dO (Dr c t k).1,intD (Dr c t k).2]):=by
 refine af λR hR=>?_;have c1:=Ap ⟨c,t,false,[k]⟩ (by simp);have c2:=Ps ⟨c,t,false,[k]⟩ ⟨by simp,by simpa using hk⟩;unfold Dr at hR;by_cases h:wrongC ⟨c,t,false,[k]⟩=0
 ·rw[if_pos h]at hR;rw[h]at c1;clear h hk;refine aa 23 Tryz.func34 ?_;exact wkl trivial
 ·rw[if_neg h]at hR;simp only[lu]at hR;generalize wrongC ⟨c,t,false,[k]⟩=W at*;clear hk c2;refine aa 23 Tryz.func34 ?_;exact wkl trivial
theorem Qf (c:ax)(now:Int)(hl:0<c.known.length)(hn:-1000000000001<=now/\now<=1000000000001)(ht:-1000000000001<=(kE c).t/\(kE c).t<=1000000000001)(hl':c.known.length<=1048576):
  PureD Tryz.prog 255 [dO c,intD now] (boolD (gp c now)):=by
 refine af λR hR=>?_;unfold gp at hR;have hi:c.known.length-1<c.known.length:=by omega
 have s0:=ay (f:=jL) hi;have hlast:kE c=c.known[c.known.length-1]:=by unfold kE;rw[List.getLastD_eq_getLast?,List.getLast?_eq_getElem?,List.getElem?_eq_getElem hi];rfl
 rw[hlast]at hR ht;have w1:IntKind.i64.wrap ((c.known.length:Int)-1)=((c.known.length-1:Nat):Int):=by rw[ai (by omega) (by omega)];omega
 clear hlast;generalize c.known[c.known.length-1]=k at*;have w2:IntKind.i64.wrap (now-k.t)=now-k.t:=ai (by omega) (by omega);cases hf:c.frozen;all_goals
  rw[hf]at hR;simp only[Bool.not_true,Bool.not_false,Bool.true_and,Bool.false_and]at hR;refine aa 24 Tryz.func255 ?_;exact wkl trivial
theorem vB (c:ax)(now:Int)(hl:c.known.length<=1048576):PureD Tryz.prog 73 [.rp (gJ c) 0,intD now] (intD (dK c now)):=by refine af λR hR=>?_;have c1:=Ap c hl;have c2:=uf now;unfold dK at hR;generalize wrongC c=W at*;refine aa 20 Tryz.func73 ?_;exact wkl trivial
theorem check_vals {s:gu}(h:kR s=0):nY s.vals/\s.votes.length=s.vals.length/\fJ s.hdr=0:=by
 unfold kR at h;by_cases h1:fJ s.hdr=0
 ·rw[if_pos h1]at h;by_cases h2:lw s.vals=0
  ·rw[if_pos h2]at h;by_cases h3:(s.votes.length:Int)=s.vals.length
   ·exact⟨iq.1 h2,by omega,h1⟩
   ·rw[if_neg h3]at h;cases h
  ·rw[if_neg h2]at h;exact absurd h h2
 ·rw[if_neg h1]at h;exact absurd h h1
theorem Dz {h:mX}(hw:fJ h=0):1<=h.h/\h.h<=1000000000000/\0<=h.t/\h.t<=1000000000000/\h.root.length=32/\h.vals.length=32/\h.next.length=32:=by
 unfold fJ kz at hw;simp only[decide_eq_true_eq]at hw;split at hw
 ·split at hw
  ·cases hw
  ·split at hw
   ·cases hw
   ·rename_i a b;omega
 ·cases hw
structure Vb (k:aH):Prop where
 h:1<=k.h/\k.h<=1000000000000
 t:0<=k.t/\k.t<=1000000000000
 r:k.root.length=32
 n:k.next.length=32
theorem knE_zero {k:aH}:knE k=0↔Vb k:=by
 unfold knE kz;simp only[decide_eq_true_eq];constructor
 ·intro h;split at h
  ·cases h
  ·split at h
   ·cases h
   ·exact⟨by omega,by omega,by omega,by omega⟩
 ·rintro⟨a,b,c,d⟩;rw[if_neg (by omega),if_neg (by omega)]
theorem knsE_zero:∀{o:Option aH}{l:List aH},NZ o l=0↔(∀k∈l,Vb k)/\l.Pairwise (λa b=>a.h<b.h)/\(∀q,o=some q->∀k∈l,q.h<k.h)
 |o,[]=>by simp[NZ]
 |o,k::t=>by
  rw[NZ];have ih:=knsE_zero (o:=some k) (l:=t);by_cases h1:knE k=0
  ·rw[if_pos h1];have k1:=knE_zero.1 h1;by_cases h2:(o.any λq=>decide (k.h<=q.h))=true
   ·rw[if_pos h2];constructor
    ·intro h;cases h
    ·rintro⟨_,_,h⟩;cases o with
     |none=>simp at h2
     |some q=>have:=h q rfl k (List.mem_cons_self ..);simp at h2;omega
   ·rw[if_neg h2,ih];constructor
    ·rintro⟨a,b,c⟩;refine⟨λx hx=>?_,List.pairwise_cons.2 ⟨c k rfl,b⟩,λq hq x hx=>?_⟩
     ·rcases List.mem_cons.1 hx with rfl|hx
      ·exact k1
      ·exact a x hx
     ·subst hq;simp at h2;rcases List.mem_cons.1 hx with rfl|hx
      ·omega
      ·have:=c k rfl x hx;omega
    ·rintro⟨a,b,c⟩;have hb:=List.pairwise_cons.1 b;exact⟨λx hx=>a x (List.mem_cons_of_mem _ hx),hb.2,λq hq=>by injection hq with hq;subst hq;exact hb.1⟩
  ·rw[if_neg h1];constructor
   ·intro h;exact absurd h h1
   ·rintro⟨a,_,_⟩;exact absurd (knE_zero.2 (a k (List.mem_cons_self ..))) h1
structure AZ (c:ax):Prop where
 name:fO c.c=true
 trust:1<=c.trust/\c.trust<=1000000000000
 len:1<=c.known.length/\c.known.length<=30
 k:∀k∈c.known,Vb k
 rise:c.known.Pairwise λa b=>a.h<b.h
theorem dA {c:ax}:wrongC c=0↔AZ c:=by
 unfold wrongC kz;simp only[decide_eq_true_eq];constructor
 ·intro h;split at h
  ·split at h
   ·cases h
   ·split at h
    ·cases h
    ·obtain⟨a,b,_⟩:=knsE_zero.1 h;exact⟨by assumption,by omega,by omega,a,b⟩
  ·cases h
 ·rintro⟨a,b,d,e,f⟩;rw[if_pos a,if_neg (by omega),if_neg (by omega)];exact knsE_zero.2 ⟨e,f,λq hq=>by cases hq⟩
theorem AZ.sm {c:ax}(h:AZ c):aeM c:=⟨by have:=h.len;omega,λk hk=>⟨by have:=(h.k k hk).r;omega,by have:=(h.k k hk).n;omega⟩⟩
theorem at_mem {c:ax}{h:Int}{k:aH}(e:atC c h=some k):k∈c.known/\k.h=h:=by unfold atC at e;exact⟨List.mem_of_find?_eq_some e,by simpa using List.find?_some e⟩
theorem Wp (l:List aH)(h:Int):jK l h<=l.length:=(List.takeWhile_prefix _).length_le
theorem sG {h:Int}:∀{l:List aH},l.Pairwise (λa b=>a.h<b.h)->∀a (ha:a<l.length),l[a].h<h↔a<jK l h
 |k::t,hs,a,ha=>by
  obtain⟨h1,h2⟩:=List.pairwise_cons.1 hs;unfold jK;by_cases hk:k.h<h
  ·rw[List.takeWhile_cons_of_pos (by simpa using hk),List.length_cons];cases a with
   |zero=>simp[hk]
   |succ a =>have:=sG (h:=h) h2 a (by simpa using ha);unfold jK at this;simp only[List.getElem_cons_succ];omega
  ·rw[List.takeWhile_cons_of_neg (by simpa using hk),List.length_nil];cases a with
   |zero=>simp only[List.getElem_cons_zero];omega
   |succ a =>
    have ha':a<t.length:=by simpa using ha
    have:=h1 t[a] (List.getElem_mem _);simp only[List.getElem_cons_succ];omega
theorem low_case {c:ax}(h:Int)(hs:c.known.Pairwise λa b=>a.h<b.h):
  (∃hp:jK c.known h<c.known.length,(c.known[jK c.known h]'hp).h=h/\atC c h=some (c.known[jK c.known h]'hp))\/((∀hp:jK c.known h<c.known.length,¬(c.known[jK c.known h]'hp).h=h)/\atC c h=none):=by
 cases e:atC c h with
 |some k =>
  left;obtain⟨hm,hk⟩:=at_mem e;obtain⟨i,hi,rfl⟩:=List.getElem_of_mem hm;have h1:=(sG (h:=h) hs i hi)
  have h2:¬i<jK c.known h:=by rw[<- h1];omega
  have h3:¬jK c.known h<i:=by intro h3;have a1:=sG (h:=h) hs (jK c.known h) (by omega);have a2:=List.pairwise_iff_getElem.1 hs _ _ (by omega) hi h3;omega
  have h4:jK c.known h=i:=by omega
  revert h4;generalize jK c.known h=p;rintro rfl;exact⟨hi,hk,rfl⟩
 |none =>right;refine⟨λhp hk=>?_,rfl⟩;have:=List.find?_eq_none.1 e _ (List.getElem_mem hp);simp[hk]at this
theorem asked_zero {c:ax}{now:Int}:dK c now=0↔AZ c/\(0<=now/\now<=1000000000000)/\c.frozen=false:=by
 unfold dK kz;simp only[decide_eq_true_eq];constructor
 ·intro h;split at h
  ·rename_i hw;split at h
   ·rename_i hn;split at h
    ·cases h
    ·rename_i hf;exact⟨dA.1 hw,hn,by simpa using hf⟩
   ·cases h
  ·exact absurd h ‹_›
 ·rintro⟨a,b,d⟩;rw[if_pos (dA.2 a),if_pos b,d];rfl
theorem ZZ {c:ax}{u:AX}{now:Int}(h:beE c u now=0):kR u.sg=0/\∃k,atC c u.fr=some k/\aen c u now k=0:=by
 unfold beE at h;split at h
 ·refine⟨by assumption,?_⟩;split at h
  ·cases h
  ·exact⟨_,by assumption,h⟩
 ·exact absurd h ‹_›
theorem be_hdr {c:ax}{u:AX}{now:Int}(h:beE c u now=0):Vb (ofH u.sg.hdr)/\u.sg.hdr.vals.length=32:=by have:=Dz (check_vals (ZZ h).1).2.2;exact⟨⟨⟨this.1,this.2.1⟩,⟨this.2.2.1,this.2.2.2.1⟩,this.2.2.2.2.1,this.2.2.2.2.2.2⟩,this.2.2.2.2.2.1⟩
attribute [simp,go_sem] fC K_ bbI
def bS (c:ax)(now h:Int)(key val:List UInt8)(p:gG):Int :=
 if dK c now=0 then
  (match atC c h with
  |none=>6
  |some k=>if gp c now=true then(if p.k=key/\p.v=val/\gU k.root p=true then 0 else 9)else 11)
 else dK c now
def mo (c:ax)(now h:Int)(key:List UInt8)(g:XM):Int :=
 if dK c now=0 then
  (match atC c h with
  |none=>6
  |some k=>if gp c now=true then(if lq k.root key g=true then 0 else 9)else 11)
 else dK c now
theorem Tz {c:ax}(h:1<=c.known.length):kE c∈c.known:=by unfold kE;rw[List.getLastD_eq_getLast?,List.getLast?_eq_getElem?,List.getElem?_eq_getElem (by omega)];exact List.getElem_mem _
theorem UZ {c:ax}{now:Int}(ok:AZ c)(hn:0<=now/\now<=1000000000000):PureD Tryz.prog 255 [dO c,intD now] (boolD (gp c now)):=by have hl:=ok.len;have hk:=(ok.k _ (Tz hl.1)).t;exact Qf c now (by omega) (by omega) (by omega) (by omega)
theorem nV (c:ax)(now h:Int)(key val:List UInt8)(p:gG)(hl:c.known.length<=1048576):
  PureD Tryz.prog 231 [dO c,intD now,intD h,.i (bI key),.i (bI val),fC p] (intD (bS c now h key val p)):=by
 refine af λR hR=>?_;have c1:=vB c now hl;unfold bS at hR;by_cases h1:dK c now=0
 ·obtain⟨ok,hn,hfz⟩:=asked_zero.1 h1;rw[if_pos h1]at hR;rw[h1]at c1;have c2:=ZR c h ok.sm;have c3:=UZ ok hn;have c4:=iF p.k key;have c5:=iF p.v val;unfold atR at c2;clear h1 ok hn hfz hl;cases h2:atC c h with
  |none =>rw[h2]at c2 hR;simp only[Bd]at c2;clear h2;refine aa 55 Tryz.func231 ?_;exact wkl trivial
  |some k =>
   rw[h2]at c2 hR;simp only at c2 hR;have c6:=DX k.root p;clear h2;generalize gp c now=A at*;generalize gU k.root p=B at*;by_cases m1:p.k=key<;>by_cases m2:p.v=val<;>simp only[m1,m2,true_and,false_and,decide_true,decide_false,if_false]at hR c4 c5;all_goals
    refine aa 55 Tryz.func231 ?_;exact wkl trivial
 ·rw[if_neg h1]at hR;generalize dK c now=W at*;refine aa 55 Tryz.func231 ?_;exact wkl trivial
theorem Kv (c:ax)(now h:Int)(key:List UInt8)(g:XM)(hl:c.known.length<=1048576):
  PureD Tryz.prog 234 [dO c,intD now,intD h,.i (bI key),K_ g] (intD (mo c now h key g)):=by
 refine af λR hR=>?_;have c1:=vB c now hl;unfold mo at hR;by_cases h1:dK c now=0
 ·obtain⟨ok,hn,hfz⟩:=asked_zero.1 h1;rw[if_pos h1]at hR;rw[h1]at c1;have c2:=ZR c h ok.sm;have c3:=UZ ok hn;unfold atR at c2;clear h1 ok hn hfz hl;cases h2:atC c h with
  |none =>rw[h2]at c2 hR;simp only[Bd]at c2;clear h2;refine aa 40 Tryz.func234 ?_;exact wkl trivial
  |some k =>rw[h2]at c2 hR;simp only at c2 hR;have c6:=U_ k.root key g;clear h2;generalize gp c now=A at*;generalize lq k.root key g=B at*;refine aa 40 Tryz.func234 ?_;exact wkl trivial
 ·rw[if_neg h1]at hR;generalize dK c now=W at*;refine aa 40 Tryz.func234 ?_;exact wkl trivial
end Go.Proofs.YtoifllbioldomaaGreatDoor
