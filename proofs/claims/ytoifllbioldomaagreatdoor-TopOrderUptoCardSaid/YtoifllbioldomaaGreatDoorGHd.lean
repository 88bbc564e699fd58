/- Merged texts: Cmp, HdP, HdA, HdL. -/
import Derived.Lib.BytesEntry
import Derived.Laws.Externs
import Derived.Test.YtoifllbioldomaaGreatDoorGSeal
import Derived.Test.YtoifllbioldomaaGreatDoorGWire
import Derived.Test.YtoifllbioldomaaGreatDoorG0
import Derived.Test.YtoifllbioldomaaGreatDoorGWk
set_option linter.all false
set_option maxHeartbeats 4000000
set_option maxRecDepth 20000
namespace Go.Proofs.YtoifllbioldomaaGreatDoor
open Go Go.Abs Go.RowKit Go.Proofs.YtoifllbioldomaaGreatDoor.Ty
def Vr:=an @Ty.T5 @Ty.T25
def aaV:=an3 @Ty.T5 @Ty.T9 @Ty.T25
def LH:=an3 @Ty.T0 @Ty.T5 @Ty.T25
theorem ry {P:Program}{K:Ctx}{v:Value}{l:List UInt8}(h:VD K v (.i (bI l))):(Extern.Bytes.bytesOf v).run P K.w=.ok ⟨l.toArray⟩ K.w:=by
 cases h with
 |i hx =>
  generalize hy:bI l=y at hx;cases hx with
  |s v h=>simp[bI]at hy
  |e a cap =>
   have:l=[]:=by cases l with
    |nil=>rfl
    |cons b t=>simp[bI]at hy
   subst this;cases a with
   |none=>rfl
   |some a=>rfl
  |sl b off cap sz es f hS hc hz hsz hcell hv =>
   have hes:es=l.map aL:=by simpa[bI]using hy.symm
   subst hes;have hfl:∀(l:List UInt8) (j:Nat),(l.map aL).flatten[j]?=(l[j]?).map λb=>I.s (.int .u8 (b.toNat:Int)):=by
    intro l;induction l with
    |nil=>intro j;simp
    |cons a t ih =>
     intro j;cases j with
     |zero=>simp[aL]
     |succ j=>simpa[aL]using ih j
   have hl:=Lib.run_loadBytesX (P:=P) K.w (l.map λb=>(b.toNat:Int)) ⟨b,off,none⟩ .empty (λj x hj=>by
    rw[List.getElem?_map]at hj;cases hb:l[j]? with
    |none=>simp[hb]at hj
    |some c =>
     simp[hb]at hj;have hf:(l.map aL).flatten[j]?=some (.s (.int .u8 (c.toNat:Int))):=by rw[hfl,hb];rfl
     have h1:=hcell j _ hf;have h2:=hv j _ hf;have e:(⟨b,off,none⟩:Addr).add j=⟨b,off+j,none⟩:=by unfold Addr.add;split<;>simp_all
     rw[e,h1,<- hj];generalize f j=u at h2;cases h2;rfl)
   have hb:Lib.bytesOf (l.map λb=>(b.toNat:Int))=l:=by
    simp only[Lib.bytesOf,List.map_map]
    conv=>rhs;rw[<- List.map_id l]
    refine List.map_congr_left λc _=>?_;show UInt8.ofNat ((c.toNat:Int)).toNat=c;rw[Int.toNat_natCast];simp
   rw[hb,List.length_map]at hl;show(Extern.Bytes.loadBytes ⟨b,off,none⟩ (l.map aL).length .empty).run P K.w=_;rw[List.length_map,hl];congr 1;apply ByteArray.ext;show(#[]:Array UInt8)++l.toArray=l.toArray;simp
theorem aef (a b:List UInt8)(G:Nat->Ob):Ve Tryz.prog 175 [.i (bI a),.i (bI b)] G (.i (.s (.int .i64 (Lib.compareBytes a b)))) G:=by
 intro K0 T K vs hr hrd;obtain⟨hs,hg⟩:=hrd;have e:vs=#[vs.getD 0 undef,vs.getD 1 undef]:=by
  apply Array.ext
  ·simpa using hs
  ·intro i h1 h2;simp at hs;have:i=0\/i=1:=by omega
   rcases this with rfl|rfl<;>simp[Array.getD,hs]
 have h1:=ry (P:=Tryz.prog) (hg 0 _ rfl);have h2:=ry (P:=Tryz.prog) (hg 1 _ rfl);rw[e];refine⟨.int .i64 (Lib.compareBytes a b),K,?_,Ext.refl K,hr,.i (.s _ rfl)⟩;rw[run_callFunc_extern Tryz.func175 (by kernel_rfl) (by kernel_rfl) (by kernel_rfl) (e:=Extern.BytealgCompare.compare) (by kernel_rfl)];show((Sem.run Tryz.prog (do pure (goInt (Extern.BytealgCompare.cmp (<- Extern.Bytes.bytesOf (vs.getD 0 undef)) (<- Extern.Bytes.bytesOf (vs.getD 1 undef)))):Sem Value) K.w).andThen λv w'=>Result.ok (Next.value v) w')=_;simp only[Sem.run_bind,Sem.run_pure,h1,h2,Result.andThen_ok,Lib.cmp_eq];rfl
theorem Us (a b:List UInt8):PureD Tryz.prog 110 [.i (bI a),.i (bI b)] (.i (.s (.int .i64 (Lib.compareBytes a b)))):=by refine aa 8 Tryz.func110 ?_;refine gx Vr ?_;refine jH (aef a b) ?_;refine gx Vr ?_;refine au [] rfl ?_;simp[cv,cv1,cv0,upd]
theorem acv (a b:List UInt8):((⟨a.toArray⟩:ByteArray)==⟨b.toArray⟩)=decide (a=b):=by
 show((a.toArray:Array UInt8)==b.toArray)=_;rw[List.beq_toArray];by_cases h:a=b
 ·subst h;simp
 ·rw[decide_eq_false h];exact beq_eq_false_iff_ne.2 h
theorem iF (a b:List UInt8):PureD Tryz.prog 69 [.i (bI a),.i (bI b)] (.i (.s (.bool (decide (a=b))))):=by refine aa 10 Tryz.func69 ?_;refine gx (an6 aaV @bI.eq_1 @xY @tu @acv @oO) ?_;refine au [] rfl ?_;simp[cv,cv1,cv0,upd]
theorem dU (l:List UInt8)(hl:l.length<=140737488355328):PureD Tryz.prog 75 [.i (bI l)] (.i (bI l)):=by
 cases l with
 |cons b t =>
  have hl':t.length<=140737488355327:=by simp at hl;omega
  refine aa 8 Tryz.func75 ?_;refine gx (an4 LH @bI.eq_1 @List.map_cons.{0,0} @hl') ?_;refine au [1770] rfl ?_;simp[cv,cv1,cv0,upd,hO,lk,aJ,bI,gz]
 |nil =>
  refine MG (fQ Tryz.func75 rfl rfl) λK vs hrd=>?_;obtain⟨hs,hg⟩:=hrd;obtain⟨a,c,hv⟩:∃a c,vs.getD 0 undef=.slice a 0 c:=by
   have:=hg 0 _ rfl;generalize vs.getD 0 undef=v at this;cases this with
   |i hx =>
    cases hx with
    |e a c=>exact⟨a,c,rfl⟩
    |sl b off cap sz es f h1 h2=>exact⟨_,_,rfl⟩
  refine⟨[.i (.s (.slice a 0 c))],?_,hs,λj d hd=>?_⟩
  ·have hun:=afg;refine aa 8 Tryz.func75 ?_;cases a with
   |none =>refine gx (an3 LH (jv hun) @Option.isNone_none.{0}) ?_;refine au [] rfl ?_;simp[cv,cv1,cv0,upd,bI]
   |some a =>refine gx (an3 LH (jv hun) @Option.isNone_some.{0}) ?_;refine au [1770] rfl ?_;simp[cv,cv1,cv0,upd,hO,lk,aJ,bI]
  ·cases j with
   |zero=>simp at hd;subst hd;rw[hv];exact .i (.s _ rfl)
   |succ j=>simp at hd
structure bW where
 k:Nat
 p:Nat
structure mX where
 c:ByteArray
 h:Int
 t:Int
 root:List UInt8
 vals:List UInt8
 next:List UInt8
structure mV where
 is:Bool
 r:Nat
 s:Nat
structure gu where
 hdr:mX
 vals:List bW
 votes:List mV
def eQ (v:bW):List I:=[.s (.int .u64 v.k),.s (.int .u64 v.p)]
def Km (v:mV):List I:=[.s (.bool v.is),.s (.int .u64 v.r),.s (.int .u64 v.s)]
def valsI (l:List bW):I:=.sl (l.map eQ)
def votesI (l:List mV):I:=.sl (l.map Km)
def aaB (h:mX):List I:=[.s (.string h.c),.s (.int .i64 h.h),.s (.int .i64 h.t),bI h.root,bI h.vals,bI h.next]
def Oy (h:mX):D:=.agg [.i (.s (.string h.c)),.i (.s (.int .i64 h.h)),.i (.s (.int .i64 h.t)),.i (bI h.root),.i (bI h.vals),.i (bI h.next)]
def WX (s:gu):List I:=[.s (.string s.hdr.c),.s (.int .i64 s.hdr.h),.s (.int .i64 s.hdr.t),bI s.hdr.root,bI s.hdr.vals,bI s.hdr.next,valsI s.vals,votesI s.votes]
def pR (s:gu):D:=.agg [.i (.s (.string s.hdr.c)),.i (.s (.int .i64 s.hdr.h)),.i (.s (.int .i64 s.hdr.t)),.i (bI s.hdr.root),.i (bI s.hdr.vals),.i (bI s.hdr.next),.i (valsI s.vals),.i (votesI s.votes)]
def agR (v:bW):D:=.agg [.i (.s (.int .u64 v.k)),.i (.s (.int .u64 v.p))]
def aaF:mX:=⟨⟨#[]⟩,0,0,[],[],[]⟩
def Ry:gu:=⟨aaF,[],[]⟩
def kz (n:Int):Bool:=decide (0<=n/\n<=1000000000000)
def yY:Option bW->List bW->Int
 |_,[]=>0
 |o,v::t=>if(v.p:Int)<1\/(1000000:Int)<v.p then 3 else if(o.any λq=>decide ((v.k:Int)<=q.k))=true then 2 else yY (some v) t
def lw (l:List bW):Int:=if(l.length:Int)<1\/(10:Int)<l.length then 5 else yY none l
def jW (n:Nat):bK:=⟨1,n,[]⟩
def ME (b:List UInt8):bK:=⟨2,0,b⟩
def xD (l:List bW):List bK:=l.flatMap λv=>[jW v.k,jW v.p]
def bF (l:List bW):List UInt8:=sha (writeF (xD l)).1
def u64 (n:Int):Nat:=(n%18446744073709551616).toNat
theorem u64_lt (n:Int):u64 n<18446744073709551616:=by unfold u64;omega
theorem Lf (n:Int):IntKind.u64.wrap n=(u64 n:Int):=by rw[IntKind.wrap_u64];unfold u64;omega
def Yx (h:mX):List bK:=[ME (unB h.c),jW (u64 h.h),jW (u64 h.t),ME h.root,ME h.vals,ME h.next]
def bJ (h:mX):List UInt8:=(writeF (Yx h)).1
def fJ (h:mX):Int :=
 if fO h.c=true then
  (if h.h<1\/¬kz h.h=true\/¬kz h.t=true then 3
  else if ¬(h.root.length:Int)=32\/¬(h.vals.length:Int)=32\/¬(h.next.length:Int)=32 then 2 else 0)
 else 7
def dV (h:mX)(seeds:List (List UInt8))(v:bW):mV :=
 seeds.foldl (λx s=>if v.k=keyF s then⟨true,A_ s (bJ h),sigS s (bJ h)⟩else x) ⟨false,0,0⟩
def lD (h:mX)(vals:List bW)(seeds:List (List UInt8)):gu×Int :=
 if fJ h=0 then(if lw vals=0 then(if bF vals=h.vals then(⟨h,vals,vals.map (dV h seeds)⟩,0)else(Ry,8))else(Ry,lw vals))else(Ry,fJ h)
def sumP (l:List bW):Nat:=(l.map (·.p)).sum
def RF (q:bW×mV):Nat:=if q.2.is=true then q.1.p else 0
def KV (l:List (bW×mV)):Nat:=(l.map RF).sum
def aaa (b:List UInt8)(q:bW×mV):Bool:=q.2.is&&!Ah q.1.k b q.2.r q.2.s
def Ru (b:List UInt8)(l:List (bW×mV)):Bool:=l.any (aaa b)
def kR (s:gu):Int :=
 if fJ s.hdr=0 then(if lw s.vals=0 then(if(s.votes.length:Int)=s.vals.length then(if bF s.vals=s.hdr.vals then
  (if Ru (bJ s.hdr) (s.vals.zip s.votes)=true then 10 else if 3*(KV (s.vals.zip s.votes):Int)<=2*(sumP s.vals:Int)then 10 else 0)else 8)else 8)else lw s.vals)else fJ s.hdr
def Ow (t:bW)(q:bW×mV):Nat:=if q.1.k=t.k/\q.2.is=true then t.p else 0
def Rm (l:List (bW×mV))(t:bW):Nat:=(l.map (Ow t)).sum
def Af (l:List (bW×mV))(tr:List bW):Nat:=(tr.map (Rm l)).sum
def Ta (tr:List bW)(s:gu):Bool:=decide (sumP tr<3*Af (s.vals.zip s.votes) tr)
theorem qC {α:Type}{l:List α}{f:α->Nat}{i:Nat}(h:i<l.length):((l.take (i+1)).map f).sum=((l.take i).map f).sum+f l[i]:=by rw[List.take_succ_eq_append_getElem h,List.map_append,List.sum_append];simp
theorem UX {α:Type}{l:List α}{f:α->Bool}{i:Nat}(h:i<l.length):(l.take (i+1)).any f=((l.take i).any f||f l[i]):=by rw[List.take_succ_eq_append_getElem h,List.any_append];simp
theorem tL {α:Type}{f:α->Nat}{k:Nat}:∀{l:List α},(∀x∈l,f x<=k)->(l.map f).sum<=l.length*k
 |[],_=>by simp
 |a::t,h=>by have:=tL (l:=t) (λx hx=>h x (List.mem_cons_of_mem _ hx));have:=h a (List.mem_cons_self ..);simp only[List.map_cons,List.sum_cons,List.length_cons,Nat.add_mul];omega
theorem zt {α:Type}{l:List α}{P:α->Prop}{i:Nat}(h:∀x∈l,P x):∀x∈l.take i,P x:=λx hx=>h x (List.mem_of_mem_take hx)
structure nY (l:List bW):Prop where
 len:1<=l.length/\l.length<=10
 pow:∀v∈l,1<=v.p/\v.p<=1000000
 rise:l.Pairwise λa b=>a.k<b.k
theorem xM:∀{o:Option bW}{l:List bW},yY o l=0↔(∀v∈l,1<=v.p/\v.p<=1000000)/\l.Pairwise (λa b=>a.k<b.k)/\(∀q,o=some q->∀v∈l,q.k<v.k)
 |o,[]=>by simp[yY]
 |o,v::t=>by
  rw[yY];have ih:=xM (o:=some v) (l:=t);by_cases h1:(v.p:Int)<1\/(1000000:Int)<v.p
  ·rw[if_pos h1];constructor
   ·intro h;cases h
   ·rintro⟨h,_⟩;have:=h v (List.mem_cons_self ..);omega
  ·rw[if_neg h1];by_cases h2:(o.any λq=>decide ((v.k:Int)<=q.k))=true
   ·rw[if_pos h2];constructor
    ·intro h;cases h
    ·rintro⟨_,_,h⟩;cases o with
     |none=>simp at h2
     |some q=>have:=h q rfl v (List.mem_cons_self ..);simp at h2;omega
   ·rw[if_neg h2,ih];constructor
    ·rintro⟨a,b,c⟩;refine⟨λx hx=>?_,List.pairwise_cons.2 ⟨c v rfl,b⟩,λq hq x hx=>?_⟩
     ·rcases List.mem_cons.1 hx with rfl|hx
      ·omega
      ·exact a x hx
     ·subst hq;simp at h2;rcases List.mem_cons.1 hx with rfl|hx
      ·omega
      ·have:=c v rfl x hx;omega
    ·rintro⟨a,b,c⟩;have hb:=List.pairwise_cons.1 b;exact⟨λx hx=>a x (List.mem_cons_of_mem _ hx),hb.2,λq hq=>by injection hq with hq;subst hq;exact hb.1⟩
theorem iq {l:List bW}:lw l=0↔nY l:=by
 unfold lw;by_cases h:(l.length:Int)<1\/(10:Int)<l.length
 ·rw[if_pos h];constructor
  ·intro h;cases h
  ·intro r;have:=r.len;omega
 ·rw[if_neg h,xM];constructor
  ·rintro⟨a,b,_⟩;exact⟨by omega,a,b⟩
  ·intro r;exact⟨r.pow,r.rise,λq hq=>by cases hq⟩
theorem zu {l:List bW}(h:nY l)(i:Nat):sumP (l.take i)<=10000000:=by
 have h1:=tL (f:=λv:bW=>v.p) (k:=1000000) (l:=l.take i) (zt λv hv=>(h.pow v hv).2);have h2:=h.len;have h3:(l.take i).length<=10:=by rw[List.length_take];omega
 unfold sumP;have:(l.take i).length*1000000<=10*1000000:=Nat.mul_le_mul_right _ h3;omega
attribute [local simp,local go_sem] intD boolD sD
theorem uf (n:Int):PureD Tryz.prog 123 [intD n] (boolD (kz n)):=by refine af λR hR=>?_;unfold kz at hR;refine aa 9 Tryz.func123 ?_;exact wkl trivial
theorem aeh (s:ByteArray)(k:Nat):(byS s k).toNat<256:=(byS s k).toNat_lt
theorem Ey (s:ByteArray):PureD Tryz.prog 122 [sD s] (boolD (fO s)):=by
 refine af λR hR=>?_;unfold fO at hR;by_cases h0:1<=s.size
 rotate_left
 ·have h1:(s.size:Int)<1:=by omega
  simp only[h0,decide_false,Bool.false_and]at hR;refine aa 36 Tryz.func122 ?_;exact wkl trivial
 by_cases h1:s.size<=20
 rotate_left
 ·have h2:(20:Int)<(s.size:Int):=by omega
  have h3:¬(s.size:Int)<1:=by omega
  simp only[h0,h1,decide_false,decide_true,Bool.true_and,Bool.false_and]at hR;refine aa 36 Tryz.func122 ?_;exact wkl trivial
 have h2:¬(20:Int)<(s.size:Int):=by omega
 have h3:¬(s.size:Int)<1:=by omega
 simp only[h0,h1,decide_true,Bool.true_and]at hR;refine aa 36 Tryz.func122 ?_;refine wkl ?_;clear hR;intro hR
 repeat' (intro _)
 refine aF (ι:=Nat) (λi=>i<=s.size/\∀k,k<i->qR (byS s k)=true)
  (λi=>cO [(0,sD s),(2,.i (.s (.bool false))),(14,intD s.size),(15,intD i)] []) (λi=>s.size-i) 0 ⟨Nat.zero_le _,λk hk=>by omega⟩ ?_ ?_
 ·exact bO [] []
 ·rintro i ⟨hi,hk⟩ RL hL;rw[ae];by_cases h:i<s.size
  ·have w0:=aeh s i;by_cases hb:qR (byS s i)=true
   ·have hk':∀k,k<i+1->qR (byS s k)=true:=λk hk'=>by
     rcases Nat.lt_or_ge k i with h1|h1
     ·exact hk k h1
     ·obtain rfl:k=i:=by omega
      exact hb
    have b1:=λσ'=>bk [] [] (hL (i+1) σ' ⟨h,hk'⟩);clear hk hR hL hk';unfold qR inR at hb;simp only[Bool.or_eq_true,decide_eq_true_eq]at hb;exact wkl trivial
   ·have hRf:Hr (boolD false) R:=by
     have:((List.range s.size).all λk=>qR (byS s k))=false:=by rw[List.all_eq_false];exact⟨i,List.mem_range.2 h,hb⟩
     rw[this]at hR;exact hR
    clear hk hR hL
    rename Hr _ _=>hR
    unfold qR inR at hb;simp only[Bool.or_eq_true,decide_eq_true_eq]at hb;exact wkl trivial
  ·have hRt:Hr (boolD true) R:=by
    have:((List.range s.size).all λk=>qR (byS s k))=true:=by rw[List.all_eq_true];intro k hk';exact hk k (by have:=List.mem_range.1 hk';omega)
    rw[this]at hR;exact hR
   clear hk hR hL
   rename Hr _ _=>hR
   exact wkl trivial
end Go.Proofs.YtoifllbioldomaaGreatDoor
namespace Go.Proofs.YtoifllbioldomaaGreatDoor
open Go Go.Abs
def Zr (seeds:List (List UInt8))(k:Nat):Bool:=seeds.any λs=>decide (k=keyF s)
def DK (seeds:List (List UInt8))(v:bW):Nat:=if Zr seeds v.k=true then v.p else 0
def votedP (seeds:List (List UInt8))(l:List bW):Nat:=(l.map (DK seeds)).sum
theorem JM (h:mX)(seeds:List (List UInt8))(s:List UInt8)(v:bW):dV h (seeds++[s]) v=if v.k=keyF s then⟨true,A_ s (bJ h),sigS s (bJ h)⟩else dV h seeds v:=by unfold dV;rw[List.foldl_append];rfl
theorem FJ (h:mX)(v:bW)(seeds:List (List UInt8)):(dV h seeds v).is=Zr seeds v.k/\((dV h seeds v).is=true->Ah v.k (bJ h) (dV h seeds v).r (dV h seeds v).s=true):=by
 have key:∀(t:List (List UInt8)),(dV h t.reverse v).is=Zr t.reverse v.k/\((dV h t.reverse v).is=true->Ah v.k (bJ h) (dV h t.reverse v).r (dV h t.reverse v).s=true):=by
  intro t;induction t with
  |nil=>exact⟨rfl,λh=>by cases h⟩
  |cons a t ih =>
   rw[List.reverse_cons,JM];by_cases hk:v.k=keyF a
   ·rw[if_pos hk];refine⟨by simp[Zr,hk],λ_=>?_⟩;rw[hk];exact Mj a (bJ h)
   ·rw[if_neg hk];refine⟨?_,ih.2⟩;rw[ih.1];simp[Zr,hk]
 have:=key seeds.reverse;rwa[List.reverse_reverse]at this
theorem tJ {α β:Type}(l:List α)(f:α->β):l.zip (l.map f)=l.map λx=>(x,f x):=by
 induction l with
 |nil=>rfl
 |cons a t ih=>rw[List.map_cons,List.zip_cons_cons,ih,List.map_cons]
theorem RD (h:mX)(seeds:List (List UInt8))(l:List bW):KV (l.zip (l.map (dV h seeds)))=votedP seeds l:=by rw[tJ];unfold KV votedP;rw[List.map_map];congr 1;apply List.map_congr_left;intro v _;show(if(dV h seeds v).is=true then v.p else 0)=_;rw[(FJ h v seeds).1];rfl
theorem UN (h:mX)(seeds:List (List UInt8))(l:List bW):Ru (bJ h) (l.zip (l.map (dV h seeds)))=false:=by
 rw[tJ];unfold Ru;rw[List.any_eq_false];intro q hq;obtain⟨v,_,rfl⟩:=List.mem_map.1 hq;show ¬((dV h seeds v).is&&!Ah v.k (bJ h) (dV h seeds v).r (dV h seeds v).s)=true;cases hi:(dV h seeds v).is
 ·simp
 ·rw[(FJ h v seeds).2 hi];simp
structure Di (h:mX) (l:List bW):Prop where
 w:fJ h=0
 v:nY l
 d:bF l=h.vals
theorem Ma {h:mX}{l:List bW}(r:Di h l)(seeds:List (List UInt8)):lD h l seeds=(⟨h,l,l.map (dV h seeds)⟩,0):=by unfold lD;rw[if_pos r.w,if_pos (iq.2 r.v),if_pos r.d]
theorem Ky {h:mX}{l:List bW}(r:Di h l)(seeds:List (List UInt8)):kR ⟨h,l,l.map (dV h seeds)⟩=if 3*(votedP seeds l:Int)<=2*(sumP l:Int)then 10 else 0:=by unfold kR;simp only;rw[if_pos r.w,if_pos (iq.2 r.v),if_pos (by simp),if_pos r.d,UN,RD];simp
theorem w_ {h:mX}{l:List bW}(r:Di h l)(seeds:List (List UInt8)):kR ⟨h,l,l.map (dV h seeds)⟩=0↔2*sumP l<3*votedP seeds l:=by
 rw[Ky r];split
 ·constructor
  ·intro h;cases h
  ·intro h;omega
 ·constructor
  ·intro _;omega
  ·intro _;rfl
end Go.Proofs.YtoifllbioldomaaGreatDoor
