/- Merged texts: Cmp, HdP, HdA, HdL. -/
import Derived.Lib.BytesEntry
import Derived.Laws.Externs
import Derived.Test.YtdmeldhlbpdeeaaGreatDoorGSeal
import Derived.Test.YtdmeldhlbpdeeaaGreatDoorGWire
import Derived.Test.YtdmeldhlbpdeeaaGreatDoorG0
import Derived.Test.YtdmeldhlbpdeeaaGreatDoorGWk
set_option linter.all false
set_option maxHeartbeats 4000000
set_option maxRecDepth 20000
namespace Go.Proofs.YtdmeldhlbpdeeaaGreatDoor
open Go Go.Abs Go.RowKit Go.Proofs.YtdmeldhlbpdeeaaGreatDoor.Ty
def Wh:=an @Ty.T5 @Ty.T29
def abY:=an3 @Ty.T5 @Ty.T9 @Ty.T29
def Mk:=an3 @Ty.T0 @Ty.T5 @Ty.T29
theorem qW {P:Program}{K:Ctx}{v:Value}{l:List UInt8}(h:VD K v (.i (bI l))):(Extern.Bytes.bytesOf v).run P K.w=.ok ⟨l.toArray⟩ K.w:=by
 cases h with
 |i hx =>
  generalize hy:bI l=y at hx;cases hx with
  |s v h=>simp[bI]at hy
  |e a cap =>
   have:l=[]:=by cases l with
    |nil=>rfl
    |cons b t=>simp[bI]at hy
   subst this;cases a with
   |none=>rfl
   |some a=>rfl
  |sl b off cap sz es f hS hc hz hsz hcell hv =>
   have hes:es=l.map aH:=by simpa[bI]using hy.symm
   subst hes;have hfl:∀(l:List UInt8) (j:Nat),(l.map aH).flatten[j]?=(l[j]?).map λb=>I.s (.int .u8 (b.toNat:Int)):=by
    intro l;induction l with
    |nil=>intro j;simp
    |cons a t ih =>
     intro j;cases j with
     |zero=>simp[aH]
     |succ j=>simpa[aH]using ih j
   have hl:=Lib.run_loadBytesX (P:=P) K.w (l.map λb=>(b.toNat:Int)) ⟨b,off,none⟩ .empty (λj x hj=>by
    rw[List.getElem?_map]at hj;cases hb:l[j]? with
    |none=>simp[hb]at hj
    |some c =>
     simp[hb]at hj;have hf:(l.map aH).flatten[j]?=some (.s (.int .u8 (c.toNat:Int))):=by rw[hfl,hb];rfl
     have h1:=hcell j _ hf;have h2:=hv j _ hf;have e:(⟨b,off,none⟩:Addr).add j=⟨b,off+j,none⟩:=by unfold Addr.add;split<;>simp_all
     rw[e,h1,<- hj];generalize f j=u at h2;cases h2;rfl)
   have hb:Lib.bytesOf (l.map λb=>(b.toNat:Int))=l:=by
    simp only[Lib.bytesOf,List.map_map]
    conv=>rhs;rw[<- List.map_id l]
    refine List.map_congr_left λc _=>?_;show UInt8.ofNat ((c.toNat:Int)).toNat=c;rw[Int.toNat_natCast];simp
   rw[hb,List.length_map]at hl;show(Extern.Bytes.loadBytes ⟨b,off,none⟩ (l.map aH).length .empty).run P K.w=_;rw[List.length_map,hl];congr 1;apply ByteArray.ext;show(#[]:Array UInt8)++l.toArray=l.toArray;simp
theorem aeY (a b:List UInt8)(G:Nat->Ob):Sg Tryz.prog 94 [.i (bI a),.i (bI b)] G (.i (.s (.int .i64 (Lib.compareBytes a b)))) G:=by
 intro K0 T K vs hr hrd;obtain⟨hs,hg⟩:=hrd;have e:vs=#[vs.getD 0 undef,vs.getD 1 undef]:=by
  apply Array.ext
  ·simpa using hs
  ·intro i h1 h2;simp at hs;have:i=0\/i=1:=by omega
   rcases this with rfl|rfl<;>simp[Array.getD,hs]
 have h1:=qW (P:=Tryz.prog) (hg 0 _ rfl);have h2:=qW (P:=Tryz.prog) (hg 1 _ rfl);rw[e];refine⟨.int .i64 (Lib.compareBytes a b),K,?_,Ext.refl K,hr,.i (.s _ rfl)⟩;rw[run_callFunc_extern Tryz.func94 (by kernel_rfl) (by kernel_rfl) (by kernel_rfl) (e:=Extern.BytealgCompare.compare) (by kernel_rfl)];show((Sem.run Tryz.prog (do pure (goInt (Extern.BytealgCompare.cmp (<- Extern.Bytes.bytesOf (vs.getD 0 undef)) (<- Extern.Bytes.bytesOf (vs.getD 1 undef)))):Sem Value) K.w).andThen λv w'=>Result.ok (Next.value v) w')=_;simp only[Sem.run_bind,Sem.run_pure,h1,h2,Result.andThen_ok,Lib.cmp_eq];rfl
theorem UY (a b:List UInt8):PureD Tryz.prog 39 [.i (bI a),.i (bI b)] (.i (.s (.int .i64 (Lib.compareBytes a b)))):=by refine aa 8 Tryz.func39 ?_;refine gx Wh ?_;refine jF (aeY a b) ?_;refine gx Wh ?_;refine aA [] rfl ?_;simp[cv,cv1,cv0,upd]
theorem adp (a b:List UInt8):((⟨a.toArray⟩:ByteArray)==⟨b.toArray⟩)=decide (a=b):=by
 show((a.toArray:Array UInt8)==b.toArray)=_;rw[List.beq_toArray];by_cases h:a=b
 ·subst h;simp
 ·rw[decide_eq_false h];exact beq_eq_false_iff_ne.2 h
theorem iq (a b:List UInt8):PureD Tryz.prog 49 [.i (bI a),.i (bI b)] (.i (.s (.bool (decide (a=b))))):=by refine aa 10 Tryz.func49 ?_;refine gx (an6 abY @bI.eq_1 @xS @sH @adp @oz) ?_;refine aA [] rfl ?_;simp[cv,cv1,cv0,upd]
theorem eT (l:List UInt8)(hl:l.length<=140737488355328):PureD Tryz.prog 36 [.i (bI l)] (.i (bI l)):=by
 cases l with
 |cons b t =>
  have hl':t.length<=140737488355327:=by simp at hl;omega
  refine aa 8 Tryz.func36 ?_;refine gx (an4 Mk @bI.eq_1 @List.map_cons.{0,0} @hl') ?_;refine aA [1770] rfl ?_;simp[cv,cv1,cv0,upd,hO,lk,aO,bI,fQ]
 |nil =>
  refine Ni (gH Tryz.func36 rfl rfl) λK vs hrd=>?_;obtain⟨hs,hg⟩:=hrd;obtain⟨a,c,hv⟩:∃a c,vs.getD 0 undef=.slice a 0 c:=by
   have:=hg 0 _ rfl;generalize vs.getD 0 undef=v at this;cases this with
   |i hx =>
    cases hx with
    |e a c=>exact⟨a,c,rfl⟩
    |sl b off cap sz es f h1 h2=>exact⟨_,_,rfl⟩
  refine⟨[.i (.s (.slice a 0 c))],?_,hs,λj d hd=>?_⟩
  ·have hun:=ahp;refine aa 8 Tryz.func36 ?_;cases a with
   |none =>refine gx (an3 Mk (jv hun) @Option.isNone_none.{0}) ?_;refine aA [] rfl ?_;simp[cv,cv1,cv0,upd,bI]
   |some a =>refine gx (an3 Mk (jv hun) @Option.isNone_some.{0}) ?_;refine aA [1770] rfl ?_;simp[cv,cv1,cv0,upd,hO,lk,aO,bI]
  ·cases j with
   |zero=>simp at hd;subst hd;rw[hv];exact .i (.s _ rfl)
   |succ j=>simp at hd
structure dA where
 k:Nat
 p:Nat
structure kv where
 c:ByteArray
 h:Int
 t:Int
 root:List UInt8
 vals:List UInt8
 next:List UInt8
structure mP where
 is:Bool
 r:Nat
 s:Nat
structure gG where
 hdr:kv
 vals:List dA
 votes:List mP
def bW (v:dA):List I:=[.s (.int .u64 v.k),.s (.int .u64 v.p)]
def IY (v:mP):List I:=[.s (.bool v.is),.s (.int .u64 v.r),.s (.int .u64 v.s)]
def valsI (l:List dA):I:=.sl (l.map bW)
def votesI (l:List mP):I:=.sl (l.map IY)
def abA (h:kv):List I:=[.s (.string h.c),.s (.int .i64 h.h),.s (.int .i64 h.t),bI h.root,bI h.vals,bI h.next]
def LC (h:kv):D:=.agg [.i (.s (.string h.c)),.i (.s (.int .i64 h.h)),.i (.s (.int .i64 h.t)),.i (bI h.root),.i (bI h.vals),.i (bI h.next)]
def XF (s:gG):List I:=[.s (.string s.hdr.c),.s (.int .i64 s.hdr.h),.s (.int .i64 s.hdr.t),bI s.hdr.root,bI s.hdr.vals,bI s.hdr.next,valsI s.vals,votesI s.votes]
def mU (s:gG):D:=.agg [.i (.s (.string s.hdr.c)),.i (.s (.int .i64 s.hdr.h)),.i (.s (.int .i64 s.hdr.t)),.i (bI s.hdr.root),.i (bI s.hdr.vals),.i (bI s.hdr.next),.i (valsI s.vals),.i (votesI s.votes)]
def ahY (v:dA):D:=.agg [.i (.s (.int .u64 v.k)),.i (.s (.int .u64 v.p))]
def abH:kv:=⟨⟨#[]⟩,0,0,[],[],[]⟩
def Si:gG:=⟨abH,[],[]⟩
def lw (n:Int):Bool:=decide (0<=n/\n<=1000000000000)
def yS:Option dA->List dA->Int
 |_,[]=>0
 |o,v::t=>if(v.p:Int)<1\/(1000000:Int)<v.p then 3 else if(o.any λq=>decide ((v.k:Int)<=q.k))=true then 2 else yS (some v) t
def kZ (l:List dA):Int:=if(l.length:Int)<1\/(10:Int)<l.length then 5 else yS none l
def jh (n:Nat):bC:=⟨1,n,[]⟩
def El (b:List UInt8):bC:=⟨2,0,b⟩
def xu (l:List dA):List bC:=l.flatMap λv=>[jh v.k,jh v.p]
def digestV (l:List dA):List UInt8:=sha (bD (xu l)).1
def u64 (n:Int):Nat:=(n%18446744073709551616).toNat
theorem u64_lt (n:Int):u64 n<18446744073709551616:=by unfold u64;omega
theorem LU (n:Int):IntKind.u64.wrap n=(u64 n:Int):=by rw[IntKind.wrap_u64];unfold u64;omega
def Dx (h:kv):List bC:=[El (unB h.c),jh (u64 h.h),jh (u64 h.t),El h.root,El h.vals,El h.next]
def a_ (h:kv):List UInt8:=(bD (Dx h)).1
def fA (h:kv):Int :=
 if ic h.c=true then
  (if h.h<1\/¬lw h.h=true\/¬lw h.t=true then 3
  else if ¬(h.root.length:Int)=32\/¬(h.vals.length:Int)=32\/¬(h.next.length:Int)=32 then 2 else 0)
 else 7
def eO (h:kv)(seeds:List (List UInt8))(v:dA):mP :=
 seeds.foldl (λx s=>if v.k=keyF s then⟨true,Bb s (a_ h),sigS s (a_ h)⟩else x) ⟨false,0,0⟩
def kU (h:kv)(vals:List dA)(seeds:List (List UInt8)):gG×Int :=
 if fA h=0 then(if kZ vals=0 then(if digestV vals=h.vals then(⟨h,vals,vals.map (eO h seeds)⟩,0)else(Si,8))else(Si,kZ vals))else(Si,fA h)
def sumP (l:List dA):Nat:=(l.map (·.p)).sum
def Sn (q:dA×mP):Nat:=if q.2.is=true then q.1.p else 0
def Lv (l:List (dA×mP)):Nat:=(l.map Sn).sum
def aaW (b:List UInt8)(q:dA×mP):Bool:=q.2.is&&!Ah q.1.k b q.2.r q.2.s
def RZ (b:List UInt8)(l:List (dA×mP)):Bool:=l.any (aaW b)
def j_ (s:gG):Int :=
 if fA s.hdr=0 then(if kZ s.vals=0 then(if(s.votes.length:Int)=s.vals.length then(if digestV s.vals=s.hdr.vals then
  (if RZ (a_ s.hdr) (s.vals.zip s.votes)=true then 10 else if 3*(Lv (s.vals.zip s.votes):Int)<=2*(sumP s.vals:Int)then 10 else 0)else 8)else 8)else kZ s.vals)else fA s.hdr
def Pd (t:dA)(q:dA×mP):Nat:=if q.1.k=t.k/\q.2.is=true then t.p else 0
def RV (l:List (dA×mP))(t:dA):Nat:=(l.map (Pd t)).sum
def Af (l:List (dA×mP))(tr:List dA):Nat:=(tr.map (RV l)).sum
def TG (tr:List dA)(s:gG):Bool:=decide (sumP tr<3*Af (s.vals.zip s.votes) tr)
theorem qh {α:Type}{l:List α}{f:α->Nat}{i:Nat}(h:i<l.length):((l.take (i+1)).map f).sum=((l.take i).map f).sum+f l[i]:=by rw[List.take_succ_eq_append_getElem h,List.map_append,List.sum_append];simp
theorem VC {α:Type}{l:List α}{f:α->Bool}{i:Nat}(h:i<l.length):(l.take (i+1)).any f=((l.take i).any f||f l[i]):=by rw[List.take_succ_eq_append_getElem h,List.any_append];simp
theorem sS {α:Type}{f:α->Nat}{k:Nat}:∀{l:List α},(∀x∈l,f x<=k)->(l.map f).sum<=l.length*k
 |[],_=>by simp
 |a::t,h=>by have:=sS (l:=t) (λx hx=>h x (List.mem_cons_of_mem _ hx));have:=h a (List.mem_cons_self ..);simp only[List.map_cons,List.sum_cons,List.length_cons,Nat.add_mul];omega
theorem zl {α:Type}{l:List α}{P:α->Prop}{i:Nat}(h:∀x∈l,P x):∀x∈l.take i,P x:=λx hx=>h x (List.mem_of_mem_take hx)
structure nM (l:List dA):Prop where
 len:1<=l.length/\l.length<=10
 pow:∀v∈l,1<=v.p/\v.p<=1000000
 rise:l.Pairwise λa b=>a.k<b.k
theorem xG:∀{o:Option dA}{l:List dA},yS o l=0↔(∀v∈l,1<=v.p/\v.p<=1000000)/\l.Pairwise (λa b=>a.k<b.k)/\(∀q,o=some q->∀v∈l,q.k<v.k)
 |o,[]=>by simp[yS]
 |o,v::t=>by
  rw[yS];have ih:=xG (o:=some v) (l:=t);by_cases h1:(v.p:Int)<1\/(1000000:Int)<v.p
  ·rw[if_pos h1];constructor
   ·intro h;cases h
   ·rintro⟨h,_⟩;have:=h v (List.mem_cons_self ..);omega
  ·rw[if_neg h1];by_cases h2:(o.any λq=>decide ((v.k:Int)<=q.k))=true
   ·rw[if_pos h2];constructor
    ·intro h;cases h
    ·rintro⟨_,_,h⟩;cases o with
     |none=>simp at h2
     |some q=>have:=h q rfl v (List.mem_cons_self ..);simp at h2;omega
   ·rw[if_neg h2,ih];constructor
    ·rintro⟨a,b,c⟩;refine⟨λx hx=>?_,List.pairwise_cons.2 ⟨c v rfl,b⟩,λq hq x hx=>?_⟩
     ·rcases List.mem_cons.1 hx with rfl|hx
      ·omega
      ·exact a x hx
     ·subst hq;simp at h2;rcases List.mem_cons.1 hx with rfl|hx
      ·omega
      ·have:=c v rfl x hx;omega
    ·rintro⟨a,b,c⟩;have hb:=List.pairwise_cons.1 b;exact⟨λx hx=>a x (List.mem_cons_of_mem _ hx),hb.2,λq hq=>by injection hq with hq;subst hq;exact hb.1⟩
theorem iD {l:List dA}:kZ l=0↔nM l:=by
 unfold kZ;by_cases h:(l.length:Int)<1\/(10:Int)<l.length
 ·rw[if_pos h];constructor
  ·intro h;cases h
  ·intro r;have:=r.len;omega
 ·rw[if_neg h,xG];constructor
  ·rintro⟨a,b,_⟩;exact⟨by omega,a,b⟩
  ·intro r;exact⟨r.pow,r.rise,λq hq=>by cases hq⟩
theorem zm {l:List dA}(h:nM l)(i:Nat):sumP (l.take i)<=10000000:=by
 have h1:=sS (f:=λv:dA=>v.p) (k:=1000000) (l:=l.take i) (zl λv hv=>(h.pow v hv).2);have h2:=h.len;have h3:(l.take i).length<=10:=by rw[List.length_take];omega
 unfold sumP;have:(l.take i).length*1000000<=10*1000000:=Nat.mul_le_mul_right _ h3;omega
attribute [local simp,local go_sem] intD boolD sD
theorem tK (n:Int):PureD Tryz.prog 83 [intD n] (boolD (lw n)):=by refine ai λR hR=>?_;unfold lw at hR;refine aa 9 Tryz.func83 ?_;exact wkl trivial
theorem afa (s:ByteArray)(k:Nat):(byS s k).toNat<256:=(byS s k).toNat_lt
theorem EQ (s:ByteArray):PureD Tryz.prog 82 [sD s] (boolD (ic s)):=by
 refine ai λR hR=>?_;unfold ic at hR;by_cases h0:1<=s.size
 rotate_left
 ·have h1:(s.size:Int)<1:=by omega
  simp only[h0,decide_false,Bool.false_and]at hR;refine aa 36 Tryz.func82 ?_;exact wkl trivial
 by_cases h1:s.size<=20
 rotate_left
 ·have h2:(20:Int)<(s.size:Int):=by omega
  have h3:¬(s.size:Int)<1:=by omega
  simp only[h0,h1,decide_false,decide_true,Bool.true_and,Bool.false_and]at hR;refine aa 36 Tryz.func82 ?_;exact wkl trivial
 have h2:¬(20:Int)<(s.size:Int):=by omega
 have h3:¬(s.size:Int)<1:=by omega
 simp only[h0,h1,decide_true,Bool.true_and]at hR;refine aa 36 Tryz.func82 ?_;refine wkl ?_;clear hR;intro hR
 repeat' (intro _)
 refine aS (ι:=Nat) (λi=>i<=s.size/\∀k,k<i->Cj (byS s k)=true)
  (λi=>dP [(0,sD s),(2,.i (.s (.bool false))),(14,intD s.size),(15,intD i)] []) (λi=>s.size-i) 0 ⟨Nat.zero_le _,λk hk=>by omega⟩ ?_ ?_
 ·exact dB [] []
 ·rintro i ⟨hi,hk⟩ RL hL;rw[ag];by_cases h:i<s.size
  ·have w0:=afa s i;by_cases hb:Cj (byS s i)=true
   ·have hk':∀k,k<i+1->Cj (byS s k)=true:=λk hk'=>by
     rcases Nat.lt_or_ge k i with h1|h1
     ·exact hk k h1
     ·obtain rfl:k=i:=by omega
      exact hb
    have b1:=λσ'=>bk [] [] (hL (i+1) σ' ⟨h,hk'⟩);clear hk hR hL hk';unfold Cj inR at hb;simp only[Bool.or_eq_true,decide_eq_true_eq]at hb;exact wkl trivial
   ·have hRf:Hr (boolD false) R:=by
     have:((List.range s.size).all λk=>Cj (byS s k))=false:=by rw[List.all_eq_false];exact⟨i,List.mem_range.2 h,hb⟩
     rw[this]at hR;exact hR
    clear hk hR hL
    rename Hr _ _=>hR
    unfold Cj inR at hb;simp only[Bool.or_eq_true,decide_eq_true_eq]at hb;exact wkl trivial
  ·have hRt:Hr (boolD true) R:=by
    have:((List.range s.size).all λk=>Cj (byS s k))=true:=by rw[List.all_eq_true];intro k hk';exact hk k (by have:=List.mem_range.1 hk';omega)
    rw[this]at hR;exact hR
   clear hk hR hL
   rename Hr _ _=>hR
   exact wkl trivial
end Go.Proofs.YtdmeldhlbpdeeaaGreatDoor
namespace Go.Proofs.YtdmeldhlbpdeeaaGreatDoor
open Go Go.Abs
def aal (seeds:List (List UInt8))(k:Nat):Bool:=seeds.any λs=>decide (k=keyF s)
def DX (seeds:List (List UInt8))(v:dA):Nat:=if aal seeds v.k=true then v.p else 0
def votedP (seeds:List (List UInt8))(l:List dA):Nat:=(l.map (DX seeds)).sum
theorem Kj (h:kv)(seeds:List (List UInt8))(s:List UInt8)(v:dA):eO h (seeds++[s]) v=if v.k=keyF s then⟨true,Bb s (a_ h),sigS s (a_ h)⟩else eO h seeds v:=by unfold eO;rw[List.foldl_append];rfl
theorem FT (h:kv)(v:dA)(seeds:List (List UInt8)):(eO h seeds v).is=aal seeds v.k/\((eO h seeds v).is=true->Ah v.k (a_ h) (eO h seeds v).r (eO h seeds v).s=true):=by
 have key:∀(t:List (List UInt8)),(eO h t.reverse v).is=aal t.reverse v.k/\((eO h t.reverse v).is=true->Ah v.k (a_ h) (eO h t.reverse v).r (eO h t.reverse v).s=true):=by
  intro t;induction t with
  |nil=>exact⟨rfl,λh=>by cases h⟩
  |cons a t ih =>
   rw[List.reverse_cons,Kj];by_cases hk:v.k=keyF a
   ·rw[if_pos hk];refine⟨by simp[aal,hk],λ_=>?_⟩;rw[hk];exact MQ a (a_ h)
   ·rw[if_neg hk];refine⟨?_,ih.2⟩;rw[ih.1];simp[aal,hk]
 have:=key seeds.reverse;rwa[List.reverse_reverse]at this
theorem sP {α β:Type}(l:List α)(f:α->β):l.zip (l.map f)=l.map λx=>(x,f x):=by
 induction l with
 |nil=>rfl
 |cons a t ih=>rw[List.map_cons,List.zip_cons_cons,ih,List.map_cons]
theorem Sm (h:kv)(seeds:List (List UInt8))(l:List dA):Lv (l.zip (l.map (eO h seeds)))=votedP seeds l:=by rw[sP];unfold Lv votedP;rw[List.map_map];congr 1;apply List.map_congr_left;intro v _;show(if(eO h seeds v).is=true then v.p else 0)=_;rw[(FT h v seeds).1];rfl
theorem Vw (h:kv)(seeds:List (List UInt8))(l:List dA):RZ (a_ h) (l.zip (l.map (eO h seeds)))=false:=by
 rw[sP];unfold RZ;rw[List.any_eq_false];intro q hq;obtain⟨v,_,rfl⟩:=List.mem_map.1 hq;show ¬((eO h seeds v).is&&!Ah v.k (a_ h) (eO h seeds v).r (eO h seeds v).s)=true;cases hi:(eO h seeds v).is
 ·simp
 ·rw[(FT h v seeds).2 hi];simp
structure yJ (h:kv) (l:List dA):Prop where
 w:fA h=0
 v:nM l
 d:digestV l=h.vals
theorem Ef {h:kv}{l:List dA}(r:yJ h l)(seeds:List (List UInt8)):kU h l seeds=(⟨h,l,l.map (eO h seeds)⟩,0):=by unfold kU;rw[if_pos r.w,if_pos (iD.2 r.v),if_pos r.d]
theorem KY {h:kv}{l:List dA}(r:yJ h l)(seeds:List (List UInt8)):j_ ⟨h,l,l.map (eO h seeds)⟩=if 3*(votedP seeds l:Int)<=2*(sumP l:Int)then 10 else 0:=by unfold j_;simp only;rw[if_pos r.w,if_pos (iD.2 r.v),if_pos (by simp),if_pos r.d,Vw,Sm];simp
theorem pI {h:kv}{l:List dA}(r:yJ h l)(seeds:List (List UInt8)):j_ ⟨h,l,l.map (eO h seeds)⟩=0↔2*sumP l<3*votedP seeds l:=by
 rw[KY r];split
 ·constructor
  ·intro h;cases h
  ·intro h;omega
 ·constructor
  ·intro _;omega
  ·intro _;rfl
end Go.Proofs.YtdmeldhlbpdeeaaGreatDoor
