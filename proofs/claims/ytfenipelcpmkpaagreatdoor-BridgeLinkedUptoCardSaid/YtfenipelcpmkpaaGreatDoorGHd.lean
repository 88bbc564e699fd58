/- Merged texts: Cmp, HdP, HdA, HdL. -/
import Derived.Lib.BytesEntry
import Derived.Laws.Externs
import Derived.Test.YtfenipelcpmkpaaGreatDoorGSeal
import Derived.Test.YtfenipelcpmkpaaGreatDoorGWire
import Derived.Test.YtfenipelcpmkpaaGreatDoorG0
import Derived.Test.YtfenipelcpmkpaaGreatDoorGWk
set_option linter.all false
set_option maxHeartbeats 4000000
set_option maxRecDepth 20000
namespace Go.Proofs.YtfenipelcpmkpaaGreatDoor
open Go Go.Abs Go.RowKit Go.Proofs.YtfenipelcpmkpaaGreatDoor.Ty
theorem SK:(type_of% @Ty.T5)/\(type_of% @Ty.T29):=⟨@Ty.T5,@Ty.T29⟩
theorem XP:(type_of% @Ty.T5)/\(type_of% @Ty.T9)/\(type_of% @Ty.T29):=⟨@Ty.T5,@Ty.T9,@Ty.T29⟩
theorem JH:(type_of% @Ty.T0)/\(type_of% @Ty.T5)/\(type_of% @Ty.T29):=⟨@Ty.T0,@Ty.T5,@Ty.T29⟩
theorem pF {P:Program} {K:Ctx} {v:Value} {l:List UInt8} (h:VD K v (.i (bI l))):(Extern.Bytes.bytesOf v).run P K.w=.ok ⟨l.toArray⟩ K.w:=by
 cases h with
 | i hx =>
  generalize hy:bI l=y at hx
  cases hx with
  | s v h=>simp [bI] at hy
  | e a cap =>
   have:l=[]:=by cases l with
    | nil=>rfl
    | cons b t=>simp [bI] at hy
   subst this
   cases a with
   | none=>rfl
   | some a=>rfl
  | sl b off cap sz es f hS hc hz hsz hcell hv =>
   have hes:es=l.map af:=by simpa [bI] using hy.symm
   subst hes
   have hfl:∀ (l:List UInt8) (j:Nat),(l.map af).flatten[j]?=(l[j]?).map fun b=>I.s (.int .u8 (b.toNat:Int)):=by
    intro l
    induction l with
    | nil=>intro j; simp
    | cons a t ih =>
     intro j
     cases j with
     | zero=>simp [af]
     | succ j=>simpa [af] using ih j
   have hl:=Lib.run_loadBytesX (P:=P) K.w (l.map fun b=>(b.toNat:Int)) ⟨b,off,none⟩ .empty (fun j x hj=>by
    rw [List.getElem?_map] at hj
    cases hb:l[j]? with
    | none=>simp [hb] at hj
    | some c =>
     simp [hb] at hj
     have hf:(l.map af).flatten[j]?=some (.s (.int .u8 (c.toNat:Int))):=by rw [hfl,hb]; rfl
     have h1:=hcell j _ hf
     have h2:=hv j _ hf
     have e:(⟨b,off,none⟩:Addr).add j=⟨b,off+j,none⟩:=by unfold Addr.add; split <;> simp_all
     rw [e,h1,<- hj]
     generalize f j=u at h2
     cases h2; rfl)
   have hb:Lib.bytesOf (l.map fun b=>(b.toNat:Int))=l:=by
    simp only [Lib.bytesOf,List.map_map]
    conv=>rhs; rw [<- List.map_id l]
    refine List.map_congr_left fun c _=>?_
    show UInt8.ofNat ((c.toNat:Int)).toNat=c
    rw [Int.toNat_natCast]; simp
   rw [hb,List.length_map] at hl
   show (Extern.Bytes.loadBytes ⟨b,off,none⟩ (l.map af).length .empty).run P K.w=_
   rw [List.length_map,hl]
   congr 1
   apply ByteArray.ext
   show (#[]:Array UInt8)++l.toArray=l.toArray
   simp
theorem ZZ (a b:List UInt8) (G:Nat->Ob):Sw Tryz.prog 90 [.i (bI a),.i (bI b)] G (.i (.s (.int .i64 (Lib.compareBytes a b)))) G:=by
 intro K0 T K vs hr hrd
 obtain ⟨hs,hg⟩:=hrd
 have e:vs=#[vs.getD 0 undef,vs.getD 1 undef]:=by
  apply Array.ext
  ·simpa using hs
  ·intro i h1 h2
   simp at hs
   have:i=0\/i=1:=by omega
   rcases this with rfl | rfl <;> simp [Array.getD,hs]
 have h1:=pF (P:=Tryz.prog) (hg 0 _ rfl)
 have h2:=pF (P:=Tryz.prog) (hg 1 _ rfl)
 rw [e]
 refine ⟨.int .i64 (Lib.compareBytes a b),K,?_,Ext.refl K,hr,.i (.s _ rfl)⟩
 rw [run_callFunc_extern Tryz.func90 (by kernel_rfl) (by kernel_rfl) (by kernel_rfl) (e:=Extern.BytealgCompare.compare) (by kernel_rfl)]
 show ((Sem.run Tryz.prog (do pure (goInt (Extern.BytealgCompare.cmp (<- Extern.Bytes.bytesOf (vs.getD 0 undef)) (<- Extern.Bytes.bytesOf (vs.getD 1 undef)))):Sem Value) K.w).andThen fun v w'=>Result.ok (Next.value v) w')=_
 simp only [Sem.run_bind,Sem.run_pure,h1,h2,Result.andThen_ok,Lib.cmp_eq]
 rfl
theorem IM (a b:List UInt8):PureD Tryz.prog 47 [.i (bI a),.i (bI b)] (.i (.s (.int .i64 (Lib.compareBytes a b)))):=by
 refine aa 8 Tryz.func47 rfl rfl rfl (fun _ _=>rfl) ?_
 refine gx SK ?_
 refine jI (ZZ a b) ?_
 refine gx SK ?_
 refine ax [] rfl ?_
 simp [cv,cv1,cv0,upd]
theorem YP (a b:List UInt8):((⟨a.toArray⟩:ByteArray) == ⟨b.toArray⟩)=decide (a=b):=by
 show ((a.toArray:Array UInt8) == b.toArray)=_
 rw [List.beq_toArray]
 by_cases h:a=b
 ·subst h; simp
 ·rw [decide_eq_false h]; exact beq_eq_false_iff_ne.2 h
theorem gN (a b:List UInt8):PureD Tryz.prog 59 [.i (bI a),.i (bI b)] (.i (.s (.bool (decide (a=b))))):=by
 refine aa 10 Tryz.func59 rfl rfl rfl (fun _ _=>rfl) ?_
 refine gx (an (an (an (an (an XP @bI.eq_1) @wM) @mV) @YP) @mQ) ?_
 refine ax [] rfl ?_
 simp [cv,cv1,cv0,upd]
theorem dZ (l:List UInt8) (hl:l.length<=140737488355328):PureD Tryz.prog 44 [.i (bI l)] (.i (bI l)):=by
 cases l with
 | cons b t =>
  have hl':t.length<=140737488355327:=by simp at hl; omega
  refine aa 8 Tryz.func44 rfl rfl rfl (fun _ _=>rfl) ?_
  refine gx (an (an (an JH @bI.eq_1) @List.map_cons.{0,0}) @hl') ?_
  refine ax [1770] rfl ?_
  simp [cv,cv1,cv0,upd,hO,lk,ae,bI,fB]
 | nil =>
  refine Kj (fU Tryz.func44 rfl rfl) fun K vs hrd=>?_
  obtain ⟨hs,hg⟩:=hrd
  obtain ⟨a,c,hv⟩:∃ a c,vs.getD 0 undef=.slice a 0 c:=by
   have:=hg 0 _ rfl
   generalize vs.getD 0 undef=v at this
   cases this with
   | i hx =>
    cases hx with
    | e a c=>exact ⟨a,c,rfl⟩
    | sl b off cap sz es f h1 h2=>exact ⟨_,_,rfl⟩
  refine ⟨[.i (.s (.slice a 0 c))],?_,hs,fun j d hd=>?_⟩
  ·have hun:=abV
   refine aa 8 Tryz.func44 rfl rfl rfl (fun _ _=>rfl) ?_
   cases a with
   | none =>
    (repeat (first | (simp -implicitDefEqProofs only [ev,mixed,Nat.reduceLT,Nat.reduceAdd,Nat.reduceMul,reduceIte,Nat.reduceEqDiff,reduceCtorEq,Nat.reducePow,Nat.reduceLeDiff,Int.reduceLE,Int.reduceLT,Int.reduceToNat,Int.reduceEq,Nat.reduceBEq,dV,gdA,af,il,kE,ixQ,ldH,aF,aj,bC,faQ,exQ,kU,dO,bS,slQ,stH,kV,kW,aS,bq,ae,D.one,jP,dH,dX,cvH,JH,dR hun,Option.isNone_none]) | (with_reducible refine ⟨?_,?_⟩; (· first | (obtain ⟨rfl⟩:=‹Hq _ _›; with_reducible refine chk_ok ?_; kernel_rfl) | kernel_rfl)) | (with_reducible intro ops hops)))
    refine ax [] rfl ?_
    simp [cv,cv1,cv0,upd,bI]
   | some a =>
    (repeat (first | (simp -implicitDefEqProofs only [ev,mixed,Nat.reduceLT,Nat.reduceAdd,Nat.reduceMul,reduceIte,Nat.reduceEqDiff,reduceCtorEq,Nat.reducePow,Nat.reduceLeDiff,Int.reduceLE,Int.reduceLT,Int.reduceToNat,Int.reduceEq,Nat.reduceBEq,dV,gdA,af,il,kE,ixQ,ldH,aF,aj,bC,faQ,exQ,kU,dO,bS,slQ,stH,kV,kW,aS,bq,ae,D.one,jP,dH,dX,cvH,JH,dR hun,Option.isNone_some]) | (with_reducible refine ⟨?_,?_⟩; (· first | (obtain ⟨rfl⟩:=‹Hq _ _›; with_reducible refine chk_ok ?_; kernel_rfl) | kernel_rfl)) | (with_reducible intro ops hops)))
    refine ax [1770] rfl ?_
    simp [cv,cv1,cv0,upd,hO,lk,ae,bI]
  ·cases j with
   | zero=>simp at hd; subst hd; rw [hv]; exact .i (.s _ rfl)
   | succ j=>simp at hd
structure dJ where
 k:Nat
 p:Nat
structure lm where
 c:ByteArray
 h:Int
 t:Int
 root:List UInt8
 vals:List UInt8
 next:List UInt8
structure lh where
 is:Bool
 r:Nat
 s:Nat
structure gQ where
 hdr:lm
 vals:List dJ
 votes:List lh
def jZ (v:dJ):List I:=[.s (.int .u64 v.k),.s (.int .u64 v.p)]
def IG (v:lh):List I:=[.s (.bool v.is),.s (.int .u64 v.r),.s (.int .u64 v.s)]
def valsI (l:List dJ):I:=.sl (l.map jZ)
def votesI (l:List lh):I:=.sl (l.map IG)
def Xw (h:lm):List I:=[.s (.string h.c),.s (.int .i64 h.h),.s (.int .i64 h.t),bI h.root,bI h.vals,bI h.next]
def Pi (h:lm):D:=.agg [.i (.s (.string h.c)),.i (.s (.int .i64 h.h)),.i (.s (.int .i64 h.t)),.i (bI h.root),.i (bI h.vals),.i (bI h.next)]
def TG (s:gQ):List I:=[.s (.string s.hdr.c),.s (.int .i64 s.hdr.h),.s (.int .i64 s.hdr.t),bI s.hdr.root,bI s.hdr.vals,bI s.hdr.next,valsI s.vals,votesI s.votes]
def pX (s:gQ):D:=.agg [.i (.s (.string s.hdr.c)),.i (.s (.int .i64 s.hdr.h)),.i (.s (.int .i64 s.hdr.t)),.i (bI s.hdr.root),.i (bI s.hdr.vals),.i (bI s.hdr.next),.i (valsI s.vals),.i (votesI s.votes)]
def acx (v:dJ):D:=.agg [.i (.s (.int .u64 v.k)),.i (.s (.int .u64 v.p))]
def XB:lm:=⟨⟨#[]⟩,0,0,[],[],[]⟩
def Ps:gQ:=⟨XB,[],[]⟩
def m_ (n:Int):Bool:=decide (0<=n/\n<=1000000000000)
def xm:Option dJ->List dJ->Int
 | _,[]=>0
 | o,v :: t=>if (v.p:Int) < 1\/(1000000:Int) < v.p then 3 else if (o.any fun q=>decide ((v.k:Int)<=q.k))=true then 2 else xm (some v) t
def jJ (l:List dJ):Int:=if (l.length:Int) < 1\/(10:Int) < l.length then 5 else xm none l
def jh (n:Nat):dw:=⟨1,n,[]⟩
def Kh (b:List UInt8):dw:=⟨2,0,b⟩
def vW (l:List dJ):List dw:=l.flatMap fun v=>[jh v.k,jh v.p]
def bW (l:List dJ):List UInt8:=sha (cu (vW l)).1
def u64 (n:Int):Nat:=(n % 18446744073709551616).toNat
theorem u64_lt (n:Int):u64 n < 18446744073709551616:=by unfold u64; omega
theorem Jr (n:Int):IntKind.u64.wrap n=(u64 n:Int):=by rw [IntKind.wrap_u64]; unfold u64; omega
def Uz (h:lm):List dw:=[Kh (unB h.c),jh (u64 h.h),jh (u64 h.t),Kh h.root,Kh h.vals,Kh h.next]
def bQ (h:lm):List UInt8:=(cu (Uz h)).1
def fq (h:lm):Int :=
 if iy h.c=true then
  (if h.h < 1\/¬ m_ h.h=true\/¬ m_ h.t=true then 3
  else if ¬ (h.root.length:Int)=32\/¬ (h.vals.length:Int)=32\/¬ (h.next.length:Int)=32 then 2 else 0)
 else 7
def eH (h:lm) (seeds:List (List UInt8)) (v:dJ):lh :=
 seeds.foldl (fun x s=>if v.k=keyF s then ⟨true,Af s (bQ h),sigS s (bQ h)⟩ else x) ⟨false,0,0⟩
def jO (h:lm) (vals:List dJ) (seeds:List (List UInt8)):gQ × Int :=
 if fq h=0 then (if jJ vals=0 then (if bW vals=h.vals then (⟨h,vals,vals.map (eH h seeds)⟩,0) else (Ps,8)) else (Ps,jJ vals)) else (Ps,fq h)
def sumP (l:List dJ):Nat:=(l.map (·.p)).sum
def Px (q:dJ × lh):Nat:=if q.2.is=true then q.1.p else 0
def Jk (l:List (dJ × lh)):Nat:=(l.map Px).sum
def WH (b:List UInt8) (q:dJ × lh):Bool:=q.2.is && !yZ q.1.k b q.2.r q.2.s
def Pm (b:List UInt8) (l:List (dJ × lh)):Bool:=l.any (WH b)
def kg (s:gQ):Int :=
 if fq s.hdr=0 then (if jJ s.vals=0 then (if (s.votes.length:Int)=s.vals.length then (if bW s.vals=s.hdr.vals then
  (if Pm (bQ s.hdr) (s.vals.zip s.votes)=true then 10 else if 3 * (Jk (s.vals.zip s.votes):Int)<=2 * (sumP s.vals:Int) then 10 else 0) else 8) else 8) else jJ s.vals) else fq s.hdr
def Ma (t:dJ) (q:dJ × lh):Nat:=if q.1.k=t.k/\q.2.is=true then t.p else 0
def Ph (l:List (dJ × lh)) (t:dJ):Nat:=(l.map (Ma t)).sum
def yY (l:List (dJ × lh)) (tr:List dJ):Nat:=(tr.map (Ph l)).sum
def Qk (tr:List dJ) (s:gQ):Bool:=decide (sumP tr < 3 * yY (s.vals.zip s.votes) tr)
theorem oF {α:Type} {l:List α} {f:α->Nat} {i:Nat} (h:i < l.length):((l.take (i+1)).map f).sum=((l.take i).map f).sum+f l[i]:=by
 rw [List.take_succ_eq_append_getElem h,List.map_append,List.sum_append]; simp
theorem Sj {α:Type} {l:List α} {f:α->Bool} {i:Nat} (h:i < l.length):(l.take (i+1)).any f=((l.take i).any f || f l[i]):=by
 rw [List.take_succ_eq_append_getElem h,List.any_append]; simp
theorem rz {α:Type} {f:α->Nat} {k:Nat}:∀ {l:List α},(∀ x∈l,f x<=k)->(l.map f).sum<=l.length * k
 | [],_=>by simp
 | a :: t,h=>by
  have:=rz (l:=t) (fun x hx=>h x (List.mem_cons_of_mem _ hx))
  have:=h a (List.mem_cons_self ..)
  simp only [List.map_cons,List.sum_cons,List.length_cons,Nat.add_mul]; omega
theorem xJ {α:Type} {l:List α} {P:α->Prop} {i:Nat} (h:∀ x∈l,P x):∀ x∈l.take i,P x:=fun x hx=>h x (List.mem_of_mem_take hx)
structure nH (l:List dJ):Prop where
 len:1<=l.length/\l.length<=10
 pow:∀ v∈l,1<=v.p/\v.p<=1000000
 rise:l.Pairwise fun a b=>a.k < b.k
theorem wE:∀ {o:Option dJ} {l:List dJ},xm o l=0↔(∀ v∈l,1<=v.p/\v.p<=1000000)/\l.Pairwise (fun a b=>a.k < b.k)/\(∀ q,o=some q->∀ v∈l,q.k < v.k)
 | o,[]=>by simp [xm]
 | o,v :: t=>by
  rw [xm]
  have ih:=wE (o:=some v) (l:=t)
  by_cases h1:(v.p:Int) < 1\/(1000000:Int) < v.p
  ·rw [if_pos h1]
   constructor
   ·intro h; cases h
   ·rintro ⟨h,_⟩; have:=h v (List.mem_cons_self ..); omega
  ·rw [if_neg h1]
   by_cases h2:(o.any fun q=>decide ((v.k:Int)<=q.k))=true
   ·rw [if_pos h2]
    constructor
    ·intro h; cases h
    ·rintro ⟨_,_,h⟩
     cases o with
     | none=>simp at h2
     | some q=>have:=h q rfl v (List.mem_cons_self ..); simp at h2; omega
   ·rw [if_neg h2,ih]
    constructor
    ·rintro ⟨a,b,c⟩
     refine ⟨fun x hx=>?_,List.pairwise_cons.2 ⟨c v rfl,b⟩,fun q hq x hx=>?_⟩
     ·rcases List.mem_cons.1 hx with rfl | hx
      ·omega
      ·exact a x hx
     ·subst hq
      simp at h2
      rcases List.mem_cons.1 hx with rfl | hx
      ·omega
      ·have:=c v rfl x hx; omega
    ·rintro ⟨a,b,c⟩
     have hb:=List.pairwise_cons.1 b
     exact ⟨fun x hx=>a x (List.mem_cons_of_mem _ hx),hb.2,fun q hq=>by injection hq with hq; subst hq; exact hb.1⟩
theorem gY {l:List dJ}:jJ l=0↔nH l:=by
 unfold jJ
 by_cases h:(l.length:Int) < 1\/(10:Int) < l.length
 ·rw [if_pos h]
  constructor
  ·intro h; cases h
  ·intro r; have:=r.len; omega
 ·rw [if_neg h,wE]
  constructor
  ·rintro ⟨a,b,_⟩; exact ⟨by omega,a,b⟩
  ·intro r; exact ⟨r.pow,r.rise,fun q hq=>by cases hq⟩
theorem xK {l:List dJ} (h:nH l) (i:Nat):sumP (l.take i)<=10000000:=by
 have h1:=rz (f:=fun v:dJ=>v.p) (k:=1000000) (l:=l.take i) (xJ fun v hv=>(h.pow v hv).2)
 have h2:=h.len
 have h3:(l.take i).length<=10:=by rw [List.length_take]; omega
 unfold sumP
 have:(l.take i).length * 1000000<=10 * 1000000:=Nat.mul_le_mul_right _ h3
 omega
attribute [local simp,local go_sem] intD boolD sD
theorem rJ (n:Int):PureD Tryz.prog 79 [intD n] (boolD (m_ n)):=by
 refine ak fun R hR=>?_
 unfold m_ at hR
 refine aa 9 Tryz.func79 rfl rfl rfl (fun _ _=>rfl) ?_
 exact wkl trivial
theorem aaa (s:ByteArray) (k:Nat):(byS s k).toNat < 256:=(byS s k).toNat_lt
theorem Dz (s:ByteArray):PureD Tryz.prog 78 [sD s] (boolD (iy s)):=by
 refine ak fun R hR=>?_
 unfold iy at hR
 by_cases h0:1<=s.size
 rotate_left
 ·have h1:(s.size:Int) < 1:=by omega
  simp only [h0,decide_false,Bool.false_and] at hR
  refine aa 36 Tryz.func78 rfl rfl rfl (fun _ _=>rfl) ?_
  exact wkl trivial
 by_cases h1:s.size<=20
 rotate_left
 ·have h2:(20:Int) < (s.size:Int):=by omega
  have h3:¬ (s.size:Int) < 1:=by omega
  simp only [h0,h1,decide_false,decide_true,Bool.true_and,Bool.false_and] at hR
  refine aa 36 Tryz.func78 rfl rfl rfl (fun _ _=>rfl) ?_
  exact wkl trivial
 have h2:¬ (20:Int) < (s.size:Int):=by omega
 have h3:¬ (s.size:Int) < 1:=by omega
 simp only [h0,h1,decide_true,Bool.true_and] at hR
 refine aa 36 Tryz.func78 rfl rfl rfl (fun _ _=>rfl) ?_
 refine wkl ?_
 clear hR; intro hR
 repeat' (intro _)
 refine aZ (ι:=Nat) (fun i=>i<=s.size/\∀ k,k < i->oQ (byS s k)=true)
  (fun i=>ek [(0,sD s),(2,.i (.s (.bool false))),(14,intD s.size),(15,intD i)] []) (fun i=>s.size - i) 0 ⟨Nat.zero_le _,fun k hk=>by omega⟩ ?_ ?_
 ·exact dP [] []
 ·rintro i ⟨hi,hk⟩ RL hL
  rw [au]
  by_cases h:i < s.size
  ·have w0:=aaa s i
   by_cases hb:oQ (byS s i)=true
   ·have hk':∀ k,k < i+1->oQ (byS s k)=true:=fun k hk'=>by
     rcases Nat.lt_or_ge k i with h1 | h1
     ·exact hk k h1
     ·obtain rfl:k=i:=by omega
      exact hb
    have b1:=fun σ'=>bk [] [] (hL (i+1) σ' ⟨h,hk'⟩)
    clear hk hR hL hk'
    unfold oQ inR at hb
    simp only [Bool.or_eq_true,decide_eq_true_eq] at hb
    exact wkl trivial
   ·have hRf:Hr (boolD false) R:=by
     have:((List.range s.size).all fun k=>oQ (byS s k))=false:=by
      rw [List.all_eq_false]; exact ⟨i,List.mem_range.2 h,hb⟩
     rw [this] at hR; exact hR
    clear hk hR hL
    rename Hr _ _=>hR
    unfold oQ inR at hb
    simp only [Bool.or_eq_true,decide_eq_true_eq] at hb
    exact wkl trivial
  ·have hRt:Hr (boolD true) R:=by
    have:((List.range s.size).all fun k=>oQ (byS s k))=true:=by
     rw [List.all_eq_true]
     intro k hk'
     exact hk k (by have:=List.mem_range.1 hk'; omega)
    rw [this] at hR; exact hR
   clear hk hR hL
   rename Hr _ _=>hR
   exact wkl trivial
def Xt (seeds:List (List UInt8)) (k:Nat):Bool:=seeds.any fun s=>decide (k=keyF s)
def Jv (seeds:List (List UInt8)) (v:dJ):Nat:=if Xt seeds v.k=true then v.p else 0
def votedP (seeds:List (List UInt8)) (l:List dJ):Nat:=(l.map (Jv seeds)).sum
theorem Ig (h:lm) (seeds:List (List UInt8)) (s:List UInt8) (v:dJ):eH h (seeds++[s]) v=if v.k=keyF s then ⟨true,Af s (bQ h),sigS s (bQ h)⟩ else eH h seeds v:=by
 unfold eH; rw [List.foldl_append]; rfl
theorem Fb (h:lm) (v:dJ) (seeds:List (List UInt8)):(eH h seeds v).is=Xt seeds v.k/\((eH h seeds v).is=true->yZ v.k (bQ h) (eH h seeds v).r (eH h seeds v).s=true):=by
 have key:∀ (t:List (List UInt8)),(eH h t.reverse v).is=Xt t.reverse v.k/\((eH h t.reverse v).is=true->yZ v.k (bQ h) (eH h t.reverse v).r (eH h t.reverse v).s=true):=by
  intro t
  induction t with
  | nil=>exact ⟨rfl,fun h=>by cases h⟩
  | cons a t ih =>
   rw [List.reverse_cons,Ig]
   by_cases hk:v.k=keyF a
   ·rw [if_pos hk]
    refine ⟨by simp [Xt,hk],fun _=>?_⟩
    rw [hk]; exact JZ a (bQ h)
   ·rw [if_neg hk]
    refine ⟨?_,ih.2⟩
    rw [ih.1]; simp [Xt,hk]
 have:=key seeds.reverse
 rwa [List.reverse_reverse] at this
theorem ru {α β:Type} (l:List α) (f:α->β):l.zip (l.map f)=l.map fun x=>(x,f x):=by
 induction l with
 | nil=>rfl
 | cons a t ih=>rw [List.map_cons,List.zip_cons_cons,ih,List.map_cons]
theorem Pw (h:lm) (seeds:List (List UInt8)) (l:List dJ):Jk (l.zip (l.map (eH h seeds)))=votedP seeds l:=by
 rw [ru]
 unfold Jk votedP
 rw [List.map_map]
 congr 1
 apply List.map_congr_left
 intro v _
 show (if (eH h seeds v).is=true then v.p else 0)=_
 rw [(Fb h v seeds).1]; rfl
theorem Sa (h:lm) (seeds:List (List UInt8)) (l:List dJ):Pm (bQ h) (l.zip (l.map (eH h seeds)))=false:=by
 rw [ru]
 unfold Pm
 rw [List.any_eq_false]
 intro q hq
 obtain ⟨v,_,rfl⟩:=List.mem_map.1 hq
 show ¬ ((eH h seeds v).is && !yZ v.k (bQ h) (eH h seeds v).r (eH h seeds v).s)=true
 cases hi:(eH h seeds v).is
 ·simp
 ·rw [(Fb h v seeds).2 hi]; simp
structure Hz (h:lm) (l:List dJ):Prop where
 w:fq h=0
 v:nH l
 d:bW l=h.vals
theorem Ui {h:lm} {l:List dJ} (r:Hz h l) (seeds:List (List UInt8)):jO h l seeds=(⟨h,l,l.map (eH h seeds)⟩,0):=by
 unfold jO
 rw [if_pos r.w,if_pos (gY.2 r.v),if_pos r.d]
theorem IR {h:lm} {l:List dJ} (r:Hz h l) (seeds:List (List UInt8)):kg ⟨h,l,l.map (eH h seeds)⟩=if 3 * (votedP seeds l:Int)<=2 * (sumP l:Int) then 10 else 0:=by
 unfold kg
 simp only
 rw [if_pos r.w,if_pos (gY.2 r.v),if_pos (by simp),if_pos r.d,Sa,Pw]
 simp
theorem EA {h:lm} {l:List dJ} (r:Hz h l) (seeds:List (List UInt8)):kg ⟨h,l,l.map (eH h seeds)⟩=0↔2 * sumP l < 3 * votedP seeds l:=by
 rw [IR r]
 split
 ·constructor
  ·intro h; cases h
  ·intro h; omega
 ·constructor
  ·intro _; omega
  ·intro _; rfl
end Go.Proofs.YtfenipelcpmkpaaGreatDoor
