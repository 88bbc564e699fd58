/- Merged texts: Cmp, HdP, HdA, HdL. -/
import Derived.Lib.BytesEntry
import Derived.Laws.Externs
import Derived.Test.YtfenipelcpmkpaaGreatDoorGSeal
import Derived.Test.YtfenipelcpmkpaaGreatDoorGWire
import Derived.Test.YtfenipelcpmkpaaGreatDoorG0
import Derived.Test.YtfenipelcpmkpaaGreatDoorGWk
set_option linter.all false
set_option maxHeartbeats 4000000
set_option maxRecDepth 20000
namespace Go.Proofs.YtfenipelcpmkpaaGreatDoor
open Go Go.Abs Go.RowKit Go.Proofs.YtfenipelcpmkpaaGreatDoor.Ty
theorem Ry:(type_of% @Ty.T5)/\(type_of% @Ty.T29):=⟨@Ty.T5,@Ty.T29⟩
theorem WN:(type_of% @Ty.T5)/\(type_of% @Ty.T9)/\(type_of% @Ty.T29):=⟨@Ty.T5,@Ty.T9,@Ty.T29⟩
theorem Jf:(type_of% @Ty.T0)/\(type_of% @Ty.T5)/\(type_of% @Ty.T29):=⟨@Ty.T0,@Ty.T5,@Ty.T29⟩
theorem oI {P:Program} {K:Ctx} {v:Value} {l:List UInt8} (h:VD K v (.i (bI l))):(Extern.Bytes.bytesOf v).run P K.w=.ok ⟨l.toArray⟩ K.w:=by
 cases h with
 | i hx =>
  generalize hy:bI l=y at hx
  cases hx with
  | s v h=>simp [bI] at hy
  | e a cap =>
   have:l=[]:=by cases l with
    | nil=>rfl
    | cons b t=>simp [bI] at hy
   subst this
   cases a with
   | none=>rfl
   | some a=>rfl
  | sl b off cap sz es f hS hc hz hsz hcell hv =>
   have hes:es=l.map af:=by simpa [bI] using hy.symm
   subst hes
   have hfl:∀ (l:List UInt8) (j:Nat),(l.map af).flatten[j]?=(l[j]?).map fun b=>I.s (.int .u8 (b.toNat:Int)):=by
    intro l
    induction l with
    | nil=>intro j; simp
    | cons a t ih =>
     intro j
     cases j with
     | zero=>simp [af]
     | succ j=>simpa [af] using ih j
   have hl:=Lib.run_loadBytesX (P:=P) K.w (l.map fun b=>(b.toNat:Int)) ⟨b,off,none⟩ .empty (fun j x hj=>by
    rw [List.getElem?_map] at hj
    cases hb:l[j]? with
    | none=>simp [hb] at hj
    | some c =>
     simp [hb] at hj
     have hf:(l.map af).flatten[j]?=some (.s (.int .u8 (c.toNat:Int))):=by rw [hfl,hb]; rfl
     have h1:=hcell j _ hf
     have h2:=hv j _ hf
     have e:(⟨b,off,none⟩:Addr).add j=⟨b,off+j,none⟩:=by unfold Addr.add; split <;> simp_all
     rw [e,h1,<- hj]
     generalize f j=u at h2
     cases h2; rfl)
   have hb:Lib.bytesOf (l.map fun b=>(b.toNat:Int))=l:=by
    simp only [Lib.bytesOf,List.map_map]
    conv=>rhs; rw [<- List.map_id l]
    refine List.map_congr_left fun c _=>?_
    show UInt8.ofNat ((c.toNat:Int)).toNat=c
    rw [Int.toNat_natCast]; simp
   rw [hb,List.length_map] at hl
   show (Extern.Bytes.loadBytes ⟨b,off,none⟩ (l.map af).length .empty).run P K.w=_
   rw [List.length_map,hl]
   congr 1
   apply ByteArray.ext
   show (#[]:Array UInt8)++l.toArray=l.toArray
   simp
theorem YV (a b:List UInt8) (G:Nat->Ob):Rl Tryz.prog 90 [.i (bI a),.i (bI b)] G (.i (.s (.int .i64 (Lib.compareBytes a b)))) G:=by
 intro K0 T K vs hr hrd
 obtain ⟨hs,hg⟩:=hrd
 have e:vs=#[vs.getD 0 undef,vs.getD 1 undef]:=by
  apply Array.ext
  ·simpa using hs
  ·intro i h1 h2
   simp at hs
   have:i=0\/i=1:=by omega
   rcases this with rfl | rfl <;> simp [Array.getD,hs]
 have h1:=oI (P:=Tryz.prog) (hg 0 _ rfl)
 have h2:=oI (P:=Tryz.prog) (hg 1 _ rfl)
 rw [e]
 refine ⟨.int .i64 (Lib.compareBytes a b),K,?_,Ext.refl K,hr,.i (.s _ rfl)⟩
 rw [run_callFunc_extern Tryz.func90 (by kernel_rfl) (by kernel_rfl) (by kernel_rfl) (e:=Extern.BytealgCompare.compare) (by kernel_rfl)]
 show ((Sem.run Tryz.prog (do pure (goInt (Extern.BytealgCompare.cmp (<- Extern.Bytes.bytesOf (vs.getD 0 undef)) (<- Extern.Bytes.bytesOf (vs.getD 1 undef)))):Sem Value) K.w).andThen fun v w'=>Result.ok (Next.value v) w')=_
 simp only [Sem.run_bind,Sem.run_pure,h1,h2,Result.andThen_ok,Lib.cmp_eq]
 rfl
theorem Ii (a b:List UInt8):PureD Tryz.prog 47 [.i (bI a),.i (bI b)] (.i (.s (.int .i64 (Lib.compareBytes a b)))):=by
 refine aa 8 Tryz.func47 rfl rfl rfl (fun _ _=>rfl) ?_
 refine gx Ry ?_
 refine jv (YV a b) ?_
 refine gx Ry ?_
 refine ax [] rfl ?_
 simp [cv,cv1,cv0,upd]
theorem XM (a b:List UInt8):((⟨a.toArray⟩:ByteArray) == ⟨b.toArray⟩)=decide (a=b):=by
 show ((a.toArray:Array UInt8) == b.toArray)=_
 rw [List.beq_toArray]
 by_cases h:a=b
 ·subst h; simp
 ·rw [decide_eq_false h]; exact beq_eq_false_iff_ne.2 h
theorem gB (a b:List UInt8):PureD Tryz.prog 59 [.i (bI a),.i (bI b)] (.i (.s (.bool (decide (a=b))))):=by
 refine aa 10 Tryz.func59 rfl rfl rfl (fun _ _=>rfl) ?_
 refine gx (an (an (an (an (an WN @bI.eq_1) @vP) @mE) @XM) @mi) ?_
 refine ax [] rfl ?_
 simp [cv,cv1,cv0,upd]
theorem dX (l:List UInt8) (hl:l.length<=140737488355328):PureD Tryz.prog 44 [.i (bI l)] (.i (bI l)):=by
 cases l with
 | cons b t =>
  have hl':t.length<=140737488355327:=by simp at hl; omega
  refine aa 8 Tryz.func44 rfl rfl rfl (fun _ _=>rfl) ?_
  refine gx (an (an (an Jf @bI.eq_1) @List.map_cons.{0,0}) @hl') ?_
  refine ax [1770] rfl ?_
  simp [cv,cv1,cv0,upd,hO,lk,ae,bI,eX]
 | nil =>
  refine JH (fI Tryz.func44 rfl rfl) fun K vs hrd=>?_
  obtain ⟨hs,hg⟩:=hrd
  obtain ⟨a,c,hv⟩:∃ a c,vs.getD 0 undef=.slice a 0 c:=by
   have:=hg 0 _ rfl
   generalize vs.getD 0 undef=v at this
   cases this with
   | i hx =>
    cases hx with
    | e a c=>exact ⟨a,c,rfl⟩
    | sl b off cap sz es f h1 h2=>exact ⟨_,_,rfl⟩
  refine ⟨[.i (.s (.slice a 0 c))],?_,hs,fun j d hd=>?_⟩
  ·have hun:=aaR
   refine aa 8 Tryz.func44 rfl rfl rfl (fun _ _=>rfl) ?_
   cases a with
   | none =>
    (repeat (first | (simp -implicitDefEqProofs only [ev,mixed,Nat.reduceLT,Nat.reduceAdd,Nat.reduceMul,reduceIte,Nat.reduceEqDiff,reduceCtorEq,Nat.reducePow,Nat.reduceLeDiff,Int.reduceLE,Int.reduceLT,Int.reduceToNat,Int.reduceEq,Nat.reduceBEq,dV,gdA,af,gW,j_,ixQ,ldH,aD,aj,bC,faQ,exQ,kD,dN,bV,slQ,stH,kE,kF,aP,bq,ae,D.one,jC,dD,dW,cvH,Jf,dQ hun,Option.isNone_none]) | (with_reducible refine ⟨?_,?_⟩; (· first | (obtain ⟨rfl⟩:=‹Hq _ _›; with_reducible refine chk_ok ?_; kernel_rfl) | kernel_rfl)) | (with_reducible intro ops hops)))
    refine ax [] rfl ?_
    simp [cv,cv1,cv0,upd,bI]
   | some a =>
    (repeat (first | (simp -implicitDefEqProofs only [ev,mixed,Nat.reduceLT,Nat.reduceAdd,Nat.reduceMul,reduceIte,Nat.reduceEqDiff,reduceCtorEq,Nat.reducePow,Nat.reduceLeDiff,Int.reduceLE,Int.reduceLT,Int.reduceToNat,Int.reduceEq,Nat.reduceBEq,dV,gdA,af,gW,j_,ixQ,ldH,aD,aj,bC,faQ,exQ,kD,dN,bV,slQ,stH,kE,kF,aP,bq,ae,D.one,jC,dD,dW,cvH,Jf,dQ hun,Option.isNone_some]) | (with_reducible refine ⟨?_,?_⟩; (· first | (obtain ⟨rfl⟩:=‹Hq _ _›; with_reducible refine chk_ok ?_; kernel_rfl) | kernel_rfl)) | (with_reducible intro ops hops)))
    refine ax [1770] rfl ?_
    simp [cv,cv1,cv0,upd,hO,lk,ae,bI]
  ·cases j with
   | zero=>simp at hd; subst hd; rw [hv]; exact .i (.s _ rfl)
   | succ j=>simp at hd
structure dR where
 k:Nat
 p:Nat
structure oQ where
 c:ByteArray
 h:Int
 t:Int
 root:List UInt8
 vals:List UInt8
 next:List UInt8
structure jB where
 is:Bool
 r:Nat
 s:Nat
structure gU where
 hdr:oQ
 vals:List dR
 votes:List jB
def jd (v:dR):List I:=[.s (.int .u64 v.k),.s (.int .u64 v.p)]
def FQ (v:jB):List I:=[.s (.bool v.is),.s (.int .u64 v.r),.s (.int .u64 v.s)]
def valsI (l:List dR):I:=.sl (l.map jd)
def votesI (l:List jB):I:=.sl (l.map FQ)
def Ws (h:oQ):List I:=[.s (.string h.c),.s (.int .i64 h.h),.s (.int .i64 h.t),bI h.root,bI h.vals,bI h.next]
def Ol (h:oQ):D:=.agg [.i (.s (.string h.c)),.i (.s (.int .i64 h.h)),.i (.s (.int .i64 h.t)),.i (bI h.root),.i (bI h.vals),.i (bI h.next)]
def Sw (s:gU):List I:=[.s (.string s.hdr.c),.s (.int .i64 s.hdr.h),.s (.int .i64 s.hdr.t),bI s.hdr.root,bI s.hdr.vals,bI s.hdr.next,valsI s.vals,votesI s.votes]
def pF (s:gU):D:=.agg [.i (.s (.string s.hdr.c)),.i (.s (.int .i64 s.hdr.h)),.i (.s (.int .i64 s.hdr.t)),.i (bI s.hdr.root),.i (bI s.hdr.vals),.i (bI s.hdr.next),.i (valsI s.vals),.i (votesI s.votes)]
def abp (v:dR):D:=.agg [.i (.s (.int .u64 v.k)),.i (.s (.int .u64 v.p))]
def Wy:oQ:=⟨⟨#[]⟩,0,0,[],[],[]⟩
def Oy:gU:=⟨Wy,[],[]⟩
def vw (n:Int):Bool:=decide (0<=n/\n<=1000000000000)
def wJ:Option dR->List dR->Int
 | _,[]=>0
 | o,v :: t=>if (v.p:Int) < 1\/(1000000:Int) < v.p then 3 else if (o.any fun q=>decide ((v.k:Int)<=q.k))=true then 2 else wJ (some v) t
def jw (l:List dR):Int:=if (l.length:Int) < 1\/(10:Int) < l.length then 5 else wJ none l
def g_ (n:Nat):bP:=⟨1,n,[]⟩
def JF (b:List UInt8):bP:=⟨2,0,b⟩
def vo (l:List dR):List bP:=l.flatMap fun v=>[g_ v.k,g_ v.p]
def dh (l:List dR):List UInt8:=sha (bH (vo l)).1
def u64 (n:Int):Nat:=(n % 18446744073709551616).toNat
theorem u64_lt (n:Int):u64 n < 18446744073709551616:=by unfold u64; omega
theorem IP (n:Int):IntKind.u64.wrap n=(u64 n:Int):=by rw [IntKind.wrap_u64]; unfold u64; omega
def TC (h:oQ):List bP:=[JF (unB h.c),g_ (u64 h.h),g_ (u64 h.t),JF h.root,JF h.vals,JF h.next]
def dn (h:oQ):List UInt8:=(bH (TC h)).1
def fC (h:oQ):Int :=
 if jK h.c=true then
  (if h.h < 1\/¬ vw h.h=true\/¬ vw h.t=true then 3
  else if ¬ (h.root.length:Int)=32\/¬ (h.vals.length:Int)=32\/¬ (h.next.length:Int)=32 then 2 else 0)
 else 7
def kQ (h:oQ) (seeds:List (List UInt8)) (v:dR):jB :=
 seeds.foldl (fun x s=>if v.k=keyF s then ⟨true,Bp s (dn h),sigS s (dn h)⟩ else x) ⟨false,0,0⟩
def kG (h:oQ) (vals:List dR) (seeds:List (List UInt8)):gU × Int :=
 if fC h=0 then (if jw vals=0 then (if dh vals=h.vals then (⟨h,vals,vals.map (kQ h seeds)⟩,0) else (Oy,8)) else (Oy,jw vals)) else (Oy,fC h)
def zQ (l:List dR):Nat:=(l.map (·.p)).sum
def OB (q:dR × jB):Nat:=if q.2.is=true then q.1.p else 0
def Oa (l:List (dR × jB)):Nat:=(l.map OB).sum
def VA (b:List UInt8) (q:dR × jB):Bool:=q.2.is && !Qg q.1.k b q.2.r q.2.s
def SE (b:List UInt8) (l:List (dR × jB)):Bool:=l.any (VA b)
def oG (s:gU):Int :=
 if fC s.hdr=0 then (if jw s.vals=0 then (if (s.votes.length:Int)=s.vals.length then (if dh s.vals=s.hdr.vals then
  (if SE (dn s.hdr) (s.vals.zip s.votes)=true then 10 else if 3 * (Oa (s.vals.zip s.votes):Int)<=2 * (zQ s.vals:Int) then 10 else 0) else 8) else 8) else jw s.vals) else fC s.hdr
def Lh (t:dR) (q:dR × jB):Nat:=if q.1.k=t.k/\q.2.is=true then t.p else 0
def Oj (l:List (dR × jB)) (t:dR):Nat:=(l.map (Lh t)).sum
def yu (l:List (dR × jB)) (tr:List dR):Nat:=(tr.map (Oj l)).sum
def Ps (tr:List dR) (s:gU):Bool:=decide (zQ tr < 3 * yu (s.vals.zip s.votes) tr)
theorem nX {α:Type} {l:List α} {f:α->Nat} {i:Nat} (h:i < l.length):((l.take (i+1)).map f).sum=((l.take i).map f).sum+f l[i]:=by
 rw [List.take_succ_eq_append_getElem h,List.map_append,List.sum_append]; simp
theorem Rc {α:Type} {l:List α} {f:α->Bool} {i:Nat} (h:i < l.length):(l.take (i+1)).any f=((l.take i).any f || f l[i]):=by
 rw [List.take_succ_eq_append_getElem h,List.any_append]; simp
theorem qF {α:Type} {f:α->Nat} {k:Nat}:∀ {l:List α},(∀ x∈l,f x<=k)->(l.map f).sum<=l.length * k
 | [],_=>by simp
 | a :: t,h=>by
  have:=qF (l:=t) (fun x hx=>h x (List.mem_cons_of_mem _ hx))
  have:=h a (List.mem_cons_self ..)
  simp only [List.map_cons,List.sum_cons,List.length_cons,Nat.add_mul]; omega
theorem wZ {α:Type} {l:List α} {P:α->Prop} {i:Nat} (h:∀ x∈l,P x):∀ x∈l.take i,P x:=fun x hx=>h x (List.mem_of_mem_take hx)
structure oK (l:List dR):Prop where
 len:1<=l.length/\l.length<=10
 pow:∀ v∈l,1<=v.p/\v.p<=1000000
 rise:l.Pairwise fun a b=>a.k < b.k
theorem vH:∀ {o:Option dR} {l:List dR},wJ o l=0↔(∀ v∈l,1<=v.p/\v.p<=1000000)/\l.Pairwise (fun a b=>a.k < b.k)/\(∀ q,o=some q->∀ v∈l,q.k < v.k)
 | o,[]=>by simp [wJ]
 | o,v :: t=>by
  rw [wJ]
  have ih:=vH (o:=some v) (l:=t)
  by_cases h1:(v.p:Int) < 1\/(1000000:Int) < v.p
  ·rw [if_pos h1]
   constructor
   ·intro h; cases h
   ·rintro ⟨h,_⟩; have:=h v (List.mem_cons_self ..); omega
  ·rw [if_neg h1]
   by_cases h2:(o.any fun q=>decide ((v.k:Int)<=q.k))=true
   ·rw [if_pos h2]
    constructor
    ·intro h; cases h
    ·rintro ⟨_,_,h⟩
     cases o with
     | none=>simp at h2
     | some q=>have:=h q rfl v (List.mem_cons_self ..); simp at h2; omega
   ·rw [if_neg h2,ih]
    constructor
    ·rintro ⟨a,b,c⟩
     refine ⟨fun x hx=>?_,List.pairwise_cons.2 ⟨c v rfl,b⟩,fun q hq x hx=>?_⟩
     ·rcases List.mem_cons.1 hx with rfl | hx
      ·omega
      ·exact a x hx
     ·subst hq
      simp at h2
      rcases List.mem_cons.1 hx with rfl | hx
      ·omega
      ·have:=c v rfl x hx; omega
    ·rintro ⟨a,b,c⟩
     have hb:=List.pairwise_cons.1 b
     exact ⟨fun x hx=>a x (List.mem_cons_of_mem _ hx),hb.2,fun q hq=>by injection hq with hq; subst hq; exact hb.1⟩
theorem jF {l:List dR}:jw l=0↔oK l:=by
 unfold jw
 by_cases h:(l.length:Int) < 1\/(10:Int) < l.length
 ·rw [if_pos h]
  constructor
  ·intro h; cases h
  ·intro r; have:=r.len; omega
 ·rw [if_neg h,vH]
  constructor
  ·rintro ⟨a,b,_⟩; exact ⟨by omega,a,b⟩
  ·intro r; exact ⟨r.pow,r.rise,fun q hq=>by cases hq⟩
theorem w_ {l:List dR} (h:oK l) (i:Nat):zQ (l.take i)<=10000000:=by
 have h1:=qF (f:=fun v:dR=>v.p) (k:=1000000) (l:=l.take i) (wZ fun v hv=>(h.pow v hv).2)
 have h2:=h.len
 have h3:(l.take i).length<=10:=by rw [List.length_take]; omega
 unfold zQ
 have:(l.take i).length * 1000000<=10 * 1000000:=Nat.mul_le_mul_right _ h3
 omega
attribute [local simp,local go_sem] intD boolD sD
theorem qP (n:Int):PureD Tryz.prog 79 [intD n] (boolD (vw n)):=by
 refine au fun R hR=>?_
 unfold vw at hR
 refine aa 9 Tryz.func79 rfl rfl rfl (fun _ _=>rfl) ?_
 exact wkl trivial
theorem YX (s:ByteArray) (k:Nat):(byS s k).toNat < 256:=(byS s k).toNat_lt
theorem C_ (s:ByteArray):PureD Tryz.prog 78 [sD s] (boolD (jK s)):=by
 refine au fun R hR=>?_
 unfold jK at hR
 by_cases h0:1<=s.size
 rotate_left
 ·have h1:(s.size:Int) < 1:=by omega
  simp only [h0,decide_false,Bool.false_and] at hR
  refine aa 36 Tryz.func78 rfl rfl rfl (fun _ _=>rfl) ?_
  exact wkl trivial
 by_cases h1:s.size<=20
 rotate_left
 ·have h2:(20:Int) < (s.size:Int):=by omega
  have h3:¬ (s.size:Int) < 1:=by omega
  simp only [h0,h1,decide_false,decide_true,Bool.true_and,Bool.false_and] at hR
  refine aa 36 Tryz.func78 rfl rfl rfl (fun _ _=>rfl) ?_
  exact wkl trivial
 have h2:¬ (20:Int) < (s.size:Int):=by omega
 have h3:¬ (s.size:Int) < 1:=by omega
 simp only [h0,h1,decide_true,Bool.true_and] at hR
 refine aa 36 Tryz.func78 rfl rfl rfl (fun _ _=>rfl) ?_
 refine wkl ?_
 clear hR; intro hR
 repeat' (intro _)
 refine aW (ι:=Nat) (fun i=>i<=s.size/\∀ k,k < i->oo (byS s k)=true)
  (fun i=>dZ [(0,sD s),(2,.i (.s (.bool false))),(14,intD s.size),(15,intD i)] []) (fun i=>s.size - i) 0 ⟨Nat.zero_le _,fun k hk=>by omega⟩ ?_ ?_
 ·exact dK [] []
 ·rintro i ⟨hi,hk⟩ RL hL
  rw [ak]
  by_cases h:i < s.size
  ·have w0:=YX s i
   by_cases hb:oo (byS s i)=true
   ·have hk':∀ k,k < i+1->oo (byS s k)=true:=fun k hk'=>by
     rcases Nat.lt_or_ge k i with h1 | h1
     ·exact hk k h1
     ·obtain rfl:k=i:=by omega
      exact hb
    have b1:=fun σ'=>bk [] [] (hL (i+1) σ' ⟨h,hk'⟩)
    clear hk hR hL hk'
    unfold oo inR at hb
    simp only [Bool.or_eq_true,decide_eq_true_eq] at hb
    exact wkl trivial
   ·have hRf:Hr (boolD false) R:=by
     have:((List.range s.size).all fun k=>oo (byS s k))=false:=by
      rw [List.all_eq_false]; exact ⟨i,List.mem_range.2 h,hb⟩
     rw [this] at hR; exact hR
    clear hk hR hL
    rename Hr _ _=>hR
    unfold oo inR at hb
    simp only [Bool.or_eq_true,decide_eq_true_eq] at hb
    exact wkl trivial
  ·have hRt:Hr (boolD true) R:=by
    have:((List.range s.size).all fun k=>oo (byS s k))=true:=by
     rw [List.all_eq_true]
     intro k hk'
     exact hk k (by have:=List.mem_range.1 hk'; omega)
    rw [this] at hR; exact hR
   clear hk hR hL
   rename Hr _ _=>hR
   exact wkl trivial
structure abl (h:oQ) (l:List dR):Prop where
 w:fC h=0
 v:oK l
 d:dh l=h.vals
end Go.Proofs.YtfenipelcpmkpaaGreatDoor
