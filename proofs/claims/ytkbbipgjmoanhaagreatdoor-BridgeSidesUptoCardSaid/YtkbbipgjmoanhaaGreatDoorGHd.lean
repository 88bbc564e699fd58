/- Merged texts: Cmp, HdP, HdA, HdL. -/
import Derived.Lib.BytesEntry
import Derived.Laws.Externs
import Derived.Test.YtkbbipgjmoanhaaGreatDoorGSeal
import Derived.Test.YtkbbipgjmoanhaaGreatDoorGWire
import Derived.Test.YtkbbipgjmoanhaaGreatDoorG0
set_option linter.all false
set_option maxHeartbeats 4000000
namespace Go.Proofs.YtkbbipgjmoanhaaGreatDoor
open Go Go.Abs Go.RowKit Go.Proofs.YtkbbipgjmoanhaaGreatDoor.Ty
theorem Qs:(type_of% @Ty.T5)/\(type_of% @Ty.T38):=⟨@Ty.T5,@Ty.T38⟩
theorem Vz:(type_of% @Ty.T5)/\(type_of% @Ty.T9)/\(type_of% @Ty.T38):=⟨@Ty.T5,@Ty.T9,@Ty.T38⟩
theorem HZ:(type_of% @Ty.T0)/\(type_of% @Ty.T5)/\(type_of% @Ty.T38):=⟨@Ty.T0,@Ty.T5,@Ty.T38⟩
theorem n_ {P:Program} {K:Ctx} {v:Value} {l:List UInt8} (h:VD K v (.i (bI l))):(Extern.Bytes.bytesOf v).run P K.w=.ok ⟨l.toArray⟩ K.w:=by
 cases h with
 | i hx =>
  generalize hy:bI l=y at hx
  cases hx with
  | s v h=>simp [bI] at hy
  | e a cap =>
   have:l=[]:=by cases l with
    | nil=>rfl
    | cons b t=>simp [bI] at hy
   subst this
   cases a with
   | none=>rfl
   | some a=>rfl
  | sl b off cap sz es f hS hc hz hsz hcell hv =>
   have hes:es=l.map af:=by simpa [bI] using hy.symm
   subst hes
   have hfl:∀ (l:List UInt8) (j:Nat),(l.map af).flatten[j]?=(l[j]?).map fun b=>I.s (.int .u8 (b.toNat:Int)):=by
    intro l
    induction l with
    | nil=>intro j; simp
    | cons a t ih =>
     intro j
     cases j with
     | zero=>simp [af]
     | succ j=>simpa [af] using ih j
   have hl:=Lib.run_loadBytesX (P:=P) K.w (l.map fun b=>(b.toNat:Int)) ⟨b,off,none⟩ .empty (fun j x hj=>by
    rw [List.getElem?_map] at hj
    cases hb:l[j]? with
    | none=>simp [hb] at hj
    | some c =>
     simp [hb] at hj
     have hf:(l.map af).flatten[j]?=some (.s (.int .u8 (c.toNat:Int))):=by rw [hfl,hb]; rfl
     have h1:=hcell j _ hf
     have h2:=hv j _ hf
     have e:(⟨b,off,none⟩:Addr).add j=⟨b,off+j,none⟩:=by unfold Addr.add; split <;> simp_all
     rw [e,h1,<- hj]
     generalize f j=u at h2
     cases h2; rfl)
   have hb:Lib.bytesOf (l.map fun b=>(b.toNat:Int))=l:=by
    simp only [Lib.bytesOf,List.map_map]
    conv=>rhs; rw [<- List.map_id l]
    refine List.map_congr_left fun c _=>?_
    show UInt8.ofNat ((c.toNat:Int)).toNat=c
    rw [Int.toNat_natCast]; simp
   rw [hb,List.length_map] at hl
   show (Extern.Bytes.loadBytes ⟨b,off,none⟩ (l.map af).length .empty).run P K.w=_
   rw [List.length_map,hl]
   congr 1
   apply ByteArray.ext
   show (#[]:Array UInt8)++l.toArray=l.toArray
   simp
theorem XG (a b:List UInt8) (G:Nat->Ob):Qj Tryz.prog 143 [.i (bI a),.i (bI b)] G (.i (.s (.int .i64 (Lib.compareBytes a b)))) G:=by
 intro K0 T K vs hr hrd
 obtain ⟨hs,hg⟩:=hrd
 have e:vs=#[vs.getD 0 undef,vs.getD 1 undef]:=by
  apply Array.ext
  ·simpa using hs
  ·intro i h1 h2
   simp at hs
   have:i=0\/i=1:=by omega
   rcases this with rfl | rfl <;> simp [Array.getD,hs]
 have h1:=n_ (P:=Tryz.prog) (hg 0 _ rfl)
 have h2:=n_ (P:=Tryz.prog) (hg 1 _ rfl)
 rw [e]
 refine ⟨.int .i64 (Lib.compareBytes a b),K,?_,Ext.refl K,hr,.i (.s _ rfl)⟩
 rw [run_callFunc_extern Tryz.func143 (by kernel_rfl) (by kernel_rfl) (by kernel_rfl) (e:=Extern.BytealgCompare.compare) (by kernel_rfl)]
 show ((Sem.run Tryz.prog (do pure (goInt (Extern.BytealgCompare.cmp (<- Extern.Bytes.bytesOf (vs.getD 0 undef)) (<- Extern.Bytes.bytesOf (vs.getD 1 undef)))):Sem Value) K.w).andThen fun v w'=>Result.ok (Next.value v) w')=_
 simp only [Sem.run_bind,Sem.run_pure,h1,h2,Result.andThen_ok,Lib.cmp_eq]
 rfl
theorem Gv (a b:List UInt8):PureD Tryz.prog 85 [.i (bI a),.i (bI b)] (.i (.s (.int .i64 (Lib.compareBytes a b)))):=by
 refine aa 8 Tryz.func85 rfl rfl rfl (fun _ _=>rfl) ?_
 refine gx Qs ?_
 refine je (XG a b) ?_
 refine gx Qs ?_
 refine aB [] rfl ?_
 simp [cv,cv1,cv0,upd]
theorem WF (a b:List UInt8):((⟨a.toArray⟩:ByteArray) == ⟨b.toArray⟩)=decide (a=b):=by
 show ((a.toArray:Array UInt8) == b.toArray)=_
 rw [List.beq_toArray]
 by_cases h:a=b
 ·subst h; simp
 ·rw [decide_eq_false h]; exact beq_eq_false_iff_ne.2 h
theorem fZ (a b:List UInt8):PureD Tryz.prog 56 [.i (bI a),.i (bI b)] (.i (.s (.bool (decide (a=b))))):=by
 refine aa 10 Tryz.func56 rfl rfl rfl (fun _ _=>rfl) ?_
 refine gx (an (an (an (an (an Vz @bI.eq_1) @uY) @lX) @WF) @lS) ?_
 refine aB [] rfl ?_
 simp [cv,cv1,cv0,upd]
theorem dN (l:List UInt8) (hl:l.length<=140737488355328):PureD Tryz.prog 62 [.i (bI l)] (.i (bI l)):=by
 cases l with
 | cons b t =>
  have hl':t.length<=140737488355327:=by simp at hl; omega
  refine aa 8 Tryz.func62 rfl rfl rfl (fun _ _=>rfl) ?_
  refine gx (an (an (an HZ @bI.eq_1) @List.map_cons.{0,0}) @hl') ?_
  refine aB [1770] rfl ?_
  simp [cv,cv1,cv0,upd,hO,lk,ae,bI,eO]
 | nil =>
  refine IG (fE Tryz.func62 rfl rfl) fun K vs hrd=>?_
  obtain ⟨hs,hg⟩:=hrd
  obtain ⟨a,c,hv⟩:∃ a c,vs.getD 0 undef=.slice a 0 c:=by
   have:=hg 0 _ rfl
   generalize vs.getD 0 undef=v at this
   cases this with
   | i hx =>
    cases hx with
    | e a c=>exact ⟨a,c,rfl⟩
    | sl b off cap sz es f h1 h2=>exact ⟨_,_,rfl⟩
  refine ⟨[.i (.s (.slice a 0 c))],?_,hs,fun j d hd=>?_⟩
  ·have hun:=Zp
   refine aa 8 Tryz.func62 rfl rfl rfl (fun _ _=>rfl) ?_
   cases a with
   | none =>
    (repeat (first | (simp -implicitDefEqProofs only [ev,mixed,Nat.reduceLT,Nat.reduceAdd,Nat.reduceMul,reduceIte,Nat.reduceEqDiff,reduceCtorEq,Nat.reducePow,Nat.reduceLeDiff,Int.reduceLE,Int.reduceLT,Int.reduceToNat,Int.reduceEq,Nat.reduceBEq,ek,gdA,af,ic,kQ,ixQ,ldH,aC,ak,bG,faQ,exQ,lQ,dR,bS,slQ,stH,lW,lY,aO,bi,ae,D.one,jY,dM,eB,cvH,HZ,dH hun,Option.isNone_none]) | (with_reducible refine ⟨?_,?_⟩; (· first | (obtain ⟨rfl⟩:=‹Hq _ _›; with_reducible refine chk_ok ?_; kernel_rfl) | kernel_rfl)) | (with_reducible intro ops hops)))
    refine aB [] rfl ?_
    simp [cv,cv1,cv0,upd,bI]
   | some a =>
    (repeat (first | (simp -implicitDefEqProofs only [ev,mixed,Nat.reduceLT,Nat.reduceAdd,Nat.reduceMul,reduceIte,Nat.reduceEqDiff,reduceCtorEq,Nat.reducePow,Nat.reduceLeDiff,Int.reduceLE,Int.reduceLT,Int.reduceToNat,Int.reduceEq,Nat.reduceBEq,ek,gdA,af,ic,kQ,ixQ,ldH,aC,ak,bG,faQ,exQ,lQ,dR,bS,slQ,stH,lW,lY,aO,bi,ae,D.one,jY,dM,eB,cvH,HZ,dH hun,Option.isNone_some]) | (with_reducible refine ⟨?_,?_⟩; (· first | (obtain ⟨rfl⟩:=‹Hq _ _›; with_reducible refine chk_ok ?_; kernel_rfl) | kernel_rfl)) | (with_reducible intro ops hops)))
    refine aB [1770] rfl ?_
    simp [cv,cv1,cv0,upd,hO,lk,ae,bI]
  ·cases j with
   | zero=>simp at hd; subst hd; rw [hv]; exact .i (.s _ rfl)
   | succ j=>simp at hd
structure dI where
 k:Nat
 p:Nat
structure oq where
 c:ByteArray
 h:Int
 t:Int
 root:List UInt8
 vals:List UInt8
 next:List UInt8
structure jk where
 is:Bool
 r:Nat
 s:Nat
structure gH where
 hdr:oq
 vals:List dI
 votes:List jk
def encV (v:dI):List I:=[.s (.int .u64 v.k),.s (.int .u64 v.p)]
def encX (v:jk):List I:=[.s (.bool v.is),.s (.int .u64 v.r),.s (.int .u64 v.s)]
def valsI (l:List dI):I:=.sl (l.map encV)
def votesI (l:List jk):I:=.sl (l.map encX)
def encH (h:oq):List I:=[.s (.string h.c),.s (.int .i64 h.h),.s (.int .i64 h.t),bI h.root,bI h.vals,bI h.next]
def hdrD (h:oq):D:=.agg [.i (.s (.string h.c)),.i (.s (.int .i64 h.h)),.i (.s (.int .i64 h.t)),.i (bI h.root),.i (bI h.vals),.i (bI h.next)]
def encS (s:gH):List I:=[.s (.string s.hdr.c),.s (.int .i64 s.hdr.h),.s (.int .i64 s.hdr.t),bI s.hdr.root,bI s.hdr.vals,bI s.hdr.next,valsI s.vals,votesI s.votes]
def signedD (s:gH):D:=.agg [.i (.s (.string s.hdr.c)),.i (.s (.int .i64 s.hdr.h)),.i (.s (.int .i64 s.hdr.t)),.i (bI s.hdr.root),.i (bI s.hdr.vals),.i (bI s.hdr.next),.i (valsI s.vals),.i (votesI s.votes)]
def ZN (v:dI):D:=.agg [.i (.s (.int .u64 v.k)),.i (.s (.int .u64 v.p))]
def zeroH:oq:=⟨⟨#[]⟩,0,0,[],[],[]⟩
def zeroS:gH:=⟨zeroH,[],[]⟩
def uG (n:Int):Bool:=decide (0<=n/\n<=1000000000000)
def vM:Option dI->List dI->Int
 | _,[]=>0
 | o,v :: t=>if (v.p:Int) < 1\/(1000000:Int) < v.p then 3 else if (o.any fun q=>decide ((v.k:Int)<=q.k))=true then 2 else vM (some v) t
def jf (l:List dI):Int:=if (l.length:Int) < 1\/(10:Int) < l.length then 5 else vM none l
def numP (n:Nat):bU:=⟨1,n,[]⟩
def IC (b:List UInt8):bU:=⟨2,0,b⟩
def uE (l:List dI):List bU:=l.flatMap fun v=>[numP v.k,numP v.p]
def bX (l:List dI):List UInt8:=sha (bZ (uE l)).1
def u64 (n:Int):Nat:=(n % 18446744073709551616).toNat
theorem u64_lt (n:Int):u64 n < 18446744073709551616:=by unfold u64; omega
theorem wrap_u (n:Int):IntKind.u64.wrap n=(u64 n:Int):=by rw [IntKind.wrap_u64]; unfold u64; omega
def RY (h:oq):List bU:=[IC (unB h.c),numP (u64 h.h),numP (u64 h.t),IC h.root,IC h.vals,IC h.next]
def cu (h:oq):List UInt8:=(bZ (RY h)).1
def fo (h:oq):Int :=
 if mi h.c=true then
  (if h.h < 1\/¬ uG h.h=true\/¬ uG h.t=true then 3
  else if ¬ (h.root.length:Int)=32\/¬ (h.vals.length:Int)=32\/¬ (h.next.length:Int)=32 then 2 else 0)
 else 7
def kE (h:oq) (seeds:List (List UInt8)) (v:dI):jk :=
 seeds.foldl (fun x s=>if v.k=keyF s then ⟨true,AB s (cu h),sigS s (cu h)⟩ else x) ⟨false,0,0⟩
def ko (h:oq) (vals:List dI) (seeds:List (List UInt8)):gH × Int :=
 if fo h=0 then (if jf vals=0 then (if bX vals=h.vals then (⟨h,vals,vals.map (kE h seeds)⟩,0) else (zeroS,8)) else (zeroS,jf vals)) else (zeroS,fo h)
def zk (l:List dI):Nat:=(l.map (·.p)).sum
def Nu (q:dI × jk):Nat:=if q.2.is=true then q.1.p else 0
def MZ (l:List (dI × jk)):Nat:=(l.map Nu).sum
def Ut (b:List UInt8) (q:dI × jk):Bool:=q.2.is && !O_ q.1.k b q.2.r q.2.s
def Rc (b:List UInt8) (l:List (dI × jk)):Bool:=l.any (Ut b)
def nY (s:gH):Int :=
 if fo s.hdr=0 then (if jf s.vals=0 then (if (s.votes.length:Int)=s.vals.length then (if bX s.vals=s.hdr.vals then
  (if Rc (cu s.hdr) (s.vals.zip s.votes)=true then 10 else if 3 * (MZ (s.vals.zip s.votes):Int)<=2 * (zk s.vals:Int) then 10 else 0) else 8) else 8) else jf s.vals) else fo s.hdr
def J_ (t:dI) (q:dI × jk):Nat:=if q.1.k=t.k/\q.2.is=true then t.p else 0
def Nh (l:List (dI × jk)) (t:dI):Nat:=(l.map (J_ t)).sum
def xM (l:List (dI × jk)) (tr:List dI):Nat:=(tr.map (Nh l)).sum
def Og (tr:List dI) (s:gH):Bool:=decide (zk tr < 3 * xM (s.vals.zip s.votes) tr)
theorem nH {α:Type} {l:List α} {f:α->Nat} {i:Nat} (h:i < l.length):((l.take (i+1)).map f).sum=((l.take i).map f).sum+f l[i]:=by
 rw [List.take_succ_eq_append_getElem h,List.map_append,List.sum_append]; simp
theorem Qc {α:Type} {l:List α} {f:α->Bool} {i:Nat} (h:i < l.length):(l.take (i+1)).any f=((l.take i).any f || f l[i]):=by
 rw [List.take_succ_eq_append_getElem h,List.any_append]; simp
theorem qc {α:Type} {f:α->Nat} {k:Nat}:∀ {l:List α},(∀ x∈l,f x<=k)->(l.map f).sum<=l.length * k
 | [],_=>by simp
 | a :: t,h=>by
  have:=qc (l:=t) (fun x hx=>h x (List.mem_cons_of_mem _ hx))
  have:=h a (List.mem_cons_self ..)
  simp only [List.map_cons,List.sum_cons,List.length_cons,Nat.add_mul]; omega
theorem wz {α:Type} {l:List α} {P:α->Prop} {i:Nat} (h:∀ x∈l,P x):∀ x∈l.take i,P x:=fun x hx=>h x (List.mem_of_mem_take hx)
structure og (l:List dI):Prop where
 len:1<=l.length/\l.length<=10
 pow:∀ v∈l,1<=v.p/\v.p<=1000000
 rise:l.Pairwise fun a b=>a.k < b.k
theorem uQ:∀ {o:Option dI} {l:List dI},vM o l=0↔(∀ v∈l,1<=v.p/\v.p<=1000000)/\l.Pairwise (fun a b=>a.k < b.k)/\(∀ q,o=some q->∀ v∈l,q.k < v.k)
 | o,[]=>by simp [vM]
 | o,v :: t=>by
  rw [vM]
  have ih:=uQ (o:=some v) (l:=t)
  by_cases h1:(v.p:Int) < 1\/(1000000:Int) < v.p
  ·rw [if_pos h1]
   constructor
   ·intro h; cases h
   ·rintro ⟨h,_⟩; have:=h v (List.mem_cons_self ..); omega
  ·rw [if_neg h1]
   by_cases h2:(o.any fun q=>decide ((v.k:Int)<=q.k))=true
   ·rw [if_pos h2]
    constructor
    ·intro h; cases h
    ·rintro ⟨_,_,h⟩
     cases o with
     | none=>simp at h2
     | some q=>have:=h q rfl v (List.mem_cons_self ..); simp at h2; omega
   ·rw [if_neg h2,ih]
    constructor
    ·rintro ⟨a,b,c⟩
     refine ⟨fun x hx=>?_,List.pairwise_cons.2 ⟨c v rfl,b⟩,fun q hq x hx=>?_⟩
     ·rcases List.mem_cons.1 hx with rfl | hx
      ·omega
      ·exact a x hx
     ·subst hq
      simp at h2
      rcases List.mem_cons.1 hx with rfl | hx
      ·omega
      ·have:=c v rfl x hx; omega
    ·rintro ⟨a,b,c⟩
     have hb:=List.pairwise_cons.1 b
     exact ⟨fun x hx=>a x (List.mem_cons_of_mem _ hx),hb.2,fun q hq=>by injection hq with hq; subst hq; exact hb.1⟩
theorem jr {l:List dI}:jf l=0↔og l:=by
 unfold jf
 by_cases h:(l.length:Int) < 1\/(10:Int) < l.length
 ·rw [if_pos h]
  constructor
  ·intro h; cases h
  ·intro r; have:=r.len; omega
 ·rw [if_neg h,uQ]
  constructor
  ·rintro ⟨a,b,_⟩; exact ⟨by omega,a,b⟩
  ·intro r; exact ⟨r.pow,r.rise,fun q hq=>by cases hq⟩
theorem wC {l:List dI} (h:og l) (i:Nat):zk (l.take i)<=10000000:=by
 have h1:=qc (f:=fun v:dI=>v.p) (k:=1000000) (l:=l.take i) (wz fun v hv=>(h.pow v hv).2)
 have h2:=h.len
 have h3:(l.take i).length<=10:=by rw [List.length_take]; omega
 unfold zk
 have:(l.take i).length * 1000000<=10 * 1000000:=Nat.mul_le_mul_right _ h3
 omega
theorem qm (n:Int):PureD Tryz.prog 103 [intD n] (boolD (uG n)):=by
 refine aj fun R hR=>?_
 unfold uG at hR
 refine aa 9 Tryz.func103 rfl rfl rfl (fun _ _=>rfl) ?_
 (repeat' (first | (simp -implicitDefEqProofs only [go_sem,Nat.reduceLT,Nat.reduceAdd,Nat.reduceMul,reduceIte,Nat.reduceEqDiff,reduceCtorEq,Nat.reducePow,Nat.reduceLeDiff,Int.reduceLE,Int.reduceLT,Int.reduceToNat,Int.reduceEq,Nat.reduceBEq,intD,boolD, *]) | (with_reducible refine ⟨?_,?_⟩; (· first | (obtain ⟨rfl⟩:=‹Hq _ _›; with_reducible refine chk_ok ?_; kernel_rfl) | kernel_rfl)) | (with_reducible intro ops hops) | (simp -implicitDefEqProofs (disch:=omega) only [wr64,wru64,get_lt]) | ((first | refine Wc_split (fun hg=>?_) (fun hg=>?_) | refine RoG_split (fun hg=>?_) (fun hg=>?_) | refine RdG_split (fun hg=>?_) (fun hg=>?_)) <;> (try simp only [nrm] at hg) <;> (try simp only [hg,lgc,reduceIte,reduceCtorEq] at hR) <;> (try (exfalso; omega))) | ((try simp only [*,lgc,reduceIte,reduceCtorEq] at hR); obtain ⟨rfl⟩:=hR; refine fin_q (rs:=[.tmp 2]) rfl ?_; (try simp only [go_sem,Nat.reduceLT,Nat.reduceAdd,Nat.reduceMul,reduceIte,Nat.reduceEqDiff,reduceCtorEq,Nat.reducePow,Nat.reduceLeDiff,Int.reduceLE,Int.reduceLT,Int.reduceToNat,Int.reduceEq,Nat.reduceBEq,intD,boolD]); (simp [intD,boolD]; done))))
theorem XI (s:ByteArray) (k:Nat):(byS s k).toNat < 256:=(byS s k).toNat_lt
theorem Co (s:ByteArray):PureD Tryz.prog 102 [sD s] (boolD (mi s)):=by
 refine aj fun R hR=>?_
 unfold mi at hR
 by_cases h0:1<=s.size
 rotate_left
 ·have h1:(s.size:Int) < 1:=by omega
  simp only [h0,decide_false,Bool.false_and] at hR
  refine aa 36 Tryz.func102 rfl rfl rfl (fun _ _=>rfl) ?_
  (repeat' (first | (simp -implicitDefEqProofs only [go_sem,Nat.reduceLT,Nat.reduceAdd,Nat.reduceMul,reduceIte,Nat.reduceEqDiff,reduceCtorEq,Nat.reducePow,Nat.reduceLeDiff,Int.reduceLE,Int.reduceLT,Int.reduceToNat,Int.reduceEq,Nat.reduceBEq,sD,boolD, *]) | (with_reducible refine ⟨?_,?_⟩; (· first | (obtain ⟨rfl⟩:=‹Hq _ _›; with_reducible refine chk_ok ?_; kernel_rfl) | kernel_rfl)) | (with_reducible intro ops hops) | (simp -implicitDefEqProofs (disch:=omega) only [wr64,wru64,get_lt]) | ((first | refine Wc_split (fun hg=>?_) (fun hg=>?_) | refine RoG_split (fun hg=>?_) (fun hg=>?_) | refine RdG_split (fun hg=>?_) (fun hg=>?_)) <;> (try simp only [nrm] at hg) <;> (try simp only [hg,lgc,reduceIte,reduceCtorEq] at hR) <;> (try (exfalso; omega))) | ((try simp only [*,lgc,reduceIte,reduceCtorEq] at hR); obtain ⟨rfl⟩:=hR; refine fin_q (rs:=[.tmp 2]) rfl ?_; (try simp only [go_sem,Nat.reduceLT,Nat.reduceAdd,Nat.reduceMul,reduceIte,Nat.reduceEqDiff,reduceCtorEq,Nat.reducePow,Nat.reduceLeDiff,Int.reduceLE,Int.reduceLT,Int.reduceToNat,Int.reduceEq,Nat.reduceBEq,sD,boolD]); (simp [sD,boolD]; done))))
 by_cases h1:s.size<=20
 rotate_left
 ·have h2:(20:Int) < (s.size:Int):=by omega
  have h3:¬ (s.size:Int) < 1:=by omega
  simp only [h0,h1,decide_false,decide_true,Bool.true_and,Bool.false_and] at hR
  refine aa 36 Tryz.func102 rfl rfl rfl (fun _ _=>rfl) ?_
  (repeat' (first | (simp -implicitDefEqProofs only [go_sem,Nat.reduceLT,Nat.reduceAdd,Nat.reduceMul,reduceIte,Nat.reduceEqDiff,reduceCtorEq,Nat.reducePow,Nat.reduceLeDiff,Int.reduceLE,Int.reduceLT,Int.reduceToNat,Int.reduceEq,Nat.reduceBEq,sD,boolD, *]) | (with_reducible refine ⟨?_,?_⟩; (· first | (obtain ⟨rfl⟩:=‹Hq _ _›; with_reducible refine chk_ok ?_; kernel_rfl) | kernel_rfl)) | (with_reducible intro ops hops) | (simp -implicitDefEqProofs (disch:=omega) only [wr64,wru64,get_lt]) | ((first | refine Wc_split (fun hg=>?_) (fun hg=>?_) | refine RoG_split (fun hg=>?_) (fun hg=>?_) | refine RdG_split (fun hg=>?_) (fun hg=>?_)) <;> (try simp only [nrm] at hg) <;> (try simp only [hg,lgc,reduceIte,reduceCtorEq] at hR) <;> (try (exfalso; omega))) | ((try simp only [*,lgc,reduceIte,reduceCtorEq] at hR); obtain ⟨rfl⟩:=hR; refine fin_q (rs:=[.tmp 2]) rfl ?_; (try simp only [go_sem,Nat.reduceLT,Nat.reduceAdd,Nat.reduceMul,reduceIte,Nat.reduceEqDiff,reduceCtorEq,Nat.reducePow,Nat.reduceLeDiff,Int.reduceLE,Int.reduceLT,Int.reduceToNat,Int.reduceEq,Nat.reduceBEq,sD,boolD]); (simp [sD,boolD]; done))))
 have h2:¬ (20:Int) < (s.size:Int):=by omega
 have h3:¬ (s.size:Int) < 1:=by omega
 simp only [h0,h1,decide_true,Bool.true_and] at hR
 refine aa 36 Tryz.func102 rfl rfl rfl (fun _ _=>rfl) ?_
 (repeat' (first | (simp -implicitDefEqProofs only [go_sem,Nat.reduceLT,Nat.reduceAdd,Nat.reduceMul,reduceIte,Nat.reduceEqDiff,reduceCtorEq,Nat.reducePow,Nat.reduceLeDiff,Int.reduceLE,Int.reduceLT,Int.reduceToNat,Int.reduceEq,Nat.reduceBEq,sD,boolD, *]) | (with_reducible refine ⟨?_,?_⟩; (· first | (obtain ⟨rfl⟩:=‹Hq _ _›; with_reducible refine chk_ok ?_; kernel_rfl) | kernel_rfl)) | (with_reducible intro ops hops) | (simp -implicitDefEqProofs (disch:=omega) only [wr64,wru64,get_lt]) | ((first | refine Wc_split (fun hg=>?_) (fun hg=>?_) | refine RoG_split (fun hg=>?_) (fun hg=>?_) | refine RdG_split (fun hg=>?_) (fun hg=>?_)) <;> (try simp only [nrm] at hg) <;> (try simp only [hg,lgc,reduceIte,reduceCtorEq] at hR) <;> (try (exfalso; omega))) | ((try simp only [*,lgc,reduceIte,reduceCtorEq] at hR); obtain ⟨rfl⟩:=hR; refine fin_q (rs:=[.tmp 2]) rfl ?_; (try simp only [go_sem,Nat.reduceLT,Nat.reduceAdd,Nat.reduceMul,reduceIte,Nat.reduceEqDiff,reduceCtorEq,Nat.reducePow,Nat.reduceLeDiff,Int.reduceLE,Int.reduceLT,Int.reduceToNat,Int.reduceEq,Nat.reduceBEq,sD,boolD]); (simp [sD,boolD]; done))))
 refine cz (ι:=Nat) (fun i=>i<=s.size/\∀ k,k < i->zO (byS s k)=true)
  (fun i=>dW [(0,sD s),(2,.i (.s (.bool false))),(14,intD s.size),(15,intD i)] []) (fun i=>s.size - i) 0 ⟨Nat.zero_le _,fun k hk=>by omega⟩ ?_ ?_
 ·(refine le_stOf _ _ [] [] ?_ ?_ rfl rfl <;> (simp [Int.natCast_add,Int.natCast_zero,Int.natCast_one,sD]; done))
 ·rintro i ⟨hi,hk⟩
  rw [au]
  by_cases h:i < s.size
  ·have w0:=XI s i
   by_cases hb:zO (byS s i)=true
   ·have hk':∀ k,k < i+1->zO (byS s k)=true:=fun k hk'=>by
     rcases Nat.lt_or_ge k i with h1 | h1
     ·exact hk k h1
     ·obtain rfl:k=i:=by omega
      exact hb
    clear hk hR
    unfold zO inR at hb
    simp only [Bool.or_eq_true,decide_eq_true_eq] at hb
    (repeat' (first | (simp -implicitDefEqProofs only [go_sem,Nat.reduceLT,Nat.reduceAdd,Nat.reduceMul,reduceIte,Nat.reduceEqDiff,reduceCtorEq,Nat.reducePow,Nat.reduceLeDiff,Int.reduceLE,Int.reduceLT,Int.reduceToNat,Int.reduceEq,Nat.reduceBEq,sD,boolD,intD, *]) | (with_reducible refine ⟨?_,?_⟩; (· first | (obtain ⟨rfl⟩:=‹Hq _ _›; with_reducible refine chk_ok ?_; kernel_rfl) | kernel_rfl)) | (with_reducible intro ops hops) | (simp -implicitDefEqProofs (disch:=omega) only [wr64,wru64,get_lt]) | ((first | refine Wc_split (fun hg=>?_) (fun hg=>?_) | refine RoG_split (fun hg=>?_) (fun hg=>?_) | refine RdG_split (fun hg=>?_) (fun hg=>?_)) <;> (try simp only [nrm] at hg) <;> (try simp only [hg,lgc,reduceIte,reduceCtorEq] at hR) <;> (try (exfalso; omega))) | (refine ⟨i+1,⟨h,hk'⟩,?_,?_⟩; (· (refine le_stOf _ _ [] [] ?_ ?_ rfl rfl <;> (simp [Int.natCast_add,Int.natCast_zero,Int.natCast_one,sD]; done))); (· (simp only; omega))) | ((try simp only [*,lgc,reduceIte,reduceCtorEq] at hR); obtain ⟨rfl⟩:=hR; refine fin_q (rs:=[.tmp 2]) rfl ?_; (try simp only [go_sem,Nat.reduceLT,Nat.reduceAdd,Nat.reduceMul,reduceIte,Nat.reduceEqDiff,reduceCtorEq,Nat.reducePow,Nat.reduceLeDiff,Int.reduceLE,Int.reduceLT,Int.reduceToNat,Int.reduceEq,Nat.reduceBEq,sD,boolD,intD]); (simp [sD,boolD,intD]; done))))
   ·have hRf:Hr (boolD false) R:=by
     have:((List.range s.size).all fun k=>zO (byS s k))=false:=by
      rw [List.all_eq_false]; exact ⟨i,List.mem_range.2 h,hb⟩
     rw [this] at hR; exact hR
    clear hk hR
    rename Hr _ _=>hR
    unfold zO inR at hb
    simp only [Bool.or_eq_true,decide_eq_true_eq] at hb
    (repeat' (first | (simp -implicitDefEqProofs only [go_sem,Nat.reduceLT,Nat.reduceAdd,Nat.reduceMul,reduceIte,Nat.reduceEqDiff,reduceCtorEq,Nat.reducePow,Nat.reduceLeDiff,Int.reduceLE,Int.reduceLT,Int.reduceToNat,Int.reduceEq,Nat.reduceBEq,sD,boolD,intD, *]) | (with_reducible refine ⟨?_,?_⟩; (· first | (obtain ⟨rfl⟩:=‹Hq _ _›; with_reducible refine chk_ok ?_; kernel_rfl) | kernel_rfl)) | (with_reducible intro ops hops) | (simp -implicitDefEqProofs (disch:=omega) only [wr64,wru64,get_lt]) | ((first | refine Wc_split (fun hg=>?_) (fun hg=>?_) | refine RoG_split (fun hg=>?_) (fun hg=>?_) | refine RdG_split (fun hg=>?_) (fun hg=>?_)) <;> (try simp only [nrm] at hg) <;> (try simp only [hg,lgc,reduceIte,reduceCtorEq] at hR) <;> (try (exfalso; omega))) | ((try simp only [*,lgc,reduceIte,reduceCtorEq] at hR); obtain ⟨rfl⟩:=hR; refine fin_q (rs:=[.tmp 2]) rfl ?_; (try simp only [go_sem,Nat.reduceLT,Nat.reduceAdd,Nat.reduceMul,reduceIte,Nat.reduceEqDiff,reduceCtorEq,Nat.reducePow,Nat.reduceLeDiff,Int.reduceLE,Int.reduceLT,Int.reduceToNat,Int.reduceEq,Nat.reduceBEq,sD,boolD,intD]); (simp [sD,boolD,intD]; done))))
  ·have hRt:Hr (boolD true) R:=by
    have:((List.range s.size).all fun k=>zO (byS s k))=true:=by
     rw [List.all_eq_true]
     intro k hk'
     exact hk k (by have:=List.mem_range.1 hk'; omega)
    rw [this] at hR; exact hR
   clear hk hR
   rename Hr _ _=>hR
   (repeat' (first | (simp -implicitDefEqProofs only [go_sem,Nat.reduceLT,Nat.reduceAdd,Nat.reduceMul,reduceIte,Nat.reduceEqDiff,reduceCtorEq,Nat.reducePow,Nat.reduceLeDiff,Int.reduceLE,Int.reduceLT,Int.reduceToNat,Int.reduceEq,Nat.reduceBEq,sD,boolD,intD, *]) | (with_reducible refine ⟨?_,?_⟩; (· first | (obtain ⟨rfl⟩:=‹Hq _ _›; with_reducible refine chk_ok ?_; kernel_rfl) | kernel_rfl)) | (with_reducible intro ops hops) | (simp -implicitDefEqProofs (disch:=omega) only [wr64,wru64,get_lt]) | ((first | refine Wc_split (fun hg=>?_) (fun hg=>?_) | refine RoG_split (fun hg=>?_) (fun hg=>?_) | refine RdG_split (fun hg=>?_) (fun hg=>?_)) <;> (try simp only [nrm] at hg) <;> (try simp only [hg,lgc,reduceIte,reduceCtorEq] at hR) <;> (try (exfalso; omega))) | ((try simp only [*,lgc,reduceIte,reduceCtorEq] at hR); obtain ⟨rfl⟩:=hR; refine fin_q (rs:=[.tmp 2]) rfl ?_; (try simp only [go_sem,Nat.reduceLT,Nat.reduceAdd,Nat.reduceMul,reduceIte,Nat.reduceEqDiff,reduceCtorEq,Nat.reducePow,Nat.reduceLeDiff,Int.reduceLE,Int.reduceLT,Int.reduceToNat,Int.reduceEq,Nat.reduceBEq,sD,boolD,intD]); (simp [sD,boolD,intD]; done))))
structure ZJ (h:oq) (l:List dI):Prop where
 w:fo h=0
 v:og l
 d:bX l=h.vals
end Go.Proofs.YtkbbipgjmoanhaaGreatDoor
