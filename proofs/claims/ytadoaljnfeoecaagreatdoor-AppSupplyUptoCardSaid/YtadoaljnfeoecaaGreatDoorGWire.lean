/- Merged texts: WireS, WireL, WNum, WWrite. -/
import Derived.Test.YtadoaljnfeoecaaGreatDoorLib
import Derived.Test.YtadoaljnfeoecaaGreatDoorGx
import Derived.Test.YtadoaljnfeoecaaGreatDoorAbs4
import Derived.Test.YtadoaljnfeoecaaGreatDoorTy
set_option linter.all false
namespace Go.Proofs.YtadoaljnfeoecaaGreatDoor
structure PieceD where
 kind:Int
 n:Nat
 b:List UInt8
def vnumF:Nat→Nat→List UInt8
 | 0,n=>[UInt8.ofNat n]
 | f+1,n=>if n < 128 then [UInt8.ofNat n] else UInt8.ofNat (n % 128+128) :: vnumF f (n / 128)
def vnum (n:Nat):List UInt8:=vnumF 9 n
def wpiece (p:PieceD):Option (List UInt8) :=
 if p.kind=1 then some (0 :: vnum p.n) else if p.kind=2 then some (1 :: (vnum p.b.length++p.b)) else none
def writeGo:List UInt8→Nat→List PieceD→List UInt8 × Nat × Nat
 | acc,_,[]=>(acc,0,0)
 | acc,i,p :: r=>match wpiece p with
  | none=>([],1,i)
  | some x=>if 20000 < (acc++x).length then ([],4,i) else writeGo (acc++x) (i+1) r
def writeF (l:List PieceD):List UInt8 × Nat × Nat:=if 200 < l.length then ([],5,0) else writeGo (vnum l.length) 0 l
def takeN:Nat→Nat→List UInt8→Option (Nat × List UInt8)
 | _,_,[]=>none
 | i,n,c :: r=>if (0 < i∧c=0)∨(i=9∧1 < c.toNat) then none
  else if c.toNat < 128 then some (n+c.toNat * 128 ^ i,r) else takeN (i+1) (n+(c.toNat - 128) * 128 ^ i) r
def readGo:Nat→List UInt8→Option (List PieceD)
 | 0,r=>if r=[] then some [] else none
 | _+1,[]=>none
 | k+1,c :: r=>match takeN 0 0 r with
  | none=>none
  | some (v,r')=>if c=0 then (readGo k r').map (⟨1,v,[]⟩ :: ·)
   else if c=1 then (if r'.length < v then none else (readGo k (r'.drop v)).map (⟨2,0,r'.take v⟩ :: ·)) else none
def readF (b:List UInt8):List PieceD × Nat :=
 if 20000 < b.length then ([],4) else match takeN 0 0 b with
  | none=>([],2)
  | some (n,r)=>if 200 < n then ([],2) else match readGo n r with
   | none=>([],2)
   | some l=>(l,0)
theorem pow128 (i:Nat):0 < 128 ^ i:=Nat.pow_pos (by decide)
theorem takeN_vnumF:∀ (f i a:Nat) (b:List UInt8) (v:Nat) (r:List UInt8),f+i=9→takeN i a b=some (v,r)→∃ n,v=a+n * 128 ^ i∧b=vnumF f n++r∧n < 2 * 128 ^ f∧(0 < i→0 < n)
 | _,_,_,[],_,_,_,h=>by simp [takeN] at h
 | f,i,a,c :: s,v,r,hi,h=>by
  rw [takeN] at h
  split at h
  ·cases h
  rename_i hc
  split at h
  ·rename_i hlt
   cases h
   refine ⟨c.toNat,rfl,?_,?_,fun h1=>?_⟩
   ·have:vnumF f c.toNat=[c]:=by
     cases f with
     | zero=>simp [vnumF]
     | succ f=>rw [vnumF,if_pos hlt]; simp
    rw [this]; rfl
   ·cases f with
    | zero =>
     have:i=9:=by omega
     have h2:¬ 1 < c.toNat:=fun h2=>hc (.inr ⟨this,h2⟩)
     simp; omega
    | succ f=>have:=pow128 f; rw [Nat.pow_succ]; omega
   ·have:c≠0:=fun e=>hc (.inl ⟨h1,e⟩)
    have:c.toNat≠0:=fun e=>this (UInt8.toNat_inj.1 (by simpa using e))
    omega
  ·rename_i hge
   cases f with
   | zero =>
    have:i=9:=by omega
    exact absurd (.inr ⟨this,by omega⟩) hc
   | succ f =>
    obtain ⟨n,hv,hb,hn,h0⟩:=takeN_vnumF f (i+1) _ s v r (by omega) h
    have hn0:=h0 (by omega)
    have hcl:=c.toNat_lt
    refine ⟨n * 128+(c.toNat - 128),?_,?_,?_,fun _=>by omega⟩
    ·rw [hv,Nat.pow_succ,Nat.add_assoc]
     congr 1
     rw [Nat.add_mul,Nat.add_comm]
     congr 1
     rw [Nat.mul_comm (128 ^ i) 128,← Nat.mul_assoc]
    ·rw [vnumF,if_neg (by omega)]
     rw [show (n * 128+(c.toNat - 128)) % 128+128=c.toNat by omega,show (n * 128+(c.toNat - 128)) / 128=n by omega,hb]
     simp
    ·rw [Nat.pow_succ]; omega
theorem takeN_vnum {b:List UInt8} {v:Nat} {r:List UInt8} (h:takeN 0 0 b=some (v,r)):b=vnum v++r∧v < 18446744073709551616:=by
 obtain ⟨n,hv,hb,hn,_⟩:=takeN_vnumF 9 0 0 b v r rfl h
 have:(2:Nat) * 128 ^ 9=18446744073709551616:=by decide
 have hvn:v=n:=by simpa using hv
 subst hvn
 exact ⟨hb,by omega⟩
end Go.Proofs.YtadoaljnfeoecaaGreatDoor
set_option linter.all false
namespace Go.Proofs.YtadoaljnfeoecaaGreatDoor
def n64s (l:List PieceD):Prop:=∀ p∈l,p.n < 18446744073709551616
theorem vnum_len_le (n:Nat):(vnum n).length≤10:=by
 have:∀ f n,(vnumF f n).length≤f+1:=by
  intro f
  induction f with
  | zero=>intro n; simp [vnumF]
  | succ f ih=>intro n; rw [vnumF]; split <;> simp; exact ih _
 exact this 9 n
theorem readGo_write:∀ (k:Nat) (r:List UInt8) (m:List PieceD),readGo k r=some m→m.length=k∧n64s m∧∀ (acc:List UInt8) (i:Nat),(acc++r).length≤20000→writeGo acc i m=(acc++r,0,0)
 | 0,r,m,h=>by
  simp [readGo] at h
  obtain ⟨rfl,rfl⟩:=h
  exact ⟨rfl,fun p hp=>by simp at hp,fun acc i _=>by simp [writeGo]⟩
 | k+1,[],m,h=>by simp [readGo] at h
 | k+1,c :: s,m,h=>by
  rw [readGo] at h
  cases ht:takeN 0 0 s with
  | none=>rw [ht] at h; simp at h
  | some vr =>
   obtain ⟨v,r'⟩:=vr
   rw [ht] at h
   simp only [] at h
   obtain ⟨hs,hv⟩:=takeN_vnum ht
   split at h
   ·rename_i hc
    subst hc
    cases hm:readGo k r' with
    | none=>rw [hm] at h; simp at h
    | some m' =>
     rw [hm] at h
     simp at h
     subst h
     obtain ⟨h1,h2,h3⟩:=readGo_write k r' m' hm
     refine ⟨by simp [h1],fun p hp=>?_,fun acc i hl=>?_⟩
     ·rcases List.mem_cons.1 hp with rfl | hp
      ·exact hv
      ·exact h2 p hp
     ·rw [writeGo]
      have hw:wpiece ⟨1,v,[]⟩=some (0 :: vnum v):=by simp [wpiece]
      rw [hw]
      simp only []
      rw [hs] at hl
      have e:acc++(0 :: vnum v)++r'=acc++0 :: s:=by rw [hs]; simp
      rw [if_neg (by simp at hl ⊢; omega),h3 _ _ (by rw [e,hs]; exact hl),e]
   ·split at h
    ·rename_i hc0 hc
     subst hc
     split at h
     ·cases h
     ·rename_i hlen
      cases hm:readGo k (r'.drop v) with
      | none=>rw [hm] at h; simp at h
      | some m' =>
       rw [hm] at h
       simp at h
       subst h
       obtain ⟨h1,h2,h3⟩:=readGo_write k _ m' hm
       refine ⟨by simp [h1],fun p hp=>?_,fun acc i hl=>?_⟩
       ·rcases List.mem_cons.1 hp with rfl | hp
        ·simp
        ·exact h2 p hp
       ·rw [writeGo]
        have hlv:(r'.take v).length=v:=by rw [List.length_take]; omega
        have hw:wpiece ⟨2,0,r'.take v⟩=some (1 :: (vnum v++r'.take v)):=by simp [wpiece,hlv]
        rw [hw]
        simp only []
        rw [hs] at hl
        have e:acc++(1 :: (vnum v++r'.take v))++r'.drop v=acc++1 :: s:=by
         rw [hs]; simp
        rw [if_neg (by simp [hlv] at hl ⊢; omega),h3 _ _ (by rw [e,hs]; exact hl),e]
    ·cases h
theorem read_write {b:List UInt8} {m:List PieceD} (h:readF b=(m,0)):writeF m=(b,0,0)∧n64s m:=by
 unfold readF at h
 split at h
 ·simp at h
 ·rename_i hb
  cases ht:takeN 0 0 b with
  | none=>rw [ht] at h; simp at h
  | some vr =>
   obtain ⟨n,r⟩:=vr
   rw [ht] at h
   simp only [] at h
   split at h
   ·simp at h
   ·rename_i hn
    cases hm:readGo n r with
    | none=>rw [hm] at h; simp at h
    | some m' =>
     rw [hm] at h
     simp at h
     subst h
     obtain ⟨hs,_⟩:=takeN_vnum ht
     obtain ⟨h1,h2,h3⟩:=readGo_write n r m' hm
     refine ⟨?_,h2⟩
     unfold writeF
     rw [h1,if_neg hn,hs]
     exact h3 _ _ (by rw [← hs]; omega)
theorem writeGo_len:∀ (l:List PieceD) (acc:List UInt8) (i:Nat),acc.length≤20000→(writeGo acc i l).1.length≤20000
 | [],acc,i,h=>h
 | p :: r,acc,i,h=>by
  simp only [writeGo]
  split
  ·simp
  ·split
   ·simp
   ·exact writeGo_len r _ _ (by omega)
theorem writeF_len (l:List PieceD):(writeF l).1.length≤20000:=by
 unfold writeF
 split
 ·simp
 ·exact writeGo_len l _ _ (by have:=vnum_len_le l.length; omega)
end Go.Proofs.YtadoaljnfeoecaaGreatDoor
set_option linter.all false
namespace Go.Proofs.YtadoaljnfeoecaaGreatDoor
open Go Go.Abs Go.RowKit Go.Proofs.YtadoaljnfeoecaaGreatDoor.Ty
theorem tyWNum0:(type_of% @Ty.T1)∧(type_of% @Ty.T5)∧(type_of% @Ty.T29)∧(type_of% @Ty.T47):=⟨@Ty.T1,@Ty.T5,@Ty.T29,@Ty.T47⟩
def arrB (acc:List UInt8):Ob:=.arr 1 (acc.map byteI)
theorem or128:∀ x,x < 256→x ||| 128=x % 128+128:=by decide +kernel
theorem byte_or (n:Nat):bits .or .u8 ((n:Int) % 256) 128=((UInt8.ofNat (n % 128+128)).toNat:Int):=by
 have h:((n:Int) % 256)=((n % 256:Nat):Int):=by omega
 rw [h]
 have:=(bits_nat .u8 8 (by decide) wraps_u8 (n % 256) 128 (Nat.mod_lt _ (by decide)) (by decide)).2
 rw [show ((128:Nat):Int)=128 from rfl] at this
 rw [this,or128 _ (Nat.mod_lt _ (by decide)),UInt8.toNat_ofNat']
 omega
theorem byte_of (n:Nat) (h:n < 128):(n:Int) % 256=((UInt8.ofNat n).toNat:Int):=by
 rw [UInt8.toNat_ofNat']; omega
set_option maxHeartbeats 1000000
theorem number_A (acc:List UInt8) (n:Nat) (hn:n < 18446744073709551616) (hl:acc.length≤140737488355000) :
  CallD Tryz.prog 127 [.os 0 1 0 acc.length,.i (.s (.int .u64 n))] (hF [(0,arrB acc)]) (.os 1 1 0 (acc++vnum n).length) (hOf (hF [(0,arrB acc)]) [(1,arrB (acc++vnum n))]):=by
 generalize hr:acc++vnum n=res
 refine callD_W 20 Tryz.func127 rfl rfl rfl (fun o ho=>by simp [hF,lk,show o≠0 by omega]) ?_
 have hn2:n < 2 * 128 ^ 9:=by have:(2:Nat) * 128 ^ 9=18446744073709551616:=by decide
                              omega
 refine gx (an tyWNum0 @arrB.eq_1) ?_
 refine W_loop (ι:={ p:List UInt8 × Nat × Nat // p.2.1 < 2 * 128 ^ p.2.2∧p.1++vnumF p.2.2 p.2.1=res∧p.1.length+p.2.2≤acc.length+9∧p.2.2≤9 })
  (fun p=>stOf [(0,.os 100 1 0 p.1.1.length),(1,.i (.s (.int .u64 (p.1.2.1:Nat))))] [(100,arrB p.1.1)]) (fun p=>p.1.2.2) ⟨(acc,n,9),hn2,hr,by simp,by simp⟩ ?_ ?_
 ·refine le_stOf _ _ [] [(100,0)] ?_ ?_ rfl rfl
  ·simp [cv,cv1,cv0,upd,lk,srcOf]
  ·simp [objOk,srcOf,lk,cvO,frz,hF,arrB]
 ·rintro ⟨⟨acc',n',f⟩,h1,h2,h3,h4⟩
  simp only at h1 h2 h3 h4
  rw [stOf_eq]
  refine gx (an tyWNum0 @arrB.eq_1) ?_
  refine Wc_split (fun h=>?_) (fun h=>?_)
  ·have h5:128≤n':=by simp at h; omega
   clear h
   have e1:IntKind.u8.wrap (n':Int)=(n':Int) % 256:=by rw [IntKind.wrap_u8]
   have e2:bits .or .u8 ((n':Int) % 256) 128=((UInt8.ofNat (n' % 128+128)).toNat:Int):=byte_or n'
   have e3:acc'.length+1≤140737488355328:=by omega
   have e4:(n':Int).fdiv (2 ^ min 7 (IntKind.bits .u64))=((n' / 128:Nat):Int):=by
    rw [show min 7 (IntKind.bits .u64)=7 from rfl,Int.fdiv_eq_ediv_of_nonneg _ (by decide)]; rfl
   refine gx (an (an (an (an (an tyWNum0 @arrB.eq_1) e1) e2) e3) e4) ?_
   cases f with
   | zero=>simp at h1; omega
   | succ f =>
   refine ⟨⟨(acc'++[UInt8.ofNat (n' % 128+128)],n' / 128,f),?_,?_,?_,?_⟩,le_stOf _ _ [] [(100,1517)] ?_ ?_ rfl rfl,?_⟩
   ·simp only [Nat.pow_succ] at h1 ⊢; omega
   ·rw [← h2,vnumF,if_neg (by omega)]; simp
   ·simp at h3 ⊢; omega
   ·simp at h4 ⊢; omega
   ·simp [cv,cv1,cv0,upd,lk,srcOf]
   ·simp [objOk,srcOf,lk,cvO,frz,upd,byteI]
   ·simp
  ·have h5:n' < 128:=by simp at h; omega
   clear h
   have e1:IntKind.u8.wrap (n':Int)=((UInt8.ofNat n').toNat:Int):=by rw [IntKind.wrap_u8]; exact byte_of n' h5
   have e3:acc'.length+1≤140737488355328:=by omega
   refine gx (an (an (an tyWNum0 @arrB.eq_1) e1) e3) ?_
   have hres:res=acc'++[UInt8.ofNat n']:=by
    rw [← h2]; cases f with
    | zero=>rfl
    | succ f=>rw [vnumF,if_pos h5]
   subst hres
   refine fin_retD _ [] [(1,2028)] rfl ?_ ?_ rfl ?_ rfl
   ·simp [cv,cv1,cv0,upd,srcR,hF,lk]
   ·simp [objOk,srcR,lk,cvO,frz,upd,byteI,hF]
   ·simp [hF,lk]
theorem number_B (acc:List UInt8) (n len len':Nat) (es':List (List I)) (hn:n < 18446744073709551616) (hl:acc.length≤140737488355000) (h1:len=acc.length) (h2:len'=acc.length+(vnum n).length) (h3:es'=acc.map byteI++(vnum n).map byteI) :
  CallD Tryz.prog 127 [.os 0 1 0 len,.i (.s (.int .u64 n))] (hF [(0,.arr 1 (acc.map byteI))]) (.os 1 1 0 len') (hOf (hF [(0,.arr 1 (acc.map byteI))]) [(1,.arr 1 es')]):=by
 have:=number_A acc n hn hl
 subst h1 h2 h3
 simpa [arrB] using this
theorem number_C (acc:List UInt8) (n len len':Nat) (es es':List (List I)) (hn:n < 18446744073709551616) (hl:acc.length≤140737488355000) (h1:len=acc.length) (h0:es=acc.map byteI) (h2:len'=acc.length+(vnum n).length) (h3:es'=(acc++vnum n).map byteI) :
  CallD Tryz.prog 127 [.os 0 1 0 len,.i (.s (.int .u64 n))] (hF [(0,.arr 1 es)]) (.os 1 1 0 len') (hOf (hF [(0,.arr 1 es)]) [(1,.arr 1 es')]):=by
 subst h0
 exact number_B acc n len len' es' hn hl h1 h2 (by rw [h3]; simp)
end Go.Proofs.YtadoaljnfeoecaaGreatDoor
set_option linter.all false
namespace Go.Proofs.YtadoaljnfeoecaaGreatDoor
open Go Go.Abs Go.RowKit Go.Proofs.YtadoaljnfeoecaaGreatDoor.Ty
theorem tyWWrite0:(type_of% @Ty.T1)∧(type_of% @Ty.T3)∧(type_of% @Ty.T5)∧(type_of% @Ty.T29)∧(type_of% @Ty.T47)∧(type_of% @Ty.T55)∧(type_of% @Ty.T166)∧(type_of% @Ty.T170)∧(type_of% @Ty.T174):=⟨@Ty.T1,@Ty.T3,@Ty.T5,@Ty.T29,@Ty.T47,@Ty.T55,@Ty.T166,@Ty.T170,@Ty.T174⟩
def encP (p:PieceD):List I:=[.s (.int .i64 p.kind),.s (.int .u64 (p.n:Int)),bI p.b]
def faultD (e i:Nat):D:=.agg [.i (.s (.int .i64 (e:Int))),.i (.s (.int .i64 (i:Int)))]
set_option maxHeartbeats 2000000
theorem write_A (l:List PieceD) (hl:l.length≤1048576) (hb:∀ p∈l,p.b.length≤1048576) (hn:n64s l) :
  PureD Tryz.prog 90 [.i (.sl (l.map encP))] (.tup [.i (bI (writeF l).1),faultD (writeF l).2.1 (writeF l).2.2]):=by
 refine callD_W 55 Tryz.func90 rfl rfl rfl (fun _ _=>rfl) ?_
 refine gx tyWWrite0 ?_
 refine Wc_split (fun h=>?_) (fun h=>?_)
 ·have h1:200 < l.length:=by simp at h; omega
  clear h
  refine gx tyWWrite0 ?_
  refine fin_2 [] rfl ag174 sz174 (by simp [upd,readAt,readCells]; rfl) ?_
  simp [cv,cvT,cv1,cvL,cv0,upd,writeF,h1,faultD,bI]
 ·have h1:l.length≤200:=by simp at h; omega
  clear h
  have e1:IntKind.u64.wrap (l.length:Int)=(l.length:Int):=by rw [IntKind.wrap_u64]; omega
  refine gx (an tyWWrite0 e1) ?_
  refine Call_nil 1771 (number_B [] l.length 0 _ _ (by omega) (by simp) rfl rfl rfl) (by decide) (by simp [upd,noH]) rfl ?_
  refine gx tyWWrite0 ?_
  refine W_loop (ι:={ p:List UInt8 × Nat // p.2≤l.length∧writeF l=writeGo p.1 p.2 (l.drop p.2)∧p.1.length≤20000 })
   (fun p=>stOf [(3,.pt 101 0 0 0),(4,.os 100 1 0 p.1.1.length),(15,.i (.sl (l.map encP))),(16,.i (.s (.int .i64 l.length))),(17,.i (.s (.int .i64 (p.1.2:Nat))))]
    [(100,.arr 1 (p.1.1.map byteI)),(101,.box [.i (.s (.int .i64 0)),.i (.s (.int .i64 0))])]) (fun p=>l.length - p.1.2) ⟨(vnum l.length,0),by simp,by simp [writeF,show ¬ 200 < l.length by omega],by have:=vnum_len_le l.length; simp; omega⟩ ?_ ?_
  ·refine le_stOf _ _ [] [(100,1771),(101,1001)] ?_ ?_ rfl rfl
   ·simp [cv,cv1,cv0,upd,lk,srcOf]
   ·simp [objOk,srcOf,lk,cvO,cvL,cv0,frz,upd,D.one]
  ·rintro ⟨⟨acc,k⟩,hk,hw,ha⟩
   simp only at hk hw ha
   rw [stOf_eq]
   refine gx tyWWrite0 ?_
   refine Wc_split (fun h=>?_) (fun h=>?_)
   ·have h2:k < l.length:=by simp at h; omega
    clear h
    have hd:l.drop k=l[k] :: l.drop (k+1):=(List.drop_eq_getElem_cons h2)
    rw [hd] at hw
    have hmem:l[k]∈l:=List.getElem_mem h2
    have hpb:=hb _ hmem
    have hpn:=hn _ hmem
    generalize hp:l[k]=p at hw hpb hpn
    have e2:(l.map encP)[k]?=some [.s (.int .i64 p.kind),.s (.int .u64 (p.n:Int)),bI p.b]:=by simp [h2,encP,hp]
    refine gx (an tyWWrite0 e2) ?_
    have e3:acc.length+1≤140737488355328:=by omega
    have hw1:IntKind.i64.wrap ((k:Int)+1)=((k+1:Nat):Int):=by rw [wrap64 (by omega) (by omega)]; omega
    refine Wc_split (fun h=>?_) (fun h=>?_)
    ·have hk1:p.kind=1:=by simpa using h
     clear h
     (repeat (first | (simp -implicitDefEqProofs only [ev,mixed,Nat.reduceLT,Nat.reduceAdd,Nat.reduceMul,reduceIte,Nat.reduceEqDiff,reduceCtorEq,Nat.reducePow,Nat.reduceLeDiff,Int.reduceLE,Int.reduceLT,Int.reduceToNat,Int.reduceEq,Nat.reduceBEq,itsOf,gdA,byteI,opid,lenQ,ixQ,ldH,readAt,readCells,asCell,faQ,exQ,fldQ,partA,buildQ,slQ,stH,bslH,appH,dcells,convI,elemsOf,D.one,nilS,fillD,convN,cvH,tyWWrite0,e3]) | (with_reducible refine ⟨?_,?_⟩; (· first | (obtain ⟨rfl⟩:=‹Hq _ _›; with_reducible refine chk_ok ?_; kernel_rfl) | kernel_rfl)) | (with_reducible intro ops hops)))
     (refine CallF_arr (es:=?es1) (es':=?eb1) (sz':=?sz1) (len':=?len1) 3565 ?hL1 ?ho1 ?hf1 rfl ?k1; (case ho1=>(simp [upd,hO,lk,hF,noH,hOf,frz]; try rfl)); (case hf1=>(simp [upd,hO,lk,hF,noH,hOf,frz])); (case hL1=>(refine number_C (acc++[0]) p.n _ _ _ _ hpn ?_ ?_ ?_ ?_ ?_ <;> first | rfl | (simp [byteI]; done) | omega | (simp; omega) | (simp at *; omega))))
     refine gx tyWWrite0 ?_
     have hwp:wpiece p=some (0 :: vnum p.n):=by simp [wpiece,hk1]
     rw [writeGo,hwp] at hw
     have hvl:=vnum_len_le p.n
     refine Wc_split (fun h=>?_) (fun h=>?_)
     ·refine gx tyWWrite0 ?_
      have h3:20000 < (acc++0 :: vnum p.n).length:=by simp at h ⊢; omega
      simp only [h3,if_true] at hw
      refine fin_2 [] rfl ag174 sz174 (by simp [upd,readAt,readCells]; rfl) ?_
      simp [cv,cvT,cv1,cvL,cv0,upd,hw,faultD,bI]
     ·refine gx (an tyWWrite0 @hw1) ?_
      have h3:¬ 20000 < (acc++0 :: vnum p.n).length:=by simp at h ⊢; omega
      simp only [h3,if_false] at hw
      refine ⟨⟨(acc++0 :: vnum p.n,k+1),h2,hw,Nat.not_lt.1 h3⟩,le_stOf _ _ [] [(100,3565),(101,101)] ?_ ?_ rfl rfl,?_⟩
      ·simp [cv,cv1,cv0,upd,lk,srcOf]; omega
      ·simp [objOk,srcOf,lk,cvO,cvL,cv0,frz,upd,D.one,hO]
      ·simp; omega
    ·refine gx tyWWrite0 ?_
     refine Wc_split (fun h=>?_) (fun h=>?_)
     ·have hk2:p.kind=2:=by simpa using h
      clear h
      have e4:IntKind.u64.wrap (p.b.length:Int)=(p.b.length:Int):=by rw [IntKind.wrap_u64]; omega
      have e5:acc.length+1+(vnum p.b.length).length+p.b.length≤140737488355328:=by have:=vnum_len_le p.b.length; omega
      (repeat (first | (simp -implicitDefEqProofs only [ev,mixed,Nat.reduceLT,Nat.reduceAdd,Nat.reduceMul,reduceIte,Nat.reduceEqDiff,reduceCtorEq,Nat.reducePow,Nat.reduceLeDiff,Int.reduceLE,Int.reduceLT,Int.reduceToNat,Int.reduceEq,Nat.reduceBEq,itsOf,gdA,byteI,opid,lenQ,ixQ,ldH,readAt,readCells,asCell,faQ,exQ,fldQ,partA,buildQ,slQ,stH,bslH,appH,dcells,convI,elemsOf,D.one,nilS,fillD,convN,cvH,tyWWrite0,e3,bI,e4]) | (with_reducible refine ⟨?_,?_⟩; (· first | (obtain ⟨rfl⟩:=‹Hq _ _›; with_reducible refine chk_ok ?_; kernel_rfl) | kernel_rfl)) | (with_reducible intro ops hops)))
      (refine CallF_arr (es:=?es2) (es':=?eb2) (sz':=?sz2) (len':=?len2) 4079 ?hL2 ?ho2 ?hf2 rfl ?k2; (case ho2=>(simp [upd,hO,lk,hF,noH,hOf,frz]; try rfl)); (case hf2=>(simp [upd,hO,lk,hF,noH,hOf,frz])); (case hL2=>(refine number_C (acc++[1]) p.b.length _ _ _ _ (by omega) ?_ ?_ ?_ ?_ ?_ <;> first | rfl | (simp [byteI]; done) | omega | (simp; omega) | (simp at *; omega))))
      have e6:acc.length+((vnum p.b.length).length+1)=acc.length+1+(vnum p.b.length).length:=by omega
      refine gx (an (an tyWWrite0 e5) e6) ?_
      have hwp:wpiece p=some (1 :: (vnum p.b.length++p.b)):=by simp [wpiece,hk2]
      rw [writeGo,hwp] at hw
      refine Wc_split (fun h=>?_) (fun h=>?_)
      ·refine gx tyWWrite0 ?_
       have h3:20000 < (acc++(1 :: (vnum p.b.length++p.b))).length:=by simp at h ⊢; omega
       simp only [h3,if_true] at hw
       refine fin_2 [] rfl ag174 sz174 (by simp [upd,readAt,readCells]; rfl) ?_
       simp [cv,cvT,cv1,cvL,cv0,upd,hw,faultD,bI]
      ·refine gx (an tyWWrite0 @hw1) ?_
       have h3:¬ 20000 < (acc++(1 :: (vnum p.b.length++p.b))).length:=by simp at h ⊢; omega
       simp only [h3,if_false] at hw
       refine ⟨⟨(acc++(1 :: (vnum p.b.length++p.b)),k+1),h2,hw,Nat.not_lt.1 h3⟩,le_stOf _ _ [] [(100,4082),(101,101)] ?_ ?_ rfl rfl,?_⟩
       ·simp [cv,cv1,cv0,upd,lk,srcOf]; omega
       ·simp [objOk,srcOf,lk,cvO,cvL,cv0,frz,upd,D.one,hO]
       ·simp; omega
     ·refine gx tyWWrite0 ?_
      have hwp:wpiece p=none:=by simp at h; simp [wpiece,h]; simp_all
      rw [writeGo,hwp] at hw
      refine fin_2 [] rfl ag174 sz174 (by simp [upd,readAt,readCells]; rfl) ?_
      simp [cv,cvT,cv1,cvL,cv0,upd,hw,faultD,bI]
   ·have h2:k=l.length:=by simp at h; omega
    subst h2
    refine gx tyWWrite0 ?_
    rw [List.drop_length,writeGo] at hw
    refine fin_2 [100] rfl ag174 sz174 (by simp [upd,readAt,readCells]; rfl) ?_
    simp [cv,cvT,cv1,cvL,cv0,upd,hw,faultD,bI,hO,lk,elemsOf,List.take_of_length_le]
end Go.Proofs.YtadoaljnfeoecaaGreatDoor
