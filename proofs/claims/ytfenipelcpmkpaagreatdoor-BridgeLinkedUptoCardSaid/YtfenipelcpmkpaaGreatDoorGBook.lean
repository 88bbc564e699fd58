/- Merged texts: Find, BookA, BookB, BookO, BookC. -/
import Derived.Test.YtfenipelcpmkpaaGreatDoorGHd
set_option linter.all false
set_option maxHeartbeats 2000000
namespace Go.Proofs.YtfenipelcpmkpaaGreatDoor
open Go Go.Abs Go.RowKit Go.Proofs.YtfenipelcpmkpaaGreatDoor.Ty
theorem JG:(type_of% @Ty.T5)/\(type_of% @Ty.T29)/\(type_of% @Ty.T41):=⟨@Ty.T5,@Ty.T29,@Ty.T41⟩
theorem ku:(type_of% @Ty.T3)/\(type_of% @Ty.T5)/\(type_of% @Ty.T29)/\(type_of% @Ty.T31)/\(type_of% @Ty.T41)/\(type_of% @Ty.ada):=⟨@Ty.T3,@Ty.T5,@Ty.T29,@Ty.T31,@Ty.T41,@Ty.ada⟩
structure aV where
 k:List UInt8
 v:List UInt8
def aO (p:aV):List I:=[bI p.k,bI p.v]
def prD (p:aV):D:=.agg [.i (bI p.k),.i (bI p.v)]
def psI (l:List aV):I:=.sl (l.map aO)
theorem zo (p:aV) (k:List UInt8):PureD Tryz.prog 109 [prD p,.i (bI k)] (intD (Lib.compareBytes p.k k)):=by
 refine aa 9 Tryz.func109 rfl rfl rfl (fun _ _=>rfl) ?_
 (refine gy (an (an JG @prD.eq_1) @bI.eq_1) ?_; try intro ops hops)
 (first | refine ai [] [] (IM p.k k) (by simp [aM,cvA,aP,cvR,ah,cv1,cvL,cv0,bI,af,aO,prD,psI,intD,boolD,ae,upd]) rfl ?_ | refine ag [] [] [] (IM p.k k) (fun G _=>by simp [aM,cvA,aP,cvR,ah,cv1,cvL,cv0,bI,af,aO,prD,psI,intD,boolD,ae,upd]) rfl ?_)
 refine gx JG ?_
 refine ax [] rfl ?_
 simp [cv,cv1,cv0,upd,intD]
theorem PZ (l:List aV) (key:List UInt8) (p:Nat) (hl:l.length<=1048576) (hp:p<=l.length) (hm:∀ a (h:a < l.length),Lib.compareBytes l[a].k key < 0↔a < p) :
  PureD Tryz.prog 108 [.i (psI l),.i (bI key),.fn 109 []]
   (.tup [intD p,boolD (if h:p < l.length then decide (Lib.compareBytes l[p].k key=0) else false)]):=by
 refine aa 49 Tryz.func108 rfl rfl rfl (fun _ _=>rfl) ?_
 refine gx (an (an ku @psI.eq_1) @bI.eq_1) ?_
 refine bZ (ι:=Nat × Nat) (fun q=>q.1<=p/\p<=q.2/\q.2<=l.length)
  (fun q=>ek [(0,.i (.sl (l.map aO))),(1,.i (.sl (key.map af))),(2,.fn 109 []),(8,intD l.length),(9,intD q.1),(10,intD q.2)] []) (fun q=>q.2 - q.1) (0,l.length) ⟨Nat.zero_le _,hp,Nat.le_refl _⟩ ?_ ?_
 ·refine az _ _ [] [] ?_ ?_ rfl rfl
  ·simp [cv,cvL,cv1,cv0,upd,lk,aJ,intD]
  ·simp
 ·rintro ⟨i,j⟩ ⟨h1,h2,h3⟩
  simp only at h1 h2 h3
  rw [au]
  refine gx (an ku @intD.eq_1) ?_
  refine bi (fun h=>?_) (fun h=>?_)
  ·have hij:i < j:=by simp at h; omega
   clear h
   have hml:(i+j) / 2 < l.length:=by omega
   have e1:(l.map aO)[(i+j) / 2]?=some [bI l[(i+j) / 2].k,bI l[(i+j) / 2].v]:=by rw [List.getElem?_map,List.getElem?_eq_getElem hml]; rfl
   have hmm:=hm _ hml
   have w1:IntKind.i64.wrap ((i:Int)+(j:Int))=((i+j:Nat):Int):=by rw [aD (by omega) (by omega)]; omega
   have w2:IntKind.u64.wrap ((i+j:Nat):Int)=((i+j:Nat):Int):=by rw [IntKind.wrap_u64]; omega
   have w3:((i+j:Nat):Int).fdiv (2 ^ min 1 (IntKind.bits .u64))=(((i+j) / 2:Nat):Int):=by
    rw [show min 1 (IntKind.bits .u64)=1 from rfl,Int.fdiv_eq_ediv_of_nonneg _ (by decide)]; omega
   have w4:IntKind.i64.wrap (((i+j) / 2:Nat):Int)=(((i+j) / 2:Nat):Int):=by rw [aD (by omega) (by omega)]
   have w5:IntKind.i64.wrap ((((i+j) / 2:Nat):Int)+1)=(((i+j) / 2+1:Nat):Int):=by rw [aD (by omega) (by omega)]; omega
   have hmid1:i<=(i+j) / 2:=by omega
   have hmid2:(i+j) / 2 < j:=by omega
   generalize l[(i+j) / 2]=q at e1 hmm
   generalize (i+j) / 2=m at *
   (refine gy (an (an (an (an (an ku w1) w2) w3) w4) e1) ?_; try intro ops hops)
   (first | refine ai [] [] (zo q key) (by simp [aM,cvA,aP,cvR,ah,cv1,cvL,cv0,bI,af,aO,prD,psI,intD,boolD,ae,upd]) rfl ?_ | refine ag [] [] [] (zo q key) (fun G _=>by simp [aM,cvA,aP,cvR,ah,cv1,cvL,cv0,bI,af,aO,prD,psI,intD,boolD,ae,upd]) rfl ?_)
   refine gx (an ku @intD.eq_1) ?_
   refine bi (fun h=>?_) (fun h=>?_)
   ·have hlt:m < p:=hmm.1 (by simpa using h)
    refine gx (an ku w5) ?_
    refine ⟨(m+1,j),⟨hlt,h2,h3⟩,az _ _ [] [] ?_ ?_ rfl rfl,by simp; omega⟩
    ·simp [cv,cvL,cv1,cv0,upd,lk,aJ,intD]
    ·simp
   ·have hlt:¬ m < p:=fun hc=>by have:=hmm.2 hc; simp at h; omega
    refine gx ku ?_
    refine ⟨(i,m),⟨h1,Nat.le_of_not_lt hlt,by omega⟩,az _ _ [] [] ?_ ?_ rfl rfl,by simp; omega⟩
    ·simp [cv,cvL,cv1,cv0,upd,lk,aJ,intD]
    ·simp
  ·have hij:i=p:=by simp at h; omega
   subst hij
   by_cases hlt:i < l.length
   ·rw [dif_pos hlt]
    have e1:(l.map aO)[i]?=some [bI l[i].k,bI l[i].v]:=by rw [List.getElem?_map,List.getElem?_eq_getElem hlt]; rfl
    generalize l[i]=q at e1
    have g:decide ((i:Int) < (l.length:Int))=true:=decide_eq_true (by omega)
    (refine gy (an (an ku g) e1) ?_; try intro ops hops)
    (first | refine ai [] [] (zo q key) (by simp [aM,cvA,aP,cvR,ah,cv1,cvL,cv0,bI,af,aO,prD,psI,intD,boolD,ae,upd]) rfl ?_ | refine ag [] [] [] (zo q key) (fun G _=>by simp [aM,cvA,aP,cvR,ah,cv1,cvL,cv0,bI,af,aO,prD,psI,intD,boolD,ae,upd]) rfl ?_)
    refine gx (an ku @intD.eq_1) ?_
    refine cK [] rfl ?_
    simp [cv,cvT,cv1,cv0,upd,intD,boolD]
   ·rw [dif_neg hlt]
    have g:decide ((i:Int) < (l.length:Int))=false:=decide_eq_false (by omega)
    refine gx (an ku g) ?_
    refine cK [] rfl ?_
    simp [cv,cvT,cv1,cv0,upd,intD,boolD]
theorem fe:(type_of% @Ty.T3)/\(type_of% @Ty.T5)/\(type_of% @Ty.T29)/\(type_of% @Ty.T31)/\(type_of% @Ty.T32)/\(type_of% @Ty.T41)/\(type_of% @Ty.aaC):=⟨@Ty.T3,@Ty.T5,@Ty.T29,@Ty.T31,@Ty.T32,@Ty.T41,@Ty.aaC⟩
theorem sJ:(type_of% @Ty.T3)/\(type_of% @Ty.T5)/\(type_of% @Ty.T29)/\(type_of% @Ty.T41):=⟨@Ty.T3,@Ty.T5,@Ty.T29,@Ty.T41⟩
def dF (e i:Nat):D:=.agg [intD e,intD i]
def Pk (p:aV):Bool:=decide (60 < p.k.length) || decide (200 < p.v.length)
def iI (l:List aV) (i:Nat):Nat × Nat :=
 if h:i < l.length then
  if Pk l[i] then (4,i)
  else if 0 < i/\0<=Lib.compareBytes (l[i - 1]'(by omega)).k l[i].k then (2,i)
  else iI l (i+1)
 else (0,0)
termination_by l.length - i
def dQ (l:List aV):Nat × Nat:=if 200 < l.length then (5,0) else iI l 0
theorem Yz (p:aV):PureD Tryz.prog 107 [prD p] (intD (if Pk p then 4 else 0)):=by
 unfold Pk
 refine aa 13 Tryz.func107 rfl rfl rfl (fun _ _=>rfl) ?_
 cases g1:decide ((60:Int) < (p.k.length:Int))
 ·have h1:decide (60 < p.k.length)=false:=by simp at g1 ⊢; omega
  refine gx (an (an (an sJ @prD.eq_1) @bI.eq_1) g1) ?_
  refine bi (fun h=>?_) (fun h=>?_)
  ·have h2:decide (200 < p.v.length)=true:=by simp at h ⊢; omega
   refine gx sJ ?_
   refine ax [] rfl ?_
   simp [cv,cv1,cv0,upd,intD,h1,h2]
  ·have h2:decide (200 < p.v.length)=false:=by simp at h ⊢; omega
   refine gx sJ ?_
   refine ax [] rfl ?_
   simp [cv,cv1,cv0,upd,intD,h1,h2]
 ·have h1:decide (60 < p.k.length)=true:=by simp at g1 ⊢; omega
  refine gx (an (an (an sJ @prD.eq_1) @bI.eq_1) g1) ?_
  refine ax [] rfl ?_
  simp [cv,cv1,cv0,upd,intD,h1]
theorem BZ (l:List aV) (hl:l.length<=1048576):PureD Tryz.prog 53 [.i (psI l)] (dF (dQ l).1 (dQ l).2):=by
 refine aa 42 Tryz.func53 rfl rfl rfl (fun _ _=>rfl) ?_
 refine gx (an fe @psI.eq_1) ?_
 refine bi (fun h=>?_) (fun h=>?_)
 ·have h1:200 < l.length:=by simp at h; omega
  clear h
  refine gx fe ?_
  refine DZ [] rfl qZ pU (by simp [upd,aF,aj]; rfl) ?_
  simp [cv,cv1,cvL,cv0,upd,dQ,h1,dF,intD]
 ·have h1:¬ 200 < l.length:=by simp at h; omega
  clear h
  have hw:dQ l=iI l 0:=by rw [dQ,if_neg h1]
  generalize dQ l=R at hw
  refine gx fe ?_
  refine bZ (ι:=Nat) (fun i=>i<=l.length/\R=iI l i)
   (fun i=>ek [(0,.i (.sl (l.map aO))),(2,.pt 100 0 0 0),(10,.i (.sl (l.map aO))),(11,intD l.length),(12,intD i)] [(100,.box [intD 0,intD 0])]) (fun i=>l.length - i) 0 ⟨Nat.zero_le _,hw⟩ ?_ ?_
  ·refine az _ _ [] [(100,1000)] ?_ ?_ rfl rfl
   ·simp [cv,cvL,cv1,cv0,upd,lk,aJ,intD]
   ·simp [bE,aJ,lk,cvO,cvL,cv0,frz,upd,D.one,intD,hO]
  ·rintro i ⟨hi,hR⟩
   rw [au]
   refine gx (an fe @intD.eq_1) ?_
   refine bi (fun h=>?_) (fun h=>?_)
   ·have h2:i < l.length:=by simp at h; omega
    clear h
    rw [iI,dif_pos h2] at hR
    have e1:(l.map aO)[i]?=some [bI l[i].k,bI l[i].v]:=by rw [List.getElem?_map,List.getElem?_eq_getElem h2]; rfl
    have w1:IntKind.i64.wrap ((i:Int)+1)=((i+1:Nat):Int):=by rw [aD (by omega) (by omega)]; omega
    have hpr:=Yz l[i]
    cases i with
    | zero =>
     have w0:IntKind.i64.wrap 1=1:=by decide
     generalize l[0]=p at *
     (refine gy (an fe e1) ?_; try intro ops hops)
     (first | refine ai [] [] (hpr) (by simp [aM,cvA,aP,cvR,ah,cv1,cvL,cv0,bI,af,aO,prD,psI,intD,dF,ae,upd]) rfl ?_ | refine ag [] [] [] (hpr) (fun G _=>by simp [aM,cvA,aP,cvR,ah,cv1,cvL,cv0,bI,af,aO,prD,psI,intD,dF,ae,upd]) rfl ?_)
     cases hb:Pk p
     ·simp only [hb,Bool.false_eq_true,if_false,Nat.lt_irrefl,false_and] at hR
      refine gx (an (an fe @intD.eq_1) w1) ?_
      refine ⟨0+1,⟨h2,hR⟩,az _ _ [] [(100,100)] ?_ ?_ rfl rfl,by simp; omega⟩
      ·simp [cv,cvL,cv1,cv0,upd,lk,aJ,intD,w0]
      ·simp [bE,aJ,lk,cvO,cvL,cv0,frz,upd,D.one,intD,hO]
     ·simp only [hb,if_true] at hR
      refine gx (an fe @intD.eq_1) ?_
      refine DZ [] rfl qZ pU (by simp [upd,aF,aj]; rfl) ?_
      simp [cv,cv1,cvL,cv0,upd,hR,dF,intD]
    | succ i =>
     have h3:i < l.length:=by omega
     have e2:(l.map aO)[i]?=some [bI l[i].k,bI l[i].v]:=by rw [List.getElem?_map,List.getElem?_eq_getElem h3]; rfl
     have w2:IntKind.i64.wrap (((i+1:Nat):Int) - 1)=(i:Int):=by rw [aD (by omega) (by omega)]; omega
     have g1:decide ((0:Int) < ((i+1:Nat):Int))=true:=decide_eq_true (by omega)
     have hR':R=if Pk l[i+1] then (4,i+1) else if 0<=Lib.compareBytes l[i].k l[i+1].k then (2,i+1) else iI l (i+1+1):=by
      rw [hR]; simp
     clear hR
     generalize l[i+1]=p at *
     generalize l[i]=q at *
     (refine gy (an fe e1) ?_; try intro ops hops)
     (first | refine ai [] [] (hpr) (by simp [aM,cvA,aP,cvR,ah,cv1,cvL,cv0,bI,af,aO,prD,psI,intD,dF,ae,upd]) rfl ?_ | refine ag [] [] [] (hpr) (fun G _=>by simp [aM,cvA,aP,cvR,ah,cv1,cvL,cv0,bI,af,aO,prD,psI,intD,dF,ae,upd]) rfl ?_)
     cases hb:Pk p
     ·simp only [hb,Bool.false_eq_true,if_false] at hR'
      (refine gy (an (an (an (an (an fe @intD.eq_1) g1) w2) e2) @bI.eq_1) ?_; try intro ops hops)
      (first | refine ai [] [] (IM q.k p.k) (by simp [aM,cvA,aP,cvR,ah,cv1,cvL,cv0,bI,af,aO,prD,psI,intD,dF,ae,upd]) rfl ?_ | refine ag [] [] [] (IM q.k p.k) (fun G _=>by simp [aM,cvA,aP,cvR,ah,cv1,cvL,cv0,bI,af,aO,prD,psI,intD,dF,ae,upd]) rfl ?_)
      refine gx fe ?_
      refine bi (fun h=>?_) (fun h=>?_)
      ·have h4:0<=Lib.compareBytes q.k p.k:=by simpa using h
       rw [if_pos h4] at hR'
       refine gx fe ?_
       refine DZ [] rfl qZ pU (by simp [upd,aF,aj]; rfl) ?_
       simp [cv,cv1,cvL,cv0,upd,hR',dF,intD]
      ·have h4:¬ 0<=Lib.compareBytes q.k p.k:=by simpa using h
       rw [if_neg h4] at hR'
       refine gx (an fe w1) ?_
       refine ⟨i+1+1,⟨h2,hR'⟩,az _ _ [] [(100,100)] ?_ ?_ rfl rfl,by simp; omega⟩
       ·simp [cv,cvL,cv1,cv0,upd,lk,aJ,intD]
       ·simp [bE,aJ,lk,cvO,cvL,cv0,frz,upd,D.one,intD,hO]
     ·simp only [hb,if_true] at hR'
      refine gx (an fe @intD.eq_1) ?_
      refine DZ [] rfl qZ pU (by simp [upd,aF,aj]; rfl) ?_
      simp [cv,cv1,cvL,cv0,upd,hR',dF,intD]
   ·have h2:¬ i < l.length:=by simp at h; omega
    clear h
    rw [iI,dif_neg h2] at hR
    refine gx fe ?_
    refine DZ [] rfl qZ pU (by simp [upd,aF,aj]; rfl) ?_
    simp [cv,cv1,cvL,cv0,upd,hR,dF,intD]
theorem xG:(type_of% @Ty.T1)/\(type_of% @Ty.T3)/\(type_of% @Ty.T4)/\(type_of% @Ty.T5)/\(type_of% @Ty.T29)/\(type_of% @Ty.T42):=⟨@Ty.T1,@Ty.T3,@Ty.T4,@Ty.T5,@Ty.T29,@Ty.T42⟩
theorem Fs:(type_of% @Ty.T1)/\(type_of% @Ty.T3)/\(type_of% @Ty.T5)/\(type_of% @Ty.T29)/\(type_of% @Ty.T42):=⟨@Ty.T1,@Ty.T3,@Ty.T5,@Ty.T29,@Ty.T42⟩
theorem xE:(type_of% @Ty.T1)/\(type_of% @Ty.T3)/\(type_of% @Ty.T5)/\(type_of% @Ty.T29)/\(type_of% @Ty.T42):=⟨@Ty.T1,@Ty.T3,@Ty.T5,@Ty.T29,@Ty.T42⟩
theorem kv:(type_of% @Ty.T3)/\(type_of% @Ty.T5)/\(type_of% @Ty.T29)/\(type_of% @Ty.T31)/\(type_of% @Ty.T41):=⟨@Ty.T3,@Ty.T5,@Ty.T29,@Ty.T31,@Ty.T41⟩
theorem PI:(type_of% @Ty.T3)/\(type_of% @Ty.T4)/\(type_of% @Ty.T5)/\(type_of% @Ty.T29):=⟨@Ty.T3,@Ty.T4,@Ty.T5,@Ty.T29⟩
theorem sH:(type_of% @Ty.T3):=@Ty.T3
def four (n:Nat):List UInt8:=[aT n 16777216,aT n 65536,aT n 256,aT n 1]
def vX (k v:List UInt8):List UInt8:=sha (0 :: (four k.length++(k++v)))
def ql (a b:List UInt8):List UInt8:=sha (1 :: (a++b))
def Fu (n:Nat) (t:List UInt8):List UInt8:=sha (2 :: (four n++t))
def aK (n:Nat):Nat:=2 ^ Nat.log2 (n - 1)
theorem gI {n:Nat} (h:2<=n):0 < aK n/\aK n < n:=by
 have:=Nat.log2_self_le (n:=n - 1) (by omega)
 have h2:0 < 2 ^ Nat.log2 (n - 1):=Nat.pow_pos (by decide)
 simp only [aK]; omega
theorem JO {n:Nat}:n<=2 * aK n:=by
 have:=Nat.lt_log2_self (n:=n - 1)
 rw [Nat.pow_succ] at this
 simp only [aK]; omega
def gH (l:List aV):List UInt8 :=
 match l with
 | []=>[]
 | [p]=>vX p.k p.v
 | p :: q :: r=>ql (gH ((p :: q :: r).take (aK (p :: q :: r).length))) (gH ((p :: q :: r).drop (aK (p :: q :: r).length)))
termination_by l.length
decreasing_by
 all_goals
  have:=gI (n:=(p :: q :: r).length) (by simp)
  simp only [List.length_take,List.length_drop]
  omega
theorem tZ (p:aV):gH [p]=vX p.k p.v:=by rw [gH]
theorem tY {l:List aV} (h:2<=l.length):gH l=ql (gH (l.take (aK l.length))) (gH (l.drop (aK l.length))):=by
 match l,h with
 | p :: q :: r,_=>conv=>lhs; rw [gH]
theorem lw (l:List aV) (h:l≠[]):(gH l).length=32:=by
 match l,h with
 | [p],_=>rw [tZ]; exact cz _
 | p :: q :: r,_=>rw [tY (by simp)]; exact cz _
def oJ (l:List aV):List UInt8:=Fu l.length (gH l)
theorem NB (n d k:Nat) (hd:d=2 ^ k) (hk:k < 64):IntKind.u8.wrap ((n:Int).fdiv (2 ^ min k (IntKind.bits .i64)))=((aT n d).toNat:Int):=by
 have hm:min k (IntKind.bits .i64)=k:=by simp [IntKind.bits]; omega
 rw [hm,Int.fdiv_eq_ediv_of_nonneg _ (by exact_mod_cast Nat.zero_le _),IntKind.wrap_u8]
 have:(n:Int) / 2 ^ k=((n / 2 ^ k:Nat):Int):=by rw [Int.natCast_ediv,Int.natCast_pow]; rfl
 rw [this,aT,hd]
 generalize n / 2 ^ k=x
 rw [UInt8.toNat_ofNat']; omega
theorem abA (n:Nat):IntKind.u8.wrap (n:Int)=((aT n 1).toNat:Int):=by
 rw [IntKind.wrap_u8,aT,Nat.div_one,UInt8.toNat_ofNat']; omega
theorem Gv (n:Nat):PureD Tryz.prog 164 [intD n] (.i (bI (four n))):=by
 have b1:=NB n 16777216 24 (by decide) (by decide)
 have b2:=NB n 65536 16 (by decide) (by decide)
 have b3:=NB n 256 8 (by decide) (by decide)
 have b4:=abA n
 simp only [four]
 generalize aT n 16777216=c1 at *
 generalize aT n 65536=c2 at *
 generalize aT n 256=c3 at *
 generalize aT n 1=c4 at *
 refine aa 15 Tryz.func164 rfl rfl rfl (fun _ _=>rfl) ?_
 refine gx (an (an (an (an (an PI @intD.eq_1) @b1) @b2) @b3) @b4) ?_
 refine ax [1267] rfl ?_
 simp [cv,cv1,cv0,upd,ae,bI,af]
theorem Tp (k v:List UInt8) (hk:k.length<=1048576) (hv:v.length<=1048576):PureD Tryz.prog 115 [.i (bI k),.i (bI v)] (.i (bI (vX k v))):=by
 have hp:=uA [[0],four k.length,k,v] (by simp) (by intro b hb; simp at hb; rcases hb with rfl | rfl | rfl | rfl; simp; (simp [four]); omega; omega)
 have hf:[[0],four k.length,k,v].flatten=0 :: (four k.length++(k++v)):=by simp
 rw [hf] at hp
 rw [show sha (0 :: (four k.length++(k++v)))=vX k v from rfl] at hp
 generalize vX k v=R at *
 refine aa 13 Tryz.func115 rfl rfl rfl (fun _ _=>rfl) ?_
 (refine gy (an xG @bI.eq_1) ?_; try intro ops hops)
 (first | refine aW [] (Gv k.length) (by simp [aM,cvA,aP,cvR,ah,cv1,cvL,cv0,bI,af,bbI,aO,psI,intD,ae,upd]) ?_ | refine aL [] [] (Gv k.length) (fun G _=>by simp [aM,cvA,aP,cvR,ah,cv1,cvL,cv0,bI,af,bbI,aO,psI,intD,ae,upd]) (by simp) ?_)
 (refine gy (an xG @bI.eq_1) ?_; try intro ops hops)
 (first | refine aW [1262] (hp) (by simp [aM,cvA,aP,cvR,ah,cv1,cvL,cv0,bI,af,bbI,aO,psI,intD,ae,upd,frz,bbI]) ?_ | refine aL [1262] [1262] (hp) (fun G hG=>by (have hG1262:=hG 1262 (by simp); simp [aM,cvA,aP,cvR,ah,cv1,cvL,cv0,bI,af,bbI,aO,psI,intD,ae,upd,frz,bbI,hG1262])) (by simp) ?_)
 refine gx (an xG @bI.eq_1) ?_
 refine ax [] rfl ?_
 simp [cv,cv1,cv0,upd]
theorem Le (a b:List UInt8) (ha:a.length<=1048576) (hb:b.length<=1048576):PureD Tryz.prog 163 [.i (bI a),.i (bI b)] (.i (bI (ql a b))):=by
 have hp:=uA [[1],a,b] (by simp) (by intro x hx; simp at hx; rcases hx with rfl | rfl | rfl; simp; omega; omega)
 have hf:[[1],a,b].flatten=1 :: (a++b):=by simp
 rw [hf] at hp
 rw [show sha (1 :: (a++b))=ql a b from rfl] at hp
 generalize ql a b=R at *
 refine aa 10 Tryz.func163 rfl rfl rfl (fun _ _=>rfl) ?_
 (refine gy (an Fs @bI.eq_1) ?_; try intro ops hops)
 (first | refine aW [1259] (hp) (by simp [aM,cvA,aP,cvR,ah,cv1,cvL,cv0,bI,af,bbI,aO,psI,intD,ae,upd,frz,bbI]) ?_ | refine aL [1259] [1259] (hp) (fun G hG=>by (have hG1259:=hG 1259 (by simp); simp [aM,cvA,aP,cvR,ah,cv1,cvL,cv0,bI,af,bbI,aO,psI,intD,ae,upd,frz,bbI,hG1259])) (by simp) ?_)
 refine gx (an Fs @bI.eq_1) ?_
 refine ax [] rfl ?_
 simp [cv,cv1,cv0,upd]
theorem PK (n:Nat) (t:List UInt8) (ht:t.length<=1048576):PureD Tryz.prog 116 [intD n,.i (bI t)] (.i (bI (Fu n t))):=by
 have hp:=uA [[2],four n,t] (by simp) (by intro x hx; simp at hx; rcases hx with rfl | rfl | rfl; simp; (simp [four]); omega)
 have hf:[[2],four n,t].flatten=2 :: (four n++t):=by simp
 rw [hf] at hp
 rw [show sha (2 :: (four n++t))=Fu n t from rfl] at hp
 generalize Fu n t=R at *
 refine aa 11 Tryz.func116 rfl rfl rfl (fun _ _=>rfl) ?_
 (refine gy (an (an xE @bI.eq_1) @intD.eq_1) ?_; try intro ops hops)
 (first | refine aW [] (Gv n) (by simp [aM,cvA,aP,cvR,ah,cv1,cvL,cv0,bI,af,bbI,aO,psI,intD,ae,upd]) ?_ | refine aL [] [] (Gv n) (fun G _=>by simp [aM,cvA,aP,cvR,ah,cv1,cvL,cv0,bI,af,bbI,aO,psI,intD,ae,upd]) (by simp) ?_)
 (refine gy (an xE @bI.eq_1) ?_; try intro ops hops)
 (first | refine aW [1260] (hp) (by simp [aM,cvA,aP,cvR,ah,cv1,cvL,cv0,bI,af,bbI,aO,psI,intD,ae,upd,frz,bbI]) ?_ | refine aL [1260] [1260] (hp) (fun G hG=>by (have hG1260:=hG 1260 (by simp); simp [aM,cvA,aP,cvR,ah,cv1,cvL,cv0,bI,af,bbI,aO,psI,intD,ae,upd,frz,bbI,hG1260])) (by simp) ?_)
 refine gx (an xE @bI.eq_1) ?_
 refine ax [] rfl ?_
 simp [cv,cv1,cv0,upd]
theorem Iu {n i:Nat} (h1:2 ^ i=1\/2 ^ i < n) (h2:n<=2 * 2 ^ i) (hn:1<=n):2 ^ i=aK n:=by
 unfold aK
 congr 1
 have hle:i<=Nat.log2 (n - 1)\/n - 1=0:=by
  by_cases h0:n - 1=0
  ·exact .inr h0
  ·refine .inl ((Nat.le_log2 h0).2 ?_)
   rcases h1 with h1 | h1 <;> omega
 have hge:n - 1=0\/Nat.log2 (n - 1) < i+1:=by
  by_cases h0:n - 1=0
  ·exact .inl h0
  ·refine .inr ((Nat.log2_lt h0).2 ?_)
   rw [Nat.pow_succ]; omega
 rcases hle with hle | hle
 ·rcases hge with hge | hge
  ·rw [hge] at hle ⊢; simp at hle ⊢; omega
  ·omega
 ·rw [hle]
  have:n=1:=by omega
  subst this
  simp
  rcases h1 with h1 | h1
  ·cases i with
   | zero=>rfl
   | succ i=>rw [Nat.pow_succ] at h1; omega
  ·have:0 < 2 ^ i:=Nat.pow_pos (by decide); omega
theorem Cr (n:Nat) (h0:1<=n) (hn:n<=1048576):PureD Tryz.prog 162 [intD n] (intD (aK n)):=by
 refine aa 11 Tryz.func162 rfl rfl rfl (fun _ _=>rfl) ?_
 refine gx (an sH @intD.eq_1) ?_
 refine bZ (ι:=Nat) (fun i=>2 ^ i=1\/2 ^ i < n)
  (fun i=>ek [(0,intD n),(3,intD (2 ^ i:Nat))] []) (fun i=>n - 2 ^ i) 0 (.inl rfl) ?_ ?_
 ·refine az _ _ [] [] ?_ ?_ rfl rfl
  ·simp [cv,cv1,cv0,upd,lk,aJ,intD]
  ·simp
 ·rintro i hi
  rw [au]
  have hp:0 < 2 ^ i:=Nat.pow_pos (by decide)
  have hs:2 ^ (i+1)=2 * 2 ^ i:=by rw [Nat.pow_succ]; omega
  have hfin:=Iu hi
  have w1:IntKind.i64.wrap (2 * ((2 ^ i:Nat):Int))=((2 ^ (i+1):Nat):Int):=by rw [hs,aD (by omega) (by omega)]; omega
  have w2:IntKind.i64.wrap (((2 ^ i:Nat):Int) * 2)=((2 ^ (i+1):Nat):Int):=by rw [hs,aD (by omega) (by omega)]; omega
  generalize hx:2 ^ i=x at *
  generalize hy:2 ^ (i+1)=y at *
  refine gx (an (an sH @intD.eq_1) w1) ?_
  refine bi (fun h=>?_) (fun h=>?_)
  ·have h1:y < n:=by simp at h; omega
   clear h
   refine gx (an sH w2) ?_
   refine ⟨i+1,by show 2 ^ (i+1)=1\/2 ^ (i+1) < n; rw [hy]; exact .inr h1,az _ _ [] [] ?_ ?_ rfl rfl,by simp only [hx,hy]; omega⟩
   ·simp only [hy]; simp [cv,cv1,cv0,upd,lk,aJ,intD]
   ·simp
  ·have h1:n<=2 * x:=by simp at h; omega
   clear h
   refine gx sH ?_
   refine ax [] rfl ?_
   simp [cv,cv1,cv0,upd,intD,hfin h1 h0]
theorem JI:∀ (n:Nat) (l:List aV),l.length=n->l≠[]->l.length<=1048576->(∀ p∈l,p.k.length<=1048576/\p.v.length<=1048576)->PureD Tryz.prog 129 [.i (psI l)] (.i (bI (gH l))):=by
 intro n
 induction n using Nat.strongRecOn with
 | _ n ih =>
  intro l hn hne hl hb
  by_cases h1:l.length=1
  ·obtain ⟨p,rfl⟩:=List.length_eq_one_iff.1 h1
   have hp:=hb p (by simp)
   have hlf:=Tp p.k p.v hp.1 hp.2
   rw [tZ]
   generalize vX p.k p.v=R at *
   refine aa 28 Tryz.func129 rfl rfl rfl (fun _ _=>rfl) ?_
   (refine gy (an (an (an (an (an kv @psI.eq_1) @List.map_cons.{0,0}) @List.map_nil.{0,0}) @aO.eq_1) @bI.eq_1) ?_; try intro ops hops)
   (first | refine aW [] (hlf) (by simp [aM,cvA,aP,cvR,ah,cv1,cvL,cv0,bI,af,bbI,aO,psI,intD,ae,upd]) ?_ | refine aL [] [] (hlf) (fun G _=>by simp [aM,cvA,aP,cvR,ah,cv1,cvL,cv0,bI,af,bbI,aO,psI,intD,ae,upd]) (by simp) ?_)
   refine gx (an kv @bI.eq_1) ?_
   refine ax [] rfl ?_
   simp [cv,cv1,cv0,upd]
  ·have h2:2<=l.length:=by have:=List.length_pos_iff.2 hne; omega
   have hs:=gI h2
   rw [tY h2]
   have hsp:=Cr l.length (by omega) hl
   generalize aK l.length=k at *
   have t1:=ih (l.take k).length (by simp; omega) (l.take k) rfl (by intro hc; have:=congrArg List.length hc; simp only [List.length_take,List.length_drop,List.length_nil] at this; omega) (by simp; omega) (fun p hp=>hb p (List.mem_of_mem_take hp))
   have t2:=ih (l.drop k).length (by simp; omega) (l.drop k) rfl (by intro hc; have:=congrArg List.length hc; simp only [List.length_take,List.length_drop,List.length_nil] at this; omega) (by simp; omega) (fun p hp=>hb p (List.mem_of_mem_drop hp))
   have l1:(gH (l.take k)).length=32:=lw _ (by intro hc; have:=congrArg List.length hc; simp only [List.length_take,List.length_drop,List.length_nil] at this; omega)
   have l2:(gH (l.drop k)).length=32:=lw _ (by intro hc; have:=congrArg List.length hc; simp only [List.length_take,List.length_drop,List.length_nil] at this; omega)
   have hnd:=Le (gH (l.take k)) (gH (l.drop k)) (by omega) (by omega)
   generalize gH (l.take k)=T1 at *
   generalize gH (l.drop k)=T2 at *
   generalize ql T1 T2=R at *
   have g1:decide ((l.length:Int)=1)=false:=by simp; omega
   have g2:((k:Int)<=(l.length:Int))=True:=eq_true (by omega)
   have u1:uni 2 (l.map aO)=true:=by simp [uni,aO]
   refine aa 28 Tryz.func129 rfl rfl rfl (fun _ _=>rfl) ?_
   (refine gy (an (an kv @psI.eq_1) g1) ?_; try intro ops hops)
   (first | refine ai [] [] (hsp) (by simp [aM,cvA,aP,cvR,ah,cv1,cvL,cv0,bI,af,bbI,aO,psI,intD,ae,upd]) rfl ?_ | refine ag [] [] [] (hsp) (fun G _=>by simp [aM,cvA,aP,cvR,ah,cv1,cvL,cv0,bI,af,bbI,aO,psI,intD,ae,upd]) rfl ?_)
   (refine gy (an (an (an (an (an (an kv @intD.eq_1) @psI.eq_1) g2) u1) @mtk) @mdr) ?_; try intro ops hops)
   (first | refine aW [] (t1) (by simp [aM,cvA,aP,cvR,ah,cv1,cvL,cv0,bI,af,bbI,aO,psI,intD,ae,upd]) ?_ | refine aL [] [] (t1) (fun G _=>by simp [aM,cvA,aP,cvR,ah,cv1,cvL,cv0,bI,af,bbI,aO,psI,intD,ae,upd]) (by simp) ?_)
   (refine gy (an (an (an (an (an (an kv @bI.eq_1) @psI.eq_1) g2) u1) @mtk) @mdr) ?_; try intro ops hops)
   (first | refine aW [] (t2) (by simp [aM,cvA,aP,cvR,ah,cv1,cvL,cv0,bI,af,bbI,aO,psI,intD,ae,upd]) ?_ | refine aL [] [] (t2) (fun G _=>by simp [aM,cvA,aP,cvR,ah,cv1,cvL,cv0,bI,af,bbI,aO,psI,intD,ae,upd]) (by simp) ?_)
   (refine gy (an kv @bI.eq_1) ?_; try intro ops hops)
   (first | refine aW [] (hnd) (by simp [aM,cvA,aP,cvR,ah,cv1,cvL,cv0,bI,af,bbI,aO,psI,intD,ae,upd]) ?_ | refine aL [] [] (hnd) (fun G _=>by simp [aM,cvA,aP,cvR,ah,cv1,cvL,cv0,bI,af,bbI,aO,psI,intD,ae,upd]) (by simp) ?_)
   refine gx (an kv @bI.eq_1) ?_
   refine ax [] rfl ?_
   simp [cv,cv1,cv0,upd]
structure BL (l:List aV):Prop where
 len:l.length<=200
 big:∀ p∈l,p.k.length<=60/\p.v.length<=200
 ord:∀ i j (hi:i < l.length) (hj:j < l.length),i < j->Lib.compareBytes l[i].k l[j].k < 0
theorem WE {p:aV} (h:Pk p=false):p.k.length<=60/\p.v.length<=200:=by
 simp [Pk] at h; omega
theorem H_ (l:List aV):∀ (d i:Nat),l.length - i=d->(iI l i).1=0->∀ a (ha:a < l.length),i<=a->Pk l[a]=false/\(∀ h:0 < a,Lib.compareBytes (l[a - 1]'(by omega)).k l[a].k < 0):=by
 intro d
 induction d with
 | zero=>intro i hd _ a ha hia; omega
 | succ d ih =>
  intro i hd hw a ha hia
  rw [iI,dif_pos (by omega)] at hw
  split at hw
  ·cases hw
  ·rename_i hb
   split at hw
   ·cases hw
   ·rename_i hc
    by_cases hai:a=i
    ·subst hai
     refine ⟨by simpa using hb,fun h=>?_⟩
     have:¬ 0<=Lib.compareBytes (l[a - 1]'(by omega)).k l[a].k:=fun h'=>hc ⟨h,h'⟩
     omega
    ·exact ih (i+1) (by omega) hw a ha (by omega)
theorem sP {l:List aV} (h:(dQ l).1=0):BL l:=by
 unfold dQ at h
 split at h
 ·cases h
 ·rename_i hl
  have hw:=H_ l _ 0 rfl h
  refine ⟨by omega,fun p hp=>?_,?_⟩
  ·obtain ⟨a,ha,rfl⟩:=List.getElem_of_mem hp
   exact WE (hw a ha (Nat.zero_le _)).1
  ·intro i j
   induction j with
   | zero=>intro _ _ h; omega
   | succ j ih =>
    intro hi hj hij
    have h1:=(hw (j+1) hj (Nat.zero_le _)).2 (by omega)
    simp only [Nat.add_sub_cancel] at h1
    by_cases hc:i=j
    ·subst hc; exact h1
    ·exact jr _ _ _ (ih hi (by omega) (by omega)) h1
theorem xg {l:List aV} (h:BL l):∀ (d i:Nat),l.length - i=d->iI l i=(0,0):=by
 intro d
 induction d with
 | zero=>intro i hd; rw [iI,dif_neg (by omega)]
 | succ d ih =>
  intro i hd
  have hi:i < l.length:=by omega
  rw [iI,dif_pos hi]
  have hb:=h.big _ (List.getElem_mem hi)
  rw [if_neg (by simp [Pk]; omega),if_neg,ih (i+1) (by omega)]
  rintro ⟨h1,h2⟩
  have:=h.ord (i - 1) i (by omega) hi (by omega)
  omega
theorem kr {l:List aV} (h:BL l):dQ l=(0,0):=by
 rw [dQ,if_neg (by have:=h.len; omega)]; exact xg h _ 0 rfl
theorem pO {l:List aV} (h:(dQ l).1=0):dQ l=(0,0):=kr (sP h)
def placeF (l:List aV) (key:List UInt8):Nat:=(l.takeWhile fun p=>decide (Lib.compareBytes p.k key < 0)).length
def wF (l:List aV) (key:List UInt8):Bool:=if h:placeF l key < l.length then decide (l[placeF l key].k=key) else false
theorem AQ (l:List aV) (key:List UInt8):placeF l key<=l.length:=(List.takeWhile_sublist _).length_le
theorem AP (key:List UInt8):∀ (l:List aV) (a:Nat) (ha:a < l.length),a < placeF l key->Lib.compareBytes l[a].k key < 0
 | [],a,ha,_=>by simp at ha
 | p :: t,a,ha,h=>by
  unfold placeF at h
  rw [List.takeWhile_cons] at h
  split at h
  ·rename_i hp
   cases a with
   | zero=>simpa using hp
   | succ a=>exact AP key t a (by simpa using ha) (by simpa [placeF] using h)
  ·simp at h
theorem AU (key:List UInt8):∀ (l:List aV) (h:placeF l key < l.length),¬ Lib.compareBytes l[placeF l key].k key < 0
 | [],h=>by simp at h
 | p :: t,h=>by
  unfold placeF at h
  simp only [placeF]
  by_cases hp:decide (Lib.compareBytes p.k key < 0)=true
  ·have e:(List.takeWhile (fun p=>decide (Lib.compareBytes p.k key < 0)) (p :: t)).length=placeF t key+1:=by
    rw [List.takeWhile_cons,if_pos hp]; rfl
   simp only [e] at h ⊢
   have:=AU key t (by simpa using h)
   simpa using this
  ·have e:(List.takeWhile (fun p=>decide (Lib.compareBytes p.k key < 0)) (p :: t)).length=0:=by
    rw [List.takeWhile_cons,if_neg hp]; rfl
   simp only [e]
   simpa using hp
theorem qd {l:List aV} (h:BL l) (key:List UInt8):∀ a (ha:a < l.length),Lib.compareBytes l[a].k key < 0↔a < placeF l key:=by
 intro a ha
 refine ⟨fun h1=>?_,AP key l a ha⟩
 apply Decidable.byContradiction
 intro hc
 have hp:placeF l key < l.length:=by omega
 have h2:=AU key l hp
 by_cases he:a=placeF l key
 ·subst he; exact h2 h1
 ·exact h2 (jr _ _ _ (h.ord _ a hp ha (by omega)) h1)
theorem Fq:(type_of% @Ty.T5)/\(type_of% @Ty.T29)/\(type_of% @Ty.T31)/\(type_of% @Ty.T41)/\(type_of% @Ty.acX):=⟨@Ty.T5,@Ty.T29,@Ty.T31,@Ty.T41,@Ty.acX⟩
theorem iR:(type_of% @Ty.T3)/\(type_of% @Ty.T5)/\(type_of% @Ty.T29)/\(type_of% @Ty.T31)/\(type_of% @Ty.T32)/\(type_of% @Ty.T41)/\(type_of% @Ty.aaC):=⟨@Ty.T3,@Ty.T5,@Ty.T29,@Ty.T31,@Ty.T32,@Ty.T41,@Ty.aaC⟩
theorem Tw (l:List aV) (key:List UInt8) (h:BL l):PureD Tryz.prog 54 [.i (psI l),.i (bI key)] (.tup [intD (placeF l key),boolD (wF l key)]):=by
 have hs:=PZ l key (placeF l key) (by have:=h.len; omega) (AQ l key) (qd h key)
 have e:(if h:placeF l key < l.length then decide (Lib.compareBytes l[placeF l key].k key=0) else false)=wF l key:=by
  unfold wF
  split
  ·simp [kI]
  ·rfl
 rw [e] at hs
 refine aa 11 Tryz.func54 rfl rfl rfl (fun _ _=>rfl) ?_
 (refine gy (an (an Fq @psI.eq_1) @bI.eq_1) ?_; try intro ops hops)
 (first | refine ai [] [] (hs) (by simp [aM,cvA,aP,cvR,ah,cv1,cvL,cv0,bI,af,psI,intD,boolD,dF,ae,upd]) rfl ?_ | refine ag [] [] [] (hs) (fun G _=>by simp [aM,cvA,aP,cvR,ah,cv1,cvL,cv0,bI,af,psI,intD,boolD,dF,ae,upd]) rfl ?_)
 refine gx (an (an Fq @intD.eq_1) @boolD.eq_1) ?_
 refine cK [] rfl ?_
 simp [cv,cvT,cv1,cv0,upd,intD,boolD]
def Cv (l:List aV):List UInt8:=if (dQ l).1=0 then oJ l else []
theorem X_ (l:List aV) (hl:l.length<=1048576):PureD Tryz.prog 69 [.i (psI l)] (.tup [.i (bI (Cv l)),dF (dQ l).1 (dQ l).2]):=by
 have hw:=BZ l hl
 unfold Cv
 by_cases h0:(dQ l).1=0
 ·have hr:=sP h0
  have hz:=pO h0
  rw [if_pos h0,hz]
  rw [hz] at hw
  simp only at *
  cases l with
  | nil =>
   have ht:=PK 0 [] (by simp)
   rw [show Fu 0 []=oJ [] by rw [oJ,gH]; rfl] at ht
   generalize oJ []=R at *
   refine aa 22 Tryz.func69 rfl rfl rfl (fun _ _=>rfl) ?_
   (refine gy (an iR @psI.eq_1) ?_; try intro ops hops)
   (first | refine ai [] [] (hw) (by simp [aM,cvA,aP,cvR,ah,cv1,cvL,cv0,bI,af,psI,intD,boolD,dF,ae,upd]) rfl ?_ | refine ag [] [] [] (hw) (fun G _=>by simp [aM,cvA,aP,cvR,ah,cv1,cvL,cv0,bI,af,psI,intD,boolD,dF,ae,upd]) rfl ?_)
   (refine gy (an (an (an iR @dF.eq_1) @intD.eq_1) @List.map_nil.{0,0}) ?_; try intro ops hops)
   (first | refine aW [] (ht) (by simp [aM,cvA,aP,cvR,ah,cv1,cvL,cv0,bI,af,psI,intD,boolD,dF,ae,upd]) ?_ | refine aL [] [] (ht) (fun G _=>by simp [aM,cvA,aP,cvR,ah,cv1,cvL,cv0,bI,af,psI,intD,boolD,dF,ae,upd]) (by simp) ?_)
   refine gx (an iR @bI.eq_1) ?_
   refine Br [] rfl qZ pU (by simp [upd,aF,aj]; rfl) ?_
   simp [cv,cvT,cv1,cvL,cv0,upd,dF,intD,bI]
  | cons p t =>
   have htl:=lw (p :: t) (by simp)
   have htr:=JI _ (p :: t) rfl (by simp) hl (fun q hq=>by have:=hr.big q hq; omega)
   have ht:=PK (p :: t).length (gH (p :: t)) (by omega)
   rw [show Fu (p :: t).length (gH (p :: t))=oJ (p :: t) from rfl] at ht
   generalize oJ (p :: t)=R at *
   generalize gH (p :: t)=T at *
   have g1:decide (((p :: t).length:Int)=0)=false:=by simp; omega
   generalize p :: t=l at *
   refine aa 22 Tryz.func69 rfl rfl rfl (fun _ _=>rfl) ?_
   (refine gy (an iR @psI.eq_1) ?_; try intro ops hops)
   (first | refine ai [] [] (hw) (by simp [aM,cvA,aP,cvR,ah,cv1,cvL,cv0,bI,af,psI,intD,boolD,dF,ae,upd]) rfl ?_ | refine ag [] [] [] (hw) (fun G _=>by simp [aM,cvA,aP,cvR,ah,cv1,cvL,cv0,bI,af,psI,intD,boolD,dF,ae,upd]) rfl ?_)
   (refine gy (an (an (an (an iR @dF.eq_1) @intD.eq_1) @psI.eq_1) g1) ?_; try intro ops hops)
   (first | refine aW [] (htr) (by simp [aM,cvA,aP,cvR,ah,cv1,cvL,cv0,bI,af,psI,intD,boolD,dF,ae,upd]) ?_ | refine aL [] [] (htr) (fun G _=>by simp [aM,cvA,aP,cvR,ah,cv1,cvL,cv0,bI,af,psI,intD,boolD,dF,ae,upd]) (by simp) ?_)
   (refine gy (an iR @bI.eq_1) ?_; try intro ops hops)
   (first | refine aW [] (ht) (by simp [aM,cvA,aP,cvR,ah,cv1,cvL,cv0,bI,af,psI,intD,boolD,dF,ae,upd]) ?_ | refine aL [] [] (ht) (fun G _=>by simp [aM,cvA,aP,cvR,ah,cv1,cvL,cv0,bI,af,psI,intD,boolD,dF,ae,upd]) (by simp) ?_)
   refine gx (an iR @bI.eq_1) ?_
   refine Br [] rfl qZ pU (by simp [upd,aF,aj]; rfl) ?_
   simp [cv,cvT,cv1,cvL,cv0,upd,dF,intD,bI]
 ·rw [if_neg h0]
  generalize dQ l=W at *
  have g1:decide ((W.1:Int)=0)=false:=by simp; omega
  refine aa 22 Tryz.func69 rfl rfl rfl (fun _ _=>rfl) ?_
  (refine gy (an iR @psI.eq_1) ?_; try intro ops hops)
  (first | refine ai [] [] (hw) (by simp [aM,cvA,aP,cvR,ah,cv1,cvL,cv0,bI,af,psI,intD,boolD,dF,ae,upd]) rfl ?_ | refine ag [] [] [] (hw) (fun G _=>by simp [aM,cvA,aP,cvR,ah,cv1,cvL,cv0,bI,af,psI,intD,boolD,dF,ae,upd]) rfl ?_)
  refine gx (an (an (an iR @dF.eq_1) @intD.eq_1) g1) ?_
  refine Br [] rfl qZ pU (by simp [upd,aF,aj]; rfl) ?_
  simp [cv,cvT,cv1,cvL,cv0,upd,dF,intD,bI]
end Go.Proofs.YtfenipelcpmkpaaGreatDoor
