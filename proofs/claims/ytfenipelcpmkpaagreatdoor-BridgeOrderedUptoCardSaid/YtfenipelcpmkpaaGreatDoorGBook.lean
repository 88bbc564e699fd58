/- Merged texts: Find, BookA, BookB, BookO, BookC. -/
import Derived.Test.YtfenipelcpmkpaaGreatDoorGHd
set_option linter.all false
set_option maxHeartbeats 2000000
namespace Go.Proofs.YtfenipelcpmkpaaGreatDoor
open Go Go.Abs Go.RowKit Go.Proofs.YtfenipelcpmkpaaGreatDoor.Ty
theorem IW:(type_of% @Ty.T5)/\(type_of% @Ty.T29)/\(type_of% @Ty.T41):=⟨@Ty.T5,@Ty.T29,@Ty.T41⟩
theorem jO:(type_of% @Ty.T3)/\(type_of% @Ty.T5)/\(type_of% @Ty.T29)/\(type_of% @Ty.T31)/\(type_of% @Ty.T41)/\(type_of% @Ty.abS):=⟨@Ty.T3,@Ty.T5,@Ty.T29,@Ty.T31,@Ty.T41,@Ty.abS⟩
structure bn where
 k:List UInt8
 v:List UInt8
def aM (p:bn):List I:=[bI p.k,bI p.v]
def prD (p:bn):D:=.agg [.i (bI p.k),.i (bI p.v)]
def psI (l:List bn):I:=.sl (l.map aM)
theorem yE (p:bn) (k:List UInt8):PureD Tryz.prog 109 [prD p,.i (bI k)] (intD (Lib.compareBytes p.k k)):=by
 refine aa 9 Tryz.func109 rfl rfl rfl (fun _ _=>rfl) ?_
 (refine gy (an (an IW @prD.eq_1) @bI.eq_1) ?_; try intro ops hops)
 (first | refine ai [] [] (HV p.k k) (by simp [aK,cvA,aN,cvR,ah,cv1,cvL,cv0,bI,af,aM,prD,psI,intD,boolD,ae,upd]) rfl ?_ | refine ag [] [] [] (HV p.k k) (fun G _=>by simp [aK,cvA,aN,cvR,ah,cv1,cvL,cv0,bI,af,aM,prD,psI,intD,boolD,ae,upd]) rfl ?_)
 refine gx IW ?_
 refine ax [] rfl ?_
 simp [cv,cv1,cv0,upd,intD]
theorem OQ (l:List bn) (key:List UInt8) (p:Nat) (hl:l.length<=1048576) (hp:p<=l.length) (hm:∀ a (h:a < l.length),Lib.compareBytes l[a].k key < 0↔a < p) :
  PureD Tryz.prog 108 [.i (psI l),.i (bI key),.fn 109 []]
   (.tup [intD p,boolD (if h:p < l.length then decide (Lib.compareBytes l[p].k key=0) else false)]):=by
 refine aa 49 Tryz.func108 rfl rfl rfl (fun _ _=>rfl) ?_
 refine gx (an (an jO @psI.eq_1) @bI.eq_1) ?_
 refine bY (ι:=Nat × Nat) (fun q=>q.1<=p/\p<=q.2/\q.2<=l.length)
  (fun q=>eu [(0,.i (.sl (l.map aM))),(1,.i (.sl (key.map af))),(2,.fn 109 []),(8,intD l.length),(9,intD q.1),(10,intD q.2)] []) (fun q=>q.2 - q.1) (0,l.length) ⟨Nat.zero_le _,hp,Nat.le_refl _⟩ ?_ ?_
 ·refine aA _ _ [] [] ?_ ?_ rfl rfl
  ·simp [cv,cvL,cv1,cv0,upd,lk,aI,intD]
  ·simp
 ·rintro ⟨i,j⟩ ⟨h1,h2,h3⟩
  simp only at h1 h2 h3
  rw [au]
  refine gx (an jO @intD.eq_1) ?_
  refine bf (fun h=>?_) (fun h=>?_)
  ·have hij:i < j:=by simp at h; omega
   clear h
   have hml:(i+j) / 2 < l.length:=by omega
   have e1:(l.map aM)[(i+j) / 2]?=some [bI l[(i+j) / 2].k,bI l[(i+j) / 2].v]:=by rw [List.getElem?_map,List.getElem?_eq_getElem hml]; rfl
   have hmm:=hm _ hml
   have w1:IntKind.i64.wrap ((i:Int)+(j:Int))=((i+j:Nat):Int):=by rw [aB (by omega) (by omega)]; omega
   have w2:IntKind.u64.wrap ((i+j:Nat):Int)=((i+j:Nat):Int):=by rw [IntKind.wrap_u64]; omega
   have w3:((i+j:Nat):Int).fdiv (2 ^ min 1 (IntKind.bits .u64))=(((i+j) / 2:Nat):Int):=by
    rw [show min 1 (IntKind.bits .u64)=1 from rfl,Int.fdiv_eq_ediv_of_nonneg _ (by decide)]; omega
   have w4:IntKind.i64.wrap (((i+j) / 2:Nat):Int)=(((i+j) / 2:Nat):Int):=by rw [aB (by omega) (by omega)]
   have w5:IntKind.i64.wrap ((((i+j) / 2:Nat):Int)+1)=(((i+j) / 2+1:Nat):Int):=by rw [aB (by omega) (by omega)]; omega
   have hmid1:i<=(i+j) / 2:=by omega
   have hmid2:(i+j) / 2 < j:=by omega
   generalize l[(i+j) / 2]=q at e1 hmm
   generalize (i+j) / 2=m at *
   (refine gy (an (an (an (an (an jO w1) w2) w3) w4) e1) ?_; try intro ops hops)
   (first | refine ai [] [] (yE q key) (by simp [aK,cvA,aN,cvR,ah,cv1,cvL,cv0,bI,af,aM,prD,psI,intD,boolD,ae,upd]) rfl ?_ | refine ag [] [] [] (yE q key) (fun G _=>by simp [aK,cvA,aN,cvR,ah,cv1,cvL,cv0,bI,af,aM,prD,psI,intD,boolD,ae,upd]) rfl ?_)
   refine gx (an jO @intD.eq_1) ?_
   refine bf (fun h=>?_) (fun h=>?_)
   ·have hlt:m < p:=hmm.1 (by simpa using h)
    refine gx (an jO w5) ?_
    refine ⟨(m+1,j),⟨hlt,h2,h3⟩,aA _ _ [] [] ?_ ?_ rfl rfl,by simp; omega⟩
    ·simp [cv,cvL,cv1,cv0,upd,lk,aI,intD]
    ·simp
   ·have hlt:¬ m < p:=fun hc=>by have:=hmm.2 hc; simp at h; omega
    refine gx jO ?_
    refine ⟨(i,m),⟨h1,Nat.le_of_not_lt hlt,by omega⟩,aA _ _ [] [] ?_ ?_ rfl rfl,by simp; omega⟩
    ·simp [cv,cvL,cv1,cv0,upd,lk,aI,intD]
    ·simp
  ·have hij:i=p:=by simp at h; omega
   subst hij
   by_cases hlt:i < l.length
   ·rw [dif_pos hlt]
    have e1:(l.map aM)[i]?=some [bI l[i].k,bI l[i].v]:=by rw [List.getElem?_map,List.getElem?_eq_getElem hlt]; rfl
    generalize l[i]=q at e1
    have g:decide ((i:Int) < (l.length:Int))=true:=decide_eq_true (by omega)
    (refine gy (an (an jO g) e1) ?_; try intro ops hops)
    (first | refine ai [] [] (yE q key) (by simp [aK,cvA,aN,cvR,ah,cv1,cvL,cv0,bI,af,aM,prD,psI,intD,boolD,ae,upd]) rfl ?_ | refine ag [] [] [] (yE q key) (fun G _=>by simp [aK,cvA,aN,cvR,ah,cv1,cvL,cv0,bI,af,aM,prD,psI,intD,boolD,ae,upd]) rfl ?_)
    refine gx (an jO @intD.eq_1) ?_
    refine bZ [] rfl ?_
    simp [cv,cvT,cv1,cv0,upd,intD,boolD]
   ·rw [dif_neg hlt]
    have g:decide ((i:Int) < (l.length:Int))=false:=decide_eq_false (by omega)
    refine gx (an jO g) ?_
    refine bZ [] rfl ?_
    simp [cv,cvT,cv1,cv0,upd,intD,boolD]
theorem eQ:(type_of% @Ty.T3)/\(type_of% @Ty.T5)/\(type_of% @Ty.T29)/\(type_of% @Ty.T31)/\(type_of% @Ty.T32)/\(type_of% @Ty.T41)/\(type_of% @Ty.Zx):=⟨@Ty.T3,@Ty.T5,@Ty.T29,@Ty.T31,@Ty.T32,@Ty.T41,@Ty.Zx⟩
theorem rz:(type_of% @Ty.T3)/\(type_of% @Ty.T5)/\(type_of% @Ty.T29)/\(type_of% @Ty.T41):=⟨@Ty.T3,@Ty.T5,@Ty.T29,@Ty.T41⟩
def dw (e i:Nat):D:=.agg [intD e,intD i]
def Oa (p:bn):Bool:=decide (60 < p.k.length) || decide (200 < p.v.length)
def ik (l:List bn) (i:Nat):Nat × Nat :=
 if h:i < l.length then
  if Oa l[i] then (4,i)
  else if 0 < i/\0<=Lib.compareBytes (l[i - 1]'(by omega)).k l[i].k then (2,i)
  else ik l (i+1)
 else (0,0)
termination_by l.length - i
def dM (l:List bn):Nat × Nat:=if 200 < l.length then (5,0) else ik l 0
theorem Xt (p:bn):PureD Tryz.prog 107 [prD p] (intD (if Oa p then 4 else 0)):=by
 unfold Oa
 refine aa 13 Tryz.func107 rfl rfl rfl (fun _ _=>rfl) ?_
 cases g1:decide ((60:Int) < (p.k.length:Int))
 ·have h1:decide (60 < p.k.length)=false:=by simp at g1 ⊢; omega
  refine gx (an (an (an rz @prD.eq_1) @bI.eq_1) g1) ?_
  refine bf (fun h=>?_) (fun h=>?_)
  ·have h2:decide (200 < p.v.length)=true:=by simp at h ⊢; omega
   refine gx rz ?_
   refine ax [] rfl ?_
   simp [cv,cv1,cv0,upd,intD,h1,h2]
  ·have h2:decide (200 < p.v.length)=false:=by simp at h ⊢; omega
   refine gx rz ?_
   refine ax [] rfl ?_
   simp [cv,cv1,cv0,upd,intD,h1,h2]
 ·have h1:decide (60 < p.k.length)=true:=by simp at g1 ⊢; omega
  refine gx (an (an (an rz @prD.eq_1) @bI.eq_1) g1) ?_
  refine ax [] rfl ?_
  simp [cv,cv1,cv0,upd,intD,h1]
theorem Bu (l:List bn) (hl:l.length<=1048576):PureD Tryz.prog 53 [.i (psI l)] (dw (dM l).1 (dM l).2):=by
 refine aa 42 Tryz.func53 rfl rfl rfl (fun _ _=>rfl) ?_
 refine gx (an eQ @psI.eq_1) ?_
 refine bf (fun h=>?_) (fun h=>?_)
 ·have h1:200 < l.length:=by simp at h; omega
  clear h
  refine gx eQ ?_
  refine Dn [] rfl qB oZ (by simp [upd,aD,aj]; rfl) ?_
  simp [cv,cv1,cvL,cv0,upd,dM,h1,dw,intD]
 ·have h1:¬ 200 < l.length:=by simp at h; omega
  clear h
  have hw:dM l=ik l 0:=by rw [dM,if_neg h1]
  generalize dM l=R at hw
  refine gx eQ ?_
  refine bY (ι:=Nat) (fun i=>i<=l.length/\R=ik l i)
   (fun i=>eu [(0,.i (.sl (l.map aM))),(2,.pt 100 0 0 0),(10,.i (.sl (l.map aM))),(11,intD l.length),(12,intD i)] [(100,.box [intD 0,intD 0])]) (fun i=>l.length - i) 0 ⟨Nat.zero_le _,hw⟩ ?_ ?_
  ·refine aA _ _ [] [(100,1000)] ?_ ?_ rfl rfl
   ·simp [cv,cvL,cv1,cv0,upd,lk,aI,intD]
   ·simp [bE,aI,lk,cvO,cvL,cv0,frz,upd,D.one,intD,hO]
  ·rintro i ⟨hi,hR⟩
   rw [au]
   refine gx (an eQ @intD.eq_1) ?_
   refine bf (fun h=>?_) (fun h=>?_)
   ·have h2:i < l.length:=by simp at h; omega
    clear h
    rw [ik,dif_pos h2] at hR
    have e1:(l.map aM)[i]?=some [bI l[i].k,bI l[i].v]:=by rw [List.getElem?_map,List.getElem?_eq_getElem h2]; rfl
    have w1:IntKind.i64.wrap ((i:Int)+1)=((i+1:Nat):Int):=by rw [aB (by omega) (by omega)]; omega
    have hpr:=Xt l[i]
    cases i with
    | zero =>
     have w0:IntKind.i64.wrap 1=1:=by decide
     generalize l[0]=p at *
     (refine gy (an eQ e1) ?_; try intro ops hops)
     (first | refine ai [] [] (hpr) (by simp [aK,cvA,aN,cvR,ah,cv1,cvL,cv0,bI,af,aM,prD,psI,intD,dw,ae,upd]) rfl ?_ | refine ag [] [] [] (hpr) (fun G _=>by simp [aK,cvA,aN,cvR,ah,cv1,cvL,cv0,bI,af,aM,prD,psI,intD,dw,ae,upd]) rfl ?_)
     cases hb:Oa p
     ·simp only [hb,Bool.false_eq_true,if_false,Nat.lt_irrefl,false_and] at hR
      refine gx (an (an eQ @intD.eq_1) w1) ?_
      refine ⟨0+1,⟨h2,hR⟩,aA _ _ [] [(100,100)] ?_ ?_ rfl rfl,by simp; omega⟩
      ·simp [cv,cvL,cv1,cv0,upd,lk,aI,intD,w0]
      ·simp [bE,aI,lk,cvO,cvL,cv0,frz,upd,D.one,intD,hO]
     ·simp only [hb,if_true] at hR
      refine gx (an eQ @intD.eq_1) ?_
      refine Dn [] rfl qB oZ (by simp [upd,aD,aj]; rfl) ?_
      simp [cv,cv1,cvL,cv0,upd,hR,dw,intD]
    | succ i =>
     have h3:i < l.length:=by omega
     have e2:(l.map aM)[i]?=some [bI l[i].k,bI l[i].v]:=by rw [List.getElem?_map,List.getElem?_eq_getElem h3]; rfl
     have w2:IntKind.i64.wrap (((i+1:Nat):Int) - 1)=(i:Int):=by rw [aB (by omega) (by omega)]; omega
     have g1:decide ((0:Int) < ((i+1:Nat):Int))=true:=decide_eq_true (by omega)
     have hR':R=if Oa l[i+1] then (4,i+1) else if 0<=Lib.compareBytes l[i].k l[i+1].k then (2,i+1) else ik l (i+1+1):=by
      rw [hR]; simp
     clear hR
     generalize l[i+1]=p at *
     generalize l[i]=q at *
     (refine gy (an eQ e1) ?_; try intro ops hops)
     (first | refine ai [] [] (hpr) (by simp [aK,cvA,aN,cvR,ah,cv1,cvL,cv0,bI,af,aM,prD,psI,intD,dw,ae,upd]) rfl ?_ | refine ag [] [] [] (hpr) (fun G _=>by simp [aK,cvA,aN,cvR,ah,cv1,cvL,cv0,bI,af,aM,prD,psI,intD,dw,ae,upd]) rfl ?_)
     cases hb:Oa p
     ·simp only [hb,Bool.false_eq_true,if_false] at hR'
      (refine gy (an (an (an (an (an eQ @intD.eq_1) g1) w2) e2) @bI.eq_1) ?_; try intro ops hops)
      (first | refine ai [] [] (HV q.k p.k) (by simp [aK,cvA,aN,cvR,ah,cv1,cvL,cv0,bI,af,aM,prD,psI,intD,dw,ae,upd]) rfl ?_ | refine ag [] [] [] (HV q.k p.k) (fun G _=>by simp [aK,cvA,aN,cvR,ah,cv1,cvL,cv0,bI,af,aM,prD,psI,intD,dw,ae,upd]) rfl ?_)
      refine gx eQ ?_
      refine bf (fun h=>?_) (fun h=>?_)
      ·have h4:0<=Lib.compareBytes q.k p.k:=by simpa using h
       rw [if_pos h4] at hR'
       refine gx eQ ?_
       refine Dn [] rfl qB oZ (by simp [upd,aD,aj]; rfl) ?_
       simp [cv,cv1,cvL,cv0,upd,hR',dw,intD]
      ·have h4:¬ 0<=Lib.compareBytes q.k p.k:=by simpa using h
       rw [if_neg h4] at hR'
       refine gx (an eQ w1) ?_
       refine ⟨i+1+1,⟨h2,hR'⟩,aA _ _ [] [(100,100)] ?_ ?_ rfl rfl,by simp; omega⟩
       ·simp [cv,cvL,cv1,cv0,upd,lk,aI,intD]
       ·simp [bE,aI,lk,cvO,cvL,cv0,frz,upd,D.one,intD,hO]
     ·simp only [hb,if_true] at hR'
      refine gx (an eQ @intD.eq_1) ?_
      refine Dn [] rfl qB oZ (by simp [upd,aD,aj]; rfl) ?_
      simp [cv,cv1,cvL,cv0,upd,hR',dw,intD]
   ·have h2:¬ i < l.length:=by simp at h; omega
    clear h
    rw [ik,dif_neg h2] at hR
    refine gx eQ ?_
    refine Dn [] rfl qB oZ (by simp [upd,aD,aj]; rfl) ?_
    simp [cv,cv1,cvL,cv0,upd,hR,dw,intD]
theorem wT:(type_of% @Ty.T1)/\(type_of% @Ty.T3)/\(type_of% @Ty.T4)/\(type_of% @Ty.T5)/\(type_of% @Ty.T29)/\(type_of% @Ty.T42):=⟨@Ty.T1,@Ty.T3,@Ty.T4,@Ty.T5,@Ty.T29,@Ty.T42⟩
theorem EI:(type_of% @Ty.T1)/\(type_of% @Ty.T3)/\(type_of% @Ty.T5)/\(type_of% @Ty.T29)/\(type_of% @Ty.T42):=⟨@Ty.T1,@Ty.T3,@Ty.T5,@Ty.T29,@Ty.T42⟩
theorem wS:(type_of% @Ty.T1)/\(type_of% @Ty.T3)/\(type_of% @Ty.T5)/\(type_of% @Ty.T29)/\(type_of% @Ty.T42):=⟨@Ty.T1,@Ty.T3,@Ty.T5,@Ty.T29,@Ty.T42⟩
theorem jP:(type_of% @Ty.T3)/\(type_of% @Ty.T5)/\(type_of% @Ty.T29)/\(type_of% @Ty.T31)/\(type_of% @Ty.T41):=⟨@Ty.T3,@Ty.T5,@Ty.T29,@Ty.T31,@Ty.T41⟩
theorem Ox:(type_of% @Ty.T3)/\(type_of% @Ty.T4)/\(type_of% @Ty.T5)/\(type_of% @Ty.T29):=⟨@Ty.T3,@Ty.T4,@Ty.T5,@Ty.T29⟩
theorem ry:(type_of% @Ty.T3):=@Ty.T3
def four (n:Nat):List UInt8:=[aQ n 16777216,aQ n 65536,aQ n 256,aQ n 1]
def x_ (k v:List UInt8):List UInt8:=sha (0 :: (four k.length++(k++v)))
def pK (a b:List UInt8):List UInt8:=sha (1 :: (a++b))
def GK (n:Nat) (t:List UInt8):List UInt8:=sha (2 :: (four n++t))
def bg (n:Nat):Nat:=2 ^ Nat.log2 (n - 1)
theorem jD {n:Nat} (h:2<=n):0 < bg n/\bg n < n:=by
 have:=Nat.log2_self_le (n:=n - 1) (by omega)
 have h2:0 < 2 ^ Nat.log2 (n - 1):=Nat.pow_pos (by decide)
 simp only [bg]; omega
def gH (l:List bn):List UInt8 :=
 match l with
 | []=>[]
 | [p]=>x_ p.k p.v
 | p :: q :: r=>pK (gH ((p :: q :: r).take (bg (p :: q :: r).length))) (gH ((p :: q :: r).drop (bg (p :: q :: r).length)))
termination_by l.length
decreasing_by
 all_goals
  have:=jD (n:=(p :: q :: r).length) (by simp)
  simp only [List.length_take,List.length_drop]
  omega
theorem zJ (p:bn):gH [p]=x_ p.k p.v:=by rw [gH]
theorem zI {l:List bn} (h:2<=l.length):gH l=pK (gH (l.take (bg l.length))) (gH (l.drop (bg l.length))):=by
 match l,h with
 | p :: q :: r,_=>conv=>lhs; rw [gH]
theorem sG (l:List bn) (h:l≠[]):(gH l).length=32:=by
 match l,h with
 | [p],_=>rw [zJ]; exact dC _
 | p :: q :: r,_=>rw [zI (by simp)]; exact dC _
def zX (l:List bn):List UInt8:=GK l.length (gH l)
theorem Mv (n d k:Nat) (hd:d=2 ^ k) (hk:k < 64):IntKind.u8.wrap ((n:Int).fdiv (2 ^ min k (IntKind.bits .i64)))=((aQ n d).toNat:Int):=by
 have hm:min k (IntKind.bits .i64)=k:=by simp [IntKind.bits]; omega
 rw [hm,Int.fdiv_eq_ediv_of_nonneg _ (by exact_mod_cast Nat.zero_le _),IntKind.wrap_u8]
 have:(n:Int) / 2 ^ k=((n / 2 ^ k:Nat):Int):=by rw [Int.natCast_ediv,Int.natCast_pow]; rfl
 rw [this,aQ,hd]
 generalize n / 2 ^ k=x
 rw [UInt8.toNat_ofNat']; omega
theorem aau (n:Nat):IntKind.u8.wrap (n:Int)=((aQ n 1).toNat:Int):=by
 rw [IntKind.wrap_u8,aQ,Nat.div_one,UInt8.toNat_ofNat']; omega
theorem FH (n:Nat):PureD Tryz.prog 164 [intD n] (.i (bI (four n))):=by
 have b1:=Mv n 16777216 24 (by decide) (by decide)
 have b2:=Mv n 65536 16 (by decide) (by decide)
 have b3:=Mv n 256 8 (by decide) (by decide)
 have b4:=aau n
 simp only [four]
 generalize aQ n 16777216=c1 at *
 generalize aQ n 65536=c2 at *
 generalize aQ n 256=c3 at *
 generalize aQ n 1=c4 at *
 refine aa 15 Tryz.func164 rfl rfl rfl (fun _ _=>rfl) ?_
 refine gx (an (an (an (an (an Ox @intD.eq_1) @b1) @b2) @b3) @b4) ?_
 refine ax [1267] rfl ?_
 simp [cv,cv1,cv0,upd,ae,bI,af]
theorem RP (k v:List UInt8) (hk:k.length<=1048576) (hv:v.length<=1048576):PureD Tryz.prog 115 [.i (bI k),.i (bI v)] (.i (bI (x_ k v))):=by
 have hp:=tF [[0],four k.length,k,v] (by simp) (by intro b hb; simp at hb; rcases hb with rfl | rfl | rfl | rfl; simp; (simp [four]); omega; omega)
 have hf:[[0],four k.length,k,v].flatten=0 :: (four k.length++(k++v)):=by simp
 rw [hf] at hp
 rw [show sha (0 :: (four k.length++(k++v)))=x_ k v from rfl] at hp
 generalize x_ k v=R at *
 refine aa 13 Tryz.func115 rfl rfl rfl (fun _ _=>rfl) ?_
 (refine gy (an wT @bI.eq_1) ?_; try intro ops hops)
 (first | refine aU [] (FH k.length) (by simp [aK,cvA,aN,cvR,ah,cv1,cvL,cv0,bI,af,bbI,aM,psI,intD,ae,upd]) ?_ | refine aJ [] [] (FH k.length) (fun G _=>by simp [aK,cvA,aN,cvR,ah,cv1,cvL,cv0,bI,af,bbI,aM,psI,intD,ae,upd]) (by simp) ?_)
 (refine gy (an wT @bI.eq_1) ?_; try intro ops hops)
 (first | refine aU [1262] (hp) (by simp [aK,cvA,aN,cvR,ah,cv1,cvL,cv0,bI,af,bbI,aM,psI,intD,ae,upd,frz,bbI]) ?_ | refine aJ [1262] [1262] (hp) (fun G hG=>by (have hG1262:=hG 1262 (by simp); simp [aK,cvA,aN,cvR,ah,cv1,cvL,cv0,bI,af,bbI,aM,psI,intD,ae,upd,frz,bbI,hG1262])) (by simp) ?_)
 refine gx (an wT @bI.eq_1) ?_
 refine ax [] rfl ?_
 simp [cv,cv1,cv0,upd]
theorem Kg (a b:List UInt8) (ha:a.length<=1048576) (hb:b.length<=1048576):PureD Tryz.prog 163 [.i (bI a),.i (bI b)] (.i (bI (pK a b))):=by
 have hp:=tF [[1],a,b] (by simp) (by intro x hx; simp at hx; rcases hx with rfl | rfl | rfl; simp; omega; omega)
 have hf:[[1],a,b].flatten=1 :: (a++b):=by simp
 rw [hf] at hp
 rw [show sha (1 :: (a++b))=pK a b from rfl] at hp
 generalize pK a b=R at *
 refine aa 10 Tryz.func163 rfl rfl rfl (fun _ _=>rfl) ?_
 (refine gy (an EI @bI.eq_1) ?_; try intro ops hops)
 (first | refine aU [1259] (hp) (by simp [aK,cvA,aN,cvR,ah,cv1,cvL,cv0,bI,af,bbI,aM,psI,intD,ae,upd,frz,bbI]) ?_ | refine aJ [1259] [1259] (hp) (fun G hG=>by (have hG1259:=hG 1259 (by simp); simp [aK,cvA,aN,cvR,ah,cv1,cvL,cv0,bI,af,bbI,aM,psI,intD,ae,upd,frz,bbI,hG1259])) (by simp) ?_)
 refine gx (an EI @bI.eq_1) ?_
 refine ax [] rfl ?_
 simp [cv,cv1,cv0,upd]
theorem Oy (n:Nat) (t:List UInt8) (ht:t.length<=1048576):PureD Tryz.prog 116 [intD n,.i (bI t)] (.i (bI (GK n t))):=by
 have hp:=tF [[2],four n,t] (by simp) (by intro x hx; simp at hx; rcases hx with rfl | rfl | rfl; simp; (simp [four]); omega)
 have hf:[[2],four n,t].flatten=2 :: (four n++t):=by simp
 rw [hf] at hp
 rw [show sha (2 :: (four n++t))=GK n t from rfl] at hp
 generalize GK n t=R at *
 refine aa 11 Tryz.func116 rfl rfl rfl (fun _ _=>rfl) ?_
 (refine gy (an (an wS @bI.eq_1) @intD.eq_1) ?_; try intro ops hops)
 (first | refine aU [] (FH n) (by simp [aK,cvA,aN,cvR,ah,cv1,cvL,cv0,bI,af,bbI,aM,psI,intD,ae,upd]) ?_ | refine aJ [] [] (FH n) (fun G _=>by simp [aK,cvA,aN,cvR,ah,cv1,cvL,cv0,bI,af,bbI,aM,psI,intD,ae,upd]) (by simp) ?_)
 (refine gy (an wS @bI.eq_1) ?_; try intro ops hops)
 (first | refine aU [1260] (hp) (by simp [aK,cvA,aN,cvR,ah,cv1,cvL,cv0,bI,af,bbI,aM,psI,intD,ae,upd,frz,bbI]) ?_ | refine aJ [1260] [1260] (hp) (fun G hG=>by (have hG1260:=hG 1260 (by simp); simp [aK,cvA,aN,cvR,ah,cv1,cvL,cv0,bI,af,bbI,aM,psI,intD,ae,upd,frz,bbI,hG1260])) (by simp) ?_)
 refine gx (an wS @bI.eq_1) ?_
 refine ax [] rfl ?_
 simp [cv,cv1,cv0,upd]
theorem Hd {n i:Nat} (h1:2 ^ i=1\/2 ^ i < n) (h2:n<=2 * 2 ^ i) (hn:1<=n):2 ^ i=bg n:=by
 unfold bg
 congr 1
 have hle:i<=Nat.log2 (n - 1)\/n - 1=0:=by
  by_cases h0:n - 1=0
  ·exact .inr h0
  ·refine .inl ((Nat.le_log2 h0).2 ?_)
   rcases h1 with h1 | h1 <;> omega
 have hge:n - 1=0\/Nat.log2 (n - 1) < i+1:=by
  by_cases h0:n - 1=0
  ·exact .inl h0
  ·refine .inr ((Nat.log2_lt h0).2 ?_)
   rw [Nat.pow_succ]; omega
 rcases hle with hle | hle
 ·rcases hge with hge | hge
  ·rw [hge] at hle ⊢; simp at hle ⊢; omega
  ·omega
 ·rw [hle]
  have:n=1:=by omega
  subst this
  simp
  rcases h1 with h1 | h1
  ·cases i with
   | zero=>rfl
   | succ i=>rw [Nat.pow_succ] at h1; omega
  ·have:0 < 2 ^ i:=Nat.pow_pos (by decide); omega
theorem BM (n:Nat) (h0:1<=n) (hn:n<=1048576):PureD Tryz.prog 162 [intD n] (intD (bg n)):=by
 refine aa 11 Tryz.func162 rfl rfl rfl (fun _ _=>rfl) ?_
 refine gx (an ry @intD.eq_1) ?_
 refine bY (ι:=Nat) (fun i=>2 ^ i=1\/2 ^ i < n)
  (fun i=>eu [(0,intD n),(3,intD (2 ^ i:Nat))] []) (fun i=>n - 2 ^ i) 0 (.inl rfl) ?_ ?_
 ·refine aA _ _ [] [] ?_ ?_ rfl rfl
  ·simp [cv,cv1,cv0,upd,lk,aI,intD]
  ·simp
 ·rintro i hi
  rw [au]
  have hp:0 < 2 ^ i:=Nat.pow_pos (by decide)
  have hs:2 ^ (i+1)=2 * 2 ^ i:=by rw [Nat.pow_succ]; omega
  have hfin:=Hd hi
  have w1:IntKind.i64.wrap (2 * ((2 ^ i:Nat):Int))=((2 ^ (i+1):Nat):Int):=by rw [hs,aB (by omega) (by omega)]; omega
  have w2:IntKind.i64.wrap (((2 ^ i:Nat):Int) * 2)=((2 ^ (i+1):Nat):Int):=by rw [hs,aB (by omega) (by omega)]; omega
  generalize hx:2 ^ i=x at *
  generalize hy:2 ^ (i+1)=y at *
  refine gx (an (an ry @intD.eq_1) w1) ?_
  refine bf (fun h=>?_) (fun h=>?_)
  ·have h1:y < n:=by simp at h; omega
   clear h
   refine gx (an ry w2) ?_
   refine ⟨i+1,by show 2 ^ (i+1)=1\/2 ^ (i+1) < n; rw [hy]; exact .inr h1,aA _ _ [] [] ?_ ?_ rfl rfl,by simp only [hx,hy]; omega⟩
   ·simp only [hy]; simp [cv,cv1,cv0,upd,lk,aI,intD]
   ·simp
  ·have h1:n<=2 * x:=by simp at h; omega
   clear h
   refine gx ry ?_
   refine ax [] rfl ?_
   simp [cv,cv1,cv0,upd,intD,hfin h1 h0]
theorem IY:∀ (n:Nat) (l:List bn),l.length=n->l≠[]->l.length<=1048576->(∀ p∈l,p.k.length<=1048576/\p.v.length<=1048576)->PureD Tryz.prog 129 [.i (psI l)] (.i (bI (gH l))):=by
 intro n
 induction n using Nat.strongRecOn with
 | _ n ih =>
  intro l hn hne hl hb
  by_cases h1:l.length=1
  ·obtain ⟨p,rfl⟩:=List.length_eq_one_iff.1 h1
   have hp:=hb p (by simp)
   have hlf:=RP p.k p.v hp.1 hp.2
   rw [zJ]
   generalize x_ p.k p.v=R at *
   refine aa 28 Tryz.func129 rfl rfl rfl (fun _ _=>rfl) ?_
   (refine gy (an (an (an (an (an jP @psI.eq_1) @List.map_cons.{0,0}) @List.map_nil.{0,0}) @aM.eq_1) @bI.eq_1) ?_; try intro ops hops)
   (first | refine aU [] (hlf) (by simp [aK,cvA,aN,cvR,ah,cv1,cvL,cv0,bI,af,bbI,aM,psI,intD,ae,upd]) ?_ | refine aJ [] [] (hlf) (fun G _=>by simp [aK,cvA,aN,cvR,ah,cv1,cvL,cv0,bI,af,bbI,aM,psI,intD,ae,upd]) (by simp) ?_)
   refine gx (an jP @bI.eq_1) ?_
   refine ax [] rfl ?_
   simp [cv,cv1,cv0,upd]
  ·have h2:2<=l.length:=by have:=List.length_pos_iff.2 hne; omega
   have hs:=jD h2
   rw [zI h2]
   have hsp:=BM l.length (by omega) hl
   generalize bg l.length=k at *
   have t1:=ih (l.take k).length (by simp; omega) (l.take k) rfl (by intro hc; have:=congrArg List.length hc; simp only [List.length_take,List.length_drop,List.length_nil] at this; omega) (by simp; omega) (fun p hp=>hb p (List.mem_of_mem_take hp))
   have t2:=ih (l.drop k).length (by simp; omega) (l.drop k) rfl (by intro hc; have:=congrArg List.length hc; simp only [List.length_take,List.length_drop,List.length_nil] at this; omega) (by simp; omega) (fun p hp=>hb p (List.mem_of_mem_drop hp))
   have l1:(gH (l.take k)).length=32:=sG _ (by intro hc; have:=congrArg List.length hc; simp only [List.length_take,List.length_drop,List.length_nil] at this; omega)
   have l2:(gH (l.drop k)).length=32:=sG _ (by intro hc; have:=congrArg List.length hc; simp only [List.length_take,List.length_drop,List.length_nil] at this; omega)
   have hnd:=Kg (gH (l.take k)) (gH (l.drop k)) (by omega) (by omega)
   generalize gH (l.take k)=T1 at *
   generalize gH (l.drop k)=T2 at *
   generalize pK T1 T2=R at *
   have g1:decide ((l.length:Int)=1)=false:=by simp; omega
   have g2:((k:Int)<=(l.length:Int))=True:=eq_true (by omega)
   have u1:uni 2 (l.map aM)=true:=by simp [uni,aM]
   refine aa 28 Tryz.func129 rfl rfl rfl (fun _ _=>rfl) ?_
   (refine gy (an (an jP @psI.eq_1) g1) ?_; try intro ops hops)
   (first | refine ai [] [] (hsp) (by simp [aK,cvA,aN,cvR,ah,cv1,cvL,cv0,bI,af,bbI,aM,psI,intD,ae,upd]) rfl ?_ | refine ag [] [] [] (hsp) (fun G _=>by simp [aK,cvA,aN,cvR,ah,cv1,cvL,cv0,bI,af,bbI,aM,psI,intD,ae,upd]) rfl ?_)
   (refine gy (an (an (an (an (an (an jP @intD.eq_1) @psI.eq_1) g2) u1) @mtk) @mdr) ?_; try intro ops hops)
   (first | refine aU [] (t1) (by simp [aK,cvA,aN,cvR,ah,cv1,cvL,cv0,bI,af,bbI,aM,psI,intD,ae,upd]) ?_ | refine aJ [] [] (t1) (fun G _=>by simp [aK,cvA,aN,cvR,ah,cv1,cvL,cv0,bI,af,bbI,aM,psI,intD,ae,upd]) (by simp) ?_)
   (refine gy (an (an (an (an (an (an jP @bI.eq_1) @psI.eq_1) g2) u1) @mtk) @mdr) ?_; try intro ops hops)
   (first | refine aU [] (t2) (by simp [aK,cvA,aN,cvR,ah,cv1,cvL,cv0,bI,af,bbI,aM,psI,intD,ae,upd]) ?_ | refine aJ [] [] (t2) (fun G _=>by simp [aK,cvA,aN,cvR,ah,cv1,cvL,cv0,bI,af,bbI,aM,psI,intD,ae,upd]) (by simp) ?_)
   (refine gy (an jP @bI.eq_1) ?_; try intro ops hops)
   (first | refine aU [] (hnd) (by simp [aK,cvA,aN,cvR,ah,cv1,cvL,cv0,bI,af,bbI,aM,psI,intD,ae,upd]) ?_ | refine aJ [] [] (hnd) (fun G _=>by simp [aK,cvA,aN,cvR,ah,cv1,cvL,cv0,bI,af,bbI,aM,psI,intD,ae,upd]) (by simp) ?_)
   refine gx (an jP @bI.eq_1) ?_
   refine ax [] rfl ?_
   simp [cv,cv1,cv0,upd]
structure Nv (l:List bn):Prop where
 len:l.length<=200
 big:∀ p∈l,p.k.length<=60/\p.v.length<=200
 ord:∀ i j (hi:i < l.length) (hj:j < l.length),i < j->Lib.compareBytes l[i].k l[j].k < 0
theorem Vv {p:bn} (h:Oa p=false):p.k.length<=60/\p.v.length<=200:=by
 simp [Oa] at h; omega
theorem Gx (l:List bn):∀ (d i:Nat),l.length - i=d->(ik l i).1=0->∀ a (ha:a < l.length),i<=a->Oa l[a]=false/\(∀ h:0 < a,Lib.compareBytes (l[a - 1]'(by omega)).k l[a].k < 0):=by
 intro d
 induction d with
 | zero=>intro i hd _ a ha hia; omega
 | succ d ih =>
  intro i hd hw a ha hia
  rw [ik,dif_pos (by omega)] at hw
  split at hw
  ·cases hw
  ·rename_i hb
   split at hw
   ·cases hw
   ·rename_i hc
    by_cases hai:a=i
    ·subst hai
     refine ⟨by simpa using hb,fun h=>?_⟩
     have:¬ 0<=Lib.compareBytes (l[a - 1]'(by omega)).k l[a].k:=fun h'=>hc ⟨h,h'⟩
     omega
    ·exact ih (i+1) (by omega) hw a ha (by omega)
theorem rF {l:List bn} (h:(dM l).1=0):Nv l:=by
 unfold dM at h
 split at h
 ·cases h
 ·rename_i hl
  have hw:=Gx l _ 0 rfl h
  refine ⟨by omega,fun p hp=>?_,?_⟩
  ·obtain ⟨a,ha,rfl⟩:=List.getElem_of_mem hp
   exact Vv (hw a ha (Nat.zero_le _)).1
  ·intro i j
   induction j with
   | zero=>intro _ _ h; omega
   | succ j ih =>
    intro hi hj hij
    have h1:=(hw (j+1) hj (Nat.zero_le _)).2 (by omega)
    simp only [Nat.add_sub_cancel] at h1
    by_cases hc:i=j
    ·subst hc; exact h1
    ·exact iY _ _ _ (ih hi (by omega) (by omega)) h1
theorem wC {l:List bn} (h:Nv l):∀ (d i:Nat),l.length - i=d->ik l i=(0,0):=by
 intro d
 induction d with
 | zero=>intro i hd; rw [ik,dif_neg (by omega)]
 | succ d ih =>
  intro i hd
  have hi:i < l.length:=by omega
  rw [ik,dif_pos hi]
  have hb:=h.big _ (List.getElem_mem hi)
  rw [if_neg (by simp [Oa]; omega),if_neg,ih (i+1) (by omega)]
  rintro ⟨h1,h2⟩
  have:=h.ord (i - 1) i (by omega) hi (by omega)
  omega
theorem su {l:List bn} (h:Nv l):dM l=(0,0):=by
 rw [dM,if_neg (by have:=h.len; omega)]; exact wC h _ 0 rfl
theorem oQ {l:List bn} (h:(dM l).1=0):dM l=(0,0):=su (rF h)
def bV (l:List bn) (key:List UInt8):Nat:=(l.takeWhile fun p=>decide (Lib.compareBytes p.k key < 0)).length
def vG (l:List bn) (key:List UInt8):Bool:=if h:bV l key < l.length then decide (l[bV l key].k=key) else false
theorem Ac (l:List bn) (key:List UInt8):bV l key<=l.length:=(List.takeWhile_sublist _).length_le
theorem Ab (key:List UInt8):∀ (l:List bn) (a:Nat) (ha:a < l.length),a < bV l key->Lib.compareBytes l[a].k key < 0
 | [],a,ha,_=>by simp at ha
 | p :: t,a,ha,h=>by
  unfold bV at h
  rw [List.takeWhile_cons] at h
  split at h
  ·rename_i hp
   cases a with
   | zero=>simpa using hp
   | succ a=>exact Ab key t a (by simpa using ha) (by simpa [bV] using h)
  ·simp at h
theorem Ad (key:List UInt8):∀ (l:List bn) (h:bV l key < l.length),¬ Lib.compareBytes l[bV l key].k key < 0
 | [],h=>by simp at h
 | p :: t,h=>by
  unfold bV at h
  simp only [bV]
  by_cases hp:decide (Lib.compareBytes p.k key < 0)=true
  ·have e:(List.takeWhile (fun p=>decide (Lib.compareBytes p.k key < 0)) (p :: t)).length=bV t key+1:=by
    rw [List.takeWhile_cons,if_pos hp]; rfl
   simp only [e] at h ⊢
   have:=Ad key t (by simpa using h)
   simpa using this
  ·have e:(List.takeWhile (fun p=>decide (Lib.compareBytes p.k key < 0)) (p :: t)).length=0:=by
    rw [List.takeWhile_cons,if_neg hp]; rfl
   simp only [e]
   simpa using hp
theorem Hf {l:List bn} (h:Nv l) (key:List UInt8):∀ a (ha:a < l.length),Lib.compareBytes l[a].k key < 0↔a < bV l key:=by
 intro a ha
 refine ⟨fun h1=>?_,Ab key l a ha⟩
 apply Decidable.byContradiction
 intro hc
 have hp:bV l key < l.length:=by omega
 have h2:=Ad key l hp
 by_cases he:a=bV l key
 ·subst he; exact h2 h1
 ·exact h2 (iY _ _ _ (h.ord _ a hp ha (by omega)) h1)
theorem EH:(type_of% @Ty.T5)/\(type_of% @Ty.T29)/\(type_of% @Ty.T31)/\(type_of% @Ty.T41)/\(type_of% @Ty.abO):=⟨@Ty.T5,@Ty.T29,@Ty.T31,@Ty.T41,@Ty.abO⟩
theorem iD:(type_of% @Ty.T3)/\(type_of% @Ty.T5)/\(type_of% @Ty.T29)/\(type_of% @Ty.T31)/\(type_of% @Ty.T32)/\(type_of% @Ty.T41)/\(type_of% @Ty.Zx):=⟨@Ty.T3,@Ty.T5,@Ty.T29,@Ty.T31,@Ty.T32,@Ty.T41,@Ty.Zx⟩
theorem RY (l:List bn) (key:List UInt8) (h:Nv l):PureD Tryz.prog 54 [.i (psI l),.i (bI key)] (.tup [intD (bV l key),boolD (vG l key)]):=by
 have hs:=OQ l key (bV l key) (by have:=h.len; omega) (Ac l key) (Hf h key)
 have e:(if h:bV l key < l.length then decide (Lib.compareBytes l[bV l key].k key=0) else false)=vG l key:=by
  unfold vG
  split
  ·simp [lZ]
  ·rfl
 rw [e] at hs
 refine aa 11 Tryz.func54 rfl rfl rfl (fun _ _=>rfl) ?_
 (refine gy (an (an EH @psI.eq_1) @bI.eq_1) ?_; try intro ops hops)
 (first | refine ai [] [] (hs) (by simp [aK,cvA,aN,cvR,ah,cv1,cvL,cv0,bI,af,psI,intD,boolD,dw,ae,upd]) rfl ?_ | refine ag [] [] [] (hs) (fun G _=>by simp [aK,cvA,aN,cvR,ah,cv1,cvL,cv0,bI,af,psI,intD,boolD,dw,ae,upd]) rfl ?_)
 refine gx (an (an EH @intD.eq_1) @boolD.eq_1) ?_
 refine bZ [] rfl ?_
 simp [cv,cvT,cv1,cv0,upd,intD,boolD]
def GX (l:List bn):List UInt8:=if (dM l).1=0 then zX l else []
theorem WX (l:List bn) (hl:l.length<=1048576):PureD Tryz.prog 69 [.i (psI l)] (.tup [.i (bI (GX l)),dw (dM l).1 (dM l).2]):=by
 have hw:=Bu l hl
 unfold GX
 by_cases h0:(dM l).1=0
 ·have hr:=rF h0
  have hz:=oQ h0
  rw [if_pos h0,hz]
  rw [hz] at hw
  simp only at *
  cases l with
  | nil =>
   have ht:=Oy 0 [] (by simp)
   rw [show GK 0 []=zX [] by rw [zX,gH]; rfl] at ht
   generalize zX []=R at *
   refine aa 22 Tryz.func69 rfl rfl rfl (fun _ _=>rfl) ?_
   (refine gy (an iD @psI.eq_1) ?_; try intro ops hops)
   (first | refine ai [] [] (hw) (by simp [aK,cvA,aN,cvR,ah,cv1,cvL,cv0,bI,af,psI,intD,boolD,dw,ae,upd]) rfl ?_ | refine ag [] [] [] (hw) (fun G _=>by simp [aK,cvA,aN,cvR,ah,cv1,cvL,cv0,bI,af,psI,intD,boolD,dw,ae,upd]) rfl ?_)
   (refine gy (an (an (an iD @dw.eq_1) @intD.eq_1) @List.map_nil.{0,0}) ?_; try intro ops hops)
   (first | refine aU [] (ht) (by simp [aK,cvA,aN,cvR,ah,cv1,cvL,cv0,bI,af,psI,intD,boolD,dw,ae,upd]) ?_ | refine aJ [] [] (ht) (fun G _=>by simp [aK,cvA,aN,cvR,ah,cv1,cvL,cv0,bI,af,psI,intD,boolD,dw,ae,upd]) (by simp) ?_)
   refine gx (an iD @bI.eq_1) ?_
   refine AC [] rfl qB oZ (by simp [upd,aD,aj]; rfl) ?_
   simp [cv,cvT,cv1,cvL,cv0,upd,dw,intD,bI]
  | cons p t =>
   have htl:=sG (p :: t) (by simp)
   have htr:=IY _ (p :: t) rfl (by simp) hl (fun q hq=>by have:=hr.big q hq; omega)
   have ht:=Oy (p :: t).length (gH (p :: t)) (by omega)
   rw [show GK (p :: t).length (gH (p :: t))=zX (p :: t) from rfl] at ht
   generalize zX (p :: t)=R at *
   generalize gH (p :: t)=T at *
   have g1:decide (((p :: t).length:Int)=0)=false:=by simp; omega
   generalize p :: t=l at *
   refine aa 22 Tryz.func69 rfl rfl rfl (fun _ _=>rfl) ?_
   (refine gy (an iD @psI.eq_1) ?_; try intro ops hops)
   (first | refine ai [] [] (hw) (by simp [aK,cvA,aN,cvR,ah,cv1,cvL,cv0,bI,af,psI,intD,boolD,dw,ae,upd]) rfl ?_ | refine ag [] [] [] (hw) (fun G _=>by simp [aK,cvA,aN,cvR,ah,cv1,cvL,cv0,bI,af,psI,intD,boolD,dw,ae,upd]) rfl ?_)
   (refine gy (an (an (an (an iD @dw.eq_1) @intD.eq_1) @psI.eq_1) g1) ?_; try intro ops hops)
   (first | refine aU [] (htr) (by simp [aK,cvA,aN,cvR,ah,cv1,cvL,cv0,bI,af,psI,intD,boolD,dw,ae,upd]) ?_ | refine aJ [] [] (htr) (fun G _=>by simp [aK,cvA,aN,cvR,ah,cv1,cvL,cv0,bI,af,psI,intD,boolD,dw,ae,upd]) (by simp) ?_)
   (refine gy (an iD @bI.eq_1) ?_; try intro ops hops)
   (first | refine aU [] (ht) (by simp [aK,cvA,aN,cvR,ah,cv1,cvL,cv0,bI,af,psI,intD,boolD,dw,ae,upd]) ?_ | refine aJ [] [] (ht) (fun G _=>by simp [aK,cvA,aN,cvR,ah,cv1,cvL,cv0,bI,af,psI,intD,boolD,dw,ae,upd]) (by simp) ?_)
   refine gx (an iD @bI.eq_1) ?_
   refine AC [] rfl qB oZ (by simp [upd,aD,aj]; rfl) ?_
   simp [cv,cvT,cv1,cvL,cv0,upd,dw,intD,bI]
 ·rw [if_neg h0]
  generalize dM l=W at *
  have g1:decide ((W.1:Int)=0)=false:=by simp; omega
  refine aa 22 Tryz.func69 rfl rfl rfl (fun _ _=>rfl) ?_
  (refine gy (an iD @psI.eq_1) ?_; try intro ops hops)
  (first | refine ai [] [] (hw) (by simp [aK,cvA,aN,cvR,ah,cv1,cvL,cv0,bI,af,psI,intD,boolD,dw,ae,upd]) rfl ?_ | refine ag [] [] [] (hw) (fun G _=>by simp [aK,cvA,aN,cvR,ah,cv1,cvL,cv0,bI,af,psI,intD,boolD,dw,ae,upd]) rfl ?_)
  refine gx (an (an (an iD @dw.eq_1) @intD.eq_1) g1) ?_
  refine AC [] rfl qB oZ (by simp [upd,aD,aj]; rfl) ?_
  simp [cv,cvT,cv1,cvL,cv0,upd,dw,intD,bI]
end Go.Proofs.YtfenipelcpmkpaaGreatDoor
