/- Merged texts: Find, BookA, BookB, BookO, BookC. -/
import Derived.Test.YtfenipelcpmkpaaGreatDoorGHd
set_option linter.all false
set_option maxHeartbeats 2000000
namespace Go.Proofs.YtfenipelcpmkpaaGreatDoor
open Go Go.Abs Go.RowKit Go.Proofs.YtfenipelcpmkpaaGreatDoor.Ty
theorem IP:(type_of% @Ty.T5)/\(type_of% @Ty.T29)/\(type_of% @Ty.T41):=⟨@Ty.T5,@Ty.T29,@Ty.T41⟩
theorem jS:(type_of% @Ty.T3)/\(type_of% @Ty.T5)/\(type_of% @Ty.T29)/\(type_of% @Ty.T31)/\(type_of% @Ty.T41)/\(type_of% @Ty.abV):=⟨@Ty.T3,@Ty.T5,@Ty.T29,@Ty.T31,@Ty.T41,@Ty.abV⟩
structure bn where
 k:List UInt8
 v:List UInt8
def aN (p:bn):List I:=[bI p.k,bI p.v]
def prD (p:bn):D:=.agg [.i (bI p.k),.i (bI p.v)]
def psI (l:List bn):I:=.sl (l.map aN)
theorem yF (p:bn) (k:List UInt8):PureD Tryz.prog 109 [prD p,.i (bI k)] (intD (Lib.compareBytes p.k k)):=by
 refine aa 9 Tryz.func109 rfl rfl rfl (fun _ _=>rfl) ?_
 (refine gy (an (an IP @prD.eq_1) @bI.eq_1) ?_; try intro ops hops)
 (first | refine ai [] [] (Hu p.k k) (by simp [aL,cvA,aO,cvR,ah,cv1,cvL,cv0,bI,af,aN,prD,psI,intD,boolD,ae,upd]) rfl ?_ | refine ag [] [] [] (Hu p.k k) (fun G _=>by simp [aL,cvA,aO,cvR,ah,cv1,cvL,cv0,bI,af,aN,prD,psI,intD,boolD,ae,upd]) rfl ?_)
 refine gx IP ?_
 refine av [] rfl ?_
 simp [cv,cv1,cv0,upd,intD]
theorem OQ (l:List bn) (key:List UInt8) (p:Nat) (hl:l.length<=1048576) (hp:p<=l.length) (hm:∀ a (h:a < l.length),Lib.compareBytes l[a].k key < 0↔a < p) :
  PureD Tryz.prog 108 [.i (psI l),.i (bI key),.fn 109 []]
   (.tup [intD p,boolD (if h:p < l.length then decide (Lib.compareBytes l[p].k key=0) else false)]):=by
 refine aa 49 Tryz.func108 rfl rfl rfl (fun _ _=>rfl) ?_
 refine gx (an (an jS @psI.eq_1) @bI.eq_1) ?_
 refine bY (ι:=Nat × Nat) (fun q=>q.1<=p/\p<=q.2/\q.2<=l.length)
  (fun q=>dQ [(0,.i (.sl (l.map aN))),(1,.i (.sl (key.map af))),(2,.fn 109 []),(8,intD l.length),(9,intD q.1),(10,intD q.2)] []) (fun q=>q.2 - q.1) (0,l.length) ⟨Nat.zero_le _,hp,Nat.le_refl _⟩ ?_ ?_
 ·refine ay _ _ [] [] ?_ ?_ rfl rfl
  ·simp [cv,cvL,cv1,cv0,upd,lk,aI,intD]
  ·simp
 ·rintro ⟨i,j⟩ ⟨h1,h2,h3⟩
  simp only at h1 h2 h3
  rw [ak]
  refine gx (an jS @intD.eq_1) ?_
  refine aY (fun h=>?_) (fun h=>?_)
  ·have hij:i < j:=by simp at h; omega
   clear h
   have hml:(i+j) / 2 < l.length:=by omega
   have e1:(l.map aN)[(i+j) / 2]?=some [bI l[(i+j) / 2].k,bI l[(i+j) / 2].v]:=by rw [List.getElem?_map,List.getElem?_eq_getElem hml]; rfl
   have hmm:=hm _ hml
   have w1:IntKind.i64.wrap ((i:Int)+(j:Int))=((i+j:Nat):Int):=by rw [aC (by omega) (by omega)]; omega
   have w2:IntKind.u64.wrap ((i+j:Nat):Int)=((i+j:Nat):Int):=by rw [IntKind.wrap_u64]; omega
   have w3:((i+j:Nat):Int).fdiv (2 ^ min 1 (IntKind.bits .u64))=(((i+j) / 2:Nat):Int):=by
    rw [show min 1 (IntKind.bits .u64)=1 from rfl,Int.fdiv_eq_ediv_of_nonneg _ (by decide)]; omega
   have w4:IntKind.i64.wrap (((i+j) / 2:Nat):Int)=(((i+j) / 2:Nat):Int):=by rw [aC (by omega) (by omega)]
   have w5:IntKind.i64.wrap ((((i+j) / 2:Nat):Int)+1)=(((i+j) / 2+1:Nat):Int):=by rw [aC (by omega) (by omega)]; omega
   have hmid1:i<=(i+j) / 2:=by omega
   have hmid2:(i+j) / 2 < j:=by omega
   generalize l[(i+j) / 2]=q at e1 hmm
   generalize (i+j) / 2=m at *
   (refine gy (an (an (an (an (an jS w1) w2) w3) w4) e1) ?_; try intro ops hops)
   (first | refine ai [] [] (yF q key) (by simp [aL,cvA,aO,cvR,ah,cv1,cvL,cv0,bI,af,aN,prD,psI,intD,boolD,ae,upd]) rfl ?_ | refine ag [] [] [] (yF q key) (fun G _=>by simp [aL,cvA,aO,cvR,ah,cv1,cvL,cv0,bI,af,aN,prD,psI,intD,boolD,ae,upd]) rfl ?_)
   refine gx (an jS @intD.eq_1) ?_
   refine aY (fun h=>?_) (fun h=>?_)
   ·have hlt:m < p:=hmm.1 (by simpa using h)
    refine gx (an jS w5) ?_
    refine ⟨(m+1,j),⟨hlt,h2,h3⟩,ay _ _ [] [] ?_ ?_ rfl rfl,by simp; omega⟩
    ·simp [cv,cvL,cv1,cv0,upd,lk,aI,intD]
    ·simp
   ·have hlt:¬ m < p:=fun hc=>by have:=hmm.2 hc; simp at h; omega
    refine gx jS ?_
    refine ⟨(i,m),⟨h1,Nat.le_of_not_lt hlt,by omega⟩,ay _ _ [] [] ?_ ?_ rfl rfl,by simp; omega⟩
    ·simp [cv,cvL,cv1,cv0,upd,lk,aI,intD]
    ·simp
  ·have hij:i=p:=by simp at h; omega
   subst hij
   by_cases hlt:i < l.length
   ·rw [dif_pos hlt]
    have e1:(l.map aN)[i]?=some [bI l[i].k,bI l[i].v]:=by rw [List.getElem?_map,List.getElem?_eq_getElem hlt]; rfl
    generalize l[i]=q at e1
    have g:decide ((i:Int) < (l.length:Int))=true:=decide_eq_true (by omega)
    (refine gy (an (an jS g) e1) ?_; try intro ops hops)
    (first | refine ai [] [] (yF q key) (by simp [aL,cvA,aO,cvR,ah,cv1,cvL,cv0,bI,af,aN,prD,psI,intD,boolD,ae,upd]) rfl ?_ | refine ag [] [] [] (yF q key) (fun G _=>by simp [aL,cvA,aO,cvR,ah,cv1,cvL,cv0,bI,af,aN,prD,psI,intD,boolD,ae,upd]) rfl ?_)
    refine gx (an jS @intD.eq_1) ?_
    refine bZ [] rfl ?_
    simp [cv,cvT,cv1,cv0,upd,intD,boolD]
   ·rw [dif_neg hlt]
    have g:decide ((i:Int) < (l.length:Int))=false:=decide_eq_false (by omega)
    refine gx (an jS g) ?_
    refine bZ [] rfl ?_
    simp [cv,cvT,cv1,cv0,upd,intD,boolD]
theorem eQ:(type_of% @Ty.T3)/\(type_of% @Ty.T5)/\(type_of% @Ty.T29)/\(type_of% @Ty.T31)/\(type_of% @Ty.T32)/\(type_of% @Ty.T41)/\(type_of% @Ty.Zw):=⟨@Ty.T3,@Ty.T5,@Ty.T29,@Ty.T31,@Ty.T32,@Ty.T41,@Ty.Zw⟩
theorem ry:(type_of% @Ty.T3)/\(type_of% @Ty.T5)/\(type_of% @Ty.T29)/\(type_of% @Ty.T41):=⟨@Ty.T3,@Ty.T5,@Ty.T29,@Ty.T41⟩
def dw (e i:Nat):D:=.agg [intD e,intD i]
def Oc (p:bn):Bool:=decide (60 < p.k.length) || decide (200 < p.v.length)
def iA (l:List bn) (i:Nat):Nat × Nat :=
 if h:i < l.length then
  if Oc l[i] then (4,i)
  else if 0 < i/\0<=Lib.compareBytes (l[i - 1]'(by omega)).k l[i].k then (2,i)
  else iA l (i+1)
 else (0,0)
termination_by l.length - i
def dK (l:List bn):Nat × Nat:=if 200 < l.length then (5,0) else iA l 0
theorem Xt (p:bn):PureD Tryz.prog 107 [prD p] (intD (if Oc p then 4 else 0)):=by
 unfold Oc
 refine aa 13 Tryz.func107 rfl rfl rfl (fun _ _=>rfl) ?_
 cases g1:decide ((60:Int) < (p.k.length:Int))
 ·have h1:decide (60 < p.k.length)=false:=by simp at g1 ⊢; omega
  refine gx (an (an (an ry @prD.eq_1) @bI.eq_1) g1) ?_
  refine aY (fun h=>?_) (fun h=>?_)
  ·have h2:decide (200 < p.v.length)=true:=by simp at h ⊢; omega
   refine gx ry ?_
   refine av [] rfl ?_
   simp [cv,cv1,cv0,upd,intD,h1,h2]
  ·have h2:decide (200 < p.v.length)=false:=by simp at h ⊢; omega
   refine gx ry ?_
   refine av [] rfl ?_
   simp [cv,cv1,cv0,upd,intD,h1,h2]
 ·have h1:decide (60 < p.k.length)=true:=by simp at g1 ⊢; omega
  refine gx (an (an (an ry @prD.eq_1) @bI.eq_1) g1) ?_
  refine av [] rfl ?_
  simp [cv,cv1,cv0,upd,intD,h1]
theorem Br (l:List bn) (hl:l.length<=1048576):PureD Tryz.prog 53 [.i (psI l)] (dw (dK l).1 (dK l).2):=by
 refine aa 42 Tryz.func53 rfl rfl rfl (fun _ _=>rfl) ?_
 refine gx (an eQ @psI.eq_1) ?_
 refine aY (fun h=>?_) (fun h=>?_)
 ·have h1:200 < l.length:=by simp at h; omega
  clear h
  refine gx eQ ?_
  refine Dj [] rfl qw oP (by simp [upd,aD,aj]; rfl) ?_
  simp [cv,cv1,cvL,cv0,upd,dK,h1,dw,intD]
 ·have h1:¬ 200 < l.length:=by simp at h; omega
  clear h
  have hw:dK l=iA l 0:=by rw [dK,if_neg h1]
  generalize dK l=R at hw
  refine gx eQ ?_
  refine bY (ι:=Nat) (fun i=>i<=l.length/\R=iA l i)
   (fun i=>dQ [(0,.i (.sl (l.map aN))),(2,.pt 100 0 0 0),(10,.i (.sl (l.map aN))),(11,intD l.length),(12,intD i)] [(100,.box [intD 0,intD 0])]) (fun i=>l.length - i) 0 ⟨Nat.zero_le _,hw⟩ ?_ ?_
  ·refine ay _ _ [] [(100,1000)] ?_ ?_ rfl rfl
   ·simp [cv,cvL,cv1,cv0,upd,lk,aI,intD]
   ·simp [bC,aI,lk,cvO,cvL,cv0,frz,upd,D.one,intD,hO]
  ·rintro i ⟨hi,hR⟩
   rw [ak]
   refine gx (an eQ @intD.eq_1) ?_
   refine aY (fun h=>?_) (fun h=>?_)
   ·have h2:i < l.length:=by simp at h; omega
    clear h
    rw [iA,dif_pos h2] at hR
    have e1:(l.map aN)[i]?=some [bI l[i].k,bI l[i].v]:=by rw [List.getElem?_map,List.getElem?_eq_getElem h2]; rfl
    have w1:IntKind.i64.wrap ((i:Int)+1)=((i+1:Nat):Int):=by rw [aC (by omega) (by omega)]; omega
    have hpr:=Xt l[i]
    cases i with
    | zero =>
     have w0:IntKind.i64.wrap 1=1:=by decide
     generalize l[0]=p at *
     (refine gy (an eQ e1) ?_; try intro ops hops)
     (first | refine ai [] [] (hpr) (by simp [aL,cvA,aO,cvR,ah,cv1,cvL,cv0,bI,af,aN,prD,psI,intD,dw,ae,upd]) rfl ?_ | refine ag [] [] [] (hpr) (fun G _=>by simp [aL,cvA,aO,cvR,ah,cv1,cvL,cv0,bI,af,aN,prD,psI,intD,dw,ae,upd]) rfl ?_)
     cases hb:Oc p
     ·simp only [hb,Bool.false_eq_true,if_false,Nat.lt_irrefl,false_and] at hR
      refine gx (an (an eQ @intD.eq_1) w1) ?_
      refine ⟨0+1,⟨h2,hR⟩,ay _ _ [] [(100,100)] ?_ ?_ rfl rfl,by simp; omega⟩
      ·simp [cv,cvL,cv1,cv0,upd,lk,aI,intD,w0]
      ·simp [bC,aI,lk,cvO,cvL,cv0,frz,upd,D.one,intD,hO]
     ·simp only [hb,if_true] at hR
      refine gx (an eQ @intD.eq_1) ?_
      refine Dj [] rfl qw oP (by simp [upd,aD,aj]; rfl) ?_
      simp [cv,cv1,cvL,cv0,upd,hR,dw,intD]
    | succ i =>
     have h3:i < l.length:=by omega
     have e2:(l.map aN)[i]?=some [bI l[i].k,bI l[i].v]:=by rw [List.getElem?_map,List.getElem?_eq_getElem h3]; rfl
     have w2:IntKind.i64.wrap (((i+1:Nat):Int) - 1)=(i:Int):=by rw [aC (by omega) (by omega)]; omega
     have g1:decide ((0:Int) < ((i+1:Nat):Int))=true:=decide_eq_true (by omega)
     have hR':R=if Oc l[i+1] then (4,i+1) else if 0<=Lib.compareBytes l[i].k l[i+1].k then (2,i+1) else iA l (i+1+1):=by
      rw [hR]; simp
     clear hR
     generalize l[i+1]=p at *
     generalize l[i]=q at *
     (refine gy (an eQ e1) ?_; try intro ops hops)
     (first | refine ai [] [] (hpr) (by simp [aL,cvA,aO,cvR,ah,cv1,cvL,cv0,bI,af,aN,prD,psI,intD,dw,ae,upd]) rfl ?_ | refine ag [] [] [] (hpr) (fun G _=>by simp [aL,cvA,aO,cvR,ah,cv1,cvL,cv0,bI,af,aN,prD,psI,intD,dw,ae,upd]) rfl ?_)
     cases hb:Oc p
     ·simp only [hb,Bool.false_eq_true,if_false] at hR'
      (refine gy (an (an (an (an (an eQ @intD.eq_1) g1) w2) e2) @bI.eq_1) ?_; try intro ops hops)
      (first | refine ai [] [] (Hu q.k p.k) (by simp [aL,cvA,aO,cvR,ah,cv1,cvL,cv0,bI,af,aN,prD,psI,intD,dw,ae,upd]) rfl ?_ | refine ag [] [] [] (Hu q.k p.k) (fun G _=>by simp [aL,cvA,aO,cvR,ah,cv1,cvL,cv0,bI,af,aN,prD,psI,intD,dw,ae,upd]) rfl ?_)
      refine gx eQ ?_
      refine aY (fun h=>?_) (fun h=>?_)
      ·have h4:0<=Lib.compareBytes q.k p.k:=by simpa using h
       rw [if_pos h4] at hR'
       refine gx eQ ?_
       refine Dj [] rfl qw oP (by simp [upd,aD,aj]; rfl) ?_
       simp [cv,cv1,cvL,cv0,upd,hR',dw,intD]
      ·have h4:¬ 0<=Lib.compareBytes q.k p.k:=by simpa using h
       rw [if_neg h4] at hR'
       refine gx (an eQ w1) ?_
       refine ⟨i+1+1,⟨h2,hR'⟩,ay _ _ [] [(100,100)] ?_ ?_ rfl rfl,by simp; omega⟩
       ·simp [cv,cvL,cv1,cv0,upd,lk,aI,intD]
       ·simp [bC,aI,lk,cvO,cvL,cv0,frz,upd,D.one,intD,hO]
     ·simp only [hb,if_true] at hR'
      refine gx (an eQ @intD.eq_1) ?_
      refine Dj [] rfl qw oP (by simp [upd,aD,aj]; rfl) ?_
      simp [cv,cv1,cvL,cv0,upd,hR',dw,intD]
   ·have h2:¬ i < l.length:=by simp at h; omega
    clear h
    rw [iA,dif_neg h2] at hR
    refine gx eQ ?_
    refine Dj [] rfl qw oP (by simp [upd,aD,aj]; rfl) ?_
    simp [cv,cv1,cvL,cv0,upd,hR,dw,intD]
theorem wR:(type_of% @Ty.T1)/\(type_of% @Ty.T3)/\(type_of% @Ty.T4)/\(type_of% @Ty.T5)/\(type_of% @Ty.T29)/\(type_of% @Ty.T42):=⟨@Ty.T1,@Ty.T3,@Ty.T4,@Ty.T5,@Ty.T29,@Ty.T42⟩
theorem EE:(type_of% @Ty.T1)/\(type_of% @Ty.T3)/\(type_of% @Ty.T5)/\(type_of% @Ty.T29)/\(type_of% @Ty.T42):=⟨@Ty.T1,@Ty.T3,@Ty.T5,@Ty.T29,@Ty.T42⟩
theorem wQ:(type_of% @Ty.T1)/\(type_of% @Ty.T3)/\(type_of% @Ty.T5)/\(type_of% @Ty.T29)/\(type_of% @Ty.T42):=⟨@Ty.T1,@Ty.T3,@Ty.T5,@Ty.T29,@Ty.T42⟩
theorem jT:(type_of% @Ty.T3)/\(type_of% @Ty.T5)/\(type_of% @Ty.T29)/\(type_of% @Ty.T31)/\(type_of% @Ty.T41):=⟨@Ty.T3,@Ty.T5,@Ty.T29,@Ty.T31,@Ty.T41⟩
theorem Oy:(type_of% @Ty.T3)/\(type_of% @Ty.T4)/\(type_of% @Ty.T5)/\(type_of% @Ty.T29):=⟨@Ty.T3,@Ty.T4,@Ty.T5,@Ty.T29⟩
theorem ru:(type_of% @Ty.T3):=@Ty.T3
def four (n:Nat):List UInt8:=[aR n 16777216,aR n 65536,aR n 256,aR n 1]
def x_ (k v:List UInt8):List UInt8:=sha (0 :: (four k.length++(k++v)))
def pF (a b:List UInt8):List UInt8:=sha (1 :: (a++b))
def GG (n:Nat) (t:List UInt8):List UInt8:=sha (2 :: (four n++t))
def bg (n:Nat):Nat:=2 ^ Nat.log2 (n - 1)
theorem jJ {n:Nat} (h:2<=n):0 < bg n/\bg n < n:=by
 have:=Nat.log2_self_le (n:=n - 1) (by omega)
 have h2:0 < 2 ^ Nat.log2 (n - 1):=Nat.pow_pos (by decide)
 simp only [bg]; omega
def gI (l:List bn):List UInt8 :=
 match l with
 | []=>[]
 | [p]=>x_ p.k p.v
 | p :: q :: r=>pF (gI ((p :: q :: r).take (bg (p :: q :: r).length))) (gI ((p :: q :: r).drop (bg (p :: q :: r).length)))
termination_by l.length
decreasing_by
 all_goals
  have:=jJ (n:=(p :: q :: r).length) (by simp)
  simp only [List.length_take,List.length_drop]
  omega
theorem zK (p:bn):gI [p]=x_ p.k p.v:=by rw [gI]
theorem zJ {l:List bn} (h:2<=l.length):gI l=pF (gI (l.take (bg l.length))) (gI (l.drop (bg l.length))):=by
 match l,h with
 | p :: q :: r,_=>conv=>lhs; rw [gI]
theorem su (l:List bn) (h:l≠[]):(gI l).length=32:=by
 match l,h with
 | [p],_=>rw [zK]; exact dD _
 | p :: q :: r,_=>rw [zJ (by simp)]; exact dD _
def zV (l:List bn):List UInt8:=GG l.length (gI l)
theorem Mw (n d k:Nat) (hd:d=2 ^ k) (hk:k < 64):IntKind.u8.wrap ((n:Int).fdiv (2 ^ min k (IntKind.bits .i64)))=((aR n d).toNat:Int):=by
 have hm:min k (IntKind.bits .i64)=k:=by simp [IntKind.bits]; omega
 rw [hm,Int.fdiv_eq_ediv_of_nonneg _ (by exact_mod_cast Nat.zero_le _),IntKind.wrap_u8]
 have:(n:Int) / 2 ^ k=((n / 2 ^ k:Nat):Int):=by rw [Int.natCast_ediv,Int.natCast_pow]; rfl
 rw [this,aR,hd]
 generalize n / 2 ^ k=x
 rw [UInt8.toNat_ofNat']; omega
theorem aat (n:Nat):IntKind.u8.wrap (n:Int)=((aR n 1).toNat:Int):=by
 rw [IntKind.wrap_u8,aR,Nat.div_one,UInt8.toNat_ofNat']; omega
theorem Fz (n:Nat):PureD Tryz.prog 164 [intD n] (.i (bI (four n))):=by
 have b1:=Mw n 16777216 24 (by decide) (by decide)
 have b2:=Mw n 65536 16 (by decide) (by decide)
 have b3:=Mw n 256 8 (by decide) (by decide)
 have b4:=aat n
 simp only [four]
 generalize aR n 16777216=c1 at *
 generalize aR n 65536=c2 at *
 generalize aR n 256=c3 at *
 generalize aR n 1=c4 at *
 refine aa 15 Tryz.func164 rfl rfl rfl (fun _ _=>rfl) ?_
 refine gx (an (an (an (an (an Oy @intD.eq_1) @b1) @b2) @b3) @b4) ?_
 refine av [1267] rfl ?_
 simp [cv,cv1,cv0,upd,ae,bI,af]
theorem RV (k v:List UInt8) (hk:k.length<=1048576) (hv:v.length<=1048576):PureD Tryz.prog 115 [.i (bI k),.i (bI v)] (.i (bI (x_ k v))):=by
 have hp:=tu [[0],four k.length,k,v] (by simp) (by intro b hb; simp at hb; rcases hb with rfl | rfl | rfl | rfl; simp; (simp [four]); omega; omega)
 have hf:[[0],four k.length,k,v].flatten=0 :: (four k.length++(k++v)):=by simp
 rw [hf] at hp
 rw [show sha (0 :: (four k.length++(k++v)))=x_ k v from rfl] at hp
 generalize x_ k v=R at *
 refine aa 13 Tryz.func115 rfl rfl rfl (fun _ _=>rfl) ?_
 (refine gy (an wR @bI.eq_1) ?_; try intro ops hops)
 (first | refine aV [] (Fz k.length) (by simp [aL,cvA,aO,cvR,ah,cv1,cvL,cv0,bI,af,bbI,aN,psI,intD,ae,upd]) ?_ | refine aK [] [] (Fz k.length) (fun G _=>by simp [aL,cvA,aO,cvR,ah,cv1,cvL,cv0,bI,af,bbI,aN,psI,intD,ae,upd]) (by simp) ?_)
 (refine gy (an wR @bI.eq_1) ?_; try intro ops hops)
 (first | refine aV [1262] (hp) (by simp [aL,cvA,aO,cvR,ah,cv1,cvL,cv0,bI,af,bbI,aN,psI,intD,ae,upd,frz,bbI]) ?_ | refine aK [1262] [1262] (hp) (fun G hG=>by (have hG1262:=hG 1262 (by simp); simp [aL,cvA,aO,cvR,ah,cv1,cvL,cv0,bI,af,bbI,aN,psI,intD,ae,upd,frz,bbI,hG1262])) (by simp) ?_)
 refine gx (an wR @bI.eq_1) ?_
 refine av [] rfl ?_
 simp [cv,cv1,cv0,upd]
theorem Ke (a b:List UInt8) (ha:a.length<=1048576) (hb:b.length<=1048576):PureD Tryz.prog 163 [.i (bI a),.i (bI b)] (.i (bI (pF a b))):=by
 have hp:=tu [[1],a,b] (by simp) (by intro x hx; simp at hx; rcases hx with rfl | rfl | rfl; simp; omega; omega)
 have hf:[[1],a,b].flatten=1 :: (a++b):=by simp
 rw [hf] at hp
 rw [show sha (1 :: (a++b))=pF a b from rfl] at hp
 generalize pF a b=R at *
 refine aa 10 Tryz.func163 rfl rfl rfl (fun _ _=>rfl) ?_
 (refine gy (an EE @bI.eq_1) ?_; try intro ops hops)
 (first | refine aV [1259] (hp) (by simp [aL,cvA,aO,cvR,ah,cv1,cvL,cv0,bI,af,bbI,aN,psI,intD,ae,upd,frz,bbI]) ?_ | refine aK [1259] [1259] (hp) (fun G hG=>by (have hG1259:=hG 1259 (by simp); simp [aL,cvA,aO,cvR,ah,cv1,cvL,cv0,bI,af,bbI,aN,psI,intD,ae,upd,frz,bbI,hG1259])) (by simp) ?_)
 refine gx (an EE @bI.eq_1) ?_
 refine av [] rfl ?_
 simp [cv,cv1,cv0,upd]
theorem Oz (n:Nat) (t:List UInt8) (ht:t.length<=1048576):PureD Tryz.prog 116 [intD n,.i (bI t)] (.i (bI (GG n t))):=by
 have hp:=tu [[2],four n,t] (by simp) (by intro x hx; simp at hx; rcases hx with rfl | rfl | rfl; simp; (simp [four]); omega)
 have hf:[[2],four n,t].flatten=2 :: (four n++t):=by simp
 rw [hf] at hp
 rw [show sha (2 :: (four n++t))=GG n t from rfl] at hp
 generalize GG n t=R at *
 refine aa 11 Tryz.func116 rfl rfl rfl (fun _ _=>rfl) ?_
 (refine gy (an (an wQ @bI.eq_1) @intD.eq_1) ?_; try intro ops hops)
 (first | refine aV [] (Fz n) (by simp [aL,cvA,aO,cvR,ah,cv1,cvL,cv0,bI,af,bbI,aN,psI,intD,ae,upd]) ?_ | refine aK [] [] (Fz n) (fun G _=>by simp [aL,cvA,aO,cvR,ah,cv1,cvL,cv0,bI,af,bbI,aN,psI,intD,ae,upd]) (by simp) ?_)
 (refine gy (an wQ @bI.eq_1) ?_; try intro ops hops)
 (first | refine aV [1260] (hp) (by simp [aL,cvA,aO,cvR,ah,cv1,cvL,cv0,bI,af,bbI,aN,psI,intD,ae,upd,frz,bbI]) ?_ | refine aK [1260] [1260] (hp) (fun G hG=>by (have hG1260:=hG 1260 (by simp); simp [aL,cvA,aO,cvR,ah,cv1,cvL,cv0,bI,af,bbI,aN,psI,intD,ae,upd,frz,bbI,hG1260])) (by simp) ?_)
 refine gx (an wQ @bI.eq_1) ?_
 refine av [] rfl ?_
 simp [cv,cv1,cv0,upd]
theorem GX {n i:Nat} (h1:2 ^ i=1\/2 ^ i < n) (h2:n<=2 * 2 ^ i) (hn:1<=n):2 ^ i=bg n:=by
 unfold bg
 congr 1
 have hle:i<=Nat.log2 (n - 1)\/n - 1=0:=by
  by_cases h0:n - 1=0
  ·exact .inr h0
  ·refine .inl ((Nat.le_log2 h0).2 ?_)
   rcases h1 with h1 | h1 <;> omega
 have hge:n - 1=0\/Nat.log2 (n - 1) < i+1:=by
  by_cases h0:n - 1=0
  ·exact .inl h0
  ·refine .inr ((Nat.log2_lt h0).2 ?_)
   rw [Nat.pow_succ]; omega
 rcases hle with hle | hle
 ·rcases hge with hge | hge
  ·rw [hge] at hle ⊢; simp at hle ⊢; omega
  ·omega
 ·rw [hle]
  have:n=1:=by omega
  subst this
  simp
  rcases h1 with h1 | h1
  ·cases i with
   | zero=>rfl
   | succ i=>rw [Nat.pow_succ] at h1; omega
  ·have:0 < 2 ^ i:=Nat.pow_pos (by decide); omega
theorem BI (n:Nat) (h0:1<=n) (hn:n<=1048576):PureD Tryz.prog 162 [intD n] (intD (bg n)):=by
 refine aa 11 Tryz.func162 rfl rfl rfl (fun _ _=>rfl) ?_
 refine gx (an ru @intD.eq_1) ?_
 refine bY (ι:=Nat) (fun i=>2 ^ i=1\/2 ^ i < n)
  (fun i=>dQ [(0,intD n),(3,intD (2 ^ i:Nat))] []) (fun i=>n - 2 ^ i) 0 (.inl rfl) ?_ ?_
 ·refine ay _ _ [] [] ?_ ?_ rfl rfl
  ·simp [cv,cv1,cv0,upd,lk,aI,intD]
  ·simp
 ·rintro i hi
  rw [ak]
  have hp:0 < 2 ^ i:=Nat.pow_pos (by decide)
  have hs:2 ^ (i+1)=2 * 2 ^ i:=by rw [Nat.pow_succ]; omega
  have hfin:=GX hi
  have w1:IntKind.i64.wrap (2 * ((2 ^ i:Nat):Int))=((2 ^ (i+1):Nat):Int):=by rw [hs,aC (by omega) (by omega)]; omega
  have w2:IntKind.i64.wrap (((2 ^ i:Nat):Int) * 2)=((2 ^ (i+1):Nat):Int):=by rw [hs,aC (by omega) (by omega)]; omega
  generalize hx:2 ^ i=x at *
  generalize hy:2 ^ (i+1)=y at *
  refine gx (an (an ru @intD.eq_1) w1) ?_
  refine aY (fun h=>?_) (fun h=>?_)
  ·have h1:y < n:=by simp at h; omega
   clear h
   refine gx (an ru w2) ?_
   refine ⟨i+1,by show 2 ^ (i+1)=1\/2 ^ (i+1) < n; rw [hy]; exact .inr h1,ay _ _ [] [] ?_ ?_ rfl rfl,by simp only [hx,hy]; omega⟩
   ·simp only [hy]; simp [cv,cv1,cv0,upd,lk,aI,intD]
   ·simp
  ·have h1:n<=2 * x:=by simp at h; omega
   clear h
   refine gx ru ?_
   refine av [] rfl ?_
   simp [cv,cv1,cv0,upd,intD,hfin h1 h0]
theorem IR:∀ (n:Nat) (l:List bn),l.length=n->l≠[]->l.length<=1048576->(∀ p∈l,p.k.length<=1048576/\p.v.length<=1048576)->PureD Tryz.prog 129 [.i (psI l)] (.i (bI (gI l))):=by
 intro n
 induction n using Nat.strongRecOn with
 | _ n ih =>
  intro l hn hne hl hb
  by_cases h1:l.length=1
  ·obtain ⟨p,rfl⟩:=List.length_eq_one_iff.1 h1
   have hp:=hb p (by simp)
   have hlf:=RV p.k p.v hp.1 hp.2
   rw [zK]
   generalize x_ p.k p.v=R at *
   refine aa 28 Tryz.func129 rfl rfl rfl (fun _ _=>rfl) ?_
   (refine gy (an (an (an (an (an jT @psI.eq_1) @List.map_cons.{0,0}) @List.map_nil.{0,0}) @aN.eq_1) @bI.eq_1) ?_; try intro ops hops)
   (first | refine aV [] (hlf) (by simp [aL,cvA,aO,cvR,ah,cv1,cvL,cv0,bI,af,bbI,aN,psI,intD,ae,upd]) ?_ | refine aK [] [] (hlf) (fun G _=>by simp [aL,cvA,aO,cvR,ah,cv1,cvL,cv0,bI,af,bbI,aN,psI,intD,ae,upd]) (by simp) ?_)
   refine gx (an jT @bI.eq_1) ?_
   refine av [] rfl ?_
   simp [cv,cv1,cv0,upd]
  ·have h2:2<=l.length:=by have:=List.length_pos_iff.2 hne; omega
   have hs:=jJ h2
   rw [zJ h2]
   have hsp:=BI l.length (by omega) hl
   generalize bg l.length=k at *
   have t1:=ih (l.take k).length (by simp; omega) (l.take k) rfl (by intro hc; have:=congrArg List.length hc; simp only [List.length_take,List.length_drop,List.length_nil] at this; omega) (by simp; omega) (fun p hp=>hb p (List.mem_of_mem_take hp))
   have t2:=ih (l.drop k).length (by simp; omega) (l.drop k) rfl (by intro hc; have:=congrArg List.length hc; simp only [List.length_take,List.length_drop,List.length_nil] at this; omega) (by simp; omega) (fun p hp=>hb p (List.mem_of_mem_drop hp))
   have l1:(gI (l.take k)).length=32:=su _ (by intro hc; have:=congrArg List.length hc; simp only [List.length_take,List.length_drop,List.length_nil] at this; omega)
   have l2:(gI (l.drop k)).length=32:=su _ (by intro hc; have:=congrArg List.length hc; simp only [List.length_take,List.length_drop,List.length_nil] at this; omega)
   have hnd:=Ke (gI (l.take k)) (gI (l.drop k)) (by omega) (by omega)
   generalize gI (l.take k)=T1 at *
   generalize gI (l.drop k)=T2 at *
   generalize pF T1 T2=R at *
   have g1:decide ((l.length:Int)=1)=false:=by simp; omega
   have g2:((k:Int)<=(l.length:Int))=True:=eq_true (by omega)
   have u1:uni 2 (l.map aN)=true:=by simp [uni,aN]
   refine aa 28 Tryz.func129 rfl rfl rfl (fun _ _=>rfl) ?_
   (refine gy (an (an jT @psI.eq_1) g1) ?_; try intro ops hops)
   (first | refine ai [] [] (hsp) (by simp [aL,cvA,aO,cvR,ah,cv1,cvL,cv0,bI,af,bbI,aN,psI,intD,ae,upd]) rfl ?_ | refine ag [] [] [] (hsp) (fun G _=>by simp [aL,cvA,aO,cvR,ah,cv1,cvL,cv0,bI,af,bbI,aN,psI,intD,ae,upd]) rfl ?_)
   (refine gy (an (an (an (an (an (an jT @intD.eq_1) @psI.eq_1) g2) u1) @mtk) @mdr) ?_; try intro ops hops)
   (first | refine aV [] (t1) (by simp [aL,cvA,aO,cvR,ah,cv1,cvL,cv0,bI,af,bbI,aN,psI,intD,ae,upd]) ?_ | refine aK [] [] (t1) (fun G _=>by simp [aL,cvA,aO,cvR,ah,cv1,cvL,cv0,bI,af,bbI,aN,psI,intD,ae,upd]) (by simp) ?_)
   (refine gy (an (an (an (an (an (an jT @bI.eq_1) @psI.eq_1) g2) u1) @mtk) @mdr) ?_; try intro ops hops)
   (first | refine aV [] (t2) (by simp [aL,cvA,aO,cvR,ah,cv1,cvL,cv0,bI,af,bbI,aN,psI,intD,ae,upd]) ?_ | refine aK [] [] (t2) (fun G _=>by simp [aL,cvA,aO,cvR,ah,cv1,cvL,cv0,bI,af,bbI,aN,psI,intD,ae,upd]) (by simp) ?_)
   (refine gy (an jT @bI.eq_1) ?_; try intro ops hops)
   (first | refine aV [] (hnd) (by simp [aL,cvA,aO,cvR,ah,cv1,cvL,cv0,bI,af,bbI,aN,psI,intD,ae,upd]) ?_ | refine aK [] [] (hnd) (fun G _=>by simp [aL,cvA,aO,cvR,ah,cv1,cvL,cv0,bI,af,bbI,aN,psI,intD,ae,upd]) (by simp) ?_)
   refine gx (an jT @bI.eq_1) ?_
   refine av [] rfl ?_
   simp [cv,cv1,cv0,upd]
structure Nv (l:List bn):Prop where
 len:l.length<=200
 big:∀ p∈l,p.k.length<=60/\p.v.length<=200
 ord:∀ i j (hi:i < l.length) (hj:j < l.length),i < j->Lib.compareBytes l[i].k l[j].k < 0
theorem Vs {p:bn} (h:Oc p=false):p.k.length<=60/\p.v.length<=200:=by
 simp [Oc] at h; omega
theorem Gs (l:List bn):∀ (d i:Nat),l.length - i=d->(iA l i).1=0->∀ a (ha:a < l.length),i<=a->Oc l[a]=false/\(∀ h:0 < a,Lib.compareBytes (l[a - 1]'(by omega)).k l[a].k < 0):=by
 intro d
 induction d with
 | zero=>intro i hd _ a ha hia; omega
 | succ d ih =>
  intro i hd hw a ha hia
  rw [iA,dif_pos (by omega)] at hw
  split at hw
  ·cases hw
  ·rename_i hb
   split at hw
   ·cases hw
   ·rename_i hc
    by_cases hai:a=i
    ·subst hai
     refine ⟨by simpa using hb,fun h=>?_⟩
     have:¬ 0<=Lib.compareBytes (l[a - 1]'(by omega)).k l[a].k:=fun h'=>hc ⟨h,h'⟩
     omega
    ·exact ih (i+1) (by omega) hw a ha (by omega)
theorem rE {l:List bn} (h:(dK l).1=0):Nv l:=by
 unfold dK at h
 split at h
 ·cases h
 ·rename_i hl
  have hw:=Gs l _ 0 rfl h
  refine ⟨by omega,fun p hp=>?_,?_⟩
  ·obtain ⟨a,ha,rfl⟩:=List.getElem_of_mem hp
   exact Vs (hw a ha (Nat.zero_le _)).1
  ·intro i j
   induction j with
   | zero=>intro _ _ h; omega
   | succ j ih =>
    intro hi hj hij
    have h1:=(hw (j+1) hj (Nat.zero_le _)).2 (by omega)
    simp only [Nat.add_sub_cancel] at h1
    by_cases hc:i=j
    ·subst hc; exact h1
    ·exact jf _ _ _ (ih hi (by omega) (by omega)) h1
theorem wz {l:List bn} (h:Nv l):∀ (d i:Nat),l.length - i=d->iA l i=(0,0):=by
 intro d
 induction d with
 | zero=>intro i hd; rw [iA,dif_neg (by omega)]
 | succ d ih =>
  intro i hd
  have hi:i < l.length:=by omega
  rw [iA,dif_pos hi]
  have hb:=h.big _ (List.getElem_mem hi)
  rw [if_neg (by simp [Oc]; omega),if_neg,ih (i+1) (by omega)]
  rintro ⟨h1,h2⟩
  have:=h.ord (i - 1) i (by omega) hi (by omega)
  omega
theorem si {l:List bn} (h:Nv l):dK l=(0,0):=by
 rw [dK,if_neg (by have:=h.len; omega)]; exact wz h _ 0 rfl
theorem oL {l:List bn} (h:(dK l).1=0):dK l=(0,0):=si (rE h)
def bU (l:List bn) (key:List UInt8):Nat:=(l.takeWhile fun p=>decide (Lib.compareBytes p.k key < 0)).length
def vG (l:List bn) (key:List UInt8):Bool:=if h:bU l key < l.length then decide (l[bU l key].k=key) else false
theorem Aa (l:List bn) (key:List UInt8):bU l key<=l.length:=(List.takeWhile_sublist _).length_le
theorem z_ (key:List UInt8):∀ (l:List bn) (a:Nat) (ha:a < l.length),a < bU l key->Lib.compareBytes l[a].k key < 0
 | [],a,ha,_=>by simp at ha
 | p :: t,a,ha,h=>by
  unfold bU at h
  rw [List.takeWhile_cons] at h
  split at h
  ·rename_i hp
   cases a with
   | zero=>simpa using hp
   | succ a=>exact z_ key t a (by simpa using ha) (by simpa [bU] using h)
  ·simp at h
theorem Ab (key:List UInt8):∀ (l:List bn) (h:bU l key < l.length),¬ Lib.compareBytes l[bU l key].k key < 0
 | [],h=>by simp at h
 | p :: t,h=>by
  unfold bU at h
  simp only [bU]
  by_cases hp:decide (Lib.compareBytes p.k key < 0)=true
  ·have e:(List.takeWhile (fun p=>decide (Lib.compareBytes p.k key < 0)) (p :: t)).length=bU t key+1:=by
    rw [List.takeWhile_cons,if_pos hp]; rfl
   simp only [e] at h ⊢
   have:=Ab key t (by simpa using h)
   simpa using this
  ·have e:(List.takeWhile (fun p=>decide (Lib.compareBytes p.k key < 0)) (p :: t)).length=0:=by
    rw [List.takeWhile_cons,if_neg hp]; rfl
   simp only [e]
   simpa using hp
theorem GZ {l:List bn} (h:Nv l) (key:List UInt8):∀ a (ha:a < l.length),Lib.compareBytes l[a].k key < 0↔a < bU l key:=by
 intro a ha
 refine ⟨fun h1=>?_,z_ key l a ha⟩
 apply Decidable.byContradiction
 intro hc
 have hp:bU l key < l.length:=by omega
 have h2:=Ab key l hp
 by_cases he:a=bU l key
 ·subst he; exact h2 h1
 ·exact h2 (jf _ _ _ (h.ord _ a hp ha (by omega)) h1)
theorem ED:(type_of% @Ty.T5)/\(type_of% @Ty.T29)/\(type_of% @Ty.T31)/\(type_of% @Ty.T41)/\(type_of% @Ty.abQ):=⟨@Ty.T5,@Ty.T29,@Ty.T31,@Ty.T41,@Ty.abQ⟩
theorem iI:(type_of% @Ty.T3)/\(type_of% @Ty.T5)/\(type_of% @Ty.T29)/\(type_of% @Ty.T31)/\(type_of% @Ty.T32)/\(type_of% @Ty.T41)/\(type_of% @Ty.Zw):=⟨@Ty.T3,@Ty.T5,@Ty.T29,@Ty.T31,@Ty.T32,@Ty.T41,@Ty.Zw⟩
theorem Sa (l:List bn) (key:List UInt8) (h:Nv l):PureD Tryz.prog 54 [.i (psI l),.i (bI key)] (.tup [intD (bU l key),boolD (vG l key)]):=by
 have hs:=OQ l key (bU l key) (by have:=h.len; omega) (Aa l key) (GZ h key)
 have e:(if h:bU l key < l.length then decide (Lib.compareBytes l[bU l key].k key=0) else false)=vG l key:=by
  unfold vG
  split
  ·simp [mf]
  ·rfl
 rw [e] at hs
 refine aa 11 Tryz.func54 rfl rfl rfl (fun _ _=>rfl) ?_
 (refine gy (an (an ED @psI.eq_1) @bI.eq_1) ?_; try intro ops hops)
 (first | refine ai [] [] (hs) (by simp [aL,cvA,aO,cvR,ah,cv1,cvL,cv0,bI,af,psI,intD,boolD,dw,ae,upd]) rfl ?_ | refine ag [] [] [] (hs) (fun G _=>by simp [aL,cvA,aO,cvR,ah,cv1,cvL,cv0,bI,af,psI,intD,boolD,dw,ae,upd]) rfl ?_)
 refine gx (an (an ED @intD.eq_1) @boolD.eq_1) ?_
 refine bZ [] rfl ?_
 simp [cv,cvT,cv1,cv0,upd,intD,boolD]
def GQ (l:List bn):List UInt8:=if (dK l).1=0 then zV l else []
theorem WX (l:List bn) (hl:l.length<=1048576):PureD Tryz.prog 69 [.i (psI l)] (.tup [.i (bI (GQ l)),dw (dK l).1 (dK l).2]):=by
 have hw:=Br l hl
 unfold GQ
 by_cases h0:(dK l).1=0
 ·have hr:=rE h0
  have hz:=oL h0
  rw [if_pos h0,hz]
  rw [hz] at hw
  simp only at *
  cases l with
  | nil =>
   have ht:=Oz 0 [] (by simp)
   rw [show GG 0 []=zV [] by rw [zV,gI]; rfl] at ht
   generalize zV []=R at *
   refine aa 22 Tryz.func69 rfl rfl rfl (fun _ _=>rfl) ?_
   (refine gy (an iI @psI.eq_1) ?_; try intro ops hops)
   (first | refine ai [] [] (hw) (by simp [aL,cvA,aO,cvR,ah,cv1,cvL,cv0,bI,af,psI,intD,boolD,dw,ae,upd]) rfl ?_ | refine ag [] [] [] (hw) (fun G _=>by simp [aL,cvA,aO,cvR,ah,cv1,cvL,cv0,bI,af,psI,intD,boolD,dw,ae,upd]) rfl ?_)
   (refine gy (an (an (an iI @dw.eq_1) @intD.eq_1) @List.map_nil.{0,0}) ?_; try intro ops hops)
   (first | refine aV [] (ht) (by simp [aL,cvA,aO,cvR,ah,cv1,cvL,cv0,bI,af,psI,intD,boolD,dw,ae,upd]) ?_ | refine aK [] [] (ht) (fun G _=>by simp [aL,cvA,aO,cvR,ah,cv1,cvL,cv0,bI,af,psI,intD,boolD,dw,ae,upd]) (by simp) ?_)
   refine gx (an iI @bI.eq_1) ?_
   refine AA [] rfl qw oP (by simp [upd,aD,aj]; rfl) ?_
   simp [cv,cvT,cv1,cvL,cv0,upd,dw,intD,bI]
  | cons p t =>
   have htl:=su (p :: t) (by simp)
   have htr:=IR _ (p :: t) rfl (by simp) hl (fun q hq=>by have:=hr.big q hq; omega)
   have ht:=Oz (p :: t).length (gI (p :: t)) (by omega)
   rw [show GG (p :: t).length (gI (p :: t))=zV (p :: t) from rfl] at ht
   generalize zV (p :: t)=R at *
   generalize gI (p :: t)=T at *
   have g1:decide (((p :: t).length:Int)=0)=false:=by simp; omega
   generalize p :: t=l at *
   refine aa 22 Tryz.func69 rfl rfl rfl (fun _ _=>rfl) ?_
   (refine gy (an iI @psI.eq_1) ?_; try intro ops hops)
   (first | refine ai [] [] (hw) (by simp [aL,cvA,aO,cvR,ah,cv1,cvL,cv0,bI,af,psI,intD,boolD,dw,ae,upd]) rfl ?_ | refine ag [] [] [] (hw) (fun G _=>by simp [aL,cvA,aO,cvR,ah,cv1,cvL,cv0,bI,af,psI,intD,boolD,dw,ae,upd]) rfl ?_)
   (refine gy (an (an (an (an iI @dw.eq_1) @intD.eq_1) @psI.eq_1) g1) ?_; try intro ops hops)
   (first | refine aV [] (htr) (by simp [aL,cvA,aO,cvR,ah,cv1,cvL,cv0,bI,af,psI,intD,boolD,dw,ae,upd]) ?_ | refine aK [] [] (htr) (fun G _=>by simp [aL,cvA,aO,cvR,ah,cv1,cvL,cv0,bI,af,psI,intD,boolD,dw,ae,upd]) (by simp) ?_)
   (refine gy (an iI @bI.eq_1) ?_; try intro ops hops)
   (first | refine aV [] (ht) (by simp [aL,cvA,aO,cvR,ah,cv1,cvL,cv0,bI,af,psI,intD,boolD,dw,ae,upd]) ?_ | refine aK [] [] (ht) (fun G _=>by simp [aL,cvA,aO,cvR,ah,cv1,cvL,cv0,bI,af,psI,intD,boolD,dw,ae,upd]) (by simp) ?_)
   refine gx (an iI @bI.eq_1) ?_
   refine AA [] rfl qw oP (by simp [upd,aD,aj]; rfl) ?_
   simp [cv,cvT,cv1,cvL,cv0,upd,dw,intD,bI]
 ·rw [if_neg h0]
  generalize dK l=W at *
  have g1:decide ((W.1:Int)=0)=false:=by simp; omega
  refine aa 22 Tryz.func69 rfl rfl rfl (fun _ _=>rfl) ?_
  (refine gy (an iI @psI.eq_1) ?_; try intro ops hops)
  (first | refine ai [] [] (hw) (by simp [aL,cvA,aO,cvR,ah,cv1,cvL,cv0,bI,af,psI,intD,boolD,dw,ae,upd]) rfl ?_ | refine ag [] [] [] (hw) (fun G _=>by simp [aL,cvA,aO,cvR,ah,cv1,cvL,cv0,bI,af,psI,intD,boolD,dw,ae,upd]) rfl ?_)
  refine gx (an (an (an iI @dw.eq_1) @intD.eq_1) g1) ?_
  refine AA [] rfl qw oP (by simp [upd,aD,aj]; rfl) ?_
  simp [cv,cvT,cv1,cvL,cv0,upd,dw,intD,bI]
end Go.Proofs.YtfenipelcpmkpaaGreatDoor
