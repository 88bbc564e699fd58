/- Merged texts: Find, BookA, BookB, BookO, BookC. -/
import Derived.Test.YtkbbipgjmoanhaaGreatDoorGHd
set_option linter.all false
set_option maxHeartbeats 2000000
namespace Go.Proofs.YtkbbipgjmoanhaaGreatDoor
open Go Go.Abs Go.RowKit Go.Proofs.YtkbbipgjmoanhaaGreatDoor.Ty
theorem HY:(type_of% @Ty.T5)/\(type_of% @Ty.T38)/\(type_of% @Ty.aas):=⟨@Ty.T5,@Ty.T38,@Ty.aas⟩
theorem jJ:(type_of% @Ty.T3)/\(type_of% @Ty.T5)/\(type_of% @Ty.T38)/\(type_of% @Ty.aaA)/\(type_of% @Ty.aay)/\(type_of% @Ty.aas):=⟨@Ty.T3,@Ty.T5,@Ty.T38,@Ty.aaA,@Ty.aay,@Ty.aas⟩
structure bf where
 k:List UInt8
 v:List UInt8
def aI (p:bf):List I:=[bI p.k,bI p.v]
def prD (p:bf):D:=.agg [.i (bI p.k),.i (bI p.v)]
def psI (l:List bf):I:=.sl (l.map aI)
theorem yc (p:bf) (k:List UInt8):PureD Tryz.prog 146 [prD p,.i (bI k)] (intD (Lib.compareBytes p.k k)):=by
 refine aa 9 Tryz.func146 rfl rfl rfl (fun _ _=>rfl) ?_
 (refine gy (an (an HY @prD.eq_1) @bI.eq_1) ?_; try intro ops hops)
 (first | refine ai [] [] (Gv p.k k) (by simp [aJ,cvA,aM,cvR,ah,cv1,cvL,cv0,bI,af,aI,prD,psI,intD,boolD,ae,upd]) rfl ?_ | refine ag [] [] [] (Gv p.k k) (fun G _=>by simp [aJ,cvA,aM,cvR,ah,cv1,cvL,cv0,bI,af,aI,prD,psI,intD,boolD,ae,upd]) rfl ?_)
 refine gx HY ?_
 refine aB [] rfl ?_
 simp [cv,cv1,cv0,upd,intD]
theorem NS (l:List bf) (key:List UInt8) (p:Nat) (hl:l.length<=1048576) (hp:p<=l.length) (hm:∀ a (h:a < l.length),Lib.compareBytes l[a].k key < 0↔a < p) :
  PureD Tryz.prog 145 [.i (psI l),.i (bI key),.fn 146 []]
   (.tup [intD p,boolD (if h:p < l.length then decide (Lib.compareBytes l[p].k key=0) else false)]):=by
 refine aa 49 Tryz.func145 rfl rfl rfl (fun _ _=>rfl) ?_
 refine gx (an (an jJ @psI.eq_1) @bI.eq_1) ?_
 refine cz (ι:=Nat × Nat) (fun q=>q.1<=p/\p<=q.2/\q.2<=l.length)
  (fun q=>dW [(0,.i (.sl (l.map aI))),(1,.i (.sl (key.map af))),(2,.fn 146 []),(8,intD l.length),(9,intD q.1),(10,intD q.2)] []) (fun q=>q.2 - q.1) (0,l.length) ⟨Nat.zero_le _,hp,Nat.le_refl _⟩ ?_ ?_
 ·refine le_stOf _ _ [] [] ?_ ?_ rfl rfl
  ·simp [cv,cvL,cv1,cv0,upd,lk,aZ,intD]
  ·simp
 ·rintro ⟨i,j⟩ ⟨h1,h2,h3⟩
  simp only at h1 h2 h3
  rw [au]
  refine gx (an jJ @intD.eq_1) ?_
  refine Wc_split (fun h=>?_) (fun h=>?_)
  ·have hij:i < j:=by simp at h; omega
   clear h
   have hml:(i+j) / 2 < l.length:=by omega
   have e1:(l.map aI)[(i+j) / 2]?=some [bI l[(i+j) / 2].k,bI l[(i+j) / 2].v]:=by rw [List.getElem?_map,List.getElem?_eq_getElem hml]; rfl
   have hmm:=hm _ hml
   have w1:IntKind.i64.wrap ((i:Int)+(j:Int))=((i+j:Nat):Int):=by rw [ay (by omega) (by omega)]; omega
   have w2:IntKind.u64.wrap ((i+j:Nat):Int)=((i+j:Nat):Int):=by rw [IntKind.wrap_u64]; omega
   have w3:((i+j:Nat):Int).fdiv (2 ^ min 1 (IntKind.bits .u64))=(((i+j) / 2:Nat):Int):=by
    rw [show min 1 (IntKind.bits .u64)=1 from rfl,Int.fdiv_eq_ediv_of_nonneg _ (by decide)]; omega
   have w4:IntKind.i64.wrap (((i+j) / 2:Nat):Int)=(((i+j) / 2:Nat):Int):=by rw [ay (by omega) (by omega)]
   have w5:IntKind.i64.wrap ((((i+j) / 2:Nat):Int)+1)=(((i+j) / 2+1:Nat):Int):=by rw [ay (by omega) (by omega)]; omega
   have hmid1:i<=(i+j) / 2:=by omega
   have hmid2:(i+j) / 2 < j:=by omega
   generalize l[(i+j) / 2]=q at e1 hmm
   generalize (i+j) / 2=m at *
   (refine gy (an (an (an (an (an jJ w1) w2) w3) w4) e1) ?_; try intro ops hops)
   (first | refine ai [] [] (yc q key) (by simp [aJ,cvA,aM,cvR,ah,cv1,cvL,cv0,bI,af,aI,prD,psI,intD,boolD,ae,upd]) rfl ?_ | refine ag [] [] [] (yc q key) (fun G _=>by simp [aJ,cvA,aM,cvR,ah,cv1,cvL,cv0,bI,af,aI,prD,psI,intD,boolD,ae,upd]) rfl ?_)
   refine gx (an jJ @intD.eq_1) ?_
   refine Wc_split (fun h=>?_) (fun h=>?_)
   ·have hlt:m < p:=hmm.1 (by simpa using h)
    refine gx (an jJ w5) ?_
    refine ⟨(m+1,j),⟨hlt,h2,h3⟩,le_stOf _ _ [] [] ?_ ?_ rfl rfl,by simp; omega⟩
    ·simp [cv,cvL,cv1,cv0,upd,lk,aZ,intD]
    ·simp
   ·have hlt:¬ m < p:=fun hc=>by have:=hmm.2 hc; simp at h; omega
    refine gx jJ ?_
    refine ⟨(i,m),⟨h1,Nat.le_of_not_lt hlt,by omega⟩,le_stOf _ _ [] [] ?_ ?_ rfl rfl,by simp; omega⟩
    ·simp [cv,cvL,cv1,cv0,upd,lk,aZ,intD]
    ·simp
  ·have hij:i=p:=by simp at h; omega
   subst hij
   by_cases hlt:i < l.length
   ·rw [dif_pos hlt]
    have e1:(l.map aI)[i]?=some [bI l[i].k,bI l[i].v]:=by rw [List.getElem?_map,List.getElem?_eq_getElem hlt]; rfl
    generalize l[i]=q at e1
    have g:decide ((i:Int) < (l.length:Int))=true:=decide_eq_true (by omega)
    (refine gy (an (an jJ g) e1) ?_; try intro ops hops)
    (first | refine ai [] [] (yc q key) (by simp [aJ,cvA,aM,cvR,ah,cv1,cvL,cv0,bI,af,aI,prD,psI,intD,boolD,ae,upd]) rfl ?_ | refine ag [] [] [] (yc q key) (fun G _=>by simp [aJ,cvA,aM,cvR,ah,cv1,cvL,cv0,bI,af,aI,prD,psI,intD,boolD,ae,upd]) rfl ?_)
    refine gx (an jJ @intD.eq_1) ?_
    refine bQ [] rfl ?_
    simp [cv,cvT,cv1,cv0,upd,intD,boolD]
   ·rw [dif_neg hlt]
    have g:decide ((i:Int) < (l.length:Int))=false:=decide_eq_false (by omega)
    refine gx (an jJ g) ?_
    refine bQ [] rfl ?_
    simp [cv,cvT,cv1,cv0,upd,intD,boolD]
theorem eF:(type_of% @Ty.T3)/\(type_of% @Ty.T5)/\(type_of% @Ty.T34)/\(type_of% @Ty.T38)/\(type_of% @Ty.aaA)/\(type_of% @Ty.Yh)/\(type_of% @Ty.aas):=⟨@Ty.T3,@Ty.T5,@Ty.T34,@Ty.T38,@Ty.aaA,@Ty.Yh,@Ty.aas⟩
theorem qJ:(type_of% @Ty.T3)/\(type_of% @Ty.T5)/\(type_of% @Ty.T38)/\(type_of% @Ty.aas):=⟨@Ty.T3,@Ty.T5,@Ty.T38,@Ty.aas⟩
def cB (e i:Nat):D:=.agg [intD e,intD i]
def Nk (p:bf):Bool:=decide (60 < p.k.length) || decide (200 < p.v.length)
def gW (l:List bf) (i:Nat):Nat × Nat :=
 if h:i < l.length then
  if Nk l[i] then (4,i)
  else if 0 < i/\0<=Lib.compareBytes (l[i - 1]'(by omega)).k l[i].k then (2,i)
  else gW l (i+1)
 else (0,0)
termination_by l.length - i
def dD (l:List bf):Nat × Nat:=if 200 < l.length then (5,0) else gW l 0
theorem Wl (p:bf):PureD Tryz.prog 144 [prD p] (intD (if Nk p then 4 else 0)):=by
 unfold Nk
 refine aa 13 Tryz.func144 rfl rfl rfl (fun _ _=>rfl) ?_
 cases g1:decide ((60:Int) < (p.k.length:Int))
 ·have h1:decide (60 < p.k.length)=false:=by simp at g1 ⊢; omega
  refine gx (an (an (an qJ @prD.eq_1) @bI.eq_1) g1) ?_
  refine Wc_split (fun h=>?_) (fun h=>?_)
  ·have h2:decide (200 < p.v.length)=true:=by simp at h ⊢; omega
   refine gx qJ ?_
   refine aB [] rfl ?_
   simp [cv,cv1,cv0,upd,intD,h1,h2]
  ·have h2:decide (200 < p.v.length)=false:=by simp at h ⊢; omega
   refine gx qJ ?_
   refine aB [] rfl ?_
   simp [cv,cv1,cv0,upd,intD,h1,h2]
 ·have h1:decide (60 < p.k.length)=true:=by simp at g1 ⊢; omega
  refine gx (an (an (an qJ @prD.eq_1) @bI.eq_1) g1) ?_
  refine aB [] rfl ?_
  simp [cv,cv1,cv0,upd,intD,h1]
theorem AV (l:List bf) (hl:l.length<=1048576):PureD Tryz.prog 86 [.i (psI l)] (cB (dD l).1 (dD l).2):=by
 refine aa 42 Tryz.func86 rfl rfl rfl (fun _ _=>rfl) ?_
 refine gx (an eF @psI.eq_1) ?_
 refine Wc_split (fun h=>?_) (fun h=>?_)
 ·have h1:200 < l.length:=by simp at h; omega
  clear h
  refine gx eF ?_
  refine CK [] rfl p_ oF (by simp [upd,aC,ak]; rfl) ?_
  simp [cv,cv1,cvL,cv0,upd,dD,h1,cB,intD]
 ·have h1:¬ 200 < l.length:=by simp at h; omega
  clear h
  have hw:dD l=gW l 0:=by rw [dD,if_neg h1]
  generalize dD l=R at hw
  refine gx eF ?_
  refine cz (ι:=Nat) (fun i=>i<=l.length/\R=gW l i)
   (fun i=>dW [(0,.i (.sl (l.map aI))),(2,.pt 100 0 0 0),(10,.i (.sl (l.map aI))),(11,intD l.length),(12,intD i)] [(100,.box [intD 0,intD 0])]) (fun i=>l.length - i) 0 ⟨Nat.zero_le _,hw⟩ ?_ ?_
  ·refine le_stOf _ _ [] [(100,1000)] ?_ ?_ rfl rfl
   ·simp [cv,cvL,cv1,cv0,upd,lk,aZ,intD]
   ·simp [cO,aZ,lk,cvO,cvL,cv0,frz,upd,D.one,intD,hO]
  ·rintro i ⟨hi,hR⟩
   rw [au]
   refine gx (an eF @intD.eq_1) ?_
   refine Wc_split (fun h=>?_) (fun h=>?_)
   ·have h2:i < l.length:=by simp at h; omega
    clear h
    rw [gW,dif_pos h2] at hR
    have e1:(l.map aI)[i]?=some [bI l[i].k,bI l[i].v]:=by rw [List.getElem?_map,List.getElem?_eq_getElem h2]; rfl
    have w1:IntKind.i64.wrap ((i:Int)+1)=((i+1:Nat):Int):=by rw [ay (by omega) (by omega)]; omega
    have hpr:=Wl l[i]
    cases i with
    | zero =>
     have w0:IntKind.i64.wrap 1=1:=by decide
     generalize l[0]=p at *
     (refine gy (an eF e1) ?_; try intro ops hops)
     (first | refine ai [] [] (hpr) (by simp [aJ,cvA,aM,cvR,ah,cv1,cvL,cv0,bI,af,aI,prD,psI,intD,cB,ae,upd]) rfl ?_ | refine ag [] [] [] (hpr) (fun G _=>by simp [aJ,cvA,aM,cvR,ah,cv1,cvL,cv0,bI,af,aI,prD,psI,intD,cB,ae,upd]) rfl ?_)
     cases hb:Nk p
     ·simp only [hb,Bool.false_eq_true,if_false,Nat.lt_irrefl,false_and] at hR
      refine gx (an (an eF @intD.eq_1) w1) ?_
      refine ⟨0+1,⟨h2,hR⟩,le_stOf _ _ [] [(100,100)] ?_ ?_ rfl rfl,by simp; omega⟩
      ·simp [cv,cvL,cv1,cv0,upd,lk,aZ,intD,w0]
      ·simp [cO,aZ,lk,cvO,cvL,cv0,frz,upd,D.one,intD,hO]
     ·simp only [hb,if_true] at hR
      refine gx (an eF @intD.eq_1) ?_
      refine CK [] rfl p_ oF (by simp [upd,aC,ak]; rfl) ?_
      simp [cv,cv1,cvL,cv0,upd,hR,cB,intD]
    | succ i =>
     have h3:i < l.length:=by omega
     have e2:(l.map aI)[i]?=some [bI l[i].k,bI l[i].v]:=by rw [List.getElem?_map,List.getElem?_eq_getElem h3]; rfl
     have w2:IntKind.i64.wrap (((i+1:Nat):Int) - 1)=(i:Int):=by rw [ay (by omega) (by omega)]; omega
     have g1:decide ((0:Int) < ((i+1:Nat):Int))=true:=decide_eq_true (by omega)
     have hR':R=if Nk l[i+1] then (4,i+1) else if 0<=Lib.compareBytes l[i].k l[i+1].k then (2,i+1) else gW l (i+1+1):=by
      rw [hR]; simp
     clear hR
     generalize l[i+1]=p at *
     generalize l[i]=q at *
     (refine gy (an eF e1) ?_; try intro ops hops)
     (first | refine ai [] [] (hpr) (by simp [aJ,cvA,aM,cvR,ah,cv1,cvL,cv0,bI,af,aI,prD,psI,intD,cB,ae,upd]) rfl ?_ | refine ag [] [] [] (hpr) (fun G _=>by simp [aJ,cvA,aM,cvR,ah,cv1,cvL,cv0,bI,af,aI,prD,psI,intD,cB,ae,upd]) rfl ?_)
     cases hb:Nk p
     ·simp only [hb,Bool.false_eq_true,if_false] at hR'
      (refine gy (an (an (an (an (an eF @intD.eq_1) g1) w2) e2) @bI.eq_1) ?_; try intro ops hops)
      (first | refine ai [] [] (Gv q.k p.k) (by simp [aJ,cvA,aM,cvR,ah,cv1,cvL,cv0,bI,af,aI,prD,psI,intD,cB,ae,upd]) rfl ?_ | refine ag [] [] [] (Gv q.k p.k) (fun G _=>by simp [aJ,cvA,aM,cvR,ah,cv1,cvL,cv0,bI,af,aI,prD,psI,intD,cB,ae,upd]) rfl ?_)
      refine gx eF ?_
      refine Wc_split (fun h=>?_) (fun h=>?_)
      ·have h4:0<=Lib.compareBytes q.k p.k:=by simpa using h
       rw [if_pos h4] at hR'
       refine gx eF ?_
       refine CK [] rfl p_ oF (by simp [upd,aC,ak]; rfl) ?_
       simp [cv,cv1,cvL,cv0,upd,hR',cB,intD]
      ·have h4:¬ 0<=Lib.compareBytes q.k p.k:=by simpa using h
       rw [if_neg h4] at hR'
       refine gx (an eF w1) ?_
       refine ⟨i+1+1,⟨h2,hR'⟩,le_stOf _ _ [] [(100,100)] ?_ ?_ rfl rfl,by simp; omega⟩
       ·simp [cv,cvL,cv1,cv0,upd,lk,aZ,intD]
       ·simp [cO,aZ,lk,cvO,cvL,cv0,frz,upd,D.one,intD,hO]
     ·simp only [hb,if_true] at hR'
      refine gx (an eF @intD.eq_1) ?_
      refine CK [] rfl p_ oF (by simp [upd,aC,ak]; rfl) ?_
      simp [cv,cv1,cvL,cv0,upd,hR',cB,intD]
   ·have h2:¬ i < l.length:=by simp at h; omega
    clear h
    rw [gW,dif_neg h2] at hR
    refine gx eF ?_
    refine CK [] rfl p_ oF (by simp [upd,aC,ak]; rfl) ?_
    simp [cv,cv1,cvL,cv0,upd,hR,cB,intD]
theorem vZ:(type_of% @Ty.T1)/\(type_of% @Ty.T3)/\(type_of% @Ty.T4)/\(type_of% @Ty.T5)/\(type_of% @Ty.T38)/\(type_of% @Ty.T49):=⟨@Ty.T1,@Ty.T3,@Ty.T4,@Ty.T5,@Ty.T38,@Ty.T49⟩
theorem Ec:(type_of% @Ty.T1)/\(type_of% @Ty.T3)/\(type_of% @Ty.T5)/\(type_of% @Ty.T38)/\(type_of% @Ty.T49):=⟨@Ty.T1,@Ty.T3,@Ty.T5,@Ty.T38,@Ty.T49⟩
theorem vY:(type_of% @Ty.T1)/\(type_of% @Ty.T3)/\(type_of% @Ty.T5)/\(type_of% @Ty.T38)/\(type_of% @Ty.T49):=⟨@Ty.T1,@Ty.T3,@Ty.T5,@Ty.T38,@Ty.T49⟩
theorem jK:(type_of% @Ty.T3)/\(type_of% @Ty.T5)/\(type_of% @Ty.T38)/\(type_of% @Ty.aaA)/\(type_of% @Ty.aas):=⟨@Ty.T3,@Ty.T5,@Ty.T38,@Ty.aaA,@Ty.aas⟩
theorem NC:(type_of% @Ty.T3)/\(type_of% @Ty.T4)/\(type_of% @Ty.T5)/\(type_of% @Ty.T38):=⟨@Ty.T3,@Ty.T4,@Ty.T5,@Ty.T38⟩
theorem qH:(type_of% @Ty.T3):=@Ty.T3
def four (n:Nat):List UInt8:=[aL n 16777216,aL n 65536,aL n 256,aL n 1]
def xG (k v:List UInt8):List UInt8:=sha (0 :: (four k.length++(k++v)))
def oN (a b:List UInt8):List UInt8:=sha (1 :: (a++b))
def FW (n:Nat) (t:List UInt8):List UInt8:=sha (2 :: (four n++t))
def aX (n:Nat):Nat:=2 ^ Nat.log2 (n - 1)
theorem jw {n:Nat} (h:2<=n):0 < aX n/\aX n < n:=by
 have:=Nat.log2_self_le (n:=n - 1) (by omega)
 have h2:0 < 2 ^ Nat.log2 (n - 1):=Nat.pow_pos (by decide)
 simp only [aX]; omega
def gp (l:List bf):List UInt8 :=
 match l with
 | []=>[]
 | [p]=>xG p.k p.v
 | p :: q :: r=>oN (gp ((p :: q :: r).take (aX (p :: q :: r).length))) (gp ((p :: q :: r).drop (aX (p :: q :: r).length)))
termination_by l.length
decreasing_by
 all_goals
  have:=jw (n:=(p :: q :: r).length) (by simp)
  simp only [List.length_take,List.length_drop]
  omega
theorem zi (p:bf):gp [p]=xG p.k p.v:=by rw [gp]
theorem zh {l:List bf} (h:2<=l.length):gp l=oN (gp (l.take (aX l.length))) (gp (l.drop (aX l.length))):=by
 match l,h with
 | p :: q :: r,_=>conv=>lhs; rw [gp]
theorem rJ (l:List bf) (h:l≠[]):(gp l).length=32:=by
 match l,h with
 | [p],_=>rw [zi]; exact dn _
 | p :: q :: r,_=>rw [zh (by simp)]; exact dn _
def zA (l:List bf):List UInt8:=FW l.length (gp l)
theorem LA (n d k:Nat) (hd:d=2 ^ k) (hk:k < 64):IntKind.u8.wrap ((n:Int).fdiv (2 ^ min k (IntKind.bits .i64)))=((aL n d).toNat:Int):=by
 have hm:min k (IntKind.bits .i64)=k:=by simp [IntKind.bits]; omega
 rw [hm,Int.fdiv_eq_ediv_of_nonneg _ (by exact_mod_cast Nat.zero_le _),IntKind.wrap_u8]
 have:(n:Int) / 2 ^ k=((n / 2 ^ k:Nat):Int):=by rw [Int.natCast_ediv,Int.natCast_pow]; rfl
 rw [this,aL,hd]
 generalize n / 2 ^ k=x
 rw [UInt8.toNat_ofNat']; omega
theorem YX (n:Nat):IntKind.u8.wrap (n:Int)=((aL n 1).toNat:Int):=by
 rw [IntKind.wrap_u8,aL,Nat.div_one,UInt8.toNat_ofNat']; omega
theorem EN (n:Nat):PureD Tryz.prog 162 [intD n] (.i (bI (four n))):=by
 have b1:=LA n 16777216 24 (by decide) (by decide)
 have b2:=LA n 65536 16 (by decide) (by decide)
 have b3:=LA n 256 8 (by decide) (by decide)
 have b4:=YX n
 simp only [four]
 generalize aL n 16777216=c1 at *
 generalize aL n 65536=c2 at *
 generalize aL n 256=c3 at *
 generalize aL n 1=c4 at *
 refine aa 15 Tryz.func162 rfl rfl rfl (fun _ _=>rfl) ?_
 refine gx (an (an (an (an (an NC @intD.eq_1) @b1) @b2) @b3) @b4) ?_
 refine aB [1267] rfl ?_
 simp [cv,cv1,cv0,upd,ae,bI,af]
theorem QM (k v:List UInt8) (hk:k.length<=1048576) (hv:v.length<=1048576):PureD Tryz.prog 163 [.i (bI k),.i (bI v)] (.i (bI (xG k v))):=by
 have hp:=su [[0],four k.length,k,v] (by simp) (by intro b hb; simp at hb; rcases hb with rfl | rfl | rfl | rfl; simp; (simp [four]); omega; omega)
 have hf:[[0],four k.length,k,v].flatten=0 :: (four k.length++(k++v)):=by simp
 rw [hf] at hp
 rw [show sha (0 :: (four k.length++(k++v)))=xG k v from rfl] at hp
 generalize xG k v=R at *
 refine aa 13 Tryz.func163 rfl rfl rfl (fun _ _=>rfl) ?_
 (refine gy (an vZ @bI.eq_1) ?_; try intro ops hops)
 (first | refine aR [] (EN k.length) (by simp [aJ,cvA,aM,cvR,ah,cv1,cvL,cv0,bI,af,bbI,aI,psI,intD,ae,upd]) ?_ | refine aH [] [] (EN k.length) (fun G _=>by simp [aJ,cvA,aM,cvR,ah,cv1,cvL,cv0,bI,af,bbI,aI,psI,intD,ae,upd]) (by simp) ?_)
 (refine gy (an vZ @bI.eq_1) ?_; try intro ops hops)
 (first | refine aR [1262] (hp) (by simp [aJ,cvA,aM,cvR,ah,cv1,cvL,cv0,bI,af,bbI,aI,psI,intD,ae,upd,frz,bbI]) ?_ | refine aH [1262] [1262] (hp) (fun G hG=>by (have hG1262:=hG 1262 (by simp); simp [aJ,cvA,aM,cvR,ah,cv1,cvL,cv0,bI,af,bbI,aI,psI,intD,ae,upd,frz,bbI,hG1262])) (by simp) ?_)
 refine gx (an vZ @bI.eq_1) ?_
 refine aB [] rfl ?_
 simp [cv,cv1,cv0,upd]
theorem Jt (a b:List UInt8) (ha:a.length<=1048576) (hb:b.length<=1048576):PureD Tryz.prog 165 [.i (bI a),.i (bI b)] (.i (bI (oN a b))):=by
 have hp:=su [[1],a,b] (by simp) (by intro x hx; simp at hx; rcases hx with rfl | rfl | rfl; simp; omega; omega)
 have hf:[[1],a,b].flatten=1 :: (a++b):=by simp
 rw [hf] at hp
 rw [show sha (1 :: (a++b))=oN a b from rfl] at hp
 generalize oN a b=R at *
 refine aa 10 Tryz.func165 rfl rfl rfl (fun _ _=>rfl) ?_
 (refine gy (an Ec @bI.eq_1) ?_; try intro ops hops)
 (first | refine aR [1259] (hp) (by simp [aJ,cvA,aM,cvR,ah,cv1,cvL,cv0,bI,af,bbI,aI,psI,intD,ae,upd,frz,bbI]) ?_ | refine aH [1259] [1259] (hp) (fun G hG=>by (have hG1259:=hG 1259 (by simp); simp [aJ,cvA,aM,cvR,ah,cv1,cvL,cv0,bI,af,bbI,aI,psI,intD,ae,upd,frz,bbI,hG1259])) (by simp) ?_)
 refine gx (an Ec @bI.eq_1) ?_
 refine aB [] rfl ?_
 simp [cv,cv1,cv0,upd]
theorem ND (n:Nat) (t:List UInt8) (ht:t.length<=1048576):PureD Tryz.prog 109 [intD n,.i (bI t)] (.i (bI (FW n t))):=by
 have hp:=su [[2],four n,t] (by simp) (by intro x hx; simp at hx; rcases hx with rfl | rfl | rfl; simp; (simp [four]); omega)
 have hf:[[2],four n,t].flatten=2 :: (four n++t):=by simp
 rw [hf] at hp
 rw [show sha (2 :: (four n++t))=FW n t from rfl] at hp
 generalize FW n t=R at *
 refine aa 11 Tryz.func109 rfl rfl rfl (fun _ _=>rfl) ?_
 (refine gy (an (an vY @bI.eq_1) @intD.eq_1) ?_; try intro ops hops)
 (first | refine aR [] (EN n) (by simp [aJ,cvA,aM,cvR,ah,cv1,cvL,cv0,bI,af,bbI,aI,psI,intD,ae,upd]) ?_ | refine aH [] [] (EN n) (fun G _=>by simp [aJ,cvA,aM,cvR,ah,cv1,cvL,cv0,bI,af,bbI,aI,psI,intD,ae,upd]) (by simp) ?_)
 (refine gy (an vY @bI.eq_1) ?_; try intro ops hops)
 (first | refine aR [1260] (hp) (by simp [aJ,cvA,aM,cvR,ah,cv1,cvL,cv0,bI,af,bbI,aI,psI,intD,ae,upd,frz,bbI]) ?_ | refine aH [1260] [1260] (hp) (fun G hG=>by (have hG1260:=hG 1260 (by simp); simp [aJ,cvA,aM,cvR,ah,cv1,cvL,cv0,bI,af,bbI,aI,psI,intD,ae,upd,frz,bbI,hG1260])) (by simp) ?_)
 refine gx (an vY @bI.eq_1) ?_
 refine aB [] rfl ?_
 simp [cv,cv1,cv0,upd]
theorem Gi {n i:Nat} (h1:2 ^ i=1\/2 ^ i < n) (h2:n<=2 * 2 ^ i) (hn:1<=n):2 ^ i=aX n:=by
 unfold aX
 congr 1
 have hle:i<=Nat.log2 (n - 1)\/n - 1=0:=by
  by_cases h0:n - 1=0
  ·exact .inr h0
  ·refine .inl ((Nat.le_log2 h0).2 ?_)
   rcases h1 with h1 | h1 <;> omega
 have hge:n - 1=0\/Nat.log2 (n - 1) < i+1:=by
  by_cases h0:n - 1=0
  ·exact .inl h0
  ·refine .inr ((Nat.log2_lt h0).2 ?_)
   rw [Nat.pow_succ]; omega
 rcases hle with hle | hle
 ·rcases hge with hge | hge
  ·rw [hge] at hle ⊢; simp at hle ⊢; omega
  ·omega
 ·rw [hle]
  have:n=1:=by omega
  subst this
  simp
  rcases h1 with h1 | h1
  ·cases i with
   | zero=>rfl
   | succ i=>rw [Nat.pow_succ] at h1; omega
  ·have:0 < 2 ^ i:=Nat.pow_pos (by decide); omega
theorem Bi (n:Nat) (h0:1<=n) (hn:n<=1048576):PureD Tryz.prog 164 [intD n] (intD (aX n)):=by
 refine aa 11 Tryz.func164 rfl rfl rfl (fun _ _=>rfl) ?_
 refine gx (an qH @intD.eq_1) ?_
 refine cz (ι:=Nat) (fun i=>2 ^ i=1\/2 ^ i < n)
  (fun i=>dW [(0,intD n),(3,intD (2 ^ i:Nat))] []) (fun i=>n - 2 ^ i) 0 (.inl rfl) ?_ ?_
 ·refine le_stOf _ _ [] [] ?_ ?_ rfl rfl
  ·simp [cv,cv1,cv0,upd,lk,aZ,intD]
  ·simp
 ·rintro i hi
  rw [au]
  have hp:0 < 2 ^ i:=Nat.pow_pos (by decide)
  have hs:2 ^ (i+1)=2 * 2 ^ i:=by rw [Nat.pow_succ]; omega
  have hfin:=Gi hi
  have w1:IntKind.i64.wrap (2 * ((2 ^ i:Nat):Int))=((2 ^ (i+1):Nat):Int):=by rw [hs,ay (by omega) (by omega)]; omega
  have w2:IntKind.i64.wrap (((2 ^ i:Nat):Int) * 2)=((2 ^ (i+1):Nat):Int):=by rw [hs,ay (by omega) (by omega)]; omega
  generalize hx:2 ^ i=x at *
  generalize hy:2 ^ (i+1)=y at *
  refine gx (an (an qH @intD.eq_1) w1) ?_
  refine Wc_split (fun h=>?_) (fun h=>?_)
  ·have h1:y < n:=by simp at h; omega
   clear h
   refine gx (an qH w2) ?_
   refine ⟨i+1,by show 2 ^ (i+1)=1\/2 ^ (i+1) < n; rw [hy]; exact .inr h1,le_stOf _ _ [] [] ?_ ?_ rfl rfl,by simp only [hx,hy]; omega⟩
   ·simp only [hy]; simp [cv,cv1,cv0,upd,lk,aZ,intD]
   ·simp
  ·have h1:n<=2 * x:=by simp at h; omega
   clear h
   refine gx qH ?_
   refine aB [] rfl ?_
   simp [cv,cv1,cv0,upd,intD,hfin h1 h0]
theorem H_:∀ (n:Nat) (l:List bf),l.length=n->l≠[]->l.length<=1048576->(∀ p∈l,p.k.length<=1048576/\p.v.length<=1048576)->PureD Tryz.prog 110 [.i (psI l)] (.i (bI (gp l))):=by
 intro n
 induction n using Nat.strongRecOn with
 | _ n ih =>
  intro l hn hne hl hb
  by_cases h1:l.length=1
  ·obtain ⟨p,rfl⟩:=List.length_eq_one_iff.1 h1
   have hp:=hb p (by simp)
   have hlf:=QM p.k p.v hp.1 hp.2
   rw [zi]
   generalize xG p.k p.v=R at *
   refine aa 28 Tryz.func110 rfl rfl rfl (fun _ _=>rfl) ?_
   (refine gy (an (an (an (an (an jK @psI.eq_1) @List.map_cons.{0,0}) @List.map_nil.{0,0}) @aI.eq_1) @bI.eq_1) ?_; try intro ops hops)
   (first | refine aR [] (hlf) (by simp [aJ,cvA,aM,cvR,ah,cv1,cvL,cv0,bI,af,bbI,aI,psI,intD,ae,upd]) ?_ | refine aH [] [] (hlf) (fun G _=>by simp [aJ,cvA,aM,cvR,ah,cv1,cvL,cv0,bI,af,bbI,aI,psI,intD,ae,upd]) (by simp) ?_)
   refine gx (an jK @bI.eq_1) ?_
   refine aB [] rfl ?_
   simp [cv,cv1,cv0,upd]
  ·have h2:2<=l.length:=by have:=List.length_pos_iff.2 hne; omega
   have hs:=jw h2
   rw [zh h2]
   have hsp:=Bi l.length (by omega) hl
   generalize aX l.length=k at *
   have t1:=ih (l.take k).length (by simp; omega) (l.take k) rfl (by intro hc; have:=congrArg List.length hc; simp only [List.length_take,List.length_drop,List.length_nil] at this; omega) (by simp; omega) (fun p hp=>hb p (List.mem_of_mem_take hp))
   have t2:=ih (l.drop k).length (by simp; omega) (l.drop k) rfl (by intro hc; have:=congrArg List.length hc; simp only [List.length_take,List.length_drop,List.length_nil] at this; omega) (by simp; omega) (fun p hp=>hb p (List.mem_of_mem_drop hp))
   have l1:(gp (l.take k)).length=32:=rJ _ (by intro hc; have:=congrArg List.length hc; simp only [List.length_take,List.length_drop,List.length_nil] at this; omega)
   have l2:(gp (l.drop k)).length=32:=rJ _ (by intro hc; have:=congrArg List.length hc; simp only [List.length_take,List.length_drop,List.length_nil] at this; omega)
   have hnd:=Jt (gp (l.take k)) (gp (l.drop k)) (by omega) (by omega)
   generalize gp (l.take k)=T1 at *
   generalize gp (l.drop k)=T2 at *
   generalize oN T1 T2=R at *
   have g1:decide ((l.length:Int)=1)=false:=by simp; omega
   have g2:((k:Int)<=(l.length:Int))=True:=eq_true (by omega)
   have u1:uni 2 (l.map aI)=true:=by simp [uni,aI]
   refine aa 28 Tryz.func110 rfl rfl rfl (fun _ _=>rfl) ?_
   (refine gy (an (an jK @psI.eq_1) g1) ?_; try intro ops hops)
   (first | refine ai [] [] (hsp) (by simp [aJ,cvA,aM,cvR,ah,cv1,cvL,cv0,bI,af,bbI,aI,psI,intD,ae,upd]) rfl ?_ | refine ag [] [] [] (hsp) (fun G _=>by simp [aJ,cvA,aM,cvR,ah,cv1,cvL,cv0,bI,af,bbI,aI,psI,intD,ae,upd]) rfl ?_)
   (refine gy (an (an (an (an (an (an jK @intD.eq_1) @psI.eq_1) g2) u1) @mtk) @mdr) ?_; try intro ops hops)
   (first | refine aR [] (t1) (by simp [aJ,cvA,aM,cvR,ah,cv1,cvL,cv0,bI,af,bbI,aI,psI,intD,ae,upd]) ?_ | refine aH [] [] (t1) (fun G _=>by simp [aJ,cvA,aM,cvR,ah,cv1,cvL,cv0,bI,af,bbI,aI,psI,intD,ae,upd]) (by simp) ?_)
   (refine gy (an (an (an (an (an (an jK @bI.eq_1) @psI.eq_1) g2) u1) @mtk) @mdr) ?_; try intro ops hops)
   (first | refine aR [] (t2) (by simp [aJ,cvA,aM,cvR,ah,cv1,cvL,cv0,bI,af,bbI,aI,psI,intD,ae,upd]) ?_ | refine aH [] [] (t2) (fun G _=>by simp [aJ,cvA,aM,cvR,ah,cv1,cvL,cv0,bI,af,bbI,aI,psI,intD,ae,upd]) (by simp) ?_)
   (refine gy (an jK @bI.eq_1) ?_; try intro ops hops)
   (first | refine aR [] (hnd) (by simp [aJ,cvA,aM,cvR,ah,cv1,cvL,cv0,bI,af,bbI,aI,psI,intD,ae,upd]) ?_ | refine aH [] [] (hnd) (fun G _=>by simp [aJ,cvA,aM,cvR,ah,cv1,cvL,cv0,bI,af,bbI,aI,psI,intD,ae,upd]) (by simp) ?_)
   refine gx (an jK @bI.eq_1) ?_
   refine aB [] rfl ?_
   simp [cv,cv1,cv0,upd]
structure ME (l:List bf):Prop where
 len:l.length<=200
 big:∀ p∈l,p.k.length<=60/\p.v.length<=200
 ord:∀ i j (hi:i < l.length) (hj:j < l.length),i < j->Lib.compareBytes l[i].k l[j].k < 0
theorem Uq {p:bf} (h:Nk p=false):p.k.length<=60/\p.v.length<=200:=by
 simp [Nk] at h; omega
theorem FM (l:List bf):∀ (d i:Nat),l.length - i=d->(gW l i).1=0->∀ a (ha:a < l.length),i<=a->Nk l[a]=false/\(∀ h:0 < a,Lib.compareBytes (l[a - 1]'(by omega)).k l[a].k < 0):=by
 intro d
 induction d with
 | zero=>intro i hd _ a ha hia; omega
 | succ d ih =>
  intro i hd hw a ha hia
  rw [gW,dif_pos (by omega)] at hw
  split at hw
  ·cases hw
  ·rename_i hb
   split at hw
   ·cases hw
   ·rename_i hc
    by_cases hai:a=i
    ·subst hai
     refine ⟨by simpa using hb,fun h=>?_⟩
     have:¬ 0<=Lib.compareBytes (l[a - 1]'(by omega)).k l[a].k:=fun h'=>hc ⟨h,h'⟩
     omega
    ·exact ih (i+1) (by omega) hw a ha (by omega)
theorem qP {l:List bf} (h:(dD l).1=0):ME l:=by
 unfold dD at h
 split at h
 ·cases h
 ·rename_i hl
  have hw:=FM l _ 0 rfl h
  refine ⟨by omega,fun p hp=>?_,?_⟩
  ·obtain ⟨a,ha,rfl⟩:=List.getElem_of_mem hp
   exact Uq (hw a ha (Nat.zero_le _)).1
  ·intro i j
   induction j with
   | zero=>intro _ _ h; omega
   | succ j ih =>
    intro hi hj hij
    have h1:=(hw (j+1) hj (Nat.zero_le _)).2 (by omega)
    simp only [Nat.add_sub_cancel] at h1
    by_cases hc:i=j
    ·subst hc; exact h1
    ·exact iT _ _ _ (ih hi (by omega) (by omega)) h1
theorem vJ {l:List bf} (h:ME l):∀ (d i:Nat),l.length - i=d->gW l i=(0,0):=by
 intro d
 induction d with
 | zero=>intro i hd; rw [gW,dif_neg (by omega)]
 | succ d ih =>
  intro i hd
  have hi:i < l.length:=by omega
  rw [gW,dif_pos hi]
  have hb:=h.big _ (List.getElem_mem hi)
  rw [if_neg (by simp [Nk]; omega),if_neg,ih (i+1) (by omega)]
  rintro ⟨h1,h2⟩
  have:=h.ord (i - 1) i (by omega) hi (by omega)
  omega
theorem rF {l:List bf} (h:ME l):dD l=(0,0):=by
 rw [dD,if_neg (by have:=h.len; omega)]; exact vJ h _ 0 rfl
theorem oz {l:List bf} (h:(dD l).1=0):dD l=(0,0):=rF (qP h)
def bM (l:List bf) (key:List UInt8):Nat:=(l.takeWhile fun p=>decide (Lib.compareBytes p.k key < 0)).length
def uR (l:List bf) (key:List UInt8):Bool:=if h:bM l key < l.length then decide (l[bM l key].k=key) else false
theorem zH (l:List bf) (key:List UInt8):bM l key<=l.length:=(List.takeWhile_sublist _).length_le
theorem zG (key:List UInt8):∀ (l:List bf) (a:Nat) (ha:a < l.length),a < bM l key->Lib.compareBytes l[a].k key < 0
 | [],a,ha,_=>by simp at ha
 | p :: t,a,ha,h=>by
  unfold bM at h
  rw [List.takeWhile_cons] at h
  split at h
  ·rename_i hp
   cases a with
   | zero=>simpa using hp
   | succ a=>exact zG key t a (by simpa using ha) (by simpa [bM] using h)
  ·simp at h
theorem zI (key:List UInt8):∀ (l:List bf) (h:bM l key < l.length),¬ Lib.compareBytes l[bM l key].k key < 0
 | [],h=>by simp at h
 | p :: t,h=>by
  unfold bM at h
  simp only [bM]
  by_cases hp:decide (Lib.compareBytes p.k key < 0)=true
  ·have e:(List.takeWhile (fun p=>decide (Lib.compareBytes p.k key < 0)) (p :: t)).length=bM t key+1:=by
    rw [List.takeWhile_cons,if_pos hp]; rfl
   simp only [e] at h ⊢
   have:=zI key t (by simpa using h)
   simpa using this
  ·have e:(List.takeWhile (fun p=>decide (Lib.compareBytes p.k key < 0)) (p :: t)).length=0:=by
    rw [List.takeWhile_cons,if_neg hp]; rfl
   simp only [e]
   simpa using hp
theorem Gl {l:List bf} (h:ME l) (key:List UInt8):∀ a (ha:a < l.length),Lib.compareBytes l[a].k key < 0↔a < bM l key:=by
 intro a ha
 refine ⟨fun h1=>?_,zG key l a ha⟩
 apply Decidable.byContradiction
 intro hc
 have hp:bM l key < l.length:=by omega
 have h2:=zI key l hp
 by_cases he:a=bM l key
 ·subst he; exact h2 h1
 ·exact h2 (iT _ _ _ (h.ord _ a hp ha (by omega)) h1)
theorem Eb:(type_of% @Ty.T5)/\(type_of% @Ty.T38)/\(type_of% @Ty.aaA)/\(type_of% @Ty.aas)/\(type_of% @Ty.aap):=⟨@Ty.T5,@Ty.T38,@Ty.aaA,@Ty.aas,@Ty.aap⟩
theorem ig:(type_of% @Ty.T3)/\(type_of% @Ty.T5)/\(type_of% @Ty.T34)/\(type_of% @Ty.T38)/\(type_of% @Ty.aaA)/\(type_of% @Ty.Yh)/\(type_of% @Ty.aas):=⟨@Ty.T3,@Ty.T5,@Ty.T34,@Ty.T38,@Ty.aaA,@Ty.Yh,@Ty.aas⟩
theorem QR (l:List bf) (key:List UInt8) (h:ME l):PureD Tryz.prog 87 [.i (psI l),.i (bI key)] (.tup [intD (bM l key),boolD (uR l key)]):=by
 have hs:=NS l key (bM l key) (by have:=h.len; omega) (zH l key) (Gl h key)
 have e:(if h:bM l key < l.length then decide (Lib.compareBytes l[bM l key].k key=0) else false)=uR l key:=by
  unfold uR
  split
  ·simp [lT]
  ·rfl
 rw [e] at hs
 refine aa 11 Tryz.func87 rfl rfl rfl (fun _ _=>rfl) ?_
 (refine gy (an (an Eb @psI.eq_1) @bI.eq_1) ?_; try intro ops hops)
 (first | refine ai [] [] (hs) (by simp [aJ,cvA,aM,cvR,ah,cv1,cvL,cv0,bI,af,psI,intD,boolD,cB,ae,upd]) rfl ?_ | refine ag [] [] [] (hs) (fun G _=>by simp [aJ,cvA,aM,cvR,ah,cv1,cvL,cv0,bI,af,psI,intD,boolD,cB,ae,upd]) rfl ?_)
 refine gx (an (an Eb @intD.eq_1) @boolD.eq_1) ?_
 refine bQ [] rfl ?_
 simp [cv,cvT,cv1,cv0,upd,intD,boolD]
def Gd (l:List bf):List UInt8:=if (dD l).1=0 then zA l else []
theorem VK (l:List bf) (hl:l.length<=1048576):PureD Tryz.prog 50 [.i (psI l)] (.tup [.i (bI (Gd l)),cB (dD l).1 (dD l).2]):=by
 have hw:=AV l hl
 unfold Gd
 by_cases h0:(dD l).1=0
 ·have hr:=qP h0
  have hz:=oz h0
  rw [if_pos h0,hz]
  rw [hz] at hw
  simp only at *
  cases l with
  | nil =>
   have ht:=ND 0 [] (by simp)
   rw [show FW 0 []=zA [] by rw [zA,gp]; rfl] at ht
   generalize zA []=R at *
   refine aa 22 Tryz.func50 rfl rfl rfl (fun _ _=>rfl) ?_
   (refine gy (an ig @psI.eq_1) ?_; try intro ops hops)
   (first | refine ai [] [] (hw) (by simp [aJ,cvA,aM,cvR,ah,cv1,cvL,cv0,bI,af,psI,intD,boolD,cB,ae,upd]) rfl ?_ | refine ag [] [] [] (hw) (fun G _=>by simp [aJ,cvA,aM,cvR,ah,cv1,cvL,cv0,bI,af,psI,intD,boolD,cB,ae,upd]) rfl ?_)
   (refine gy (an (an (an ig @cB.eq_1) @intD.eq_1) @List.map_nil.{0,0}) ?_; try intro ops hops)
   (first | refine aR [] (ht) (by simp [aJ,cvA,aM,cvR,ah,cv1,cvL,cv0,bI,af,psI,intD,boolD,cB,ae,upd]) ?_ | refine aH [] [] (ht) (fun G _=>by simp [aJ,cvA,aM,cvR,ah,cv1,cvL,cv0,bI,af,psI,intD,boolD,cB,ae,upd]) (by simp) ?_)
   refine gx (an ig @bI.eq_1) ?_
   refine Ad [] rfl p_ oF (by simp [upd,aC,ak]; rfl) ?_
   simp [cv,cvT,cv1,cvL,cv0,upd,cB,intD,bI]
  | cons p t =>
   have htl:=rJ (p :: t) (by simp)
   have htr:=H_ _ (p :: t) rfl (by simp) hl (fun q hq=>by have:=hr.big q hq; omega)
   have ht:=ND (p :: t).length (gp (p :: t)) (by omega)
   rw [show FW (p :: t).length (gp (p :: t))=zA (p :: t) from rfl] at ht
   generalize zA (p :: t)=R at *
   generalize gp (p :: t)=T at *
   have g1:decide (((p :: t).length:Int)=0)=false:=by simp; omega
   generalize p :: t=l at *
   refine aa 22 Tryz.func50 rfl rfl rfl (fun _ _=>rfl) ?_
   (refine gy (an ig @psI.eq_1) ?_; try intro ops hops)
   (first | refine ai [] [] (hw) (by simp [aJ,cvA,aM,cvR,ah,cv1,cvL,cv0,bI,af,psI,intD,boolD,cB,ae,upd]) rfl ?_ | refine ag [] [] [] (hw) (fun G _=>by simp [aJ,cvA,aM,cvR,ah,cv1,cvL,cv0,bI,af,psI,intD,boolD,cB,ae,upd]) rfl ?_)
   (refine gy (an (an (an (an ig @cB.eq_1) @intD.eq_1) @psI.eq_1) g1) ?_; try intro ops hops)
   (first | refine aR [] (htr) (by simp [aJ,cvA,aM,cvR,ah,cv1,cvL,cv0,bI,af,psI,intD,boolD,cB,ae,upd]) ?_ | refine aH [] [] (htr) (fun G _=>by simp [aJ,cvA,aM,cvR,ah,cv1,cvL,cv0,bI,af,psI,intD,boolD,cB,ae,upd]) (by simp) ?_)
   (refine gy (an ig @bI.eq_1) ?_; try intro ops hops)
   (first | refine aR [] (ht) (by simp [aJ,cvA,aM,cvR,ah,cv1,cvL,cv0,bI,af,psI,intD,boolD,cB,ae,upd]) ?_ | refine aH [] [] (ht) (fun G _=>by simp [aJ,cvA,aM,cvR,ah,cv1,cvL,cv0,bI,af,psI,intD,boolD,cB,ae,upd]) (by simp) ?_)
   refine gx (an ig @bI.eq_1) ?_
   refine Ad [] rfl p_ oF (by simp [upd,aC,ak]; rfl) ?_
   simp [cv,cvT,cv1,cvL,cv0,upd,cB,intD,bI]
 ·rw [if_neg h0]
  generalize dD l=W at *
  have g1:decide ((W.1:Int)=0)=false:=by simp; omega
  refine aa 22 Tryz.func50 rfl rfl rfl (fun _ _=>rfl) ?_
  (refine gy (an ig @psI.eq_1) ?_; try intro ops hops)
  (first | refine ai [] [] (hw) (by simp [aJ,cvA,aM,cvR,ah,cv1,cvL,cv0,bI,af,psI,intD,boolD,cB,ae,upd]) rfl ?_ | refine ag [] [] [] (hw) (fun G _=>by simp [aJ,cvA,aM,cvR,ah,cv1,cvL,cv0,bI,af,psI,intD,boolD,cB,ae,upd]) rfl ?_)
  refine gx (an (an (an ig @cB.eq_1) @intD.eq_1) g1) ?_
  refine Ad [] rfl p_ oF (by simp [upd,aC,ak]; rfl) ?_
  simp [cv,cvT,cv1,cvL,cv0,upd,cB,intD,bI]
end Go.Proofs.YtkbbipgjmoanhaaGreatDoor
