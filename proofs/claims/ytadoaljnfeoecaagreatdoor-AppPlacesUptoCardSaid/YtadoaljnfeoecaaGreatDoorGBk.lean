/- Merged texts: Strs, Purse, PurseF, BankP, RName, RFrom, BankW, RWrong, InsPu, DelPu, BankX, BankY, Right, DecPu, BkQ, WRead, BankT. -/
import Derived.Test.YtadoaljnfeoecaaGreatDoorGy
import Derived.Test.YtadoaljnfeoecaaGreatDoorG0
import Derived.Test.YtadoaljnfeoecaaGreatDoorAbs4
import Derived.Test.YtadoaljnfeoecaaGreatDoorTy
import Derived.Test.YtadoaljnfeoecaaGreatDoorGx
import Derived.Test.YtadoaljnfeoecaaGreatDoorGDiv
import Derived.Test.YtadoaljnfeoecaaGreatDoorGMk
import Derived.Test.YtadoaljnfeoecaaGreatDoorGWk
import Derived.Lib.ItoaLen
import Derived.Test.YtadoaljnfeoecaaGreatDoorGWire
set_option linter.all false
namespace Go.Proofs.YtadoaljnfeoecaaGreatDoor
open Go Go.Abs Go.RowKit Go.Proofs.YtadoaljnfeoecaaGreatDoor.Ty
theorem tyStrs0:(type_of% @Ty.T9):=@Ty.T9
theorem tyStrs1:(type_of% @Ty.T9):=@Ty.T9
theorem cmpstr_D (a b:ByteArray) (G:Nat→Ob):DirD Tryz.prog 185 [sD a,sD b] G (.i (.s (.int .i64 (cmpS a b)))) G:=by
 refine dir_flat (vs:=[.string a,.string b]) (v:=.int .i64 (cmpS a b)) rfl (fun w=>?_) (fun K=>.i (.s _ rfl))
 rw [run_callFunc_extern Tryz.func185 (by kernel_rfl) (by kernel_rfl) (by kernel_rfl) (e:=Extern.BytealgCompare.compare) (by kernel_rfl)]
 rw [show ([Value.string a,Value.string b].toArray)=#[.string a,.string b] from rfl,Lib.run_compareString]
 rfl
set_option maxHeartbeats 2000000
theorem cmpString_A (a b:ByteArray):PureD Tryz.prog 170 [sD a,sD b] (.i (.s (.int .i64 (cmpS a b)))):=by
 refine callD_W 8 Tryz.func170 rfl rfl rfl (fun _ _=>rfl) ?_
 refine gx (an tyStrs1 @sD.eq_1) ?_
 refine Call_dir (cmpstr_D a b) ?_
 refine gx tyStrs1 ?_
 refine fin_ret [] rfl ?_
 simp [cv,cv1,cv0,upd]
theorem scmp_A (a b:ByteArray):PureD Tryz.prog 155 [sD a,sD b] (.i (.s (.int .i64 (cmpS a b)))):=by
 refine callD_W 8 Tryz.func155 rfl rfl rfl (fun _ _=>rfl) ?_
 (refine gy (an tyStrs0 @sD.eq_1) ?_; try intro ops hops)
 (first | refine Call_flat [] [] (cmpString_A a b) (by simp [cvAs,cvA,cvRL,cvR,cvBox,cv1,cvL,cv0,bI,byteI,sD,elemsOf,upd]) rfl ?_ | refine CallF_flat [] [] [] (cmpString_A a b) (fun G _=>by simp [cvAs,cvA,cvRL,cvR,cvBox,cv1,cvL,cv0,bI,byteI,sD,elemsOf,upd]) rfl ?_)
 refine gx tyStrs0 ?_
 refine fin_ret [] rfl ?_
 simp [cv,cv1,cv0,upd]
end Go.Proofs.YtadoaljnfeoecaaGreatDoor
set_option linter.all false
namespace Go.Proofs.YtadoaljnfeoecaaGreatDoor
open Go Go.Abs Go.RowKit Go.Proofs.YtadoaljnfeoecaaGreatDoor.Ty
theorem tyPurse0:(type_of% @Ty.T3)∧(type_of% @Ty.T9)∧(type_of% @Ty.T47)∧(type_of% @Ty.T73):=⟨@Ty.T3,@Ty.T9,@Ty.T47,@Ty.T73⟩
def amtP (l:List PurseD) (o d:ByteArray):Nat:=match getP l o d with | some p=>p.n | none=>0
set_option maxHeartbeats 2000000
theorem pfindc_A (p:PurseD) (o d:ByteArray):PureD Tryz.prog 154 [puD p,sD d,.rp [sI o] 0] (intD (cmpP (pk p) (o,d))):=by
 unfold cmpP pk
 have h1:=scmp_A p.o o
 have h2:=scmp_A p.d d
 simp only
 generalize cmpS p.o o=c1 at *
 generalize cmpS p.d d=c2 at *
 by_cases h:c1=0
 ·rw [if_pos h]
  have g:decide (c1=0)=true:=decide_eq_true h
  refine callD_W 18 Tryz.func154 rfl rfl rfl (fun _ _=>rfl) ?_
  (refine gy (an (an (an tyPurse0 @puD.eq_1) @sD.eq_1) @sI.eq_1) ?_; try intro ops hops)
  (first | refine Call_flat [] [] (h1) (by simp [cvAs,cvA,cvRL,cvR,cvBox,cv1,cvL,cv0,bI,byteI,intD,sD,sI,puD,elemsOf,upd]) rfl ?_ | refine CallF_flat [] [] [] (h1) (fun G _=>by simp [cvAs,cvA,cvRL,cvR,cvBox,cv1,cvL,cv0,bI,byteI,intD,sD,sI,puD,elemsOf,upd]) rfl ?_)
  (refine gy (an tyPurse0 g) ?_; try intro ops hops)
  (first | refine Call_flat [] [] (h2) (by simp [cvAs,cvA,cvRL,cvR,cvBox,cv1,cvL,cv0,bI,byteI,intD,sD,sI,puD,elemsOf,upd]) rfl ?_ | refine CallF_flat [] [] [] (h2) (fun G _=>by simp [cvAs,cvA,cvRL,cvR,cvBox,cv1,cvL,cv0,bI,byteI,intD,sD,sI,puD,elemsOf,upd]) rfl ?_)
  refine gx tyPurse0 ?_
  refine fin_ret [] rfl ?_
  simp [cv,cv1,cv0,upd,intD]
 ·rw [if_neg h]
  have g:decide (c1=0)=false:=decide_eq_false h
  refine callD_W 18 Tryz.func154 rfl rfl rfl (fun _ _=>rfl) ?_
  (refine gy (an (an (an tyPurse0 @puD.eq_1) @sD.eq_1) @sI.eq_1) ?_; try intro ops hops)
  (first | refine Call_flat [] [] (h1) (by simp [cvAs,cvA,cvRL,cvR,cvBox,cv1,cvL,cv0,bI,byteI,intD,sD,sI,puD,elemsOf,upd]) rfl ?_ | refine CallF_flat [] [] [] (h1) (fun G _=>by simp [cvAs,cvA,cvRL,cvR,cvBox,cv1,cvL,cv0,bI,byteI,intD,sD,sI,puD,elemsOf,upd]) rfl ?_)
  refine gx (an tyPurse0 g) ?_
  refine fin_ret [] rfl ?_
  simp [cv,cv1,cv0,upd,intD]
end Go.Proofs.YtadoaljnfeoecaaGreatDoor
set_option linter.all false
namespace Go.Proofs.YtadoaljnfeoecaaGreatDoor
open Go Go.Abs Go.RowKit Go.Proofs.YtadoaljnfeoecaaGreatDoor.Ty
theorem tyPurseF0:(type_of% @Ty.T3)∧(type_of% @Ty.T9)∧(type_of% @Ty.T26)∧(type_of% @Ty.T47)∧(type_of% @Ty.T73)∧(type_of% @Ty.T199):=⟨@Ty.T3,@Ty.T9,@Ty.T26,@Ty.T47,@Ty.T73,@Ty.T199⟩
theorem tyPurseF1:(type_of% @Ty.T9)∧(type_of% @Ty.T26)∧(type_of% @Ty.T47)∧(type_of% @Ty.T73)∧(type_of% @Ty.T242):=⟨@Ty.T9,@Ty.T26,@Ty.T47,@Ty.T73,@Ty.T242⟩
theorem tyPurseF2:(type_of% @Ty.T4)∧(type_of% @Ty.T9)∧(type_of% @Ty.T26)∧(type_of% @Ty.T47)∧(type_of% @Ty.T73):=⟨@Ty.T4,@Ty.T9,@Ty.T26,@Ty.T47,@Ty.T73⟩
set_option maxHeartbeats 2000000
theorem psearch_A (l:List PurseD) (ow de:ByteArray) (p:Nat) (hl:l.length≤1048576) (hp:p≤l.length) (hm:∀ a (h:a < l.length),cmpP (pk l[a]) (ow,de) < 0↔a < p) :
  PureD Tryz.prog 153 [.i (pusI l),sD de,.fn 154 [.rp [sI ow] 0]]
   (.tup [intD p,boolD (if h:p < l.length then decide (cmpP (pk l[p]) (ow,de)=0) else false)]):=by
 refine callD_W 49 Tryz.func153 rfl rfl rfl (fun _ _=>rfl) ?_
 refine gx (an (an tyPurseF0 @pusI.eq_1) @sD.eq_1) ?_
 refine W_loopI (ι:=Nat × Nat) (fun q=>q.1≤p∧p≤q.2∧q.2≤l.length)
  (fun q=>stOf [(0,.i (.sl (l.map encPu))),(1,sD de),(2,.fn 154 [.rp [sI ow] 0]),(8,intD l.length),(9,intD q.1),(10,intD q.2)] []) (fun q=>q.2 - q.1) (0,l.length) ⟨Nat.zero_le _,hp,Nat.le_refl _⟩ ?_ ?_
 ·refine le_stOf _ _ [] [] ?_ ?_ rfl rfl
  ·simp [cv,cvL,cv1,cv0,upd,lk,srcOf,intD,sD,sI]
  ·simp
 ·rintro ⟨i,j⟩ ⟨h1,h2,h3⟩
  simp only at h1 h2 h3
  rw [stOf_eq]
  refine gx (an (an tyPurseF0 @intD.eq_1) @sD.eq_1) ?_
  refine Wc_split (fun h=>?_) (fun h=>?_)
  ·have hij:i < j:=by simp at h; omega
   clear h
   have hml:(i+j) / 2 < l.length:=by omega
   have e1:(l.map encPu)[(i+j) / 2]?=some (encPu l[(i+j) / 2]):=by rw [List.getElem?_map,List.getElem?_eq_getElem hml]; rfl
   have hmm:=hm _ hml
   have w1:IntKind.i64.wrap ((i:Int)+(j:Int))=((i+j:Nat):Int):=by rw [wrap64 (by omega) (by omega)]; omega
   have w2:IntKind.u64.wrap ((i+j:Nat):Int)=((i+j:Nat):Int):=by rw [IntKind.wrap_u64]; omega
   have w3:((i+j:Nat):Int).fdiv (2 ^ min 1 (IntKind.bits .u64))=(((i+j) / 2:Nat):Int):=by
    rw [show min 1 (IntKind.bits .u64)=1 from rfl,Int.fdiv_eq_ediv_of_nonneg _ (by decide)]; omega
   have w4:IntKind.i64.wrap (((i+j) / 2:Nat):Int)=(((i+j) / 2:Nat):Int):=by rw [wrap64 (by omega) (by omega)]
   have w5:IntKind.i64.wrap ((((i+j) / 2:Nat):Int)+1)=(((i+j) / 2+1:Nat):Int):=by rw [wrap64 (by omega) (by omega)]; omega
   have hmid1:i≤(i+j) / 2:=by omega
   have hmid2:(i+j) / 2 < j:=by omega
   generalize l[(i+j) / 2]=q at e1 hmm
   simp only [encPu] at e1
   generalize (i+j) / 2=m at *
   (refine gy (an (an (an (an (an tyPurseF0 w1) w2) w3) w4) e1) ?_; try intro ops hops)
   (first | refine Call_flat [] [] (pfindc_A q ow de) (by simp [cvAs,cvA,cvRL,cvR,cvBox,cv1,cvL,cv0,bI,byteI,intD,boolD,sD,sI,puD,pusI,wD,elemsOf,upd]) rfl ?_ | refine CallF_flat [] [] [] (pfindc_A q ow de) (fun G _=>by simp [cvAs,cvA,cvRL,cvR,cvBox,cv1,cvL,cv0,bI,byteI,intD,boolD,sD,sI,puD,pusI,wD,elemsOf,upd]) rfl ?_)
   refine gx (an (an tyPurseF0 @intD.eq_1) @sD.eq_1) ?_
   refine Wc_split (fun h=>?_) (fun h=>?_)
   ·have hlt:m < p:=hmm.1 (by simpa using h)
    refine gx (an tyPurseF0 w5) ?_
    refine ⟨(m+1,j),⟨hlt,h2,h3⟩,le_stOf _ _ [] [] ?_ ?_ rfl rfl,by simp; omega⟩
    ·simp [cv,cvL,cv1,cv0,upd,lk,srcOf,intD,sD,sI]
    ·simp
   ·have hlt:¬ m < p:=fun hc=>by have:=hmm.2 hc; simp at h; omega
    refine gx tyPurseF0 ?_
    refine ⟨(i,m),⟨h1,Nat.le_of_not_lt hlt,by omega⟩,le_stOf _ _ [] [] ?_ ?_ rfl rfl,by simp; omega⟩
    ·simp [cv,cvL,cv1,cv0,upd,lk,srcOf,intD,sD,sI]
    ·simp
  ·have hij:i=p:=by simp at h; omega
   subst hij
   by_cases hlt:i < l.length
   ·rw [dif_pos hlt]
    have e1:(l.map encPu)[i]?=some (encPu l[i]):=by rw [List.getElem?_map,List.getElem?_eq_getElem hlt]; rfl
    generalize l[i]=q at e1
    simp only [encPu] at e1
    have g:decide ((i:Int) < (l.length:Int))=true:=decide_eq_true (by omega)
    (refine gy (an (an tyPurseF0 g) e1) ?_; try intro ops hops)
    (first | refine Call_flat [] [] (pfindc_A q ow de) (by simp [cvAs,cvA,cvRL,cvR,cvBox,cv1,cvL,cv0,bI,byteI,intD,boolD,sD,sI,puD,pusI,wD,elemsOf,upd]) rfl ?_ | refine CallF_flat [] [] [] (pfindc_A q ow de) (fun G _=>by simp [cvAs,cvA,cvRL,cvR,cvBox,cv1,cvL,cv0,bI,byteI,intD,boolD,sD,sI,puD,pusI,wD,elemsOf,upd]) rfl ?_)
    refine gx (an (an tyPurseF0 @intD.eq_1) @sD.eq_1) ?_
    refine fin_tt [] rfl ?_
    simp [cv,cvT,cv1,cv0,upd,intD,boolD]
   ·rw [dif_neg hlt]
    have g:decide ((i:Int) < (l.length:Int))=false:=decide_eq_false (by omega)
    refine gx (an tyPurseF0 g) ?_
    refine fin_tt [] rfl ?_
    simp [cv,cvT,cv1,cv0,upd,intD,boolD]
theorem place_case {l:List PurseD} (hs:SrtP l) (o d:ByteArray):(if h:placeP l o d < l.length then decide (cmpP (pk l[placeP l o d]) (o,d)=0) else false)=(getP l o d).isSome:=by
 unfold getP placeP
 rw [KL.get_place cmpP_ok hs]
 by_cases h:KL.place pk cmpP l (o,d) < l.length
 ·rw [dif_pos h,dif_pos h]
  by_cases h2:cmpP (pk l[KL.place pk cmpP l (o,d)]) (o,d)=0
  ·rw [if_pos h2,decide_eq_true h2]; rfl
  ·rw [if_neg h2,decide_eq_false h2]; rfl
 ·rw [dif_neg h,dif_neg h]; rfl
theorem pfind_A (l:List PurseD) (o d:ByteArray) (hl:l.length≤1048576) (hs:SrtP l) :
  PureD Tryz.prog 133 [.i (pusI l),sD o,sD d] (.tup [intD (placeP l o d),boolD (getP l o d).isSome]):=by
 have hc:=psearch_A l o d (placeP l o d) hl (KL.place_le cmpP_ok l _) (fun a ha=>KL.place_iff cmpP_ok hs (o,d) a ha)
 rw [place_case hs] at hc
 generalize placeP l o d=p at *
 generalize (getP l o d).isSome=b at *
 simp only [pusI,sD,sI] at hc
 refine callD_W 14 Tryz.func133 rfl rfl rfl (fun _ _=>rfl) ?_
 (refine gy (an (an tyPurseF1 @pusI.eq_1) @sD.eq_1) ?_; try intro ops hops)
 (first | refine Call_flat [] [1000] (hc) (by simp [cvAs,cvA,cvRL,cvR,cvBox,cv1,cvL,cv0,bI,byteI,intD,boolD,sD,sI,puD,pusI,wD,elemsOf,upd,and_assoc]) rfl ?_ | refine CallF_flat [] [1000] [1000] (hc) (fun G hG=>by (have hG1000:=hG 1000 (by simp); simp [cvAs,cvA,cvRL,cvR,cvBox,cv1,cvL,cv0,bI,byteI,intD,boolD,sD,sI,puD,pusI,wD,elemsOf,upd,and_assoc,hG1000])) rfl ?_)
 refine gx (an (an tyPurseF1 @intD.eq_1) @boolD.eq_1) ?_
 refine fin_tt [] rfl ?_
 simp [cv,cvT,cv1,cv0,upd,intD,boolD]
theorem amount_A (l:List PurseD) (o d:ByteArray) (hl:l.length≤1048576) (hs:SrtP l) :
  PureD Tryz.prog 132 [.i (pusI l),sD o,sD d] (wD (amtP l o d)):=by
 have hf:=pfind_A l o d hl hs
 unfold amtP
 cases hg:getP l o d with
 | none =>
  rw [hg] at hf
  generalize placeP l o d=p at *
  refine callD_W 23 Tryz.func132 rfl rfl rfl (fun _ _=>rfl) ?_
  (refine gy (an (an tyPurseF2 @pusI.eq_1) @sD.eq_1) ?_; try intro ops hops)
  (first | refine Call_frz [] (hf) (by simp [cvAs,cvA,cvRL,cvR,cvBox,cv1,cvL,cv0,bI,byteI,intD,boolD,sD,sI,puD,pusI,wD,elemsOf,upd]) ?_ | refine CallF_frz [] [] (hf) (fun G _=>by simp [cvAs,cvA,cvRL,cvR,cvBox,cv1,cvL,cv0,bI,byteI,intD,boolD,sD,sI,puD,pusI,wD,elemsOf,upd]) (by simp) ?_)
  refine gx (an (an (an tyPurseF2 @intD.eq_1) @boolD.eq_1) @Option.isSome_none.{0}) ?_
  refine fin_ret [] rfl ?_
  simp [cv,cv1,cv0,upd,wD]
 | some v =>
  rw [hg] at hf
  obtain ⟨hp,hv⟩:=KL.place_lt cmpP_ok hs hg
  have e1:(l.map encPu)[placeP l o d]?=some (encPu v):=by rw [List.getElem?_map,List.getElem?_eq_getElem hp,← hv]; rfl
  simp only [encPu] at e1
  clear hv hp
  generalize placeP l o d=p at *
  refine callD_W 23 Tryz.func132 rfl rfl rfl (fun _ _=>rfl) ?_
  (refine gy (an (an tyPurseF2 @pusI.eq_1) @sD.eq_1) ?_; try intro ops hops)
  (first | refine Call_frz [] (hf) (by simp [cvAs,cvA,cvRL,cvR,cvBox,cv1,cvL,cv0,bI,byteI,intD,boolD,sD,sI,puD,pusI,wD,elemsOf,upd]) ?_ | refine CallF_frz [] [] (hf) (fun G _=>by simp [cvAs,cvA,cvRL,cvR,cvBox,cv1,cvL,cv0,bI,byteI,intD,boolD,sD,sI,puD,pusI,wD,elemsOf,upd]) (by simp) ?_)
  refine gx (an (an (an (an (an tyPurseF2 @intD.eq_1) @boolD.eq_1) @Option.isSome_some.{0}) @pusI.eq_1) e1) ?_
  refine fin_ret [] rfl ?_
  simp [cv,cv1,cv0,upd,wD]
end Go.Proofs.YtadoaljnfeoecaaGreatDoor
set_option linter.all false
namespace Go.Proofs.YtadoaljnfeoecaaGreatDoor
open Go Go.Abs
structure RightP (l:List PurseD):Prop where
 len:l.length≤60
 wo:∀ p∈l,1≤p.o.size∧p.o.size≤40
 wd:∀ p∈l,1≤p.d.size∧p.d.size≤40
 pos:∀ p∈l,0 < p.n∧p.n < 18446744073709551616
 srt:SrtP l
def wordOk (s:ByteArray):Bool:=decide (1≤s.size) && decide (s.size≤40)
def supP (l:List PurseD) (d:ByteArray):Nat:=(l.map fun p=>if p.d=d then p.n else 0).sum
abbrev putPu (l:List PurseD) (o d:ByteArray) (v:Option PurseD):List PurseD:=KL.put pk cmpP l (o,d) v
def setP (l:List PurseD) (o d:ByteArray) (n:Nat):List PurseD:=putPu l o d (if n=0 then none else some ⟨o,d,n⟩)
def mintP (l:List PurseD) (o d:ByteArray) (n:Nat):List PurseD × Nat :=
 if !(wordOk o && wordOk d) then ([],4)
 else if n=0 then (l,0)
 else if 18446744073709551616≤supP l d+n then ([],3)
 else if amtP l o d=0∧l.length=60 then ([],5)
 else (setP l o d (amtP l o d+n),0)
def burnP (l:List PurseD) (o d:ByteArray) (n:Nat):List PurseD × Nat :=
 if !(wordOk o && wordOk d) then ([],4)
 else if amtP l o d < n then ([],8)
 else (setP l o d (amtP l o d - n),0)
def moveP (l:List PurseD) (o t d:ByteArray) (n:Nat):List PurseD × Nat :=
 if (burnP l o d n).2=0 then mintP (burnP l o d n).1 t d n else ([],(burnP l o d n).2)
theorem getP_key {l:List PurseD} (h:RightP l) {o d:ByteArray} {p:PurseD} (hg:getP l o d=some p):p∈l∧p.o=o∧p.d=d:=by
 have:=(KL.get_iff cmpP_ok h.srt).1 hg
 exact ⟨this.1,congrArg Prod.fst this.2,congrArg Prod.snd this.2⟩
theorem getP_amt {l:List PurseD} (h:RightP l) (o d:ByteArray):getP l o d=if amtP l o d=0 then none else some ⟨o,d,amtP l o d⟩:=by
 unfold amtP
 cases hg:getP l o d with
 | none=>rfl
 | some p =>
  obtain ⟨h1,h2,h3⟩:=getP_key h hg
  have:=(h.pos p h1).1
  simp only
  rw [if_neg (by omega),← h2,← h3]
theorem amtP_lt {l:List PurseD} (h:RightP l) (o d:ByteArray):amtP l o d < 18446744073709551616:=by
 unfold amtP
 cases hg:getP l o d with
 | none=>simp
 | some p=>exact (h.pos p (getP_key h hg).1).2
theorem setP_hv {o d:ByteArray} {n:Nat}:∀ x,(if n=0 then none else some (⟨o,d,n⟩:PurseD))=some x→pk x=(o,d):=by
 intro x hx
 split at hx
 ·cases hx
 ·injection hx with hx; subst hx; rfl
theorem setP_srt {l:List PurseD} (h:RightP l) (o d:ByteArray) (n:Nat):SrtP (setP l o d n):=KL.srt_put cmpP_ok h.srt setP_hv
theorem amt_set {l:List PurseD} (h:RightP l) (o d:ByteArray) (n:Nat) (o' d':ByteArray):amtP (setP l o d n) o' d'=if o'=o∧d'=d then n else amtP l o' d':=by
 unfold amtP
 have hd:Decidable ((o',d')=(o,d)):=Classical.propDecidable _
 have hg:getP (setP l o d n) o' d'=if (o',d')=(o,d) then (if n=0 then none else some ⟨o,d,n⟩) else getP l o' d':=KL.get_put cmpP_ok h.srt setP_hv (o',d')
 rw [hg]
 by_cases hk:o'=o∧d'=d
 ·rw [if_pos (by rw [hk.1,hk.2]),if_pos hk]
  by_cases h0:n=0
  ·rw [if_pos h0]; exact h0.symm
  ·rw [if_neg h0]
 ·rw [if_neg (fun e=>hk ⟨congrArg Prod.fst e,congrArg Prod.snd e⟩),if_neg hk]
theorem mem_set {l:List PurseD} {o d:ByteArray} {n:Nat} {x:PurseD} (hx:x∈setP l o d n):x∈l∨(x=⟨o,d,n⟩∧n≠0):=by
 rcases (KL.mem_put cmpP_ok).1 hx with h1 | h1
 ·exact .inl h1.1
 ·split at h1
  ·cases h1
  ·injection h1 with h1; exact .inr ⟨h1.symm,by assumption⟩
theorem wordOk_iff {s:ByteArray}:wordOk s=true↔1≤s.size∧s.size≤40:=by simp [wordOk]
theorem set_len {l:List PurseD} (h:RightP l) (o d:ByteArray) (n:Nat):(setP l o d n).length=if amtP l o d=0 then (if n=0 then l.length else l.length+1) else (if n=0 then l.length - 1 else l.length):=by
 have hg:=getP_amt h o d
 by_cases h0:amtP l o d=0
 ·rw [if_pos h0] at hg ⊢
  unfold setP putPu
  by_cases hn:n=0
  ·rw [if_pos hn,if_pos hn,KL.put_none cmpP_ok h.srt hg]
  ·rw [if_neg hn,if_neg hn,KL.put_miss cmpP_ok h.srt hg]
   have:=KL.place_le (κ:=pk) cmpP_ok l (o,d)
   simp; omega
 ·rw [if_neg h0] at hg ⊢
  obtain ⟨hp,_⟩:=KL.place_lt cmpP_ok h.srt hg
  unfold setP putPu
  by_cases hn:n=0
  ·rw [if_pos hn,if_pos hn,KL.put_del cmpP_ok h.srt hg]; simp; omega
  ·rw [if_neg hn,if_neg hn,KL.put_hit cmpP_ok h.srt hg]; simp; omega
theorem set_right {l:List PurseD} (h:RightP l) {o d:ByteArray} {n:Nat} (ho:wordOk o=true) (hd:wordOk d=true) (hn:n < 18446744073709551616) (hl:(setP l o d n).length≤60):RightP (setP l o d n) where
 len:=hl
 wo:=fun p hp=>by rcases mem_set hp with h1 | ⟨rfl,_⟩; exact h.wo p h1; exact wordOk_iff.1 ho
 wd:=fun p hp=>by rcases mem_set hp with h1 | ⟨rfl,_⟩; exact h.wd p h1; exact wordOk_iff.1 hd
 pos:=fun p hp=>by rcases mem_set hp with h1 | ⟨rfl,h1⟩; exact h.pos p h1; exact ⟨by simp only; omega,hn⟩
 srt:=setP_srt h o d n
theorem sum_split (f:PurseD→Nat) (k:PKey) (l:List PurseD):(l.map f).sum=((l.filter fun x=>decide (cmpP (pk x) k < 0)).map f).sum+(((l.filter fun x=>decide (cmpP (pk x) k=0)).map f).sum+((l.filter fun x=>decide (0 < cmpP (pk x) k)).map f).sum):=by
 induction l with
 | nil=>rfl
 | cons x t ih =>
  rw [List.map_cons,List.sum_cons,ih]
  by_cases h1:cmpP (pk x) k < 0
  ·rw [List.filter_cons_of_pos (by simpa using h1),List.filter_cons_of_neg (by simp; omega),List.filter_cons_of_neg (by simp; omega)]
   simp; omega
  ·by_cases h2:cmpP (pk x) k=0
   ·rw [List.filter_cons_of_neg (by simp; omega),List.filter_cons_of_pos (by simpa using h2),List.filter_cons_of_neg (by simp; omega)]
    simp; omega
   ·rw [List.filter_cons_of_neg (by simp; omega),List.filter_cons_of_neg (by simp; omega),List.filter_cons_of_pos (by simp; omega)]
    simp; omega
theorem filter_eq {l:List PurseD} (h:SrtP l) (k:PKey):(l.filter fun x=>decide (cmpP (pk x) k=0))=(KL.get pk cmpP l k).toList:=by
 induction l with
 | nil=>rfl
 | cons x t ih =>
  rw [KL.get_cons cmpP_ok]
  have hs:=List.pairwise_cons.1 h
  by_cases hx:cmpP (pk x) k=0
  ·rw [if_pos hx,List.filter_cons_of_pos (by simpa using hx)]
   have hk:=(cmpP_ok.zero _ _).1 hx
   have:(t.filter fun x=>decide (cmpP (pk x) k=0))=[]:=by
    rw [List.filter_eq_nil_iff]
    intro y hy
    have h1:=hs.1 y hy
    rw [hk] at h1
    have:=(cmpP_ok.neg k (pk y)).1 h1
    simp; omega
   rw [this]; rfl
  ·rw [if_neg hx,List.filter_cons_of_neg (by simpa using hx),ih hs.2]
theorem opt_sum (o d d':ByteArray) (n:Nat):(((if n=0 then none else some (⟨o,d,n⟩:PurseD)).toList).map fun p=>if p.d=d' then p.n else 0).sum=if d=d' then n else 0:=by
 by_cases hn:n=0
 ·rw [if_pos hn,hn]; simp
 ·rw [if_neg hn]; simp
theorem sup_set {l:List PurseD} (h:RightP l) (o d:ByteArray) (n:Nat) (d':ByteArray):supP (setP l o d n) d'+(if d=d' then amtP l o d else 0)=supP l d'+(if d=d' then n else 0):=by
 have h1:=sum_split (fun p=>if p.d=d' then p.n else 0) (o,d) l
 rw [filter_eq h.srt (o,d),show KL.get pk cmpP l (o,d)=getP l o d from rfl,getP_amt h o d,opt_sum] at h1
 unfold supP setP putPu KL.put
 rw [h1]
 simp only [List.map_append,List.sum_append,opt_sum]
 omega
theorem amt_le_sup {l:List PurseD} (h:RightP l) (o d:ByteArray):amtP l o d≤supP l d:=by
 have:=sup_set h o d 0 d
 simp at this
 omega
theorem burn_right {l:List PurseD} (h:RightP l) (o d:ByteArray) (n:Nat):RightP (burnP l o d n).1:=by
 have hnil:RightP []:=⟨by simp,by simp,by simp,by simp,List.Pairwise.nil⟩
 unfold burnP
 split
 ·exact hnil
 ·split
  ·exact hnil
  ·rename_i hw ha
   simp only [Bool.not_eq_true',Bool.not_eq_false,Bool.and_eq_true] at hw
   have:=amtP_lt h o d
   refine set_right h hw.1 hw.2 (by omega) ?_
   rw [set_len h]
   have:=h.len
   split <;> split <;> omega
theorem mint_right {l:List PurseD} (h:RightP l) (o d:ByteArray) (n:Nat):RightP (mintP l o d n).1:=by
 have hnil:RightP []:=⟨by simp,by simp,by simp,by simp,List.Pairwise.nil⟩
 unfold mintP
 split
 ·exact hnil
 ·split
  ·exact h
  ·split
   ·exact hnil
   ·split
    ·exact hnil
    ·rename_i hw h0 hs ha
     simp only [Bool.not_eq_true',Bool.not_eq_false,Bool.and_eq_true] at hw
     have:=amt_le_sup h o d
     refine set_right h hw.1 hw.2 (by omega) ?_
     rw [set_len h]
     have:=h.len
     split <;> split <;> omega
theorem move_right {l:List PurseD} (h:RightP l) (o t d:ByteArray) (n:Nat):RightP (moveP l o t d n).1:=by
 unfold moveP
 split
 ·exact mint_right (burn_right h o d n) t d n
 ·exact ⟨by simp,by simp,by simp,by simp,List.Pairwise.nil⟩
theorem burn_ok {l:List PurseD} (h:RightP l) {o d:ByteArray} {n:Nat} (he:(burnP l o d n).2=0) :
  n≤amtP l o d∧(∀ o' d',amtP (burnP l o d n).1 o' d'=if o'=o∧d'=d then amtP l o d - n else amtP l o' d')∧∀ d',supP (burnP l o d n).1 d'+(if d=d' then n else 0)=supP l d':=by
 unfold burnP at he ⊢
 split at he
 ·cases he
 ·split at he
  ·cases he
  ·rename_i hw ha
   rw [if_neg hw,if_neg ha]
   refine ⟨by omega,fun o' d'=>amt_set h o d _ o' d',fun d'=>?_⟩
   have:=sup_set h o d (amtP l o d - n) d'
   simp only
   split at this <;> simp_all <;> omega
theorem mint_ok {l:List PurseD} (h:RightP l) {o d:ByteArray} {n:Nat} (he:(mintP l o d n).2=0) :
  (∀ o' d',amtP (mintP l o d n).1 o' d'=if o'=o∧d'=d then amtP l o d+n else amtP l o' d')∧(∀ d',supP (mintP l o d n).1 d'=supP l d'+(if d=d' then n else 0))∧(n≠0→supP l d+n < 18446744073709551616):=by
 unfold mintP at he ⊢
 split at he
 ·cases he
 ·rename_i hw
  rw [if_neg hw]
  split at he
  ·rename_i hn
   rw [if_pos hn]
   subst hn
   refine ⟨fun o' d'=>?_,fun d'=>by simp,fun hc=>absurd rfl hc⟩
   split
   ·rename_i hk; rw [hk.1,hk.2]; rfl
   ·rfl
  ·rename_i hn
   rw [if_neg hn]
   split at he
   ·cases he
   ·rename_i hs
    rw [if_neg hs]
    split at he
    ·cases he
    ·rename_i ha
     rw [if_neg ha]
     refine ⟨fun o' d'=>amt_set h o d _ o' d',fun d'=>?_,fun _=>by omega⟩
     have:=sup_set h o d (amtP l o d+n) d'
     simp only
     split at this <;> simp_all <;> omega
theorem move_ok {l:List PurseD} (h:RightP l) {o t d:ByteArray} {n:Nat} (he:(moveP l o t d n).2=0) :
  n≤amtP l o d∧(∀ o' d',amtP (moveP l o t d n).1 o' d'=(if o'=o∧d'=d then amtP l o d - n else amtP l o' d')+(if o'=t∧d'=d then n else 0))∧∀ d',supP (moveP l o t d n).1 d'=supP l d':=by
 unfold moveP at he ⊢
 split at he
 ·rename_i hb
  rw [if_pos hb]
  have hr:=burn_right h o d n
  obtain ⟨h1,h2,h3⟩:=burn_ok h hb
  obtain ⟨g1,g2,_⟩:=mint_ok hr he
  refine ⟨h1,fun o' d'=>?_,fun d'=>?_⟩
  ·rw [g1]
   by_cases hk:o'=t∧d'=d
   ·rw [if_pos hk,if_pos hk,h2,hk.1,hk.2]
   ·rw [if_neg hk,if_neg hk,h2]; rfl
  ·rw [g2,← h3 d']
 ·rename_i hb; exact absurd he hb
end Go.Proofs.YtadoaljnfeoecaaGreatDoor
set_option linter.all false
namespace Go.Proofs.YtadoaljnfeoecaaGreatDoor
open Go Go.Abs Go.RowKit Go.Proofs.YtadoaljnfeoecaaGreatDoor.Ty
set_option maxHeartbeats 4000000
end Go.Proofs.YtadoaljnfeoecaaGreatDoor
set_option linter.all false
namespace Go.Proofs.YtadoaljnfeoecaaGreatDoor
open Go Go.Abs Go.RowKit Go.Proofs.YtadoaljnfeoecaaGreatDoor.Ty
set_option maxHeartbeats 4000000
end Go.Proofs.YtadoaljnfeoecaaGreatDoor
set_option linter.all false
namespace Go.Proofs.YtadoaljnfeoecaaGreatDoor
open Go Go.Abs Go.RowKit Go.Proofs.YtadoaljnfeoecaaGreatDoor.Ty
theorem tyBankW0:(type_of% @Ty.T3)∧(type_of% @Ty.T9)∧(type_of% @Ty.T213):=⟨@Ty.T3,@Ty.T9,@Ty.T213⟩
theorem tyBankW1:(type_of% @Ty.T3)∧(type_of% @Ty.T9)∧(type_of% @Ty.T26)∧(type_of% @Ty.T47)∧(type_of% @Ty.T73):=⟨@Ty.T3,@Ty.T9,@Ty.T26,@Ty.T47,@Ty.T73⟩
theorem tyBankW2:(type_of% @Ty.T0)∧(type_of% @Ty.T9)∧(type_of% @Ty.T26)∧(type_of% @Ty.T47)∧(type_of% @Ty.T73):=⟨@Ty.T0,@Ty.T9,@Ty.T26,@Ty.T47,@Ty.T73⟩
set_option maxHeartbeats 2000000
theorem word_A (l:List ByteArray) (hl:l.length≤100):PureD Tryz.prog 88 [.i (.sl (l.map fun s=>[sI s]))] (intD (if l.all wordOk then 0 else 4)):=by
 generalize hR:(if l.all wordOk then 0 else 4:Int)=R
 refine callD_W 20 Tryz.func88 rfl rfl rfl (fun _ _=>rfl) ?_
 refine gx (an tyBankW0 @sI.eq_1) ?_
 refine W_loopI (ι:=Nat) (fun i=>i≤l.length∧(if (l.drop i).all wordOk then 0 else 4:Int)=R)
  (fun i=>stOf [(2,intD 0),(5,.i (.sl (l.map fun s=>[sI s]))),(6,intD l.length),(7,intD i)] []) (fun i=>l.length - i) 0 ⟨Nat.zero_le _,hR⟩ ?_ ?_
 ·refine le_stOf _ _ [] [] ?_ ?_ rfl rfl
  ·simp [cv,cvL,cv1,cv0,upd,lk,srcOf,intD,sI]
  ·simp
 ·rintro i ⟨hi,hr⟩
  clear hR
  rw [stOf_eq]
  by_cases h:i < l.length
  ·have g1:decide ((i:Int) < (l.length:Int))=true:=decide_eq_true (by omega)
   have e1:(l.map fun s=>[sI s])[i]?=some [sI l[i]]:=by rw [List.getElem?_map,List.getElem?_eq_getElem h]; rfl
   have w1:IntKind.i64.wrap ((i:Int)+1)=((i+1:Nat):Int):=by rw [wrap64 (by omega) (by omega)]; omega
   rw [List.drop_eq_getElem_cons h,List.all_cons] at hr
   generalize l[i]=s at *
   simp only [sI] at e1
   by_cases h1:1≤s.size
   ·have g2:decide ((s.size:Int) < 1)=false:=decide_eq_false (by omega)
    by_cases h2:s.size≤40
    ·have g3:decide ((40:Int) < (s.size:Int))=false:=decide_eq_false (by omega)
     have hw:wordOk s=true:=wordOk_iff.2 ⟨h1,h2⟩
     rw [hw,Bool.true_and] at hr
     refine gx (an (an (an (an (an (an (an tyBankW0 @intD.eq_1) @sI.eq_1) g1) e1) g2) g3) w1) ?_
     refine ⟨i+1,⟨h,hr⟩,le_stOf _ _ [] [] ?_ ?_ rfl rfl,by simp; omega⟩
     ·simp [cv,cvL,cv1,cv0,upd,lk,srcOf,intD,sI]
     ·simp
    ·have g3:decide ((40:Int) < (s.size:Int))=true:=decide_eq_true (by omega)
     have hw:wordOk s=false:=by simp [wordOk]; omega
     rw [hw,Bool.false_and,if_neg (by simp)] at hr
     subst hr
     refine gx (an (an (an (an (an (an tyBankW0 @intD.eq_1) @sI.eq_1) g1) e1) g2) g3) ?_
     refine fin_ret [] rfl ?_
     simp [cv,cv1,cv0,upd,intD]
   ·have g2:decide ((s.size:Int) < 1)=true:=decide_eq_true (by omega)
    have hw:wordOk s=false:=by simp [wordOk]; omega
    rw [hw,Bool.false_and,if_neg (by simp)] at hr
    subst hr
    refine gx (an (an (an (an (an tyBankW0 @intD.eq_1) @sI.eq_1) g1) e1) g2) ?_
    refine fin_ret [] rfl ?_
    simp [cv,cv1,cv0,upd,intD]
  ·have g1:decide ((i:Int) < (l.length:Int))=false:=decide_eq_false (by omega)
   rw [List.drop_eq_nil_of_le (by omega)] at hr
   simp only [List.all_nil,if_true] at hr
   subst hr
   refine gx (an (an tyBankW0 @intD.eq_1) g1) ?_
   refine fin_ret [] rfl ?_
   simp [cv,cv1,cv0,upd,intD]
theorem sup_take {l:List PurseD} {d:ByteArray} {i:Nat} (h:i < l.length):supP (l.take (i+1)) d=supP (l.take i) d+if l[i].d=d then l[i].n else 0:=by
 unfold supP
 rw [List.take_succ_eq_append_getElem h,List.map_append,List.sum_append]; simp
def ovr (n:Nat):Nat:=if 18446744073709551616≤n then 1 else 0
theorem beqS (a b:ByteArray):(a == b)=decide (a=b):=by
 obtain ⟨a⟩:=a
 obtain ⟨b⟩:=b
 show (a == b)=_
 by_cases h:a=b
 ·subst h; simp
 ·rw [decide_eq_false (fun e=>h (by injection e))]; exact beq_eq_false_iff_ne.2 h
theorem bor00:bits .or .u64 0 0=0:=by decide
theorem bor01:bits .or .u64 0 1=1:=by decide
theorem bor10:bits .or .u64 1 0=1:=by decide
theorem bor11:bits .or .u64 1 1=1:=by decide
theorem supply_A (l:List PurseD) (d:ByteArray) (hl:l.length≤1048576) (hn:∀ p∈l,p.n < 18446744073709551616) :
  PureD Tryz.prog 12 [.i (pusI l),sD d] (.tup [wD (if 18446744073709551616≤supP l d then 0 else supP l d),boolD (decide (18446744073709551616≤supP l d))]):=by
 refine callD_W 35 Tryz.func12 rfl rfl rfl (fun _ _=>rfl) ?_
 refine gx (an (an tyBankW1 @pusI.eq_1) @sD.eq_1) ?_
 refine W_loopI (ι:=Nat) (fun i=>i≤l.length)
  (fun i=>stOf [(1,sD d),(6,wD (supP (l.take i) d % 18446744073709551616)),(7,wD (ovr (supP (l.take i) d))),(11,.i (.sl (l.map encPu))),(12,intD l.length),(13,intD i)] []) (fun i=>l.length - i) 0 (Nat.zero_le _) ?_ ?_
 ·refine le_stOf _ _ [] [] ?_ ?_ rfl rfl
  ·simp [cv,cvL,cv1,cv0,upd,lk,srcOf,intD,sI,wD,supP,ovr,sD]
  ·simp
 ·rintro i hi
  rw [stOf_eq]
  by_cases h:i < l.length
  ·have g1:decide ((i:Int) < (l.length:Int))=true:=decide_eq_true (by omega)
   have e1:(l.map encPu)[i]?=some (encPu l[i]):=by rw [List.getElem?_map,List.getElem?_eq_getElem h]; rfl
   have w1:IntKind.i64.wrap ((i:Int)+1)=((i+1:Nat):Int):=by rw [wrap64 (by omega) (by omega)]; omega
   have hs:=sup_take (d:=d) h
   have hpn:=hn l[i] (List.getElem_mem h)
   generalize l[i]=p at *
   generalize hS':supP (l.take (i+1)) d=S' at *
   generalize hS:supP (l.take i) d=S at *
   simp only [encPu] at e1
   by_cases hd:p.d=d
   ·have g2:(p.d == d)=true:=by rw [beqS]; exact decide_eq_true hd
    rw [if_pos hd] at hs
    have a1:S % 18446744073709551616 < 18446744073709551616:=Nat.mod_lt _ (by decide)
    have hadd:=add64_X (S % 18446744073709551616) p.n 0 a1 hpn (by decide)
    have hm:(S % 18446744073709551616+p.n+0) % 18446744073709551616=S' % 18446744073709551616:=by omega
    rw [hm] at hadd
    have hor:(∃ c:Nat,(S % 18446744073709551616+p.n+0) / 18446744073709551616=c∧((ovr S=0∧c=0∧ovr S'=0)∨(ovr S=0∧c=1∧ovr S'=1)∨(ovr S=1∧c=0∧ovr S'=1)∨(ovr S=1∧c=1∧ovr S'=1))):=by
     refine ⟨_,rfl,?_⟩
     have:(S % 18446744073709551616+p.n+0) / 18446744073709551616=0∨(S % 18446744073709551616+p.n+0) / 18446744073709551616=1:=by omega
     unfold ovr
     rcases this with e | e <;> rw [e] <;> by_cases k1:18446744073709551616≤S <;> by_cases k2:18446744073709551616≤S' <;> first | (simp [k1,k2]; done) | (exfalso; omega)
    obtain ⟨c,hc,hor⟩:=hor
    rw [hc] at hadd
    generalize S % 18446744073709551616=A at *
    generalize hB:S' % 18446744073709551616=B at *
    have fin:∀ x y:Nat,ovr S=x→c=y→((x=0∧y=0∧ovr S'=0)∨(x=0∧y=1∧ovr S'=1)∨(x=1∧y=0∧ovr S'=1)∨(x=1∧y=1∧ovr S'=1)):=by
     intro x y hx hy; rw [← hx,← hy]; exact hor
    generalize ovr S=x at *
    generalize hO:ovr S'=z at *
    rcases hor with ⟨rfl,rfl,rfl⟩ | ⟨rfl,rfl,rfl⟩ | ⟨rfl,rfl,rfl⟩ | ⟨rfl,rfl,rfl⟩ <;>
    ·refine gx (an (an (an (an (an (an (an (an tyBankW1 @intD.eq_1) @sD.eq_1) @wD.eq_1) g1) e1) g2) @Int.natCast_zero) @Int.natCast_one) ?_
     refine Call_dir hadd ?_
     refine gx (an (an (an (an (an (an tyBankW1 @intD.eq_1) @sD.eq_1) @wD.eq_1) w1) @Int.natCast_zero) @Int.natCast_one) ?_
     refine ⟨i+1,h,le_stOf _ _ [] [] ?_ ?_ rfl rfl,by simp; omega⟩
     ·simp [cv,cvL,cv1,cv0,upd,lk,srcOf,intD,sI,wD,sD,hS',hB,hO,bor00,bor01,bor10,bor11]
     ·simp
   ·have g2:(p.d == d)=false:=by rw [beqS]; exact decide_eq_false hd
    rw [if_neg hd] at hs
    obtain rfl:S'=S:=hs
    refine gx (an (an (an (an (an (an (an tyBankW1 @intD.eq_1) @sD.eq_1) @wD.eq_1) g1) e1) g2) w1) ?_
    refine ⟨i+1,h,le_stOf _ _ [] [] ?_ ?_ rfl rfl,by simp; omega⟩
    ·simp [cv,cvL,cv1,cv0,upd,lk,srcOf,intD,sI,wD,sD,hS']
    ·simp
  ·have g1:decide ((i:Int) < (l.length:Int))=false:=decide_eq_false (by omega)
   have ht:l.take i=l:=List.take_of_length_le (by omega)
   rw [ht]
   generalize supP l d=S
   by_cases hS:18446744073709551616≤S
   ·have hov:ovr S=1:=by simp [ovr,hS]
    rw [hov,if_pos hS,decide_eq_true hS]
    refine gx (an (an (an (an (an tyBankW1 @intD.eq_1) @wD.eq_1) g1) @Int.natCast_one) @Int.natCast_zero) ?_
    refine fin_tt [] rfl ?_
    simp [cv,cvT,cv1,cv0,upd,intD,boolD,wD]
   ·have hov:ovr S=0:=by simp [ovr,hS]
    have hm:S % 18446744073709551616=S:=Nat.mod_eq_of_lt (by omega)
    rw [hov,if_neg hS,decide_eq_false hS,hm]
    refine gx (an (an (an (an tyBankW1 @intD.eq_1) @wD.eq_1) g1) @Int.natCast_zero) ?_
    refine fin_tt [] rfl ?_
    simp [cv,cvT,cv1,cv0,upd,intD,boolD,wD]
theorem uni_encPu (l:List PurseD):uni 3 (l.map encPu)=true:=by simp [uni,encPu]
theorem clonePu_new (l:List PurseD) (hl:l.length≤1048576):CallD Tryz.prog 67 [.i (pusI l)] noH (.os 1 3 0 l.length) (hOf noH [(1,.arr 3 (l.map encPu))]):=by
 cases l with
 | nil =>
  refine call_case (Enters_of Tryz.func67 rfl rfl) fun K vs hrd=>?_
  obtain ⟨hs,hg⟩:=hrd
  obtain ⟨a,c,hv⟩:∃ a c,vs.getD 0 undef=.slice a 0 c:=by
   have:=hg 0 _ rfl
   generalize vs.getD 0 undef=v at this
   cases this with
   | i hx =>
    cases hx with
    | e a c=>exact ⟨a,c,rfl⟩
    | sl b off cap sz es f h1 h2=>exact ⟨_,_,rfl⟩
  refine ⟨[.i (.s (.slice a 0 c))],?_,hs,fun j d hd=>?_⟩
  ·have hun:=un26
   refine callD_W 8 Tryz.func67 rfl rfl rfl (fun _ _=>rfl) ?_
   cases a with
   | none =>
    (repeat (first | (simp -implicitDefEqProofs only [ev,mixed,Nat.reduceLT,Nat.reduceAdd,Nat.reduceMul,reduceIte,Nat.reduceEqDiff,reduceCtorEq,Nat.reducePow,Nat.reduceLeDiff,Int.reduceLE,Int.reduceLT,Int.reduceToNat,Int.reduceEq,Nat.reduceBEq,itsOf,gdA,byteI,opid,lenQ,ixQ,ldH,readAt,readCells,asCell,faQ,exQ,fldQ,partA,buildQ,slQ,stH,bslH,appH,dcells,convI,elemsOf,D.one,nilS,fillD,convN,cvH,tyBankW2,bq_eqnil hun,Option.isNone_none]) | (with_reducible refine ⟨?_,?_⟩; (· first | (obtain ⟨rfl⟩:=‹Hq _ _›; with_reducible refine chk_ok ?_; kernel_rfl) | kernel_rfl)) | (with_reducible intro ops hops)))
    refine fin_retD [(1,.arr 3 [])] [] [] rfl ?_ ?_ rfl ?_ rfl
    ·simp [cv,cv1,cv0,upd,srcR,hF,lk,noH]
    ·simp [objOk,srcR,lk,cvO,frz,upd,hF,noH]
    ·simp [noH]
   | some a =>
    (repeat (first | (simp -implicitDefEqProofs only [ev,mixed,Nat.reduceLT,Nat.reduceAdd,Nat.reduceMul,reduceIte,Nat.reduceEqDiff,reduceCtorEq,Nat.reducePow,Nat.reduceLeDiff,Int.reduceLE,Int.reduceLT,Int.reduceToNat,Int.reduceEq,Nat.reduceBEq,itsOf,gdA,byteI,opid,lenQ,ixQ,ldH,readAt,readCells,asCell,faQ,exQ,fldQ,partA,buildQ,slQ,stH,bslH,appH,dcells,convI,elemsOf,D.one,nilS,fillD,convN,cvH,tyBankW2,bq_eqnil hun,Option.isNone_some]) | (with_reducible refine ⟨?_,?_⟩; (· first | (obtain ⟨rfl⟩:=‹Hq _ _›; with_reducible refine chk_ok ?_; kernel_rfl) | kernel_rfl)) | (with_reducible intro ops hops)))
    refine fin_retD [(1,.arr 3 [])] [] [(1,1770)] rfl ?_ ?_ rfl ?_ rfl
    ·simp [cv,cv1,cv0,upd,srcR,hF,lk,noH]
    ·simp [objOk,srcR,lk,cvO,frz,upd,hF,noH]
    ·simp [noH]
  ·cases j with
   | zero=>simp at hd; subst hd; rw [hv]; exact .i (.s _ rfl)
   | succ j=>simp at hd
 | cons p t =>
  have hu:=uni_encPu t
  have e3:t.length+1≤140737488355328:=by simp at hl; omega
  have e4:(t.length+1) * 40≤140737488355328:=by simp at hl; omega
  have e5:(encPu p).length=3:=rfl
  refine callD_W 8 Tryz.func67 rfl rfl rfl (fun _ _=>rfl) ?_
  refine gx (an (an (an (an (an (an (an (an tyBankW2 @pusI.eq_1) hu) e3) e4) e5) @List.map_cons.{0,0}) @List.length_cons.{0}) @List.length_map.{0,0}) ?_
  refine fin_retD [(1,.arr 3 ((p :: t).map encPu))] [] [(1,1770)] rfl ?_ ?_ rfl ?_ rfl
  ·simp [cv,cv1,cv0,upd,srcR,hF,lk,noH]
  ·simp [objOk,srcR,lk,cvO,frz,upd,hF,noH]
  ·simp [noH]
end Go.Proofs.YtadoaljnfeoecaaGreatDoor
set_option linter.all false
namespace Go.Proofs.YtadoaljnfeoecaaGreatDoor
open Go Go.Abs Go.RowKit Go.Proofs.YtadoaljnfeoecaaGreatDoor.Ty
set_option maxHeartbeats 4000000
end Go.Proofs.YtadoaljnfeoecaaGreatDoor
set_option linter.all false
namespace Go.Proofs.YtadoaljnfeoecaaGreatDoor
open Go Go.Abs Go.RowKit Go.Proofs.YtadoaljnfeoecaaGreatDoor.Ty
theorem tyInsPu0:(type_of% @Ty.T3)∧(type_of% @Ty.T4)∧(type_of% @Ty.T9)∧(type_of% @Ty.T26)∧(type_of% @Ty.T47)∧(type_of% @Ty.T73):=⟨@Ty.T3,@Ty.T4,@Ty.T9,@Ty.T26,@Ty.T47,@Ty.T73⟩
theorem overlaps_Pu {G:Nat→Ob} {o o2 off off2 len len2 cap:Nat} {es es2:List (List I)} (ho:G o=.arr 3 es) (ho2:G o2=.arr 3 es2) (hne:o≠o2) (h1:0 < len) (h2:0 < len2) :
  DirD Tryz.prog 156 [.os o2 3 off2 len2,.oc o 3 off len cap] G (boolD false) G:=by
 intro K0 T K vs hr hrd
 obtain ⟨hs,hg⟩:=hrd
 have e:vs=#[vs.getD 0 undef,vs.getD 1 undef]:=by
  apply Array.ext
  ·simpa using hs
  ·intro i h1 h2
   simp at hs
   have:i=0∨i=1:=by omega
   rcases this with rfl | rfl <;> simp [Array.getD,hs]
 have hrun:=overlaps_run (P:=Tryz.prog) (t:=26) (tR:=4) (s:=3) Tryz.underlying26 (sz_run (by kernel_rfl)) hr (hg 0 _ rfl) (hg 1 _ rfl) ho ho2 hne h1 h2
 rw [e]
 refine ⟨.bool false,K,?_,Ext.refl K,hr,.i (.s _ rfl)⟩
 rw [run_callFunc_extern Tryz.func156 (by kernel_rfl) (by kernel_rfl) (by kernel_rfl) (e:=Extern.SlicesOverlaps.overlaps #[26,26] #[4]) (by kernel_rfl),hrun]
 rfl
set_option maxHeartbeats 4000000
theorem insert_Pu (es:List (List I)) (p:List I) (i:Nat) (hi:i≤es.length) (hl:es.length≤1048576) (hu:∀ e∈es,e.length=3) (hp:p.length=3) :
  CallD Tryz.prog 136 [.os 0 3 0 es.length,intD i,.os 2 3 0 1] (hF [(0,.arr 3 es),(2,.arr 3 [p])]) (.os 1 3 0 (es.length+1))
   (hOf (hF [(0,.arr 3 es),(2,.arr 3 [p])]) [(1,.arr 3 (es.take i++p :: es.drop i))]):=by
 have hu2:=uN hu
 by_cases hin:i=es.length
 ·subst hin
  have e3:es.length+1≤140737488355328:=by omega
  have e4:(es.length+1) * 40≤140737488355328:=by omega
  refine callD_W 95 Tryz.func136 rfl rfl rfl (fun o ho=>by simp [hF,lk,show o≠0 by omega,show o≠1 by omega,show o≠2 by omega,show o≠3 by omega,show o≠4 by omega,show o≠5 by omega]) ?_
  refine gx (an (an (an (an (an (an (an tyInsPu0 @intD.eq_1) e3) e4) @hp) hu2) @Int.le_refl) @Nat.sub_self) ?_
  refine fin_retD [(1,.arr 3 (es++[p]))] [] [(1,2794)] rfl ?_ ?_ rfl ?_ rfl
  ·simp [cv,cv1,cv0,upd,srcR,hF,lk]
  ·simp [objOk,srcR,lk,cvO,frz,upd,hF]
  ·simp [hF,lk]
 ·have hlt:i < es.length:=by omega
  refine oc_case (by omega) fun c hc=>?_
  have g1:decide ((i:Int)=(es.length:Int))=false:=decide_eq_false (by omega)
  have w1:IntKind.i64.wrap ((es.length:Int)+1)=((es.length+1:Nat):Int):=by rw [wrap64 (by omega) (by omega)]; omega
  have w2:IntKind.i64.wrap ((i:Int)+1)=((i+1:Nat):Int):=by rw [wrap64 (by omega) (by omega)]; omega
  have l1:(i≤es.length)=True:=eq_true (by omega)
  have l2:(es.length≤c)=True:=eq_true (by omega)
  have l3:(i≤es.length+1)=True:=eq_true (by omega)
  have l6:(i≤c)=True:=eq_true (by omega)
  have l4:(i+1≤es.length+1)=True:=eq_true (by omega)
  have m2:i+(es.length - i)=es.length:=by omega
  have m4:min 1 (es.length+1 - i)=1:=by omega
  have l7:(es.length - i≤es.length+1 - i)=True:=eq_true (by omega)
  have l8:(i+1≤es.length)=True:=eq_true (by omega)
  have tk:(es.drop i).take (es.length - i)=es.drop i:=List.take_of_length_le (by simp)
  have hu3:uni 3 (es.drop i)=true:=uN fun e he=>hu e (List.mem_of_mem_drop he)
  by_cases hroom:es.length+1≤c
  ·have g2:decide ((c:Int) < ((es.length+1:Nat):Int))=false:=decide_eq_false (by omega)
   have l5:(es.length+1≤c)=True:=eq_true (by omega)
   have m1:min (es.length+1 - i) (es.length+1 - (i+1))=es.length - i:=by omega
   have l9:(i≤(over es (i+1) (es.drop i)).length)=True:=eq_true (by unfold over; simp; omega)
   have hos:=ins_shift (p:=p) hlt
   refine callD_W 95 Tryz.func136 rfl rfl rfl (fun o ho=>by simp [hF,lk,show o≠0 by omega,show o≠1 by omega,show o≠2 by omega,show o≠3 by omega,show o≠4 by omega,show o≠5 by omega]) ?_
   (repeat (first | (simp -implicitDefEqProofs only [ev,mixed,Nat.reduceLT,Nat.reduceAdd,Nat.reduceMul,reduceIte,Nat.reduceEqDiff,reduceCtorEq,Nat.reducePow,Nat.reduceLeDiff,Int.reduceLE,Int.reduceLT,Int.reduceToNat,Int.reduceEq,Nat.reduceBEq,itsOf,gdA,byteI,opid,lenQ,ixQ,ldH,readAt,readCells,asCell,faQ,exQ,fldQ,partA,buildQ,slQ,stH,bslH,appH,dcells,convI,elemsOf,D.one,nilS,fillD,convN,cvH,tyInsPu0,intD,slX,capX,lenX,g1,g2,w1,w2,l1,l2,l3,l4,l5,true_or,Nat.sub_zero,Nat.zero_le,l6,hp,hu2]) | (with_reducible refine ⟨?_,?_⟩; (· first | (obtain ⟨rfl⟩:=‹Hq _ _›; with_reducible refine chk_ok ?_; kernel_rfl) | kernel_rfl)) | (with_reducible intro ops hops)))
   refine ⟨_,_,.inr (overlaps_Pu (len:=es.length+1 - (i+1)) (len2:=1) (by simp [hF,lk]; rfl) (by simp [hF,lk]; rfl) (by decide) (by omega) (by omega)),?_⟩
   (repeat (first | (simp -implicitDefEqProofs only [ev,mixed,Nat.reduceLT,Nat.reduceAdd,Nat.reduceMul,reduceIte,Nat.reduceEqDiff,reduceCtorEq,Nat.reducePow,Nat.reduceLeDiff,Int.reduceLE,Int.reduceLT,Int.reduceToNat,Int.reduceEq,Nat.reduceBEq,itsOf,gdA,byteI,opid,lenQ,ixQ,ldH,readAt,readCells,asCell,faQ,exQ,fldQ,partA,buildQ,slQ,stH,bslH,appH,dcells,convI,elemsOf,D.one,nilS,fillD,convN,cvH,tyInsPu0,boolD,intD,slX,capX,lenX,cpX,dstX,lenS,srcX,w1,w2,l1,l2,l3,l4,l5,true_or,Nat.sub_zero,Nat.zero_le,l6,hp,hu2,m1,m2,m4,l7,l8,l9,tk,hu3]) | (with_reducible refine ⟨?_,?_⟩; (· first | (obtain ⟨rfl⟩:=‹Hq _ _›; with_reducible refine chk_ok ?_; kernel_rfl) | kernel_rfl)) | (with_reducible intro ops hops)))
   have hos2:(over (over es (i+1) (es.drop i)) i [p]).take (es.length+1)=es.take i++p :: es.drop i:=by rw [hos]; exact List.take_of_length_le (by simp; omega)
   rw [← hos2]
   exact fin_oc (o:=0) (cap:=c) rfl (by simp [upd]) (by simp [upd,hF,lk]) (by simp [upd,hF,lk]) (by simp [hF,lk]) (by simp [hF,lk])
  ·have g2:decide ((c:Int) < ((es.length+1:Nat):Int))=true:=decide_eq_true (by omega)
   have l5:(c < es.length+1)=True:=eq_true (by omega)
   have s1:i+(es.length+1 - i)=es.length+1:=by omega
   have e3:es.length+1≤140737488355328:=by omega
   have e4:(es.length+1) * 40≤140737488355328:=by omega
   have m1:min (es.length - i) (es.length+1 - (i+1))=es.length - i:=by omega
   have L1:((i:Int)≤((es.length+1:Nat):Int))=True:=eq_true (by omega)
   have L2:(((i+1:Nat):Int)≤((es.length+1:Nat):Int))=True:=eq_true (by omega)
   have hti:(es.take i).length=i:=by simp; omega
   have l9:(i+1≤(over (es.take i++List.replicate (es.length+1 - i) [I.s (.string ⟨#[]⟩),I.s (.string ⟨#[]⟩),I.s (.int .u64 0)]) i [p]).length)=True:=eq_true (by rw [over_len (by simp; omega)]; simp; omega)
   have hos:=ins_grow (es:=es) (R:=List.replicate (es.length+1 - i) [I.s (.string ⟨#[]⟩),I.s (.string ⟨#[]⟩),I.s (.int .u64 0)]) (p:=p) hlt (by simp)
   have w3:IntKind.i64.wrap (((es.length+1:Nat):Int) - (i:Int))=((es.length+1 - i:Nat):Int):=by rw [wrap64 (by omega) (by omega)]; omega
   refine callD_W 95 Tryz.func136 rfl rfl rfl (fun o ho=>by simp [hF,lk,show o≠0 by omega,show o≠1 by omega,show o≠2 by omega,show o≠3 by omega,show o≠4 by omega,show o≠5 by omega]) ?_
   (repeat (first | (simp -implicitDefEqProofs only [ev,mixed,Nat.reduceLT,Nat.reduceAdd,Nat.reduceMul,reduceIte,Nat.reduceEqDiff,reduceCtorEq,Nat.reducePow,Nat.reduceLeDiff,Int.reduceLE,Int.reduceLT,Int.reduceToNat,Int.reduceEq,Nat.reduceBEq,itsOf,gdA,byteI,opid,lenQ,ixQ,ldH,readAt,readCells,asCell,faQ,exQ,fldQ,partA,buildQ,slQ,stH,bslH,appH,dcells,convI,elemsOf,D.one,nilS,fillD,convN,cvH,tyInsPu0,intD,slX,capX,lenX,apX,cpX,dstX,lenS,srcX,g1,g2,w1,w2,w3,l1,l2,l3,l4,l5,true_or,Nat.sub_zero,Nat.zero_le,l6,hp,hu2,s1,e3,e4,L1,L2,m4,m1,m2,hti,l7,l8,l9,tk,hu3]) | (with_reducible refine ⟨?_,?_⟩; (· first | (obtain ⟨rfl⟩:=‹Hq _ _›; with_reducible refine chk_ok ?_; kernel_rfl) | kernel_rfl)) | (with_reducible intro ops hops)))
   refine fin_retD [(1,.arr 3 (es.take i++p :: es.drop i))] [] [(1,3312)] rfl ?_ ?_ rfl ?_ rfl
   ·simp [cv,cv1,cv0,upd,srcR,hF,lk]
   ·simp [objOk,srcR,lk,cvO,frz,upd,hF,hos]
   ·simp [hF,lk]
end Go.Proofs.YtadoaljnfeoecaaGreatDoor
set_option linter.all false
namespace Go.Proofs.YtadoaljnfeoecaaGreatDoor
open Go Go.Abs Go.RowKit Go.Proofs.YtadoaljnfeoecaaGreatDoor.Ty
theorem tyDelPu0:(type_of% @Ty.T3)∧(type_of% @Ty.T9)∧(type_of% @Ty.T26)∧(type_of% @Ty.T47)∧(type_of% @Ty.T73):=⟨@Ty.T3,@Ty.T9,@Ty.T26,@Ty.T47,@Ty.T73⟩
set_option maxHeartbeats 4000000
theorem delete_Pu (es:List (List I)) (i:Nat) (hi:i < es.length) (hl:es.length≤1048576) (hu:∀ e∈es,e.length=3) :
  CallD Tryz.prog 134 [.os 0 3 0 es.length,intD i,intD (i+1:Nat)] (hF [(0,.arr 3 es)]) (.os 1 3 0 (es.length - 1))
   (hOf (hF [(0,.arr 3 es)]) [(1,.arr 3 (es.take i++es.drop (i+1)))]):=by
 have hu2:=uN hu
 have hu3:uni 3 (es.drop (i+1))=true:=uN fun e he=>hu e (List.mem_of_mem_drop he)
 refine oc_case (by omega) fun c hc=>?_
 have g1:decide ((i:Int)=((i+1:Nat):Int))=false:=decide_eq_false (by omega)
 have l1:(i≤i+1)=True:=eq_true (by omega)
 have l2:(i+1≤es.length)=True:=eq_true (by omega)
 have l3:(es.length≤c)=True:=eq_true (by omega)
 have l4:(i≤c)=True:=eq_true (by omega)
 have l5:(i≤es.length)=True:=eq_true (by omega)
 have l6:(es.length - 1≤es.length)=True:=eq_true (by omega)
 have l7:(es.length - 1≤c)=True:=eq_true (by omega)
 have m1:i+(es.length - (i+1))=es.length - 1:=by omega
 have m2:i+1+(es.length - (i+1))=es.length:=by omega
 have tk:(es.drop (i+1)).take (es.length - (i+1))=es.drop (i+1):=List.take_of_length_le (by simp)
 have l8:(es.length - 1≤(over es i (es.drop (i+1))).length)=True:=eq_true (by unfold over; simp; omega)
 refine callD_W 33 Tryz.func134 rfl rfl rfl (fun o ho=>by simp [hF,lk,show o≠0 by omega,show o≠1 by omega,show o≠2 by omega,show o≠3 by omega,show o≠4 by omega,show o≠5 by omega]) ?_
 (repeat (first | (simp -implicitDefEqProofs only [ev,mixed,Nat.reduceLT,Nat.reduceAdd,Nat.reduceMul,reduceIte,Nat.reduceEqDiff,reduceCtorEq,Nat.reducePow,Nat.reduceLeDiff,Int.reduceLE,Int.reduceLT,Int.reduceToNat,Int.reduceEq,Nat.reduceBEq,itsOf,gdA,byteI,opid,lenQ,ixQ,ldH,readAt,readCells,asCell,faQ,exQ,fldQ,partA,buildQ,slQ,stH,bslH,appH,dcells,convI,elemsOf,D.one,nilS,fillD,convN,cvH,tyDelPu0,intD,slX,capX,lenX,apX,clX,cpX,dstX,lenS,srcX,g1,l1,l2,l3,l4,l5,l6,l7,l8,m1,m2,tk,hu2,hu3,or_true,true_or,Nat.sub_zero,Nat.zero_le]) | (with_reducible refine ⟨?_,?_⟩; (· first | (obtain ⟨rfl⟩:=‹Hq _ _›; with_reducible refine chk_ok ?_; kernel_rfl) | kernel_rfl)) | (with_reducible intro ops hops)))
 have hos:=del_over (R:=List.replicate (es.length - (es.length - 1)) [I.s (.string ⟨#[]⟩),I.s (.string ⟨#[]⟩),I.s (.int .u64 0)]) hi
 rw [← hos]
 exact fin_oc (o:=0) (cap:=c) rfl (by simp [upd]) (by simp [upd,hF,lk]) (by simp [upd,hF,lk]) (by simp [hF,lk]) (by simp [hF,lk])
end Go.Proofs.YtadoaljnfeoecaaGreatDoor
set_option linter.all false
namespace Go.Proofs.YtadoaljnfeoecaaGreatDoor
open Go Go.Abs Go.RowKit Go.Proofs.YtadoaljnfeoecaaGreatDoor.Ty
set_option maxHeartbeats 8000000
set_option maxRecDepth 20000
theorem wordOk2 (o d:ByteArray):[o,d].all wordOk=(wordOk o && wordOk d):=by simp
theorem es3 (l:List PurseD):∀ e∈l.map encPu,e.length=3:=by
 intro e he; simp only [List.mem_map] at he; obtain ⟨q,_,rfl⟩:=he; rfl
attribute [local simp,local go_sem] pusI sD wD
theorem burn_A (l:List PurseD) (h:RightP l) (o d:ByteArray) (n:Nat) (hn:n < 18446744073709551616) :
  PureD Tryz.prog 97 [.i (pusI l),sD o,sD d,wD n] (.tup [.i (pusI (burnP l o d n).1),intD (burnP l o d n).2]):=by
 refine hide_r fun R hR=>?_
 have c1:=word_A [o,d] (by simp)
 rw [wordOk2] at c1
 have hlen:=h.len
 have c2:=amount_A l o d (by omega) h.srt
 have e1:=clonePu_new l (by omega)
 have c3:=pfind_A l o d (by omega) h.srt
 have hlt:=amtP_lt h o d
 have hga:=getP_amt h o d
 simp only [List.map_cons,List.map_nil,sI] at c1
 unfold burnP at hR
 generalize (wordOk o && wordOk d)=B at *
 cases B
 ·simp only [Bool.not_false,if_true,Bool.false_eq_true,if_false] at hR c1
  clear c2 c3 e1 h hga hlt
  refine callD_W 58 Tryz.func97 rfl rfl rfl (fun _ _=>rfl) ?_
  exact wkl trivial
 ·simp only [Bool.not_true,Bool.false_eq_true,if_false,if_true] at hR c1
  by_cases ha:amtP l o d < n
  ·rw [if_pos ha] at hR
   have g1:((amtP l o d:Nat):Int) < (n:Int):=by omega
   generalize amtP l o d=A at *
   clear c3 e1 h hga hlt ha
   refine callD_W 58 Tryz.func97 rfl rfl rfl (fun _ _=>rfl) ?_
   exact wkl trivial
  ·rw [if_neg ha] at hR
   simp only at hR
   have g1:¬ ((amtP l o d:Nat):Int) < (n:Int):=by omega
   generalize hA:amtP l o d=A at *
   cases hg:getP l o d with
   | none =>
    rw [hg] at c3 hga
    have hA0:A=0:=by
     apply Decidable.byContradiction; intro hc
     rw [if_neg hc] at hga; cases hga
    have hres:setP l o d (A - n)=l:=by
     unfold setP putPu
     rw [if_pos (by omega),KL.put_none cmpP_ok h.srt hg]
    rw [hres] at hR
    generalize placeP l o d=j at *
    simp only [Option.isSome_none] at c3
    clear h hga hg hlt ha hA hres hA0
    refine callD_W 58 Tryz.func97 rfl rfl rfl (fun _ _=>rfl) ?_
    exact wkl trivial
   | some v =>
    rw [hg] at c3 hga
    have hA0:A≠0:=by intro hc; rw [if_pos hc] at hga; cases hga
    rw [if_neg hA0] at hga
    injection hga with hga
    subst hga
    obtain ⟨hp,hv⟩:=KL.place_lt cmpP_ok h.srt hg
    have hp':placeP l o d < l.length:=hp
    have s1:(l.map encPu)[placeP l o d]?=some (encPu ⟨o,d,A⟩):=by rw [List.getElem?_map,List.getElem?_eq_getElem hp,hv]; rfl
    have w1:IntKind.u64.wrap ((A:Int) - (n:Int))=((A - n:Nat):Int):=by rw [IntKind.wrap_u64]; omega
    simp only [encPu] at s1
    have s2:((l.map encPu).set (placeP l o d) [.s (.string o),.s (.string d),.s (.int .u64 ((A - n:Nat):Int))])[placeP l o d]?=some [.s (.string o),.s (.string d),.s (.int .u64 ((A - n:Nat):Int))]:=by
     rw [List.getElem?_set]; simp [hp']
    simp only [Option.isSome_some] at c3
    by_cases h0:A - n=0
    ·have hz:((A - n:Nat):Int)=0:=by omega
     rw [hz] at w1 s2
     have e2:=delete_Pu ((l.map encPu).set (placeP l o d) [.s (.string o),.s (.string d),.s (.int .u64 0)]) (placeP l o d) (by simpa using hp) (by simp; omega) (by
      intro e he
      rcases List.mem_or_eq_of_mem_set he with he | rfl
      ·exact es3 l e he
      ·rfl)
     have hres:setP l o d (A - n)=l.take (placeP l o d)++l.drop (placeP l o d+1):=by
      unfold setP putPu
      rw [if_pos h0,KL.put_del cmpP_ok h.srt hg]
     have he2:((l.map encPu).set (placeP l o d) [.s (.string o),.s (.string d),.s (.int .u64 0)]).take (placeP l o d)++((l.map encPu).set (placeP l o d) [.s (.string o),.s (.string d),.s (.int .u64 0)]).drop (placeP l o d+1)=(setP l o d (A - n)).map encPu:=by
      rw [hres,List.take_set_of_le (Nat.le_refl _),List.drop_set_of_lt (by omega),← List.map_take,← List.map_drop,List.map_append]
     have hln:l.length - 1=(setP l o d (A - n)).length:=by rw [hres]; simp; omega
     rw [he2] at e2
     simp only [List.length_set,List.length_map,intD,Int.natCast_add,Int.natCast_one] at e2
     rw [hln] at e2
     generalize setP l o d (A - n)=R2 at *
     generalize placeP l o d=j at *
     clear h hg hv hp hlt ha hA h0 hres he2 hA0 hln hz
     refine callD_W 58 Tryz.func97 rfl rfl rfl (fun _ _=>rfl) ?_
     exact wkl trivial
    ·have hres:(l.map encPu).set (placeP l o d) [.s (.string o),.s (.string d),.s (.int .u64 ((A - n:Nat):Int))]=(setP l o d (A - n)).map encPu:=by
      unfold setP putPu
      rw [if_neg h0,KL.put_hit cmpP_ok h.srt hg,List.set_eq_take_append_cons_drop,if_pos (by simpa using hp')]
      simp [encPu]
     have hln:l.length=(setP l o d (A - n)).length:=by
      have:=congrArg List.length hres
      simpa using this
     have g2:¬ (((A - n:Nat):Nat):Int)=0:=by omega
     rw [hres] at s2
     have tk:((setP l o d (A - n)).map encPu).take l.length=(setP l o d (A - n)).map encPu:=by rw [hln]; simp
     replace hln:=hln.symm
     generalize setP l o d (A - n)=R2 at *
     generalize placeP l o d=j at *
     generalize A - n=B at *
     clear h hg hv hp hlt ha hA h0 hA0
     refine callD_W 58 Tryz.func97 rfl rfl rfl (fun _ _=>rfl) ?_
     exact wkl trivial
end Go.Proofs.YtadoaljnfeoecaaGreatDoor
set_option linter.all false
namespace Go.Proofs.YtadoaljnfeoecaaGreatDoor
open Go Go.Abs Go.RowKit Go.Proofs.YtadoaljnfeoecaaGreatDoor.Ty
set_option maxHeartbeats 8000000
set_option maxRecDepth 20000
attribute [local simp,local go_sem] pusI sD wD
theorem mint_A (l:List PurseD) (h:RightP l) (o d:ByteArray) (n:Nat) (hn:n < 18446744073709551616) :
  PureD Tryz.prog 100 [.i (pusI l),sD o,sD d,wD n] (.tup [.i (pusI (mintP l o d n).1),intD (mintP l o d n).2]):=by
 refine hide_r fun R hR=>?_
 have c1:=word_A [o,d] (by simp)
 rw [wordOk2] at c1
 have hlen:=h.len
 have e1:=clonePu_new l (by omega)
 have c2:=pfind_A l o d (by omega) h.srt
 have c3:=supply_A l d (by omega) (fun p hp=>(h.pos p hp).2)
 have hga:=getP_amt h o d
 have has:=amt_le_sup h o d
 simp only [List.map_cons,List.map_nil,sI] at c1
 unfold mintP at hR
 generalize (wordOk o && wordOk d)=B at *
 cases B
 ·simp only [Bool.not_false,if_true,Bool.false_eq_true,if_false] at hR c1
  clear c2 c3 e1 h hga has
  refine callD_W 78 Tryz.func100 rfl rfl rfl (fun _ _=>rfl) ?_
  exact wkl trivial
 ·simp only [Bool.not_true,Bool.false_eq_true,if_false,if_true] at hR c1
  by_cases h0:n=0
  ·subst h0
   rw [if_pos rfl] at hR
   have tk:(l.map encPu).take l.length=l.map encPu:=by rw [List.take_of_length_le (by simp)]
   clear c2 c3 h hga has
   refine callD_W 78 Tryz.func100 rfl rfl rfl (fun _ _=>rfl) ?_
   exact wkl trivial
  ·rw [if_neg h0] at hR
   have g1:¬ ((n:Nat):Int)=0:=by omega
   generalize hS:supP l d=S at *
   by_cases hov:18446744073709551616≤S
   ·rw [if_pos hov,decide_eq_true hov] at c3
    rw [if_pos (by omega)] at hR
    have hadd:=add64_X 0 n 0 (by decide) hn (by decide)
    generalize (0+n+0) % 18446744073709551616=x1 at hadd
    generalize (0+n+0) / 18446744073709551616=x2 at hadd
    clear c2 h hga has hov hn h0
    refine callD_W 78 Tryz.func100 rfl rfl rfl (fun _ _=>rfl) ?_
    refine wkl ?_
    clear hR; intro hR
    repeat' (intro _)
    refine Call_dir hadd ?_
    clear hadd
    exact wkl trivial
   ·rw [if_neg hov,decide_eq_false hov] at c3
    have hadd:=add64_X S n 0 (by omega) hn (by decide)
    generalize (S+n+0) % 18446744073709551616=x1 at hadd
    generalize hx2:(S+n+0) / 18446744073709551616=x2 at hadd
    by_cases hsn:18446744073709551616≤S+n
    ·rw [if_pos hsn] at hR
     have g2:(0:Int) < ((x2:Nat):Int):=by omega
     clear c2 h hga has hov hn h0 hsn hx2
     refine callD_W 78 Tryz.func100 rfl rfl rfl (fun _ _=>rfl) ?_
     refine wkl ?_
     clear hR; intro hR
     repeat' (intro _)
     refine Call_dir hadd ?_
     clear hadd
     exact wkl trivial
    ·rw [if_neg hsn] at hR
     obtain rfl:x2=0:=by omega
     clear hx2
     generalize hA:amtP l o d=A at *
     cases hg:getP l o d with
     | none =>
      rw [hg] at c2 hga
      have hA0:A=0:=by
       apply Decidable.byContradiction; intro hc
       rw [if_neg hc] at hga; cases hga
      subst hA0
      simp only [Option.isSome_none] at c2
      by_cases h60:l.length=60
      ·have g3:((l.length:Nat):Int)=60:=by omega
       rw [if_pos ⟨rfl,h60⟩] at hR
       generalize placeP l o d=j at *
       clear h hga has hov hn h0 hsn h60 hg hA hS
       refine callD_W 78 Tryz.func100 rfl rfl rfl (fun _ _=>rfl) ?_
       refine wkl ?_
       clear hR; intro hR
       repeat' (intro _)
       refine Call_dir hadd ?_
       clear hadd
       exact wkl trivial
      ·have g3:¬ ((l.length:Nat):Int)=60:=by omega
       rw [if_neg (fun e=>h60 e.2)] at hR
       have hj:placeP l o d≤l.length:=KL.place_le cmpP_ok l _
       have e2:=insert_Pu (l.map encPu) [.s (.string o),.s (.string d),.s (.int .u64 n)] (placeP l o d) (by simpa using hj) (by simp; omega) (es3 l) rfl
       have hres:setP l o d (0+n)=l.take (placeP l o d)++⟨o,d,n⟩ :: l.drop (placeP l o d):=by
        unfold setP putPu
        rw [if_neg (by omega),KL.put_miss cmpP_ok h.srt hg,Nat.zero_add]
       have he2:(l.map encPu).take (placeP l o d)++[.s (.string o),.s (.string d),.s (.int .u64 n)] :: (l.map encPu).drop (placeP l o d)=(setP l o d (0+n)).map encPu:=by
        rw [hres,← List.map_take,← List.map_drop]; simp [encPu]
       have hln:l.length+1=(setP l o d (0+n)).length:=by rw [hres]; simp; omega
       rw [he2] at e2
       simp only [List.length_map,intD] at e2
       rw [hln] at e2
       generalize setP l o d (0+n)=R2 at *
       generalize placeP l o d=j at *
       clear h hga has hov hn h0 hsn h60 hg hA hS hln he2 hres hj
       refine callD_W 78 Tryz.func100 rfl rfl rfl (fun _ _=>rfl) ?_
       refine wkl ?_
       clear hR; intro hR
       repeat' (intro _)
       refine Call_dir hadd ?_
       clear hadd
       exact wkl trivial
     | some v =>
      rw [hg] at c2 hga
      have hA0:A≠0:=by intro hc; rw [if_pos hc] at hga; cases hga
      rw [if_neg hA0] at hga
      injection hga with hga
      subst hga
      rw [if_neg (fun e=>hA0 e.1)] at hR
      simp only [Option.isSome_some] at c2
      obtain ⟨hp,hv⟩:=KL.place_lt cmpP_ok h.srt hg
      have hp':placeP l o d < l.length:=hp
      have s1:(l.map encPu)[placeP l o d]?=some (encPu ⟨o,d,A⟩):=by rw [List.getElem?_map,List.getElem?_eq_getElem hp,hv]; rfl
      have w1:IntKind.u64.wrap ((A:Int)+(n:Int))=((A+n:Nat):Int):=by rw [IntKind.wrap_u64]; omega
      simp only [encPu] at s1
      have hres:(l.map encPu).set (placeP l o d) [.s (.string o),.s (.string d),.s (.int .u64 ((A+n:Nat):Int))]=(setP l o d (A+n)).map encPu:=by
       unfold setP putPu
       rw [if_neg (by omega),KL.put_hit cmpP_ok h.srt hg,List.set_eq_take_append_cons_drop,if_pos (by simpa using hp')]
       simp [encPu]
      have hln:l.length=(setP l o d (A+n)).length:=by
       have:=congrArg List.length hres
       simpa using this
      have tk:((setP l o d (A+n)).map encPu).take l.length=(setP l o d (A+n)).map encPu:=by rw [hln]; simp
      replace hln:=hln.symm
      generalize setP l o d (A+n)=R2 at *
      generalize placeP l o d=j at *
      generalize A+n=B at *
      clear h has hov hn h0 hsn hg hA hA0 hS hp hv
      refine callD_W 78 Tryz.func100 rfl rfl rfl (fun _ _=>rfl) ?_
      refine wkl ?_
      clear hR; intro hR
      repeat' (intro _)
      refine Call_dir hadd ?_
      clear hadd
      exact wkl trivial
theorem move_A (l:List PurseD) (h:RightP l) (o t d:ByteArray) (n:Nat) (hn:n < 18446744073709551616) :
  PureD Tryz.prog 57 [.i (pusI l),sD o,sD t,sD d,wD n] (.tup [.i (pusI (moveP l o t d n).1),intD (moveP l o t d n).2]):=by
 refine hide_r fun R hR=>?_
 have c1:=burn_A l h o d n hn
 have c2:=mint_A (burnP l o d n).1 (burn_right h o d n) t d n hn
 unfold moveP at hR
 clear h
 generalize burnP l o d n=R2 at *
 obtain ⟨m,e⟩:=R2
 simp only at *
 generalize mintP m t d n=R3 at *
 by_cases he:e=0
 ·subst he
  rw [if_pos rfl] at hR
  refine callD_W 32 Tryz.func57 rfl rfl rfl (fun _ _=>rfl) ?_
  exact wkl trivial
 ·have g1:¬ ((e:Nat):Int)=0:=by omega
  rw [if_neg he] at hR
  refine callD_W 32 Tryz.func57 rfl rfl rfl (fun _ _=>rfl) ?_
  exact wkl trivial
end Go.Proofs.YtadoaljnfeoecaaGreatDoor
set_option linter.all false
namespace Go.Proofs.YtadoaljnfeoecaaGreatDoor
open Go Go.Abs Go.RowKit Go.Proofs.YtadoaljnfeoecaaGreatDoor.Ty
set_option maxHeartbeats 4000000
end Go.Proofs.YtadoaljnfeoecaaGreatDoor
set_option linter.all false
namespace Go.Proofs.YtadoaljnfeoecaaGreatDoor
open Go Go.Abs Go.RowKit Go.Proofs.YtadoaljnfeoecaaGreatDoor.Ty
structure TranD where
 d:ByteArray
 n:Nat
 s:ByteArray
 r:ByteArray
def trD (t:TranD):D:=.agg [.i (.s (.string t.d)),.i (.s (.int .u64 t.n)),.i (.s (.string t.s)),.i (.s (.string t.r))]
end Go.Proofs.YtadoaljnfeoecaaGreatDoor
set_option linter.all false
namespace Go.Proofs.YtadoaljnfeoecaaGreatDoor
open Go Go.Abs
def mkOf (ch:Int):ByteArray:=⟨(Lib.itoa ch++[47]).toArray⟩
def safeOf (ch:Int):ByteArray:=⟨([35]++Lib.itoa ch).toArray⟩
def hasP (s p:ByteArray):Bool:=decide (p.size≤s.size) && (s.extract 0 p.size == p)
def cutP (s p:ByteArray):ByteArray:=s.extract p.size s.size
def leaveP (l:List PurseD) (ch:Int) (t:TranD):List PurseD × Nat:=if hasP t.d (mkOf ch)=true then burnP l t.s t.d t.n else moveP l t.s (safeOf ch) t.d t.n
def backP (l:List PurseD) (ch:Int) (t:TranD):List PurseD × Nat:=if hasP t.d (mkOf ch)=true then mintP l t.s t.d t.n else moveP l (safeOf ch) t.s t.d t.n
def comeP (l:List PurseD) (ch other:Int) (t:TranD):List PurseD × Nat:=if hasP t.d (mkOf other)=true then moveP l (safeOf ch) t.r (cutP t.d (mkOf other)) t.n else mintP l t.r (mkOf ch++t.d) t.n
theorem hasP_app (p d:ByteArray):hasP (p++d) p=true:=by
 have h1:(p++d).size=p.size+d.size:=by simp
 have h2:(p++d).extract 0 p.size=p:=by
  apply ByteArray.ext
  rw [ByteArray.data_extract,ByteArray.data_append]
  show (p.data++d.data).extract 0 p.data.size=p.data
  simp
 rw [hasP,h1,h2,beqS]
 simp
theorem leave_right {l:List PurseD} (h:RightP l) (ch:Int) (t:TranD):RightP (leaveP l ch t).1:=by
 unfold leaveP
 split
 ·exact burn_right h ..
 ·exact move_right h ..
theorem back_right {l:List PurseD} (h:RightP l) (ch:Int) (t:TranD):RightP (backP l ch t).1:=by
 unfold backP
 split
 ·exact mint_right h ..
 ·exact move_right h ..
theorem come_right {l:List PurseD} (h:RightP l) (ch other:Int) (t:TranD):RightP (comeP l ch other t).1:=by
 unfold comeP
 split
 ·exact move_right h ..
 ·exact mint_right h ..
end Go.Proofs.YtadoaljnfeoecaaGreatDoor
set_option linter.all false
namespace Go.Proofs.YtadoaljnfeoecaaGreatDoor
open Go Go.Abs Go.RowKit Go.Proofs.YtadoaljnfeoecaaGreatDoor.Ty
theorem tyWRead0:(type_of% @Ty.T3)∧(type_of% @Ty.T4)∧(type_of% @Ty.T5)∧(type_of% @Ty.T29)∧(type_of% @Ty.T210):=⟨@Ty.T3,@Ty.T4,@Ty.T5,@Ty.T29,@Ty.T210⟩
theorem tyWRead1:(type_of% @Ty.T3)∧(type_of% @Ty.T4)∧(type_of% @Ty.T5)∧(type_of% @Ty.T29)∧(type_of% @Ty.T47)∧(type_of% @Ty.T208)∧(type_of% @Ty.T210):=⟨@Ty.T3,@Ty.T4,@Ty.T5,@Ty.T29,@Ty.T47,@Ty.T208,@Ty.T210⟩
theorem tyWRead2:(type_of% @Ty.T1)∧(type_of% @Ty.T3)∧(type_of% @Ty.T4)∧(type_of% @Ty.T5)∧(type_of% @Ty.T29)∧(type_of% @Ty.T47)∧(type_of% @Ty.T166)∧(type_of% @Ty.T170)∧(type_of% @Ty.T208)∧(type_of% @Ty.T210):=⟨@Ty.T1,@Ty.T3,@Ty.T4,@Ty.T5,@Ty.T29,@Ty.T47,@Ty.T166,@Ty.T170,@Ty.T208,@Ty.T210⟩
def rdO (b:List UInt8) (bad:Bool):Ob:=.box [.i (.sl (b.map byteI)),.i (.s (.bool bad))]
def byteR (c:UInt8):D:=.i (.s (.int .u8 (c.toNat:Int)))
set_option maxHeartbeats 1000000
theorem rbyte_no (bad:Bool):CallD Tryz.prog 126 [.pt 0 0 0 0] (hF [(0,rdO [] bad)]) (byteR 0) (hOf (hF [(0,rdO [] bad)]) [(0,rdO [] true)]):=by
 refine callD_W 28 Tryz.func126 rfl rfl rfl (fun o ho=>by simp [hF,lk,show o≠0 by omega]) ?_
 refine gx (an tyWRead0 @rdO.eq_1) ?_
 refine fin_retD _ [] [] rfl ?_ ?_ rfl ?_ rfl
 ·simp [cv,cv1,cv0,upd,byteR]
 ·simp [objOk,srcR,lk,cvO,cvL,cv0,frz,upd,hF,D.one]
 ·simp
theorem rbyte_some (c:UInt8) (b:List UInt8) (bad:Bool) (hb:b.length≤1048576):CallD Tryz.prog 126 [.pt 0 0 0 0] (hF [(0,rdO (c :: b) bad)]) (byteR c) (hOf (hF [(0,rdO (c :: b) bad)]) [(0,rdO b bad)]):=by
 refine callD_W 28 Tryz.func126 rfl rfl rfl (fun o ho=>by simp [hF,lk,show o≠0 by omega]) ?_
 have e1:(((b.length+1:Nat):Int)=0)=False:=by simp; omega
 refine gx (an (an tyWRead0 @rdO.eq_1) e1) ?_
 refine fin_retD _ [] [] rfl ?_ ?_ rfl ?_ rfl
 ·simp [cv,cv1,cv0,upd,byteR]
 ·simp [objOk,srcR,lk,cvO,cvL,cv0,frz,upd,hF,D.one]
 ·simp
theorem nat_or_add {n i:Nat} (a:Nat) (h:n < 128 ^ i):n ||| (a * 128 ^ i)=n+a * 128 ^ i:=by
 have e:(128:Nat) ^ i=2 ^ (7 * i):=by rw [Nat.pow_mul]
 rw [e] at h ⊢
 rw [Nat.or_comm,Nat.mul_comm,← Nat.two_pow_add_eq_or_of_lt h,Nat.add_comm]
theorem rn_facts (c:UInt8) (i a:Nat) (h2:a < 128 ^ i) (h3:i≤9) (h9:i=9→c.toNat≤1) :
  bits .and .u8 (c.toNat:Int) 127=((c.toNat % 128:Nat):Int)∧IntKind.u64.wrap ((c.toNat % 128:Nat):Int)=((c.toNat % 128:Nat):Int) ∧
  IntKind.u64.wrap (((c.toNat % 128:Nat):Int) * 2 ^ (min (7 * i) (IntKind.bits .u64)))=((c.toNat % 128 * 128 ^ i:Nat):Int) ∧
  bits .or .u64 (a:Int) ((c.toNat % 128 * 128 ^ i:Nat):Int)=((a+c.toNat % 128 * 128 ^ i:Nat):Int):=by
 have hc:=c.toNat_lt
 have hlt:c.toNat % 128 * 128 ^ i < 18446744073709551616:=by
  by_cases e9:i=9
  ·have:c.toNat % 128≤1:=by have:=h9 e9; omega
   subst e9
   have:=Nat.mul_le_mul_right (128 ^ 9) this
   omega
  ·have:=Nat.mul_le_mul (show c.toNat % 128≤127 by omega) (Nat.pow_le_pow_right (show 1≤128 by decide) (show i≤8 by omega))
   omega
 refine ⟨?_,?_,?_,?_⟩
 ·have:=(bits_nat .u8 8 (by decide) wraps_u8 c.toNat 127 hc (by decide)).1
  rw [show ((127:Nat):Int)=127 from rfl] at this
  rw [this,show (127:Nat)=2 ^ 7 - 1 from rfl,Nat.and_two_pow_sub_one_eq_mod]
 ·rw [IntKind.wrap_u64]; omega
 ·rw [show min (7 * i) (IntKind.bits .u64)=7 * i by simp [IntKind.bits]; omega,Int.pow_mul]
  rw [IntKind.wrap_u64]
  have e:((c.toNat % 128:Nat):Int) * (2 ^ 7) ^ i=((c.toNat % 128 * 128 ^ i:Nat):Int):=by simp
  rw [e]; omega
 ·have ha:a < 2 ^ 64:=by
   have:=Nat.pow_le_pow_right (show 1≤128 by decide) h3
   have:(128:Nat) ^ 9=9223372036854775808:=by decide
   omega
  have:=(bits_nat .u64 64 (by decide) (fun n g0 g1=>by rw [IntKind.wrap_u64]; omega) a (c.toNat % 128 * 128 ^ i) ha hlt).2
  rw [this,nat_or_add _ h2]
theorem rnumber_some (b r:List UInt8) (v:Nat) (hb:b.length≤1048576) (h:takeN 0 0 b=some (v,r)):CallD Tryz.prog 125 [.pt 0 0 0 0] (hF [(0,rdO b false)]) (.i (.s (.int .u64 v))) (hOf (hF [(0,rdO b false)]) [(0,rdO r false)]):=by
 refine callD_W 41 Tryz.func125 rfl rfl rfl (fun o ho=>by simp [hF,lk,show o≠0 by omega]) ?_
 refine gx (an tyWRead1 @rdO.eq_1) ?_
 refine W_loop (ι:={ p:List UInt8 × Nat × Nat // takeN p.2.1 p.2.2 p.1=some (v,r)∧p.2.2 < 128 ^ p.2.1∧p.2.1≤9∧p.1.length≤b.length })
  (fun p=>stOf [(0,.pt 0 0 0 0),(3,.i (.s (.int .u64 (p.1.2.2:Nat)))),(4,.i (.s (.int .i64 ((7 * p.1.2.1:Nat):Int))))] [(0,rdO p.1.1 false)]) (fun p=>p.1.1.length) ⟨(b,0,0),h,by simp,by simp,by simp⟩ ?_ ?_
 ·refine le_stOf _ _ [] [] ?_ ?_ rfl rfl
  ·simp [cv,cv1,cv0,upd,lk,srcOf]
  ·simp [objOk,srcOf,lk,cvO,cvL,cv0,frz,hF,rdO,D.one]
 ·rintro ⟨⟨s,i,a⟩,h1,h2,h3,h4⟩
  simp only at h1 h2 h3 h4
  rw [stOf_eq]
  cases s with
  | nil=>simp [takeN] at h1
  | cons c s =>
  refine gx (an tyWRead1 @rdO.eq_1) ?_
  refine Call_box (rbyte_some c s false (by simp at h4; omega)) rfl rfl ?_
  rw [takeN] at h1
  split at h1
  ·cases h1
  ·rename_i hno
   have hc:=c.toNat_lt
   have c0:(c=0)↔c.toNat=0:=by rw [← UInt8.toNat_inj]; rfl
   obtain ⟨w1,w2,w3,w4⟩:=rn_facts c i a h2 h3 (by rintro rfl; simp at hno; omega)
   cases g1:decide (0 < ((7 * i:Nat):Int)) <;> cases g2:decide ((c.toNat:Int)=0) <;> cases g3:decide (((7 * i:Nat):Int)=63) <;> cases g4:decide (1 < (c.toNat:Int)) <;>
    first
    | (exfalso; simp only [decide_eq_true_eq,decide_eq_false_iff_not] at g1 g2 g3 g4; rw [c0] at hno; omega)
    | skip
   all_goals refine gx (an (an (an (an (an (an (an (an (an (an tyWRead1 @rdO.eq_1) @byteR.eq_1) g1) g2) g3) g4) w1) w2) w3) w4) ?_
   all_goals
    refine Wc_split (fun h=>?_) (fun h=>?_)
    ·have h5:c.toNat < 128:=by simp at h; omega
     rw [if_pos h5] at h1
     simp only [Option.some.injEq,Prod.mk.injEq] at h1
     obtain ⟨rfl,rfl⟩:=h1
     refine gx tyWRead1 ?_
     refine fin_retD _ [] [] rfl ?_ ?_ rfl ?_ rfl
     ·simp [cv,cv1,cv0,upd,Nat.mod_eq_of_lt h5]
     ·simp [objOk,srcR,lk,cvO,cvL,cv0,frz,upd,hF,D.one]
     ·simp
    ·have h5:¬ c.toNat < 128:=by simp at h; omega
     rw [if_neg h5] at h1
     have h6:c.toNat % 128=c.toNat - 128:=by omega
     rw [← h6] at h1
     have h9:i≠9:=by rintro rfl; simp at hno; omega
     have w5:IntKind.i64.wrap (((7 * i:Nat):Int)+7)=((7 * (i+1):Nat):Int):=by rw [wrap64 (by omega) (by omega)]; omega
     refine gx (an tyWRead1 w5) ?_
     refine ⟨⟨(s,i+1,a+c.toNat % 128 * 128 ^ i),h1,?_,by simp; omega,by simp at h4 ⊢; omega⟩,le_stOf _ _ [] [] ?_ ?_ rfl rfl,?_⟩
     ·simp only [Nat.pow_succ]
      have:=Nat.mul_le_mul_right (128 ^ i) (show c.toNat % 128≤127 by omega)
      omega
     ·simp [cv,cv1,cv0,upd,lk,srcOf]
     ·simp [objOk,srcOf,lk,cvO,cvL,cv0,frz,hF,hO,rdO,D.one,upd]
     ·simp
def failN:Nat→List UInt8→List UInt8
 | _,[]=>[]
 | i,c :: s=>if (0 < i∧c=0)∨(i=9∧1 < c.toNat) then s else failN (i+1) s
theorem rnumber_no (b:List UInt8) (bad:Bool) (hbad:bad=true→b=[]) (hb:b.length≤1048576) (h:takeN 0 0 b=none):CallD Tryz.prog 125 [.pt 0 0 0 0] (hF [(0,rdO b bad)]) (.i (.s (.int .u64 0))) (hOf (hF [(0,rdO b bad)]) [(0,rdO (failN 0 b) true)]):=by
 generalize hq:failN 0 b=q
 refine callD_W 41 Tryz.func125 rfl rfl rfl (fun o ho=>by simp [hF,lk,show o≠0 by omega]) ?_
 refine gx (an tyWRead1 @rdO.eq_1) ?_
 refine W_loop (ι:={ p:List UInt8 × Nat × Nat // takeN p.2.1 p.2.2 p.1=none∧failN p.2.1 p.1=q∧p.2.2 < 128 ^ p.2.1∧p.2.1≤9∧p.1.length≤b.length∧(bad=true→p.1=[]) })
  (fun p=>stOf [(0,.pt 0 0 0 0),(3,.i (.s (.int .u64 (p.1.2.2:Nat)))),(4,.i (.s (.int .i64 ((7 * p.1.2.1:Nat):Int))))] [(0,rdO p.1.1 bad)]) (fun p=>p.1.1.length) ⟨(b,0,0),h,hq,by simp,by simp,by simp,hbad⟩ ?_ ?_
 ·refine le_stOf _ _ [] [] ?_ ?_ rfl rfl
  ·simp [cv,cv1,cv0,upd,lk,srcOf]
  ·simp [objOk,srcOf,lk,cvO,cvL,cv0,frz,hF,rdO,D.one]
 ·rintro ⟨⟨s,i,a⟩,h1,h0,h2,h3,h4,hbd⟩
  simp only at h1 h0 h2 h3 h4 hbd
  rw [stOf_eq]
  cases s with
  | nil =>
   have h0:q=[]:=by rw [← h0]; rfl
   subst h0
   refine gx (an tyWRead1 @rdO.eq_1) ?_
   refine Call_box (rbyte_no bad) rfl rfl ?_
   cases g1:decide (0 < ((7 * i:Nat):Int)) <;> cases g3:decide (((7 * i:Nat):Int)=63)
   all_goals
    refine gx (an (an (an (an (an tyWRead1 @rdO.eq_1) @byteR.eq_1) g1) g3) @UInt8.toNat_zero) ?_
    refine fin_retD _ [] [] rfl ?_ ?_ rfl ?_ rfl
    ·simp [cv,cv1,cv0,upd]
    ·simp [objOk,srcR,lk,cvO,cvL,cv0,frz,upd,hF,D.one]
    ·simp
  | cons c s =>
  obtain rfl:bad=false:=by cases bad; rfl; simp at hbd
  refine gx (an tyWRead1 @rdO.eq_1) ?_
  refine Call_box (rbyte_some c s false (by simp at h4; omega)) rfl rfl ?_
  have hc:=c.toNat_lt
  have c0:(c=0)↔c.toNat=0:=by rw [← UInt8.toNat_inj]; rfl
  rw [takeN] at h1
  rw [failN] at h0
  split at h1
  ·rename_i hyes
   rw [if_pos hyes] at h0
   subst h0
   cases g1:decide (0 < ((7 * i:Nat):Int)) <;> cases g2:decide ((c.toNat:Int)=0) <;> cases g3:decide (((7 * i:Nat):Int)=63) <;> cases g4:decide (1 < (c.toNat:Int)) <;>
    first
    | (exfalso; simp only [decide_eq_true_eq,decide_eq_false_iff_not] at g1 g2 g3 g4; rw [c0] at hyes; omega)
    | skip
   all_goals
    refine gx (an (an (an (an (an (an tyWRead1 @rdO.eq_1) @byteR.eq_1) g1) g2) g3) g4) ?_
    refine fin_retD _ [] [] rfl ?_ ?_ rfl ?_ rfl
    ·simp [cv,cv1,cv0,upd]
    ·simp [objOk,srcR,lk,cvO,cvL,cv0,frz,upd,hF,D.one]
    ·simp
  ·rename_i hno
   rw [if_neg hno] at h0
   split at h1
   ·cases h1
   ·rename_i h5
    have h9:i≠9:=by rintro rfl; simp at hno; omega
    obtain ⟨w1,w2,w3,w4⟩:=rn_facts c i a h2 h3 (by omega)
    have h6:c.toNat % 128=c.toNat - 128:=by omega
    rw [← h6] at h1
    have w5:IntKind.i64.wrap (((7 * i:Nat):Int)+7)=((7 * (i+1):Nat):Int):=by rw [wrap64 (by omega) (by omega)]; omega
    have h7:decide ((c.toNat:Int) < 128)=false:=by simp; omega
    cases g1:decide (0 < ((7 * i:Nat):Int)) <;> cases g2:decide ((c.toNat:Int)=0) <;> cases g3:decide (((7 * i:Nat):Int)=63) <;> cases g4:decide (1 < (c.toNat:Int)) <;>
     first
     | (exfalso; simp only [decide_eq_true_eq,decide_eq_false_iff_not] at g1 g2 g3 g4; rw [c0] at hno; omega)
     | skip
    all_goals
     refine gx (an (an (an (an (an (an (an (an (an (an (an (an tyWRead1 @rdO.eq_1) @byteR.eq_1) g1) g2) g3) g4) w1) w2) w3) w4) w5) @h7) ?_
     refine ⟨⟨(s,i+1,a+c.toNat % 128 * 128 ^ i),h1,h0,?_,by simp; omega,by simp at h4 ⊢; omega,by simp⟩,le_stOf _ _ [] [] ?_ ?_ rfl rfl,?_⟩
     ·simp only [Nat.pow_succ]
      have:=Nat.mul_le_mul_right (128 ^ i) (show c.toNat % 128≤127 by omega)
      omega
     ·simp [cv,cv1,cv0,upd,lk,srcOf]
     ·simp [objOk,srcOf,lk,cvO,cvL,cv0,frz,hF,hO,rdO,D.one,upd]
     ·simp
def pairR (l:List PieceD) (e:Nat):D:=.tup [.i (.sl (l.map encP)),.i (.s (.int .i64 (e:Int)))]
theorem uni_encP (l:List PieceD):uni 3 (l.map encP)=true:=uni_map (s:=3) (f:=encP) (fun _=>rfl) l
theorem read_A (b:List UInt8) (hb:b.length≤1048576):PureD Tryz.prog 87 [.i (bI b)] (pairR (readF b).1 (readF b).2):=by
 refine callD_W 85 Tryz.func87 rfl rfl rfl (fun _ _=>rfl) ?_
 refine gx (an tyWRead2 @bI.eq_1) ?_
 refine Wc_split (fun h=>?_) (fun h=>?_)
 ·have h1:20000 < b.length:=by simp at h; omega
  refine gx tyWRead2 ?_
  refine fin_tt [] rfl ?_
  simp [cv,cvT,cv1,cv0,upd,readF,h1,pairR]
 ·have h1:¬ 20000 < b.length:=by simp at h; omega
  clear h
  rw [readF,if_neg h1]
  refine gx tyWRead2 ?_
  cases h2:takeN 0 0 b with
  | none =>
   refine Call_box (rnumber_no b false (by simp) hb h2) (by simp [upd,rdO]) rfl ?_
   refine gx tyWRead2 ?_
   refine fin_tt [] rfl ?_
   simp [cv,cvT,cv1,cv0,upd,pairR]
  | some p =>
   obtain ⟨n,r⟩:=p
   have hrl:r.length≤b.length:=by
    have:=(takeN_vnum h2).1; rw [this]; simp
   refine Call_box (rnumber_some b r n hb h2) (by simp [upd,rdO]) rfl ?_
   refine gx tyWRead2 ?_
   refine Wc_split (fun h=>?_) (fun h=>?_)
   ·have h3:200 < n:=by simp at h; omega
    refine gx tyWRead2 ?_
    refine fin_tt [] rfl ?_
    simp [cv,cvT,cv1,cv0,upd,pairR,h3]
   ·have h3:¬ 200 < n:=by simp at h; omega
    clear h
    simp only [if_neg h3]
    refine gx tyWRead2 ?_
    refine W_loop (ι:={ p:List PieceD × Nat × List UInt8 // p.2.1≤n∧p.1.length=p.2.1∧p.2.2.length≤b.length∧readGo n r=(readGo (n - p.2.1) p.2.2).map (p.1++·) })
     (fun p=>stOf [(4,.pt 101 0 0 0),(6,.os 100 3 0 p.1.1.length),(26,.i (.s (.int .u64 n))),(27,.i (.s (.int .u64 (p.1.2.1:Nat))))] [(100,.arr 3 (p.1.1.map encP)),(101,rdO p.1.2.2 false)]) (fun p=>n - p.1.2.1) ⟨([],0,r),by simp,rfl,hrl,by simp⟩ ?_ ?_
    ·refine le_stOf _ _ [] [(101,1770)] ?_ ?_ rfl rfl
     ·simp [cv,cv1,cv0,upd,lk,srcOf]
     ·simp [objOk,srcOf,lk,cvO,cvL,cv0,frz,upd,D.one,rdO]
    ·rintro ⟨⟨acc,i,s⟩,hi,hal,hs,hq⟩
     simp only at hi hal hs hq
     rw [stOf_eq]
     refine gx (an tyWRead2 @rdO.eq_1) ?_
     refine Wc_split (fun h=>?_) (fun h=>?_)
     ·have h4:i < n:=by simp at h; omega
      clear h
      have hni:n - i=(n - (i+1))+1:=by omega
      rw [hni] at hq
      refine gx tyWRead2 ?_
      cases s with
      | nil =>
       refine Call_box (rbyte_no false) (by simp [upd,hO,lk,rdO]) rfl ?_
       refine gx (an (an tyWRead2 @byteR.eq_1) @UInt8.toNat_zero) ?_
       refine Call_box (rnumber_no [] true (by simp) (by simp) rfl) (by simp [upd,hO,lk,rdO]) rfl ?_
       refine gx (an (an (an tyWRead2 @byteR.eq_1) @UInt8.toNat_zero) @rdO.eq_1) ?_
       refine fin_tt [] rfl ?_
       have hR:readGo n r=none:=by rw [hq]; rfl
       simp [cv,cvT,cv1,cv0,upd,pairR,hR]
      | cons c s =>
       have hs':s.length≤1048576:=by simp at hs; omega
       refine Call_box (rbyte_some c s false hs') (by simp [upd,hO,lk,rdO]) rfl ?_
       have c0:(c=0)↔c.toNat=0:=by rw [← UInt8.toNat_inj]; rfl
       have c1:(c=1)↔c.toNat=1:=by rw [← UInt8.toNat_inj]; rfl
       have e3:acc.length+1≤140737488355328:=by omega
       have e3':(acc.length+1) * 40≤140737488355328:=by omega
       have w5:IntKind.u64.wrap ((i:Int)+1)=((i+1:Nat):Int):=by rw [IntKind.wrap_u64]; omega
       rw [readGo] at hq
       refine gx (an tyWRead2 @byteR.eq_1) ?_
       refine Wc_split (fun h=>?_) (fun h=>?_)
       ·have h5:c=0:=by rw [c0]; simp at h; omega
        clear h
        refine gx tyWRead2 ?_
        cases h6:takeN 0 0 s with
        | none =>
         refine Call_box (rnumber_no s false (by simp) hs' h6) (by simp [upd,hO,lk,rdO]) rfl ?_
         refine gx tyWRead2 ?_
         have hR:readGo n r=none:=by rw [hq,h6]; rfl
         refine fin_tt [] rfl ?_
         simp [cv,cvT,cv1,cv0,upd,pairR,hR]
        | some p =>
         obtain ⟨v,s'⟩:=p
         simp only [h6,h5,if_true] at hq
         refine Call_box (rnumber_some s s' v hs' h6) (by simp [upd,hO,lk,rdO]) rfl ?_
         refine gx (an (an (an (an tyWRead2 e3) e3') @uni_encP) w5) ?_
         refine ⟨⟨(acc++[⟨1,v,[]⟩],i+1,s'),h4,by simp [hal],?_,?_⟩,le_stOf _ _ [] [(100,7147),(101,101)] ?_ ?_ rfl rfl,?_⟩
         ·have:=(takeN_vnum h6).1
          have h7:s'.length≤s.length:=by rw [this]; simp
          simp at hs ⊢; omega
         ·rw [hq]; simp [Option.map_map]; congr
         ·simp [cv,cv1,cv0,upd,lk,srcOf]
         ·simp [objOk,srcOf,lk,cvO,cvL,cv0,frz,upd,D.one,hO,rdO,encP,bI]
         ·simp; omega
       ·have h5:c≠0:=by rw [Ne,c0]; simp at h; omega
        clear h
        refine gx tyWRead2 ?_
        refine Wc_split (fun h=>?_) (fun h=>?_)
        ·have h5':c=1:=by rw [c1]; simp at h; omega
         clear h
         refine gx tyWRead2 ?_
         cases h6:takeN 0 0 s with
         | none =>
          refine Call_box (rnumber_no s false (by simp) hs' h6) (by simp [upd,hO,lk,rdO]) rfl ?_
          have hR:readGo n r=none:=by rw [hq,h6]; rfl
          have e7:((0:Int)≤((failN 0 s).length:Int))=True:=by simp
          have e8:decide (((failN 0 s).length:Int) < 0)=false:=by simp
          have e9:IntKind.u64.wrap ((failN 0 s).length:Int)=((failN 0 s).length:Int):=by
           have:∀ (i:Nat) (s:List UInt8),(failN i s).length≤s.length:=by
            intro i s
            induction s generalizing i with
            | nil=>simp [failN]
            | cons a t ih=>simp only [failN]; split <;> simp; have:=ih (i+1); omega
           have:=this 0 s
           rw [IntKind.wrap_u64]; omega
          refine gx (an (an (an (an tyWRead2 e7) e8) e9) @uni_byteI) ?_
          refine fin_tt [] rfl ?_
          simp [cv,cvT,cv1,cv0,upd,pairR,hR]
         | some p =>
          obtain ⟨v,s'⟩:=p
          have h7:s'.length≤s.length:=by have:=(takeN_vnum h6).1; rw [this]; simp
          simp only [h6,h5',if_true] at hq
          refine Call_box (rnumber_some s s' v hs' h6) (by simp [upd,hO,lk,rdO]) rfl ?_
          have e9:IntKind.u64.wrap (s'.length:Int)=(s'.length:Int):=by rw [IntKind.wrap_u64]; omega
          refine gx (an tyWRead2 e9) ?_
          refine Wc_split (fun h=>?_) (fun h=>?_)
          ·have h8:s'.length < v:=by simp at h; omega
           have hR:readGo n r=none:=by rw [hq]; simp [h8]
           refine gx tyWRead2 ?_
           refine fin_tt [] rfl ?_
           simp [cv,cvT,cv1,cv0,upd,pairR,hR]
          ·have h8:¬ s'.length < v:=by simp at h; omega
           rw [if_neg h8] at hq
           have e10:((v:Int)≤(s'.length:Int))=True:=by simp; omega
           have e11:(List.map byteI (List.take v s')).length=v:=by simp; omega
           have e12:v≤140737488355328:=by omega
           refine gx (an (an (an (an (an (an (an (an (an (an tyWRead2 e3) e3') @uni_encP) @uni_byteI) w5) @e10) @mtk) @mdr) @e11) @e12) ?_
           refine ⟨⟨(acc++[⟨2,0,s'.take v⟩],i+1,s'.drop v),h4,by simp [hal],?_,?_⟩,le_stOf _ _ [] [(100,7147),(101,101)] ?_ ?_ rfl rfl,?_⟩
           ·simp at hs ⊢; omega
           ·rw [hq]; simp [Option.map_map]; congr
           ·simp [cv,cv1,cv0,upd,lk,srcOf]
           ·simp [objOk,srcOf,lk,cvO,cvL,cv0,frz,upd,D.one,hO,rdO,encP,bI,List.take_take]
           ·simp; omega
        ·have h5':c≠1:=by rw [Ne,c1]; simp at h; omega
         clear h
         refine gx tyWRead2 ?_
         have hR:readGo n r=none:=by rw [hq]; cases takeN 0 0 s <;> simp [h5,h5']
         refine fin_tt [] rfl ?_
         simp [cv,cvT,cv1,cv0,upd,pairR,hR]
     ·have h4:i=n:=by simp at h; omega
      subst h4
      refine gx tyWRead2 ?_
      have hz:i - i=0:=by omega
      rw [hz,readGo] at hq
      refine Wc_split (fun h=>?_) (fun h=>?_)
      ·have hR:readGo i r=none:=by rw [hq,if_neg (by rintro rfl; simp at h)]; rfl
       refine gx tyWRead2 ?_
       refine fin_tt [] rfl ?_
       simp [cv,cvT,cv1,cv0,upd,pairR,hR]
      ·have hR:readGo i r=some acc:=by rw [hq,if_pos (by cases s <;> simp at h ⊢)]; simp
       refine gx tyWRead2 ?_
       refine fin_tt [100] rfl ?_
       simp [cv,cvT,cv1,cv0,upd,pairR,hR,hO,lk,elemsOf,List.take_of_length_le]
end Go.Proofs.YtadoaljnfeoecaaGreatDoor
set_option linter.all false
namespace Go.Proofs.YtadoaljnfeoecaaGreatDoor
open Go Go.Abs Go.RowKit Go.Proofs.YtadoaljnfeoecaaGreatDoor.Ty
def rawP (s:ByteArray):PieceD:=⟨2,0,unB s⟩
def pcsT (t:TranD):List PieceD:=[rawP t.d,⟨1,t.n,[]⟩,rawP t.s,rawP t.r]
def bytesT (t:TranD):List UInt8:=(writeF (pcsT t)).1
def zeroT:TranD:=⟨⟨#[]⟩,0,⟨#[]⟩,⟨#[]⟩⟩
def wordsE (l:List ByteArray):Int:=if l.all wordOk then 0 else 4
def checkT (t:TranD):TranD × Int:=if wordsE [t.d,t.s,t.r]=0 then (if t.n=0 then (zeroT,3) else (t,0)) else (zeroT,wordsE [t.d,t.s,t.r])
def formT:List PieceD→TranD × Int
 | [a,b,c,d]=>if a.kind=2∧b.kind=1∧c.kind=2∧d.kind=2 then checkT ⟨strB a.b,b.n,strB c.b,strB d.b⟩ else (zeroT,2)
 | _=>(zeroT,2)
def parseT (b:List UInt8):TranD × Int:=if (readF b).2=0 then formT (readF b).1 else (zeroT,(readF b).2)
theorem formT_no {l:List PieceD} (h:l.length≠4):formT l=(zeroT,2):=by
 unfold formT
 split
 ·simp at h
 ·rfl
set_option maxHeartbeats 4000000
theorem raw_A (s:ByteArray) (hs:s.size≤140737488355328):PureD Tryz.prog 89 [sD s] (.agg [.i (.s (.int .i64 2)),.i (.s (.int .u64 0)),.i (bI (unB s))]):=by
 refine hide_r fun R hR=>?_
 refine callD_W 6 Tryz.func89 rfl rfl rfl (fun _ _=>rfl) ?_
 (repeat' (first | (simp -implicitDefEqProofs only [go_sem,Nat.reduceLT,Nat.reduceAdd,Nat.reduceMul,reduceIte,Nat.reduceEqDiff,reduceCtorEq,Nat.reducePow,Nat.reduceLeDiff,Int.reduceLE,Int.reduceLT,Int.reduceToNat,Int.reduceEq,Nat.reduceBEq,sD,strI_un, *]) | (with_reducible refine ⟨?_,?_⟩; (· first | (obtain ⟨rfl⟩:=‹Hq _ _›; with_reducible refine chk_ok ?_; kernel_rfl) | kernel_rfl)) | (with_reducible intro ops hops) | (simp -implicitDefEqProofs (disch:=omega) only [wr64,wru64,get_lt]) | ((first | refine Wc_split (fun hg=>?_) (fun hg=>?_) | refine RoG_split (fun hg=>?_) (fun hg=>?_) | refine RdG_split (fun hg=>?_) (fun hg=>?_)) <;> (try simp only [nrm] at hg) <;> (try simp only [hg,lgc,reduceIte,reduceCtorEq] at hR) <;> (try (exfalso; omega))) | ((try simp only [*,lgc,reduceIte,reduceCtorEq] at hR); obtain ⟨rfl⟩:=hR; refine fin_q (rs:=[.cell 2 170]) rfl ?_; (try simp only [go_sem,Nat.reduceLT,Nat.reduceAdd,Nat.reduceMul,reduceIte,Nat.reduceEqDiff,reduceCtorEq,Nat.reducePow,Nat.reduceLeDiff,Int.reduceLE,Int.reduceLT,Int.reduceToNat,Int.reduceEq,Nat.reduceBEq,sD,strI_un]); (simp [sD,strI_un]; done))))
theorem bytes_A (t:TranD) (hn:t.n < 18446744073709551616) (h1:t.d.size≤1048576) (h2:t.s.size≤1048576) (h3:t.r.size≤1048576):PureD Tryz.prog 51 [trD t] (.i (bI (bytesT t))):=by
 have r1:=raw_A t.d (by omega)
 have r2:=raw_A t.s (by omega)
 have r3:=raw_A t.r (by omega)
 have hw:=write_A (pcsT t) (by simp [pcsT]) (by intro p hp; simp only [pcsT,rawP,List.mem_cons,List.not_mem_nil,or_false] at hp; rcases hp with rfl | rfl | rfl | rfl <;> simp only [unB_len,List.length_nil] <;> omega)
  (by intro p hp; simp only [pcsT,rawP,List.mem_cons,List.not_mem_nil,or_false] at hp; rcases hp with rfl | rfl | rfl | rfl <;> first | exact hn | (simp only; omega))
 unfold bytesT
 generalize writeF (pcsT t)=W at *
 simp only [pcsT,rawP,List.map_cons,List.map_nil,encP] at hw
 refine hide_r fun R hR=>?_
 refine callD_W 27 Tryz.func51 rfl rfl rfl (fun _ _=>rfl) ?_
 (repeat' (first | (simp -implicitDefEqProofs only [go_sem,Nat.reduceLT,Nat.reduceAdd,Nat.reduceMul,reduceIte,Nat.reduceEqDiff,reduceCtorEq,Nat.reducePow,Nat.reduceLeDiff,Int.reduceLE,Int.reduceLT,Int.reduceToNat,Int.reduceEq,Nat.reduceBEq,trD,bI,sD,faultD, *]) | (with_reducible refine ⟨?_,?_⟩; (· first | (obtain ⟨rfl⟩:=‹Hq _ _›; with_reducible refine chk_ok ?_; kernel_rfl) | kernel_rfl)) | (with_reducible intro ops hops) | (simp -implicitDefEqProofs (disch:=omega) only [wr64,wru64,get_lt]) | ((with_reducible refine call_id ?_); (first | ((with_reducible refine Call_fz (r1) ?_ ?_); (· (simp [trD,bI,sD,faultD,and_assoc]; done))) | ((with_reducible refine Call_fz (r2) ?_ ?_); (· (simp [trD,bI,sD,faultD,and_assoc]; done))) | ((with_reducible refine Call_fz (r3) ?_ ?_); (· (simp [trD,bI,sD,faultD,and_assoc]; done))) | ((with_reducible refine Call_fl (hw) ?_ ?_ ?_); (· (simp [trD,bI,sD,faultD]; done)); (· (simp [trD,bI,sD,faultD,and_assoc]; done))) | ((with_reducible refine Call_fz (hw) ?_ ?_); (· (simp [trD,bI,sD,faultD,and_assoc]; done))))) | ((with_reducible refine callF_id ?_); (first | ((with_reducible refine CallF_fz (r1) ?_ ?_); (· (intro G hG; simp [trD,bI,sD,faultD] at hG; simp [trD,bI,sD,faultD,hG,and_assoc]; done))) | ((with_reducible refine CallF_fz (r2) ?_ ?_); (· (intro G hG; simp [trD,bI,sD,faultD] at hG; simp [trD,bI,sD,faultD,hG,and_assoc]; done))) | ((with_reducible refine CallF_fz (r3) ?_ ?_); (· (intro G hG; simp [trD,bI,sD,faultD] at hG; simp [trD,bI,sD,faultD,hG,and_assoc]; done))) | ((with_reducible refine CallF_fl (hw) ?_ ?_ ?_); (· (simp [trD,bI,sD,faultD]; done)); (· (intro G hG; simp [trD,bI,sD,faultD] at hG; simp [trD,bI,sD,faultD,hG,and_assoc]; done))) | ((with_reducible refine CallF_fz (hw) ?_ ?_); (· (intro G hG; simp [trD,bI,sD,faultD] at hG; simp [trD,bI,sD,faultD,hG,and_assoc]; done))))) | ((first | refine Wc_split (fun hg=>?_) (fun hg=>?_) | refine RoG_split (fun hg=>?_) (fun hg=>?_) | refine RdG_split (fun hg=>?_) (fun hg=>?_)) <;> (try simp only [nrm] at hg) <;> (try simp only [hg,lgc,reduceIte,reduceCtorEq] at hR) <;> (try (exfalso; omega))) | ((try simp only [*,lgc,reduceIte,reduceCtorEq] at hR); obtain ⟨rfl⟩:=hR; refine fin_q (rs:=[.tmp 2]) rfl ?_; (try simp only [go_sem,Nat.reduceLT,Nat.reduceAdd,Nat.reduceMul,reduceIte,Nat.reduceEqDiff,reduceCtorEq,Nat.reducePow,Nat.reduceLeDiff,Int.reduceLE,Int.reduceLT,Int.reduceToNat,Int.reduceEq,Nat.reduceBEq,trD,bI,sD,faultD]); (simp [trD,bI,sD,faultD]; done))))
theorem four4 (l:List PieceD) (h:l.length=4):∃ a b c d,l=[a,b,c,d]:=by
 match l,h with
 | [a,b,c,d],_=>exact ⟨a,b,c,d,rfl⟩
theorem parse_A (b:List UInt8) (hb:b.length≤1048576):PureD Tryz.prog 50 [.i (bI b)] (.tup [trD (parseT b).1,intD (parseT b).2]):=by
 have hr:=read_A b hb
 refine hide_r fun R hR=>?_
 simp only [parseT] at hR
 generalize readF b=L at *
 obtain ⟨l,e⟩:=L
 simp only [pairR] at hr hR
 by_cases h4:l.length=4
 ·obtain ⟨p,q,r,s,rfl⟩:=four4 l h4
  have hw:PureD _ _ _ (intD (wordsE [strB p.b,strB r.b,strB s.b])):=word_A [strB p.b,strB r.b,strB s.b] (by simp)
  simp only [List.map_cons,List.map_nil,sI] at hw
  simp only [formT,checkT] at hR
  generalize wordsE [strB p.b,strB r.b,strB s.b]=w at *
  clear h4
  refine callD_W 86 Tryz.func50 rfl rfl rfl (fun _ _=>rfl) ?_
  (repeat' (first | (simp -implicitDefEqProofs only [go_sem,Nat.reduceLT,Nat.reduceAdd,Nat.reduceMul,reduceIte,Nat.reduceEqDiff,reduceCtorEq,Nat.reducePow,Nat.reduceLeDiff,Int.reduceLE,Int.reduceLT,Int.reduceToNat,Int.reduceEq,Nat.reduceBEq,trD,bI,sD,intD,encP,zeroT,strB, *]) | (with_reducible refine ⟨?_,?_⟩; (· first | (obtain ⟨rfl⟩:=‹Hq _ _›; with_reducible refine chk_ok ?_; kernel_rfl) | kernel_rfl)) | (with_reducible intro ops hops) | (simp -implicitDefEqProofs (disch:=omega) only [wr64,wru64,get_lt]) | ((with_reducible refine call_id ?_); (first | ((with_reducible refine Call_fl (hr) ?_ ?_ ?_); (· (simp [trD,bI,sD,intD,encP,zeroT,strB]; done)); (· (simp [trD,bI,sD,intD,encP,zeroT,strB,and_assoc]; done))) | ((with_reducible refine Call_fz (hr) ?_ ?_); (· (simp [trD,bI,sD,intD,encP,zeroT,strB,and_assoc]; done))) | ((with_reducible refine Call_fl (hw) ?_ ?_ ?_); (· (simp [trD,bI,sD,intD,encP,zeroT,strB]; done)); (· (simp [trD,bI,sD,intD,encP,zeroT,strB,and_assoc]; done))) | ((with_reducible refine Call_fz (hw) ?_ ?_); (· (simp [trD,bI,sD,intD,encP,zeroT,strB,and_assoc]; done))))) | ((with_reducible refine callF_id ?_); (first | ((with_reducible refine CallF_fl (hr) ?_ ?_ ?_); (· (simp [trD,bI,sD,intD,encP,zeroT,strB]; done)); (· (intro G hG; simp [trD,bI,sD,intD,encP,zeroT,strB] at hG; simp [trD,bI,sD,intD,encP,zeroT,strB,hG,and_assoc]; done))) | ((with_reducible refine CallF_fz (hr) ?_ ?_); (· (intro G hG; simp [trD,bI,sD,intD,encP,zeroT,strB] at hG; simp [trD,bI,sD,intD,encP,zeroT,strB,hG,and_assoc]; done))) | ((with_reducible refine CallF_fl (hw) ?_ ?_ ?_); (· (simp [trD,bI,sD,intD,encP,zeroT,strB]; done)); (· (intro G hG; simp [trD,bI,sD,intD,encP,zeroT,strB] at hG; simp [trD,bI,sD,intD,encP,zeroT,strB,hG,and_assoc]; done))) | ((with_reducible refine CallF_fz (hw) ?_ ?_); (· (intro G hG; simp [trD,bI,sD,intD,encP,zeroT,strB] at hG; simp [trD,bI,sD,intD,encP,zeroT,strB,hG,and_assoc]; done))))) | ((first | refine Wc_split (fun hg=>?_) (fun hg=>?_) | refine RoG_split (fun hg=>?_) (fun hg=>?_) | refine RdG_split (fun hg=>?_) (fun hg=>?_)) <;> (try simp only [nrm] at hg) <;> (try simp only [hg,lgc,reduceIte,reduceCtorEq] at hR) <;> (try (exfalso; omega))) | ((try simp only [*,lgc,reduceIte,reduceCtorEq] at hR); obtain ⟨rfl⟩:=hR; refine fin_q (rs:=[.cell 2 49,.tmp 3]) rfl ?_; (try simp only [go_sem,Nat.reduceLT,Nat.reduceAdd,Nat.reduceMul,reduceIte,Nat.reduceEqDiff,reduceCtorEq,Nat.reducePow,Nat.reduceLeDiff,Int.reduceLE,Int.reduceLT,Int.reduceToNat,Int.reduceEq,Nat.reduceBEq,trD,bI,sD,intD,encP,zeroT,strB]); (simp [trD,bI,sD,intD,encP,zeroT,strB]; done))))
 ·rw [formT_no h4] at hR
  refine callD_W 86 Tryz.func50 rfl rfl rfl (fun _ _=>rfl) ?_
  (repeat' (first | (simp -implicitDefEqProofs only [go_sem,Nat.reduceLT,Nat.reduceAdd,Nat.reduceMul,reduceIte,Nat.reduceEqDiff,reduceCtorEq,Nat.reducePow,Nat.reduceLeDiff,Int.reduceLE,Int.reduceLT,Int.reduceToNat,Int.reduceEq,Nat.reduceBEq,trD,bI,sD,intD,encP,zeroT, *]) | (with_reducible refine ⟨?_,?_⟩; (· first | (obtain ⟨rfl⟩:=‹Hq _ _›; with_reducible refine chk_ok ?_; kernel_rfl) | kernel_rfl)) | (with_reducible intro ops hops) | (simp -implicitDefEqProofs (disch:=omega) only [wr64,wru64,get_lt]) | ((with_reducible refine call_id ?_); (first | ((with_reducible refine Call_fl (hr) ?_ ?_ ?_); (· (simp [trD,bI,sD,intD,encP,zeroT]; done)); (· (simp [trD,bI,sD,intD,encP,zeroT,and_assoc]; done))) | ((with_reducible refine Call_fz (hr) ?_ ?_); (· (simp [trD,bI,sD,intD,encP,zeroT,and_assoc]; done))))) | ((with_reducible refine callF_id ?_); (first | ((with_reducible refine CallF_fl (hr) ?_ ?_ ?_); (· (simp [trD,bI,sD,intD,encP,zeroT]; done)); (· (intro G hG; simp [trD,bI,sD,intD,encP,zeroT] at hG; simp [trD,bI,sD,intD,encP,zeroT,hG,and_assoc]; done))) | ((with_reducible refine CallF_fz (hr) ?_ ?_); (· (intro G hG; simp [trD,bI,sD,intD,encP,zeroT] at hG; simp [trD,bI,sD,intD,encP,zeroT,hG,and_assoc]; done))))) | ((first | refine Wc_split (fun hg=>?_) (fun hg=>?_) | refine RoG_split (fun hg=>?_) (fun hg=>?_) | refine RdG_split (fun hg=>?_) (fun hg=>?_)) <;> (try simp only [nrm] at hg) <;> (try simp only [hg,lgc,reduceIte,reduceCtorEq] at hR) <;> (try (exfalso; omega))) | ((try simp only [*,lgc,reduceIte,reduceCtorEq] at hR); obtain ⟨rfl⟩:=hR; refine fin_q (rs:=[.cell 2 49,.tmp 3]) rfl ?_; (try simp only [go_sem,Nat.reduceLT,Nat.reduceAdd,Nat.reduceMul,reduceIte,Nat.reduceEqDiff,reduceCtorEq,Nat.reducePow,Nat.reduceLeDiff,Int.reduceLE,Int.reduceLT,Int.reduceToNat,Int.reduceEq,Nat.reduceBEq,trD,bI,sD,intD,encP,zeroT]); (simp [trD,bI,sD,intD,encP,zeroT]; done))))
end Go.Proofs.YtadoaljnfeoecaaGreatDoor
