/- Merged texts: Strs, Purse, PurseF, BankP, RName, RFrom, BankW, RWrong, InsPu, DelPu, BankX, BankY, Right, DecPu, BkQ, WRead, BankT. -/
import Derived.Test.YtfenipelcpmkpaaGreatDoorGMk
import Derived.Lib.ItoaLen
set_option linter.all false
set_option maxHeartbeats 8000000
set_option maxRecDepth 20000
namespace Go.Proofs.YtfenipelcpmkpaaGreatDoor
open Go Go.Abs Go.RowKit Go.Proofs.YtfenipelcpmkpaaGreatDoor.Ty
theorem JF:(type_of% @Ty.T9):=@Ty.T9
theorem JE:(type_of% @Ty.T9):=@Ty.T9
theorem Ry (a b:ByteArray) (G:Nat->Ob):Sw Tryz.prog 226 [sD a,sD b] G (.i (.s (.int .i64 (lg a b)))) G:=by
 refine GG (vs:=[.string a,.string b]) (v:=.int .i64 (lg a b)) rfl (fun w=>?_) (fun K=>.i (.s _ rfl))
 rw [run_callFunc_extern Tryz.func226 (by kernel_rfl) (by kernel_rfl) (by kernel_rfl) (e:=Extern.BytealgCompare.compare) (by kernel_rfl)]
 rw [show ([Value.string a,Value.string b].toArray)=#[.string a,.string b] from rfl,Lib.run_compareString]
 rfl
theorem vG (a b:ByteArray):PureD Tryz.prog 180 [sD a,sD b] (.i (.s (.int .i64 (lg a b)))):=by
 refine aa 8 Tryz.func180 rfl rfl rfl (fun _ _=>rfl) ?_
 refine gx (an JE @sD.eq_1) ?_
 refine jI (Ry a b) ?_
 refine gx JE ?_
 refine ax [] rfl ?_
 simp [cv,cv1,cv0,upd]
theorem SS (a b:ByteArray):PureD Tryz.prog 128 [sD a,sD b] (.i (.s (.int .i64 (lg a b)))):=by
 refine aa 8 Tryz.func128 rfl rfl rfl (fun _ _=>rfl) ?_
 (refine gy (an JF @sD.eq_1) ?_; try intro ops hops)
 (first | refine ai [] [] (vG a b) (by simp [aM,cvA,aP,cvR,ah,cv1,cvL,cv0,bI,af,sD,ae,upd]) rfl ?_ | refine ag [] [] [] (vG a b) (fun G _=>by simp [aM,cvA,aP,cvR,ah,cv1,cvL,cv0,bI,af,sD,ae,upd]) rfl ?_)
 refine gx JF ?_
 refine ax [] rfl ?_
 simp [cv,cv1,cv0,upd]
theorem ou:(type_of% @Ty.T3)/\(type_of% @Ty.T9)/\(type_of% @Ty.T54)/\(type_of% @Ty.adg):=⟨@Ty.T3,@Ty.T9,@Ty.T54,@Ty.adg⟩
def amtP (l:List PurseD) (o d:ByteArray):Nat:=match DI l o d with | some p=>p.n | none=>0
theorem sU (p:PurseD) (o d:ByteArray):PureD Tryz.prog 127 [puD p,sD d,.rp [sI o] 0] (intD (ni (pk p) (o,d))):=by
 unfold ni pk
 have h1:=SS p.o o
 have h2:=SS p.d d
 simp only
 generalize lg p.o o=c1 at *
 generalize lg p.d d=c2 at *
 by_cases h:c1=0
 ·rw [if_pos h]
  have g:decide (c1=0)=true:=decide_eq_true h
  refine aa 18 Tryz.func127 rfl rfl rfl (fun _ _=>rfl) ?_
  (refine gy (an (an (an ou @puD.eq_1) @sD.eq_1) @sI.eq_1) ?_; try intro ops hops)
  (first | refine ai [] [] (h1) (by simp [aM,cvA,aP,cvR,ah,cv1,cvL,cv0,bI,af,intD,sD,sI,puD,ae,upd]) rfl ?_ | refine ag [] [] [] (h1) (fun G _=>by simp [aM,cvA,aP,cvR,ah,cv1,cvL,cv0,bI,af,intD,sD,sI,puD,ae,upd]) rfl ?_)
  (refine gy (an ou g) ?_; try intro ops hops)
  (first | refine ai [] [] (h2) (by simp [aM,cvA,aP,cvR,ah,cv1,cvL,cv0,bI,af,intD,sD,sI,puD,ae,upd]) rfl ?_ | refine ag [] [] [] (h2) (fun G _=>by simp [aM,cvA,aP,cvR,ah,cv1,cvL,cv0,bI,af,intD,sD,sI,puD,ae,upd]) rfl ?_)
  refine gx ou ?_
  refine ax [] rfl ?_
  simp [cv,cv1,cv0,upd,intD]
 ·rw [if_neg h]
  have g:decide (c1=0)=false:=decide_eq_false h
  refine aa 18 Tryz.func127 rfl rfl rfl (fun _ _=>rfl) ?_
  (refine gy (an (an (an ou @puD.eq_1) @sD.eq_1) @sI.eq_1) ?_; try intro ops hops)
  (first | refine ai [] [] (h1) (by simp [aM,cvA,aP,cvR,ah,cv1,cvL,cv0,bI,af,intD,sD,sI,puD,ae,upd]) rfl ?_ | refine ag [] [] [] (h1) (fun G _=>by simp [aM,cvA,aP,cvR,ah,cv1,cvL,cv0,bI,af,intD,sD,sI,puD,ae,upd]) rfl ?_)
  refine gx (an ou g) ?_
  refine ax [] rfl ?_
  simp [cv,cv1,cv0,upd,intD]
theorem gD:(type_of% @Ty.T3)/\(type_of% @Ty.T9)/\(type_of% @Ty.T26)/\(type_of% @Ty.T54)/\(type_of% @Ty.adg)/\(type_of% @Ty.ada):=⟨@Ty.T3,@Ty.T9,@Ty.T26,@Ty.T54,@Ty.adg,@Ty.ada⟩
theorem Am:(type_of% @Ty.T9)/\(type_of% @Ty.T26)/\(type_of% @Ty.T54)/\(type_of% @Ty.adg)/\(type_of% @Ty.acU):=⟨@Ty.T9,@Ty.T26,@Ty.T54,@Ty.adg,@Ty.acU⟩
theorem oq:(type_of% @Ty.T4)/\(type_of% @Ty.T9)/\(type_of% @Ty.T26)/\(type_of% @Ty.T54)/\(type_of% @Ty.adg):=⟨@Ty.T4,@Ty.T9,@Ty.T26,@Ty.T54,@Ty.adg⟩
theorem Kk (l:List PurseD) (ow de:ByteArray) (p:Nat) (hl:l.length<=1048576) (hp:p<=l.length) (hm:∀ a (h:a < l.length),ni (pk l[a]) (ow,de) < 0↔a < p) :
  PureD Tryz.prog 126 [.i (eO l),sD de,.fn 127 [.rp [sI ow] 0]]
   (.tup [intD p,boolD (if h:p < l.length then decide (ni (pk l[p]) (ow,de)=0) else false)]):=by
 refine aa 49 Tryz.func126 rfl rfl rfl (fun _ _=>rfl) ?_
 refine gx (an (an gD @eO.eq_1) @sD.eq_1) ?_
 refine bZ (ι:=Nat × Nat) (fun q=>q.1<=p/\p<=q.2/\q.2<=l.length)
  (fun q=>ek [(0,.i (.sl (l.map a_))),(1,sD de),(2,.fn 127 [.rp [sI ow] 0]),(8,intD l.length),(9,intD q.1),(10,intD q.2)] []) (fun q=>q.2 - q.1) (0,l.length) ⟨Nat.zero_le _,hp,Nat.le_refl _⟩ ?_ ?_
 ·refine az _ _ [] [] ?_ ?_ rfl rfl
  ·simp [cv,cvL,cv1,cv0,upd,lk,aJ,intD,sD,sI]
  ·simp
 ·rintro ⟨i,j⟩ ⟨h1,h2,h3⟩
  simp only at h1 h2 h3
  rw [au]
  refine gx (an (an gD @intD.eq_1) @sD.eq_1) ?_
  refine bi (fun h=>?_) (fun h=>?_)
  ·have hij:i < j:=by simp at h; omega
   clear h
   have hml:(i+j) / 2 < l.length:=by omega
   have e1:(l.map a_)[(i+j) / 2]?=some (a_ l[(i+j) / 2]):=by rw [List.getElem?_map,List.getElem?_eq_getElem hml]; rfl
   have hmm:=hm _ hml
   have w1:IntKind.i64.wrap ((i:Int)+(j:Int))=((i+j:Nat):Int):=by rw [aD (by omega) (by omega)]; omega
   have w2:IntKind.u64.wrap ((i+j:Nat):Int)=((i+j:Nat):Int):=by rw [IntKind.wrap_u64]; omega
   have w3:((i+j:Nat):Int).fdiv (2 ^ min 1 (IntKind.bits .u64))=(((i+j) / 2:Nat):Int):=by
    rw [show min 1 (IntKind.bits .u64)=1 from rfl,Int.fdiv_eq_ediv_of_nonneg _ (by decide)]; omega
   have w4:IntKind.i64.wrap (((i+j) / 2:Nat):Int)=(((i+j) / 2:Nat):Int):=by rw [aD (by omega) (by omega)]
   have w5:IntKind.i64.wrap ((((i+j) / 2:Nat):Int)+1)=(((i+j) / 2+1:Nat):Int):=by rw [aD (by omega) (by omega)]; omega
   have hmid1:i<=(i+j) / 2:=by omega
   have hmid2:(i+j) / 2 < j:=by omega
   generalize l[(i+j) / 2]=q at e1 hmm
   simp only [a_] at e1
   generalize (i+j) / 2=m at *
   (refine gy (an (an (an (an (an gD w1) w2) w3) w4) e1) ?_; try intro ops hops)
   (first | refine ai [] [] (sU q ow de) (by simp [aM,cvA,aP,cvR,ah,cv1,cvL,cv0,bI,af,intD,boolD,sD,sI,puD,eO,wD,ae,upd]) rfl ?_ | refine ag [] [] [] (sU q ow de) (fun G _=>by simp [aM,cvA,aP,cvR,ah,cv1,cvL,cv0,bI,af,intD,boolD,sD,sI,puD,eO,wD,ae,upd]) rfl ?_)
   refine gx (an (an gD @intD.eq_1) @sD.eq_1) ?_
   refine bi (fun h=>?_) (fun h=>?_)
   ·have hlt:m < p:=hmm.1 (by simpa using h)
    refine gx (an gD w5) ?_
    refine ⟨(m+1,j),⟨hlt,h2,h3⟩,az _ _ [] [] ?_ ?_ rfl rfl,by simp; omega⟩
    ·simp [cv,cvL,cv1,cv0,upd,lk,aJ,intD,sD,sI]
    ·simp
   ·have hlt:¬ m < p:=fun hc=>by have:=hmm.2 hc; simp at h; omega
    refine gx gD ?_
    refine ⟨(i,m),⟨h1,Nat.le_of_not_lt hlt,by omega⟩,az _ _ [] [] ?_ ?_ rfl rfl,by simp; omega⟩
    ·simp [cv,cvL,cv1,cv0,upd,lk,aJ,intD,sD,sI]
    ·simp
  ·have hij:i=p:=by simp at h; omega
   subst hij
   by_cases hlt:i < l.length
   ·rw [dif_pos hlt]
    have e1:(l.map a_)[i]?=some (a_ l[i]):=by rw [List.getElem?_map,List.getElem?_eq_getElem hlt]; rfl
    generalize l[i]=q at e1
    simp only [a_] at e1
    have g:decide ((i:Int) < (l.length:Int))=true:=decide_eq_true (by omega)
    (refine gy (an (an gD g) e1) ?_; try intro ops hops)
    (first | refine ai [] [] (sU q ow de) (by simp [aM,cvA,aP,cvR,ah,cv1,cvL,cv0,bI,af,intD,boolD,sD,sI,puD,eO,wD,ae,upd]) rfl ?_ | refine ag [] [] [] (sU q ow de) (fun G _=>by simp [aM,cvA,aP,cvR,ah,cv1,cvL,cv0,bI,af,intD,boolD,sD,sI,puD,eO,wD,ae,upd]) rfl ?_)
    refine gx (an (an gD @intD.eq_1) @sD.eq_1) ?_
    refine cK [] rfl ?_
    simp [cv,cvT,cv1,cv0,upd,intD,boolD]
   ·rw [dif_neg hlt]
    have g:decide ((i:Int) < (l.length:Int))=false:=decide_eq_false (by omega)
    refine gx (an gD g) ?_
    refine cK [] rfl ?_
    simp [cv,cvT,cv1,cv0,upd,intD,boolD]
theorem Iw {l:List PurseD} (hs:WR l) (o d:ByteArray):(if h:bU l o d < l.length then decide (ni (pk l[bU l o d]) (o,d)=0) else false)=(DI l o d).isSome:=by
 unfold DI bU
 rw [KL.get_place cmpP_ok hs]
 by_cases h:KL.place pk ni l (o,d) < l.length
 ·rw [dif_pos h,dif_pos h]
  by_cases h2:ni (pk l[KL.place pk ni l (o,d)]) (o,d)=0
  ·rw [if_pos h2,decide_eq_true h2]; rfl
  ·rw [if_neg h2,decide_eq_false h2]; rfl
 ·rw [dif_neg h,dif_neg h]; rfl
theorem CB (l:List PurseD) (o d:ByteArray) (hl:l.length<=1048576) (hs:WR l) :
  PureD Tryz.prog 68 [.i (eO l),sD o,sD d] (.tup [intD (bU l o d),boolD (DI l o d).isSome]):=by
 have hc:=Kk l o d (bU l o d) hl (KL.place_le cmpP_ok l _) (fun a ha=>KL.place_iff cmpP_ok hs (o,d) a ha)
 rw [Iw hs] at hc
 generalize bU l o d=p at *
 generalize (DI l o d).isSome=b at *
 simp only [eO,sD,sI] at hc
 refine aa 14 Tryz.func68 rfl rfl rfl (fun _ _=>rfl) ?_
 (refine gy (an (an Am @eO.eq_1) @sD.eq_1) ?_; try intro ops hops)
 (first | refine ai [] [1000] (hc) (by simp [aM,cvA,aP,cvR,ah,cv1,cvL,cv0,bI,af,intD,boolD,sD,sI,puD,eO,wD,ae,upd,and_assoc]) rfl ?_ | refine ag [] [1000] [1000] (hc) (fun G hG=>by (have hG1000:=hG 1000 (by simp); simp [aM,cvA,aP,cvR,ah,cv1,cvL,cv0,bI,af,intD,boolD,sD,sI,puD,eO,wD,ae,upd,and_assoc,hG1000])) rfl ?_)
 refine gx (an (an Am @intD.eq_1) @boolD.eq_1) ?_
 refine cK [] rfl ?_
 simp [cv,cvT,cv1,cv0,upd,intD,boolD]
theorem Sk (l:List PurseD) (o d:ByteArray) (hl:l.length<=1048576) (hs:WR l) :
  PureD Tryz.prog 27 [.i (eO l),sD o,sD d] (wD (amtP l o d)):=by
 have hf:=CB l o d hl hs
 unfold amtP
 cases hg:DI l o d with
 | none =>
  rw [hg] at hf
  generalize bU l o d=p at *
  refine aa 23 Tryz.func27 rfl rfl rfl (fun _ _=>rfl) ?_
  (refine gy (an (an oq @eO.eq_1) @sD.eq_1) ?_; try intro ops hops)
  (first | refine aW [] (hf) (by simp [aM,cvA,aP,cvR,ah,cv1,cvL,cv0,bI,af,intD,boolD,sD,sI,puD,eO,wD,ae,upd]) ?_ | refine aL [] [] (hf) (fun G _=>by simp [aM,cvA,aP,cvR,ah,cv1,cvL,cv0,bI,af,intD,boolD,sD,sI,puD,eO,wD,ae,upd]) (by simp) ?_)
  refine gx (an (an (an oq @intD.eq_1) @boolD.eq_1) @Option.isSome_none.{0}) ?_
  refine ax [] rfl ?_
  simp [cv,cv1,cv0,upd,wD]
 | some v =>
  rw [hg] at hf
  obtain ⟨hp,hv⟩:=KL.place_lt cmpP_ok hs hg
  have e1:(l.map a_)[bU l o d]?=some (a_ v):=by rw [List.getElem?_map,List.getElem?_eq_getElem hp,<- hv]; rfl
  simp only [a_] at e1
  clear hv hp
  generalize bU l o d=p at *
  refine aa 23 Tryz.func27 rfl rfl rfl (fun _ _=>rfl) ?_
  (refine gy (an (an oq @eO.eq_1) @sD.eq_1) ?_; try intro ops hops)
  (first | refine aW [] (hf) (by simp [aM,cvA,aP,cvR,ah,cv1,cvL,cv0,bI,af,intD,boolD,sD,sI,puD,eO,wD,ae,upd]) ?_ | refine aL [] [] (hf) (fun G _=>by simp [aM,cvA,aP,cvR,ah,cv1,cvL,cv0,bI,af,intD,boolD,sD,sI,puD,eO,wD,ae,upd]) (by simp) ?_)
  refine gx (an (an (an (an (an oq @intD.eq_1) @boolD.eq_1) @Option.isSome_some.{0}) @eO.eq_1) e1) ?_
  refine ax [] rfl ?_
  simp [cv,cv1,cv0,upd,wD]
structure bH (l:List PurseD):Prop where
 len:l.length<=60
 wo:∀ p∈l,1<=p.o.size/\p.o.size<=40
 wd:∀ p∈l,1<=p.d.size/\p.d.size<=40
 pos:∀ p∈l,0 < p.n/\p.n < 18446744073709551616
 srt:WR l
def eZ (s:ByteArray):Bool:=decide (1<=s.size) && decide (s.size<=40)
def pV (l:List PurseD) (d:ByteArray):Nat:=(l.map fun p=>if p.d=d then p.n else 0).sum
abbrev xY (l:List PurseD) (o d:ByteArray) (v:Option PurseD):List PurseD:=KL.put pk ni l (o,d) v
def kY (l:List PurseD) (o d:ByteArray) (n:Nat):List PurseD:=xY l o d (if n=0 then none else some ⟨o,d,n⟩)
def nO (l:List PurseD) (o d:ByteArray) (n:Nat):List PurseD × Nat :=
 if !(eZ o && eZ d) then ([],4)
 else if n=0 then (l,0)
 else if 18446744073709551616<=pV l d+n then ([],3)
 else if amtP l o d=0/\l.length=60 then ([],5)
 else (kY l o d (amtP l o d+n),0)
def nu (l:List PurseD) (o d:ByteArray) (n:Nat):List PurseD × Nat :=
 if !(eZ o && eZ d) then ([],4)
 else if amtP l o d < n then ([],8)
 else (kY l o d (amtP l o d - n),0)
def kZ (l:List PurseD) (o t d:ByteArray) (n:Nat):List PurseD × Nat :=
 if (nu l o d n).2=0 then nO (nu l o d n).1 t d n else ([],(nu l o d n).2)
theorem getP_key {l:List PurseD} (h:bH l) {o d:ByteArray} {p:PurseD} (hg:DI l o d=some p):p∈l/\p.o=o/\p.d=d:=by
 have:=(KL.get_iff cmpP_ok h.srt).1 hg
 exact ⟨this.1,congrArg Prod.fst this.2,congrArg Prod.snd this.2⟩
theorem tH {l:List PurseD} (h:bH l) (o d:ByteArray):DI l o d=if amtP l o d=0 then none else some ⟨o,d,amtP l o d⟩:=by
 unfold amtP
 cases hg:DI l o d with
 | none=>rfl
 | some p =>
  obtain ⟨h1,h2,h3⟩:=getP_key h hg
  have:=(h.pos p h1).1
  simp only
  rw [if_neg (by omega),<- h2,<- h3]
theorem Oi {l:List PurseD} (h:bH l) (o d:ByteArray):amtP l o d < 18446744073709551616:=by
 unfold amtP
 cases hg:DI l o d with
 | none=>simp
 | some p=>exact (h.pos p (getP_key h hg).1).2
theorem JX {o d:ByteArray} {n:Nat}:∀ x,(if n=0 then none else some (⟨o,d,n⟩:PurseD))=some x->pk x=(o,d):=by
 intro x hx
 split at hx
 ·cases hx
 ·injection hx with hx; subst hx; rfl
theorem PX {l:List PurseD} (h:bH l) (o d:ByteArray) (n:Nat):WR (kY l o d n):=KL.srt_put cmpP_ok h.srt JX
theorem Oh {l:List PurseD} (h:bH l) (o d:ByteArray) (n:Nat) (o' d':ByteArray):amtP (kY l o d n) o' d'=if o'=o/\d'=d then n else amtP l o' d':=by
 unfold amtP
 have hd:Decidable ((o',d')=(o,d)):=Classical.propDecidable _
 have hg:DI (kY l o d n) o' d'=if (o',d')=(o,d) then (if n=0 then none else some ⟨o,d,n⟩) else DI l o' d':=KL.get_put cmpP_ok h.srt JX (o',d')
 rw [hg]
 by_cases hk:o'=o/\d'=d
 ·rw [if_pos (by rw [hk.1,hk.2]),if_pos hk]
  by_cases h0:n=0
  ·rw [if_pos h0]; exact h0.symm
  ·rw [if_neg h0]
 ·rw [if_neg (fun e=>hk ⟨congrArg Prod.fst e,congrArg Prod.snd e⟩),if_neg hk]
theorem mem_set {l:List PurseD} {o d:ByteArray} {n:Nat} {x:PurseD} (hx:x∈kY l o d n):x∈l\/(x=⟨o,d,n⟩/\n≠0):=by
 rcases (KL.mem_put cmpP_ok).1 hx with h1 | h1
 ·exact .inl h1.1
 ·split at h1
  ·cases h1
  ·injection h1 with h1; exact .inr ⟨h1.symm,by assumption⟩
theorem wordOk_iff {s:ByteArray}:eZ s=true↔1<=s.size/\s.size<=40:=by simp [eZ]
theorem JW {l:List PurseD} (h:bH l) (o d:ByteArray) (n:Nat):(kY l o d n).length=if amtP l o d=0 then (if n=0 then l.length else l.length+1) else (if n=0 then l.length - 1 else l.length):=by
 have hg:=tH h o d
 by_cases h0:amtP l o d=0
 ·rw [if_pos h0] at hg ⊢
  unfold kY xY
  by_cases hn:n=0
  ·rw [if_pos hn,if_pos hn,KL.put_none cmpP_ok h.srt hg]
  ·rw [if_neg hn,if_neg hn,KL.put_miss cmpP_ok h.srt hg]
   have:=KL.place_le (κ:=pk) cmpP_ok l (o,d)
   simp; omega
 ·rw [if_neg h0] at hg ⊢
  obtain ⟨hp,_⟩:=KL.place_lt cmpP_ok h.srt hg
  unfold kY xY
  by_cases hn:n=0
  ·rw [if_pos hn,if_pos hn,KL.put_del cmpP_ok h.srt hg]; simp; omega
  ·rw [if_neg hn,if_neg hn,KL.put_hit cmpP_ok h.srt hg]; simp; omega
theorem Aw {l:List PurseD} (h:bH l) {o d:ByteArray} {n:Nat} (ho:eZ o=true) (hd:eZ d=true) (hn:n < 18446744073709551616) (hl:(kY l o d n).length<=60):bH (kY l o d n) where
 len:=hl
 wo:=fun p hp=>by rcases mem_set hp with h1 | ⟨rfl,_⟩; exact h.wo p h1; exact wordOk_iff.1 ho
 wd:=fun p hp=>by rcases mem_set hp with h1 | ⟨rfl,_⟩; exact h.wd p h1; exact wordOk_iff.1 hd
 pos:=fun p hp=>by rcases mem_set hp with h1 | ⟨rfl,h1⟩; exact h.pos p h1; exact ⟨by simp only; omega,hn⟩
 srt:=PX h o d n
theorem JK (f:PurseD->Nat) (k:aaE) (l:List PurseD):(l.map f).sum=((l.filter fun x=>decide (ni (pk x) k < 0)).map f).sum+(((l.filter fun x=>decide (ni (pk x) k=0)).map f).sum+((l.filter fun x=>decide (0 < ni (pk x) k)).map f).sum):=by
 induction l with
 | nil=>rfl
 | cons x t ih =>
  rw [List.map_cons,List.sum_cons,ih]
  by_cases h1:ni (pk x) k < 0
  ·rw [List.filter_cons_of_pos (by simpa using h1),List.filter_cons_of_neg (by simp; omega),List.filter_cons_of_neg (by simp; omega)]
   simp; omega
  ·by_cases h2:ni (pk x) k=0
   ·rw [List.filter_cons_of_neg (by simp; omega),List.filter_cons_of_pos (by simpa using h2),List.filter_cons_of_neg (by simp; omega)]
    simp; omega
   ·rw [List.filter_cons_of_neg (by simp; omega),List.filter_cons_of_neg (by simp; omega),List.filter_cons_of_pos (by simp; omega)]
    simp; omega
theorem MC {l:List PurseD} (h:WR l) (k:aaE):(l.filter fun x=>decide (ni (pk x) k=0))=(KL.get pk ni l k).toList:=by
 induction l with
 | nil=>rfl
 | cons x t ih =>
  rw [KL.get_cons cmpP_ok]
  have hs:=List.pairwise_cons.1 h
  by_cases hx:ni (pk x) k=0
  ·rw [if_pos hx,List.filter_cons_of_pos (by simpa using hx)]
   have hk:=(cmpP_ok.zero _ _).1 hx
   have:(t.filter fun x=>decide (ni (pk x) k=0))=[]:=by
    rw [List.filter_eq_nil_iff]
    intro y hy
    have h1:=hs.1 y hy
    rw [hk] at h1
    have:=(cmpP_ok.neg k (pk y)).1 h1
    simp; omega
   rw [this]; rfl
  ·rw [if_neg hx,List.filter_cons_of_neg (by simpa using hx),ih hs.2]
theorem Ku (o d d':ByteArray) (n:Nat):(((if n=0 then none else some (⟨o,d,n⟩:PurseD)).toList).map fun p=>if p.d=d' then p.n else 0).sum=if d=d' then n else 0:=by
 by_cases hn:n=0
 ·rw [if_pos hn,hn]; simp
 ·rw [if_neg hn]; simp
theorem Co {l:List PurseD} (h:bH l) (o d:ByteArray) (n:Nat) (d':ByteArray):pV (kY l o d n) d'+(if d=d' then amtP l o d else 0)=pV l d'+(if d=d' then n else 0):=by
 have h1:=JK (fun p=>if p.d=d' then p.n else 0) (o,d) l
 rw [MC h.srt (o,d),show KL.get pk ni l (o,d)=DI l o d from rfl,tH h o d,Ku] at h1
 unfold pV kY xY KL.put
 rw [h1]
 simp only [List.map_append,List.sum_append,Ku]
 omega
theorem wX {l:List PurseD} (h:bH l) (o d:ByteArray):amtP l o d<=pV l d:=by
 have:=Co h o d 0 d
 simp at this
 omega
theorem mU {l:List PurseD} (h:bH l) (o d:ByteArray) (n:Nat):bH (nu l o d n).1:=by
 have hnil:bH []:=⟨by simp,by simp,by simp,by simp,List.Pairwise.nil⟩
 unfold nu
 split
 ·exact hnil
 ·split
  ·exact hnil
  ·rename_i hw ha
   simp only [Bool.not_eq_true',Bool.not_eq_false,Bool.and_eq_true] at hw
   have:=Oi h o d
   refine Aw h hw.1 hw.2 (by omega) ?_
   rw [JW h]
   have:=h.len
   split <;> split <;> omega
theorem qw {l:List PurseD} (h:bH l) (o d:ByteArray) (n:Nat):bH (nO l o d n).1:=by
 have hnil:bH []:=⟨by simp,by simp,by simp,by simp,List.Pairwise.nil⟩
 unfold nO
 split
 ·exact hnil
 ·split
  ·exact h
  ·split
   ·exact hnil
   ·split
    ·exact hnil
    ·rename_i hw h0 hs ha
     simp only [Bool.not_eq_true',Bool.not_eq_false,Bool.and_eq_true] at hw
     have:=wX h o d
     refine Aw h hw.1 hw.2 (by omega) ?_
     rw [JW h]
     have:=h.len
     split <;> split <;> omega
theorem mO {l:List PurseD} (h:bH l) (o t d:ByteArray) (n:Nat):bH (kZ l o t d n).1:=by
 unfold kZ
 split
 ·exact qw (mU h o d n) t d n
 ·exact ⟨by simp,by simp,by simp,by simp,List.Pairwise.nil⟩
theorem burn_ok {l:List PurseD} (h:bH l) {o d:ByteArray} {n:Nat} (he:(nu l o d n).2=0) :
  n<=amtP l o d/\(∀ o' d',amtP (nu l o d n).1 o' d'=if o'=o/\d'=d then amtP l o d - n else amtP l o' d')/\∀ d',pV (nu l o d n).1 d'+(if d=d' then n else 0)=pV l d':=by
 unfold nu at he ⊢
 split at he
 ·cases he
 ·split at he
  ·cases he
  ·rename_i hw ha
   rw [if_neg hw,if_neg ha]
   refine ⟨by omega,fun o' d'=>Oh h o d _ o' d',fun d'=>?_⟩
   have:=Co h o d (amtP l o d - n) d'
   simp only
   split at this <;> simp_all <;> omega
theorem mint_ok {l:List PurseD} (h:bH l) {o d:ByteArray} {n:Nat} (he:(nO l o d n).2=0) :
  (∀ o' d',amtP (nO l o d n).1 o' d'=if o'=o/\d'=d then amtP l o d+n else amtP l o' d')/\(∀ d',pV (nO l o d n).1 d'=pV l d'+(if d=d' then n else 0))/\(n≠0->pV l d+n < 18446744073709551616):=by
 unfold nO at he ⊢
 split at he
 ·cases he
 ·rename_i hw
  rw [if_neg hw]
  split at he
  ·rename_i hn
   rw [if_pos hn]
   subst hn
   refine ⟨fun o' d'=>?_,fun d'=>by simp,fun hc=>absurd rfl hc⟩
   split
   ·rename_i hk; rw [hk.1,hk.2]; rfl
   ·rfl
  ·rename_i hn
   rw [if_neg hn]
   split at he
   ·cases he
   ·rename_i hs
    rw [if_neg hs]
    split at he
    ·cases he
    ·rename_i ha
     rw [if_neg ha]
     refine ⟨fun o' d'=>Oh h o d _ o' d',fun d'=>?_,fun _=>by omega⟩
     have:=Co h o d (amtP l o d+n) d'
     simp only
     split at this <;> simp_all <;> omega
theorem yM {l:List PurseD} (h:bH l) {o t d:ByteArray} {n:Nat} (he:(kZ l o t d n).2=0) :
  n<=amtP l o d/\(∀ o' d',amtP (kZ l o t d n).1 o' d'=(if o'=o/\d'=d then amtP l o d - n else amtP l o' d')+(if o'=t/\d'=d then n else 0))/\∀ d',pV (kZ l o t d n).1 d'=pV l d':=by
 unfold kZ at he ⊢
 split at he
 ·rename_i hb
  rw [if_pos hb]
  have hr:=mU h o d n
  obtain ⟨h1,h2,h3⟩:=burn_ok h hb
  obtain ⟨g1,g2,_⟩:=mint_ok hr he
  refine ⟨h1,fun o' d'=>?_,fun d'=>?_⟩
  ·rw [g1]
   by_cases hk:o'=t/\d'=d
   ·rw [if_pos hk,if_pos hk,h2,hk.1,hk.2]
   ·rw [if_neg hk,if_neg hk,h2]; rfl
  ·rw [g2,<- h3 d']
 ·rename_i hb; exact absurd he hb
theorem fZ:(type_of% @Ty.T3)/\(type_of% @Ty.T4)/\(type_of% @Ty.T5)/\(type_of% @Ty.T9):=⟨@Ty.T3,@Ty.T4,@Ty.T5,@Ty.T9⟩
theorem IJ {s:ByteArray} {i:Nat} (hi:i < s.size) (h:(byS s i).toNat < 128):(Utf8.decode s i).2=1:=by
 have e:s.get! i=byS s i:=by
  unfold byS
  show s.data[i]! = _
  have:i < s.data.size:=hi
  rw [List.getD_eq_getElem?_getD,Array.getElem?_toList,Array.getElem!_eq_getD,Array.getD_eq_getD_getElem?]
  rfl
 simp [Utf8.decode,e,h]
theorem Gi {lo c:Nat} {b:UInt8} (h:lo<=c):(inR lo c b || decide (b.toNat=c))=inR lo (c+1) b:=by
 unfold inR
 rw [Bool.eq_iff_iff]; simp; omega
theorem Gj {lo:Nat} {b:UInt8}:inR lo lo b=false:=by unfold inR; exact decide_eq_false (by omega)
theorem YM (s:ByteArray):PureD Tryz.prog 74 [sD s] (ig (iy s)):=by
 unfold iy
 by_cases h0:s.size=0
 ·have g1:decide ((s.size:Int)=0)=true:=decide_eq_true (by omega)
  rw [decide_eq_false (show ¬ 1<=s.size by omega),Bool.false_and,Bool.false_and]
  refine aa 46 Tryz.func74 rfl rfl rfl (fun _ _=>rfl) ?_
  refine gx (an (an fZ @sD.eq_1) g1) ?_
  refine ax [] rfl ?_
  simp [cv,cv1,cv0,upd,ig]
 have g1:decide ((s.size:Int)=0)=false:=decide_eq_false (by omega)
 rw [decide_eq_true (show 1<=s.size by omega),Bool.true_and]
 by_cases h20:s.size<=20
 rotate_left
 ·have g2:decide ((20:Int) < (s.size:Int))=true:=decide_eq_true (by omega)
  rw [decide_eq_false h20,Bool.false_and]
  refine aa 46 Tryz.func74 rfl rfl rfl (fun _ _=>rfl) ?_
  refine gx (an (an (an fZ @sD.eq_1) g1) g2) ?_
  refine ax [] rfl ?_
  simp [cv,cv1,cv0,upd,ig]
 have g2:decide ((20:Int) < (s.size:Int))=false:=decide_eq_false (by omega)
 rw [decide_eq_true h20,Bool.true_and]
 generalize hR:((List.range s.size).all fun k=>oQ (byS s k))=R
 refine aa 46 Tryz.func74 rfl rfl rfl (fun _ _=>rfl) ?_
 refine gx (an (an (an fZ @sD.eq_1) g1) g2) ?_
 refine bZ (ι:=Nat) (fun i=>i<=s.size/\∀ k,k < i->oQ (byS s k)=true)
  (fun i=>ek [(0,sD s),(16,.pt 100 0 0 0)] [(100,.it s i)]) (fun i=>s.size - i) 0 ⟨Nat.zero_le _,fun k hk=>by omega⟩ ?_ ?_
 ·refine az _ _ [] [(100,1769)] ?_ ?_ rfl rfl
  ·simp [cv,cvL,cv1,cv0,upd,lk,aJ,sD]
  ·simp [bE,aJ,lk,cvO,cvL,cv0,frz,upd,hO,noH]
 ·rintro i ⟨hi,hk⟩
  rw [au]
  by_cases h:i < s.size
  ·have L1:(i < s.size)=True:=eq_true h
   have hi0:(0:Int)<=(i:Int):=Int.natCast_nonneg _
   have hix:((i:Int)).toNat < s.size:=by rw [Int.toNat_natCast]; exact h
   generalize hb:byS s i=b
   have hb':byS s ((i:Int)).toNat=b:=by rw [Int.toNat_natCast]; exact hb
   generalize hw:(Utf8.decode s i).2=wd
   generalize (Utf8.decode s i).1=ch
   have hlow:=IJ h
   rw [hb,hw] at hlow
   have w0:b.toNat < 256:=b.toNat_lt
   refine gx (an (an (an fZ @sD.eq_1) @L1) @hw) ?_
   refine bZ (ι:=Nat) (fun c=>97<=c/\c<=123)
    (fun c=>ek [(0,sD s),(3,gT i),(4,ig (inR 97 c b)),(5,.i (.s (.int .u8 c))),(16,.pt 100 0 0 0)] [(100,.it s (i+wd))]) (fun c=>123 - c) 97 ⟨Nat.le_refl _,by omega⟩ ?_ ?_
   ·refine az _ _ [] [(100,100)] ?_ ?_ rfl rfl
    ·simp [cv,cvL,cv1,cv0,upd,lk,aJ,sD,gT,ig,Gj]
    ·simp [bE,aJ,lk,cvO,cvL,cv0,frz,upd,hO,noH]
   ·rintro c ⟨hc1,hc2⟩
    rw [au]
    have hsu:=Gi (b:=b) hc1
    by_cases hc:c<=122
    ·have g3:decide ((c:Int)<=122)=true:=decide_eq_true (by omega)
     have w1:IntKind.u8.wrap ((c:Int)+1)=((c+1:Nat):Int):=by rw [IntKind.wrap_u8]; omega
     have g4:decide ((b.toNat:Int)=(c:Int))=decide (b.toNat=c):=by
      by_cases e:b.toNat=c
      ·rw [decide_eq_true e,decide_eq_true (by omega)]
      ·rw [decide_eq_false e,decide_eq_false (by omega)]
     generalize inR 97 c b=ok at *
     cases ok
     ·rw [Bool.false_or] at hsu; have g5:=g4.trans hsu
      refine gx (an (an (an (an (an (an (an (an (an fZ @sD.eq_1) @gT.eq_1) @ig.eq_1) g3) @hi0) @L1) @hb) g5) w1) ?_
      refine ⟨c+1,⟨by omega,by omega⟩,az _ _ [] [(100,100)] ?_ ?_ rfl rfl,by simp only; omega⟩
      ·simp [cv,cvL,cv1,cv0,upd,lk,aJ,sD,gT,ig]
      ·simp [bE,aJ,lk,cvO,cvL,cv0,frz,upd,hO,noH]
     ·rw [Bool.true_or] at hsu; replace hsu:=hsu.symm
      refine gx (an (an (an (an (an (an (an (an fZ @sD.eq_1) @gT.eq_1) @ig.eq_1) g3) @hi0) @L1) @hb) w1) ?_
      refine ⟨c+1,⟨by omega,by omega⟩,az _ _ [] [(100,100)] ?_ ?_ rfl rfl,by simp only; omega⟩
      ·simp [cv,cvL,cv1,cv0,upd,lk,aJ,sD,gT,ig,hsu]
      ·simp [bE,aJ,lk,cvO,cvL,cv0,frz,upd,hO,noH]
    ·have g3:decide ((c:Int)<=122)=false:=decide_eq_false (by omega)
     obtain rfl:c=123:=by omega
     clear hsu
     generalize hok:inR 97 123 b=ok1
     refine gx (an (an (an (an fZ @sD.eq_1) @gT.eq_1) @ig.eq_1) g3) ?_
     refine bZ (ι:=Nat) (fun c=>48<=c/\c<=58)
      (fun c=>ek [(0,sD s),(3,gT i),(4,ig (ok1 || inR 48 c b)),(6,.i (.s (.int .u8 c))),(16,.pt 100 0 0 0)] [(100,.it s (i+wd))]) (fun c=>58 - c) 48 ⟨Nat.le_refl _,by omega⟩ ?_ ?_
     ·refine az _ _ [] [(100,100)] ?_ ?_ rfl rfl
      ·simp [cv,cvL,cv1,cv0,upd,lk,aJ,sD,gT,ig,Gj]
      ·simp [bE,aJ,lk,cvO,cvL,cv0,frz,upd,hO,noH]
     ·rintro c ⟨hd1,hd2⟩
      rw [au]
      have hsu:((ok1 || inR 48 c b) || decide (b.toNat=c))=(ok1 || inR 48 (c+1) b):=by rw [Bool.or_assoc,Gi hd1]
      by_cases hd:c<=57
      ·have g3:decide ((c:Int)<=57)=true:=decide_eq_true (by omega)
       have w1:IntKind.u8.wrap ((c:Int)+1)=((c+1:Nat):Int):=by rw [IntKind.wrap_u8]; omega
       have g4:decide ((b.toNat:Int)=(c:Int))=decide (b.toNat=c):=by
        by_cases e:b.toNat=c
        ·rw [decide_eq_true e,decide_eq_true (by omega)]
        ·rw [decide_eq_false e,decide_eq_false (by omega)]
       generalize (ok1 || inR 48 c b)=ok at *
       cases ok
       ·rw [Bool.false_or] at hsu; have g5:=g4.trans hsu
        refine gx (an (an (an (an (an (an (an (an (an fZ @sD.eq_1) @gT.eq_1) @ig.eq_1) g3) @hi0) @L1) @hb) g5) w1) ?_
        refine ⟨c+1,⟨by omega,by omega⟩,az _ _ [] [(100,100)] ?_ ?_ rfl rfl,by simp only; omega⟩
        ·simp [cv,cvL,cv1,cv0,upd,lk,aJ,sD,gT,ig]
        ·simp [bE,aJ,lk,cvO,cvL,cv0,frz,upd,hO,noH]
       ·rw [Bool.true_or] at hsu; replace hsu:=hsu.symm
        refine gx (an (an (an (an (an (an (an (an fZ @sD.eq_1) @gT.eq_1) @ig.eq_1) g3) @hi0) @L1) @hb) w1) ?_
        refine ⟨c+1,⟨by omega,by omega⟩,az _ _ [] [(100,100)] ?_ ?_ rfl rfl,by simp only; omega⟩
        ·simp [cv,cvL,cv1,cv0,upd,lk,aJ,sD,gT,ig,hsu]
        ·simp [bE,aJ,lk,cvO,cvL,cv0,frz,upd,hO,noH]
      ·have g3:decide ((c:Int)<=57)=false:=decide_eq_false (by omega)
       obtain rfl:c=58:=by omega
       have hnb:oQ b=(ok1 || inR 48 58 b):=by unfold oQ; rw [hok]
       rw [<- hnb]
       cases hn:oQ b
       ·have hRf:R=false:=by
         rw [<- hR,List.all_eq_false]
         exact ⟨i,List.mem_range.2 h,by rw [hb,hn]; simp⟩
        subst hRf
        refine gx (an (an (an (an fZ @sD.eq_1) @gT.eq_1) @ig.eq_1) g3) ?_
        refine ax [] rfl ?_
        simp [cv,cv1,cv0,upd,ig]
       ·have hlt:b.toNat < 128:=by
         unfold oQ inR at hn
         simp at hn; omega
        obtain rfl:=hlow hlt
        refine gx (an (an (an (an fZ @sD.eq_1) @gT.eq_1) @ig.eq_1) g3) ?_
        refine ⟨i+1,⟨h,fun k hk'=>?_⟩,az _ _ [] [(100,100)] ?_ ?_ rfl rfl,by simp; omega⟩
        ·rcases Nat.lt_or_ge k i with h1 | h1
         ·exact hk k h1
         ·obtain rfl:k=i:=by omega
          rw [hb]; exact hn
        ·simp [cv,cvL,cv1,cv0,upd,lk,aJ,sD,gT,ig]
        ·simp [bE,aJ,lk,cvO,cvL,cv0,frz,upd,hO,noH]
  ·have L1:(i < s.size)=False:=eq_false h
   have hRt:R=true:=by
    rw [<- hR,List.all_eq_true]
    intro k hk'
    exact hk k (by have:=List.mem_range.1 hk'; omega)
   subst hRt
   refine gx (an (an fZ @sD.eq_1) @L1) ?_
   refine ax [] rfl ?_
   simp [cv,cv1,cv0,upd,ig]
theorem oo:(type_of% @Ty.T3)/\(type_of% @Ty.acT):=⟨@Ty.T3,@Ty.acT⟩
def inB (least n:Int):Bool:=decide (least<=n) && decide (n<=1000000000000)
def Pg (l:List Int):I:=.sl (l.map fun n=>[.s (.int .i64 n)])
theorem Zo (least:Int) (l:List Int) (hl:l.length<=1000):PureD Tryz.prog 75 [gT least,.i (Pg l)] (ig (l.all (inB least))):=by
 generalize hR:l.all (inB least)=R
 refine aa 21 Tryz.func75 rfl rfl rfl (fun _ _=>rfl) ?_
 refine gx (an (an oo @Pg.eq_1) @gT.eq_1) ?_
 refine bZ (ι:=Nat) (fun i=>i<=l.length/\(l.drop i).all (inB least)=R)
  (fun i=>ek [(0,gT least),(7,.i (Pg l)),(8,gT l.length),(9,gT i)] []) (fun i=>l.length - i) 0 ⟨Nat.zero_le _,hR⟩ ?_ ?_
 ·refine az _ _ [] [] ?_ ?_ rfl rfl
  ·simp [cv,cvL,cv1,cv0,upd,lk,aJ,gT,Pg]
  ·simp
 ·rintro i ⟨hi,hr⟩
  clear hR
  rw [au]
  by_cases h:i < l.length
  ·have g1:decide ((i:Int) < (l.length:Int))=true:=decide_eq_true (by omega)
   have e1:(l.map fun n=>[I.s (.int .i64 n)])[i]?=some [.s (.int .i64 l[i])]:=by rw [List.getElem?_map,List.getElem?_eq_getElem h]; rfl
   have w1:IntKind.i64.wrap ((i:Int)+1)=((i+1:Nat):Int):=by rw [aD (by omega) (by omega)]; omega
   rw [List.drop_eq_getElem_cons h,List.all_cons] at hr
   generalize l[i]=n at *
   unfold inB at hr
   by_cases h1:least<=n
   ·have g2:decide (n < least)=false:=decide_eq_false (by omega)
    rw [decide_eq_true h1,Bool.true_and] at hr
    by_cases h2:n<=1000000000000
    ·have g3:decide ((1000000000000:Int) < n)=false:=decide_eq_false (by omega)
     rw [decide_eq_true h2,Bool.true_and] at hr
     refine gx (an (an (an (an (an (an (an oo @gT.eq_1) @Pg.eq_1) g1) e1) g2) g3) w1) ?_
     refine ⟨i+1,⟨h,hr⟩,az _ _ [] [] ?_ ?_ rfl rfl,by simp; omega⟩
     ·simp [cv,cvL,cv1,cv0,upd,lk,aJ,gT,Pg]
     ·simp
    ·have g3:decide ((1000000000000:Int) < n)=true:=decide_eq_true (by omega)
     rw [decide_eq_false h2,Bool.false_and] at hr
     subst hr
     refine gx (an (an (an (an (an (an oo @gT.eq_1) @Pg.eq_1) g1) e1) g2) g3) ?_
     refine ax [] rfl ?_
     simp [cv,cv1,cv0,upd,ig]
   ·have g2:decide (n < least)=true:=decide_eq_true (by omega)
    rw [decide_eq_false h1,Bool.false_and,Bool.false_and] at hr
    subst hr
    refine gx (an (an (an (an (an oo @gT.eq_1) @Pg.eq_1) g1) e1) g2) ?_
    refine ax [] rfl ?_
    simp [cv,cv1,cv0,upd,ig]
  ·have g1:decide ((i:Int) < (l.length:Int))=false:=decide_eq_false (by omega)
   rw [List.drop_eq_nil_of_le (by omega)] at hr
   simp only [List.all_nil] at hr
   subst hr
   refine gx (an (an (an oo @gT.eq_1) @Pg.eq_1) g1) ?_
   refine ax [] rfl ?_
   simp [cv,cv1,cv0,upd,ig]
theorem oC:(type_of% @Ty.T3)/\(type_of% @Ty.T9)/\(type_of% @Ty.adm):=⟨@Ty.T3,@Ty.T9,@Ty.adm⟩
theorem mE:(type_of% @Ty.T3)/\(type_of% @Ty.T9)/\(type_of% @Ty.T26)/\(type_of% @Ty.T54)/\(type_of% @Ty.adg):=⟨@Ty.T3,@Ty.T9,@Ty.T26,@Ty.T54,@Ty.adg⟩
theorem xH:(type_of% @Ty.T0)/\(type_of% @Ty.T9)/\(type_of% @Ty.T26)/\(type_of% @Ty.T54)/\(type_of% @Ty.adg):=⟨@Ty.T0,@Ty.T9,@Ty.T26,@Ty.T54,@Ty.adg⟩
theorem Jt (l:List ByteArray) (hl:l.length<=100):PureD Tryz.prog 253 [.i (.sl (l.map fun s=>[sI s]))] (intD (if l.all eZ then 0 else 4)):=by
 generalize hR:(if l.all eZ then 0 else 4:Int)=R
 refine aa 20 Tryz.func253 rfl rfl rfl (fun _ _=>rfl) ?_
 refine gx (an oC @sI.eq_1) ?_
 refine bZ (ι:=Nat) (fun i=>i<=l.length/\(if (l.drop i).all eZ then 0 else 4:Int)=R)
  (fun i=>ek [(2,intD 0),(5,.i (.sl (l.map fun s=>[sI s]))),(6,intD l.length),(7,intD i)] []) (fun i=>l.length - i) 0 ⟨Nat.zero_le _,hR⟩ ?_ ?_
 ·refine az _ _ [] [] ?_ ?_ rfl rfl
  ·simp [cv,cvL,cv1,cv0,upd,lk,aJ,intD,sI]
  ·simp
 ·rintro i ⟨hi,hr⟩
  clear hR
  rw [au]
  by_cases h:i < l.length
  ·have g1:decide ((i:Int) < (l.length:Int))=true:=decide_eq_true (by omega)
   have e1:(l.map fun s=>[sI s])[i]?=some [sI l[i]]:=by rw [List.getElem?_map,List.getElem?_eq_getElem h]; rfl
   have w1:IntKind.i64.wrap ((i:Int)+1)=((i+1:Nat):Int):=by rw [aD (by omega) (by omega)]; omega
   rw [List.drop_eq_getElem_cons h,List.all_cons] at hr
   generalize l[i]=s at *
   simp only [sI] at e1
   by_cases h1:1<=s.size
   ·have g2:decide ((s.size:Int) < 1)=false:=decide_eq_false (by omega)
    by_cases h2:s.size<=40
    ·have g3:decide ((40:Int) < (s.size:Int))=false:=decide_eq_false (by omega)
     have hw:eZ s=true:=wordOk_iff.2 ⟨h1,h2⟩
     rw [hw,Bool.true_and] at hr
     refine gx (an (an (an (an (an (an (an oC @intD.eq_1) @sI.eq_1) g1) e1) g2) g3) w1) ?_
     refine ⟨i+1,⟨h,hr⟩,az _ _ [] [] ?_ ?_ rfl rfl,by simp; omega⟩
     ·simp [cv,cvL,cv1,cv0,upd,lk,aJ,intD,sI]
     ·simp
    ·have g3:decide ((40:Int) < (s.size:Int))=true:=decide_eq_true (by omega)
     have hw:eZ s=false:=by simp [eZ]; omega
     rw [hw,Bool.false_and,if_neg (by simp)] at hr
     subst hr
     refine gx (an (an (an (an (an (an oC @intD.eq_1) @sI.eq_1) g1) e1) g2) g3) ?_
     refine ax [] rfl ?_
     simp [cv,cv1,cv0,upd,intD]
   ·have g2:decide ((s.size:Int) < 1)=true:=decide_eq_true (by omega)
    have hw:eZ s=false:=by simp [eZ]; omega
    rw [hw,Bool.false_and,if_neg (by simp)] at hr
    subst hr
    refine gx (an (an (an (an (an oC @intD.eq_1) @sI.eq_1) g1) e1) g2) ?_
    refine ax [] rfl ?_
    simp [cv,cv1,cv0,upd,intD]
  ·have g1:decide ((i:Int) < (l.length:Int))=false:=decide_eq_false (by omega)
   rw [List.drop_eq_nil_of_le (by omega)] at hr
   simp only [List.all_nil,if_true] at hr
   subst hr
   refine gx (an (an oC @intD.eq_1) g1) ?_
   refine ax [] rfl ?_
   simp [cv,cv1,cv0,upd,intD]
theorem PO {l:List PurseD} {d:ByteArray} {i:Nat} (h:i < l.length):pV (l.take (i+1)) d=pV (l.take i) d+if l[i].d=d then l[i].n else 0:=by
 unfold pV
 rw [List.take_succ_eq_append_getElem h,List.map_append,List.sum_append]; simp
def ovr (n:Nat):Nat:=if 18446744073709551616<=n then 1 else 0
theorem aay (a b:ByteArray):(a == b)=decide (a=b):=by
 obtain ⟨a⟩:=a
 obtain ⟨b⟩:=b
 show (a == b)=_
 by_cases h:a=b
 ·subst h; simp
 ·rw [decide_eq_false (fun e=>h (by injection e))]; exact beq_eq_false_iff_ne.2 h
theorem abE:bits .or .u64 0 0=0:=by decide
theorem abD:bits .or .u64 0 1=1:=by decide
theorem abC:bits .or .u64 1 0=1:=by decide
theorem abB:bits .or .u64 1 1=1:=by decide
theorem PN (l:List PurseD) (d:ByteArray) (hl:l.length<=1048576) (hn:∀ p∈l,p.n < 18446744073709551616) :
  PureD Tryz.prog 284 [.i (eO l),sD d] (.tup [wD (if 18446744073709551616<=pV l d then 0 else pV l d),boolD (decide (18446744073709551616<=pV l d))]):=by
 refine aa 35 Tryz.func284 rfl rfl rfl (fun _ _=>rfl) ?_
 refine gx (an (an mE @eO.eq_1) @sD.eq_1) ?_
 refine bZ (ι:=Nat) (fun i=>i<=l.length)
  (fun i=>ek [(1,sD d),(6,wD (pV (l.take i) d % 18446744073709551616)),(7,wD (ovr (pV (l.take i) d))),(11,.i (.sl (l.map a_))),(12,intD l.length),(13,intD i)] []) (fun i=>l.length - i) 0 (Nat.zero_le _) ?_ ?_
 ·refine az _ _ [] [] ?_ ?_ rfl rfl
  ·simp [cv,cvL,cv1,cv0,upd,lk,aJ,intD,sI,wD,pV,ovr,sD]
  ·simp
 ·rintro i hi
  rw [au]
  by_cases h:i < l.length
  ·have g1:decide ((i:Int) < (l.length:Int))=true:=decide_eq_true (by omega)
   have e1:(l.map a_)[i]?=some (a_ l[i]):=by rw [List.getElem?_map,List.getElem?_eq_getElem h]; rfl
   have w1:IntKind.i64.wrap ((i:Int)+1)=((i+1:Nat):Int):=by rw [aD (by omega) (by omega)]; omega
   have hs:=PO (d:=d) h
   have hpn:=hn l[i] (List.getElem_mem h)
   generalize l[i]=p at *
   generalize hS':pV (l.take (i+1)) d=S' at *
   generalize hS:pV (l.take i) d=S at *
   simp only [a_] at e1
   by_cases hd:p.d=d
   ·have g2:(p.d == d)=true:=by rw [aay]; exact decide_eq_true hd
    rw [if_pos hd] at hs
    have a1:S % 18446744073709551616 < 18446744073709551616:=Nat.mod_lt _ (by decide)
    have hadd:=EK (S % 18446744073709551616) p.n 0 a1 hpn (by decide)
    have hm:(S % 18446744073709551616+p.n+0) % 18446744073709551616=S' % 18446744073709551616:=by omega
    rw [hm] at hadd
    have hor:(∃ c:Nat,(S % 18446744073709551616+p.n+0) / 18446744073709551616=c/\((ovr S=0/\c=0/\ovr S'=0)\/(ovr S=0/\c=1/\ovr S'=1)\/(ovr S=1/\c=0/\ovr S'=1)\/(ovr S=1/\c=1/\ovr S'=1))):=by
     refine ⟨_,rfl,?_⟩
     have:(S % 18446744073709551616+p.n+0) / 18446744073709551616=0\/(S % 18446744073709551616+p.n+0) / 18446744073709551616=1:=by omega
     unfold ovr
     rcases this with e | e <;> rw [e] <;> by_cases k1:18446744073709551616<=S <;> by_cases k2:18446744073709551616<=S' <;> first | (simp [k1,k2]; done) | (exfalso; omega)
    obtain ⟨c,hc,hor⟩:=hor
    rw [hc] at hadd
    generalize S % 18446744073709551616=A at *
    generalize hB:S' % 18446744073709551616=B at *
    have fin:∀ x y:Nat,ovr S=x->c=y->((x=0/\y=0/\ovr S'=0)\/(x=0/\y=1/\ovr S'=1)\/(x=1/\y=0/\ovr S'=1)\/(x=1/\y=1/\ovr S'=1)):=by
     intro x y hx hy; rw [<- hx,<- hy]; exact hor
    generalize ovr S=x at *
    generalize hO:ovr S'=z at *
    rcases hor with ⟨rfl,rfl,rfl⟩ | ⟨rfl,rfl,rfl⟩ | ⟨rfl,rfl,rfl⟩ | ⟨rfl,rfl,rfl⟩ <;>
    ·refine gx (an (an (an (an (an (an (an (an mE @intD.eq_1) @sD.eq_1) @wD.eq_1) g1) e1) g2) @Int.natCast_zero) @Int.natCast_one) ?_
     refine jI hadd ?_
     refine gx (an (an (an (an (an (an mE @intD.eq_1) @sD.eq_1) @wD.eq_1) w1) @Int.natCast_zero) @Int.natCast_one) ?_
     refine ⟨i+1,h,az _ _ [] [] ?_ ?_ rfl rfl,by simp; omega⟩
     ·simp [cv,cvL,cv1,cv0,upd,lk,aJ,intD,sI,wD,sD,hS',hB,hO,abE,abD,abC,abB]
     ·simp
   ·have g2:(p.d == d)=false:=by rw [aay]; exact decide_eq_false hd
    rw [if_neg hd] at hs
    obtain rfl:S'=S:=hs
    refine gx (an (an (an (an (an (an (an mE @intD.eq_1) @sD.eq_1) @wD.eq_1) g1) e1) g2) w1) ?_
    refine ⟨i+1,h,az _ _ [] [] ?_ ?_ rfl rfl,by simp; omega⟩
    ·simp [cv,cvL,cv1,cv0,upd,lk,aJ,intD,sI,wD,sD,hS']
    ·simp
  ·have g1:decide ((i:Int) < (l.length:Int))=false:=decide_eq_false (by omega)
   have ht:l.take i=l:=List.take_of_length_le (by omega)
   rw [ht]
   generalize pV l d=S
   by_cases hS:18446744073709551616<=S
   ·have hov:ovr S=1:=by simp [ovr,hS]
    rw [hov,if_pos hS,decide_eq_true hS]
    refine gx (an (an (an (an (an mE @intD.eq_1) @wD.eq_1) g1) @Int.natCast_one) @Int.natCast_zero) ?_
    refine cK [] rfl ?_
    simp [cv,cvT,cv1,cv0,upd,intD,boolD,wD]
   ·have hov:ovr S=0:=by simp [ovr,hS]
    have hm:S % 18446744073709551616=S:=Nat.mod_eq_of_lt (by omega)
    rw [hov,if_neg hS,decide_eq_false hS,hm]
    refine gx (an (an (an (an mE @intD.eq_1) @wD.eq_1) g1) @Int.natCast_zero) ?_
    refine cK [] rfl ?_
    simp [cv,cvT,cv1,cv0,upd,intD,boolD,wD]
theorem JC (l:List PurseD):uni 3 (l.map a_)=true:=by simp [uni,a_]
theorem vI (l:List PurseD) (hl:l.length<=1048576):aN Tryz.prog 170 [.i (eO l)] noH (.os 1 3 0 l.length) (hOf noH [(1,.arr 3 (l.map a_))]):=by
 cases l with
 | nil =>
  refine jv (fU Tryz.func170 rfl rfl) fun K vs hrd=>?_
  obtain ⟨hs,hg⟩:=hrd
  obtain ⟨a,c,hv⟩:∃ a c,vs.getD 0 undef=.slice a 0 c:=by
   have:=hg 0 _ rfl
   generalize vs.getD 0 undef=v at this
   cases this with
   | i hx =>
    cases hx with
    | e a c=>exact ⟨a,c,rfl⟩
    | sl b off cap sz es f h1 h2=>exact ⟨_,_,rfl⟩
  refine ⟨[.i (.s (.slice a 0 c))],?_,hs,fun j d hd=>?_⟩
  ·have hun:=abW
   refine aa 8 Tryz.func170 rfl rfl rfl (fun _ _=>rfl) ?_
   cases a with
   | none =>
    (repeat (first | (simp -implicitDefEqProofs only [ev,mixed,Nat.reduceLT,Nat.reduceAdd,Nat.reduceMul,reduceIte,Nat.reduceEqDiff,reduceCtorEq,Nat.reducePow,Nat.reduceLeDiff,Int.reduceLE,Int.reduceLT,Int.reduceToNat,Int.reduceEq,Nat.reduceBEq,dV,gdA,af,il,kE,ixQ,ldH,aF,aj,bC,faQ,exQ,kU,dO,bS,slQ,stH,kV,kW,aS,bq,ae,D.one,jP,dH,dX,cvH,xH,dR hun,Option.isNone_none]) | (with_reducible refine ⟨?_,?_⟩; (· first | (obtain ⟨rfl⟩:=‹Hq _ _›; with_reducible refine chk_ok ?_; kernel_rfl) | kernel_rfl)) | (with_reducible intro ops hops)))
    refine dG [(1,.arr 3 [])] [] [] rfl ?_ ?_ rfl ?_ rfl
    ·simp [cv,cv1,cv0,upd,iP,hF,lk,noH]
    ·simp [bE,iP,lk,cvO,frz,upd,hF,noH]
    ·simp [noH]
   | some a =>
    (repeat (first | (simp -implicitDefEqProofs only [ev,mixed,Nat.reduceLT,Nat.reduceAdd,Nat.reduceMul,reduceIte,Nat.reduceEqDiff,reduceCtorEq,Nat.reducePow,Nat.reduceLeDiff,Int.reduceLE,Int.reduceLT,Int.reduceToNat,Int.reduceEq,Nat.reduceBEq,dV,gdA,af,il,kE,ixQ,ldH,aF,aj,bC,faQ,exQ,kU,dO,bS,slQ,stH,kV,kW,aS,bq,ae,D.one,jP,dH,dX,cvH,xH,dR hun,Option.isNone_some]) | (with_reducible refine ⟨?_,?_⟩; (· first | (obtain ⟨rfl⟩:=‹Hq _ _›; with_reducible refine chk_ok ?_; kernel_rfl) | kernel_rfl)) | (with_reducible intro ops hops)))
    refine dG [(1,.arr 3 [])] [] [(1,1770)] rfl ?_ ?_ rfl ?_ rfl
    ·simp [cv,cv1,cv0,upd,iP,hF,lk,noH]
    ·simp [bE,iP,lk,cvO,frz,upd,hF,noH]
    ·simp [noH]
  ·cases j with
   | zero=>simp at hd; subst hd; rw [hv]; exact .i (.s _ rfl)
   | succ j=>simp at hd
 | cons p t =>
  have hu:=JC t
  have e3:t.length+1<=140737488355328:=by simp at hl; omega
  have e4:(t.length+1) * 40<=140737488355328:=by simp at hl; omega
  have e5:(a_ p).length=3:=rfl
  refine aa 8 Tryz.func170 rfl rfl rfl (fun _ _=>rfl) ?_
  refine gx (an (an (an (an (an (an (an (an xH @eO.eq_1) hu) e3) e4) e5) @List.map_cons.{0,0}) @List.length_cons.{0}) @List.length_map.{0,0}) ?_
  refine dG [(1,.arr 3 ((p :: t).map a_))] [] [(1,1770)] rfl ?_ ?_ rfl ?_ rfl
  ·simp [cv,cv1,cv0,upd,iP,hF,lk,noH]
  ·simp [bE,iP,lk,cvO,frz,upd,hF,noH]
  ·simp [noH]
theorem bz:(type_of% @Ty.T1)/\(type_of% @Ty.T2)/\(type_of% @Ty.T3)/\(type_of% @Ty.T4)/\(type_of% @Ty.T5)/\(type_of% @Ty.T6)/\(type_of% @Ty.T7)/\(type_of% @Ty.T9)/\(type_of% @Ty.T22)/\(type_of% @Ty.T23)/\(type_of% @Ty.T24)/\(type_of% @Ty.T25)/\(type_of% @Ty.T26)/\(type_of% @Ty.T28)/\(type_of% @Ty.T29)/\(type_of% @Ty.T32)/\(type_of% @Ty.T35)/\(type_of% @Ty.T37)/\(type_of% @Ty.T54)/\(type_of% @Ty.T72)/\(type_of% @Ty.adr)/\(type_of% @Ty.adq)/\(type_of% @Ty.ado)/\(type_of% @Ty.adn)/\(type_of% @Ty.adg)/\(type_of% @Ty.adf)/\(type_of% @Ty.adc)/\(type_of% @Ty.acT):=⟨@Ty.T1,@Ty.T2,@Ty.T3,@Ty.T4,@Ty.T5,@Ty.T6,@Ty.T7,@Ty.T9,@Ty.T22,@Ty.T23,@Ty.T24,@Ty.T25,@Ty.T26,@Ty.T28,@Ty.T29,@Ty.T32,@Ty.T35,@Ty.T37,@Ty.T54,@Ty.T72,@Ty.adr,@Ty.adq,@Ty.ado,@Ty.adn,@Ty.adg,@Ty.adf,@Ty.adc,@Ty.acT⟩
theorem Al:(type_of% @Ty.T1)/\(type_of% @Ty.T3)/\(type_of% @Ty.T4)/\(type_of% @Ty.T5)/\(type_of% @Ty.T25)/\(type_of% @Ty.T29)/\(type_of% @Ty.adn)/\(type_of% @Ty.acT):=⟨@Ty.T1,@Ty.T3,@Ty.T4,@Ty.T5,@Ty.T25,@Ty.T29,@Ty.adn,@Ty.acT⟩
def BR (o:Option PurseD) (p:PurseD):Nat :=
 if p.o.size=0\/40 < p.o.size\/p.d.size=0\/40 < p.d.size then 4 else if p.n=0 then 3 else
 match o with
 | none=>0
 | some q=>if ni (pk q) (pk p) < 0 then 0 else 2
def wB:Option PurseD->List PurseD->Nat
 | _,[]=>0
 | o,p :: t=>if BR o p=0 then wB (some p) t else BR o p
def ng:D:=.i (.s (.slice none 0 0))
def stC (l:List PurseD):List D:=[.i (.s (.string ⟨#[97]⟩)),gT 0,gT 0,ng,ng,ng,ng,ng,ng,.i (eO l)]
def Ec (p:Nat × Nat):List I:=[.s (.int .i64 p.1),.s (.int .i64 p.2)]
theorem aaw {P:Program} {t e:TypeId} (hu:aC P t=some (.slice e)):pv P (Builtin.len_ #[t] 0 #[.slice none 0 0])=some (.int .i64 0):=by
 simp only [Builtin.len_]
 rw [show (#[t]:Array TypeId)[0]?=some t from rfl,show (#[Value.slice none 0 0]:Array Value)[0]?=some (.slice none 0 0) from rfl]
 simp only [bf,show pv P (underlying t)=some (.slice e) from hu,Option.bind_some,bT]
 rfl
theorem Iz:PureD Tryz.prog 77 [.i (.sl [])] (intD 0):=by
 refine aa 67 Tryz.func77 rfl rfl rfl (fun _ _=>rfl) ?_
 refine gx (an (an Al @List.length_nil.{0}) @Int.natCast_zero) ?_
 refine bZ (ι:=Nat) (fun i=>i=0)
  (fun i=>ek [(2,intD 0),(6,intD 0),(7,intD 0)] []) (fun i=>1 - i) 0 rfl ?_ ?_
 ·refine az _ _ [] [] ?_ ?_ rfl rfl
  ·simp [cv,cvL,cv1,cv0,upd,lk,aJ,intD,sD,sI]
  ·simp
 ·rintro i rfl
  rw [au]
  have g1:decide ((0:Int) < 0)=false:=by decide
  refine gx (an (an Al @intD.eq_1) g1) ?_
  refine ax [] rfl ?_
  simp [cv,cv1,cv0,upd,intD]
theorem aas (l:List PurseD) (hl:l.length<=60):PureD Tryz.prog 34 [.agg (stC l)] (intD (wB none l)):=by
 have hname:=YM ⟨#[97]⟩
 rw [show iy ⟨#[97]⟩=true by decide] at hname
 have hfrom:=Zo 0 [0,0] (by simp)
 rw [show ([0,0].all (inB 0))=true by decide] at hfrom
 simp only [Pg,List.map_cons,List.map_nil] at hfrom
 have hmarks:=Iz
 generalize hR:wB none l=R
 have q1:=aaw abX
 have q2:=aaw ab_
 have q3:=aaw abZ
 have q4:=aaw abY
 refine aa 230 Tryz.func34 rfl rfl rfl (fun _ _=>rfl) ?_
 (refine gy (an (an (an (an (an (an (an (an bz @stC.eq_1) @gT.eq_1) @ng.eq_1) @eO.eq_1) @q1) @q2) @q3) @q4) ?_; try intro ops hops)
 (first | refine ai [] [] (hname) (by simp [aM,cvA,aP,cvR,ah,cv1,cvL,cv0,bI,af,intD,sD,sI,eO,ae,upd]) rfl ?_ | refine ag [] [] [] (hname) (fun G _=>by simp [aM,cvA,aP,cvR,ah,cv1,cvL,cv0,bI,af,intD,sD,sI,eO,ae,upd]) rfl ?_)
 (refine gy (an (an (an (an (an bz @ig.eq_1) @q1) @q2) @q3) @q4) ?_; try intro ops hops)
 (first | refine ai [1772] [] (hfrom) (by simp [aM,cvA,aP,cvR,ah,cv1,cvL,cv0,bI,af,intD,sD,sI,eO,ae,upd,hO,lk,gT]) rfl ?_ | refine ag [1772] [] [1772] (hfrom) (fun G hG=>by (have hG1772:=hG 1772 (by simp); simp [aM,cvA,aP,cvR,ah,cv1,cvL,cv0,bI,af,intD,sD,sI,eO,ae,upd,hO,lk,gT,hG1772])) rfl ?_)
 refine gx (an (an (an (an (an bz @ig.eq_1) @q1) @q2) @q3) @q4) ?_
 refine bZ (ι:=Nat) (fun i=>i<=7)
  (fun i=>ek [(1,.pt 101 0 0 0),(57,.os 100 2 0 7),(58,intD 7),(59,intD i)] [(100,.arr 2 ([(0,4),(0,8),(0,8),(0,50),(0,50),(0,50),(l.length,60)].map Ec)),(101,.box (stC l))]) (fun i=>7 - i) 0 (Nat.zero_le _) ?_ ?_
 ·refine az _ _ [] [(100,2308),(101,1000)] ?_ ?_ rfl rfl
  ·simp [cv,cvL,cv1,cv0,upd,lk,aJ,intD]
  ·simp [bE,aJ,lk,cvO,cvL,cv1,cv0,frz,upd,hO,noH,stC,gT,ng,eO,Ec,D.one]
 have hL:∀ p∈[(0,4),(0,8),(0,8),(0,50),(0,50),(0,50),(l.length,60)],p.1<=p.2:=by simp; exact hl
 have hLn:[(0,4),(0,8),(0,8),(0,50),(0,50),(0,50),(l.length,60)].length=7:=rfl
 generalize [(0,4),(0,8),(0,8),(0,50),(0,50),(0,50),(l.length,60)]=L at hL hLn ⊢
 rintro i hi
 rw [au]
 by_cases h:i < L.length
 ·have g1:decide ((i:Int) < 7)=true:=decide_eq_true (by omega)
  have e1:(L.map Ec)[i]?=some (Ec L[i]):=by rw [List.getElem?_map,List.getElem?_eq_getElem h]; rfl
  have w1:IntKind.i64.wrap ((i:Int)+1)=((i+1:Nat):Int):=by rw [aD (by omega) (by omega)]; omega
  have L1:((i:Int) < 7)=True:=eq_true (by omega)
  have hp:=hL L[i] (List.getElem_mem h)
  generalize L[i]=p at *
  obtain ⟨x,y⟩:=p
  simp only [Ec] at e1 hp
  have g2:decide ((y:Int) < (x:Int))=false:=decide_eq_false (by omega)
  refine gx (an (an (an (an (an (an bz @intD.eq_1) g1) e1) g2) w1) @L1) ?_
  refine ⟨i+1,by omega,az _ _ [] [(100,100),(101,101)] ?_ ?_ rfl rfl,by simp; omega⟩
  ·simp [cv,cvL,cv1,cv0,upd,lk,aJ,intD]
  ·simp [bE,aJ,lk,cvO,cvL,cv1,cv0,frz,upd,hO,noH,stC,gT,ng,eO,Ec,D.one]
 have g1:decide ((i:Int) < 7)=false:=decide_eq_false (by omega)
 refine gx (an (an (an (an (an (an (an (an (an (an bz @intD.eq_1) g1) @stC.eq_1) @q1) @q2) @q3) @q4) @gT.eq_1) @ng.eq_1) @eO.eq_1) ?_
 have z1:decide ((0:Int) < 0)=false:=by decide
 refine bZ (ι:=Nat) (fun i=>i=0)
  (fun i=>ek [(1,.pt 101 0 0 0),(71,intD 0),(72,intD 0)] [(101,.box (stC l))]) (fun i=>1 - i) 0 rfl ?_ ?_
 ·refine az _ _ [] [(101,101)] ?_ ?_ rfl rfl
  ·simp [cv,cvL,cv1,cv0,upd,lk,aJ,intD]
  ·simp [bE,aJ,lk,cvO,cvL,cv1,cv0,frz,upd,hO,noH,stC,gT,ng,eO,Ec,D.one]
 rintro i rfl
 rw [au]
 refine gx (an (an (an (an (an (an (an (an (an (an bz @intD.eq_1) @z1) @stC.eq_1) @q1) @q2) @q3) @q4) @gT.eq_1) @ng.eq_1) @eO.eq_1) ?_
 refine bZ (ι:=Nat) (fun i=>i=0)
  (fun i=>ek [(1,.pt 101 0 0 0),(84,intD 0),(85,intD 0)] [(101,.box (stC l))]) (fun i=>1 - i) 0 rfl ?_ ?_
 ·refine az _ _ [] [(101,101)] ?_ ?_ rfl rfl
  ·simp [cv,cvL,cv1,cv0,upd,lk,aJ,intD]
  ·simp [bE,aJ,lk,cvO,cvL,cv1,cv0,frz,upd,hO,noH,stC,gT,ng,eO,Ec,D.one]
 rintro i rfl
 rw [au]
 refine gx (an (an (an (an (an (an (an (an (an (an bz @intD.eq_1) @z1) @stC.eq_1) @q1) @q2) @q3) @q4) @gT.eq_1) @ng.eq_1) @eO.eq_1) ?_
 refine bZ (ι:=Nat) (fun i=>i=0)
  (fun i=>ek [(1,.pt 101 0 0 0),(114,intD 0),(115,intD 0)] [(101,.box (stC l))]) (fun i=>1 - i) 0 rfl ?_ ?_
 ·refine az _ _ [] [(101,101)] ?_ ?_ rfl rfl
  ·simp [cv,cvL,cv1,cv0,upd,lk,aJ,intD]
  ·simp [bE,aJ,lk,cvO,cvL,cv1,cv0,frz,upd,hO,noH,stC,gT,ng,eO,Ec,D.one]
 rintro i rfl
 rw [au]
 refine gx (an (an (an (an (an (an (an (an (an (an bz @intD.eq_1) @z1) @stC.eq_1) @q1) @q2) @q3) @q4) @gT.eq_1) @ng.eq_1) @eO.eq_1) ?_
 refine bZ (ι:=Nat) (fun i=>i<=3)
  (fun i=>ek [(1,.pt 101 0 0 0),(157,.os 100 1 0 3),(158,intD 3),(159,intD i)] [(100,.arr 1 [[I.sl []],[I.sl []],[I.sl []]]),(101,.box (stC l))]) (fun i=>3 - i) 0 (Nat.zero_le _) ?_ ?_
 ·refine az _ _ [] [(100,9710),(101,101)] ?_ ?_ rfl rfl
  ·simp [cv,cvL,cv1,cv0,upd,lk,aJ,intD]
  ·simp [bE,aJ,lk,cvO,cvL,cv1,cv0,frz,upd,hO,noH,stC,gT,ng,eO,Ec,D.one]
 rintro i hi
 rw [au]
 by_cases h:i < 3
 ·have g1:decide ((i:Int) < 3)=true:=decide_eq_true (by omega)
  have e1:[[I.sl []],[I.sl []],[I.sl []]][i]?=some [I.sl []]:=by
   rcases (by omega:i=0\/i=1\/i=2) with rfl | rfl | rfl <;> rfl
  have w1:IntKind.i64.wrap ((i:Int)+1)=((i+1:Nat):Int):=by rw [aD (by omega) (by omega)]; omega
  have L1:((i:Int) < 3)=True:=eq_true (by omega)
  generalize hX:[[I.sl []],[I.sl []],[I.sl []]]=X at e1 ⊢
  (refine gy (an (an (an (an (an bz @intD.eq_1) g1) e1) w1) @L1) ?_; try intro ops hops)
  (first | refine aW [] (hmarks) (by simp [aM,cvA,aP,cvR,ah,cv1,cvL,cv0,bI,af,intD,sD,sI,eO,ae,upd]) ?_ | refine aL [] [] (hmarks) (fun G _=>by simp [aM,cvA,aP,cvR,ah,cv1,cvL,cv0,bI,af,intD,sD,sI,eO,ae,upd]) (by simp) ?_)
  refine gx (an (an (an (an (an bz @intD.eq_1) g1) e1) w1) @L1) ?_
  refine ⟨i+1,by omega,az _ _ [] [(100,100),(101,101)] ?_ ?_ rfl rfl,by simp; omega⟩
  ·simp [cv,cvL,cv1,cv0,upd,lk,aJ,intD]
  ·simp [bE,aJ,lk,cvO,cvL,cv1,cv0,frz,upd,hO,noH,stC,gT,ng,eO,Ec,D.one,hX]
 have g1:decide ((i:Int) < 3)=false:=decide_eq_false (by omega)
 refine gx (an (an (an (an (an (an bz @intD.eq_1) g1) @stC.eq_1) @gT.eq_1) @ng.eq_1) @eO.eq_1) ?_
 refine bZ (ι:=Nat) (fun i=>i<=l.length/\wB (if i=0 then none else l[i - 1]?) (l.drop i)=R)
  (fun i=>ek [(1,.pt 101 0 0 0),(170,.i (eO l)),(171,intD l.length),(172,intD i)] [(101,.box (stC l))]) (fun i=>l.length - i) 0 ⟨Nat.zero_le _,hR⟩ ?_ ?_
 ·refine az _ _ [] [(101,101)] ?_ ?_ rfl rfl
  ·simp [cv,cvL,cv1,cv0,upd,lk,aJ,intD,eO]
  ·simp [bE,aJ,lk,cvO,cvL,cv1,cv0,frz,upd,hO,noH,stC,gT,ng,eO,Ec,D.one]
 rintro i ⟨hi,hr⟩
 rw [au]
 clear hR
 by_cases h:i < l.length
 rotate_left
 ·have g1:decide ((i:Int) < (l.length:Int))=false:=decide_eq_false (by omega)
  rw [List.drop_eq_nil_of_le (by omega)] at hr
  simp only [wB] at hr
  subst hr
  refine gx (an (an bz @intD.eq_1) g1) ?_
  refine ax [] rfl ?_
  simp [cv,cv1,cv0,upd,intD]
 have g1:decide ((i:Int) < (l.length:Int))=true:=decide_eq_true (by omega)
 have e1:(l.map a_)[i]?=some (a_ l[i]):=by rw [List.getElem?_map,List.getElem?_eq_getElem h]; rfl
 have w1:IntKind.i64.wrap ((i:Int)+1)=((i+1:Nat):Int):=by rw [aD (by omega) (by omega)]; omega
 have w2:1<=i->IntKind.i64.wrap ((i:Int) - 1)=((i - 1:Nat):Int):=by intro _; rw [aD (by omega) (by omega)]; omega
 have e2:1<=i->∃ q,l[i - 1]?=some q/\(l.map a_)[i - 1]?=some (a_ q):=by
  intro _
  refine ⟨l[i - 1],List.getElem?_eq_getElem (by omega),?_⟩
  rw [List.getElem?_map,List.getElem?_eq_getElem (by omega)]; rfl
 have hs:l[i]?=some l[i]:=List.getElem?_eq_getElem h
 rw [List.drop_eq_getElem_cons h,wB] at hr
 generalize l[i]=p at *
 simp only [a_] at e1
 by_cases b1:p.o.size=0
 ·have c1:decide ((p.o.size:Int)=0)=true:=decide_eq_true (by omega)
  have hb:BR (if i=0 then none else l[i - 1]?) p=4:=by unfold BR; rw [if_pos (by omega)]
  rw [hb,if_neg (by decide)] at hr
  subst hr
  refine gx (an (an (an (an (an (an (an (an bz @intD.eq_1) g1) e1) @c1) @stC.eq_1) @gT.eq_1) @ng.eq_1) @eO.eq_1) ?_
  refine ax [] rfl ?_
  simp [cv,cv1,cv0,upd,intD]
 have c1:decide ((p.o.size:Int)=0)=false:=decide_eq_false (by omega)
 by_cases b2:40 < p.o.size
 ·have c2:decide ((40:Int) < (p.o.size:Int))=true:=decide_eq_true (by omega)
  have hb:BR (if i=0 then none else l[i - 1]?) p=4:=by unfold BR; rw [if_pos (by omega)]
  rw [hb,if_neg (by decide)] at hr
  subst hr
  refine gx (an (an (an (an (an (an (an (an (an bz @intD.eq_1) g1) e1) @c1) @c2) @stC.eq_1) @gT.eq_1) @ng.eq_1) @eO.eq_1) ?_
  refine ax [] rfl ?_
  simp [cv,cv1,cv0,upd,intD]
 have c2:decide ((40:Int) < (p.o.size:Int))=false:=decide_eq_false (by omega)
 by_cases b3:p.d.size=0
 ·have c3:decide ((p.d.size:Int)=0)=true:=decide_eq_true (by omega)
  have hb:BR (if i=0 then none else l[i - 1]?) p=4:=by unfold BR; rw [if_pos (by omega)]
  rw [hb,if_neg (by decide)] at hr
  subst hr
  refine gx (an (an (an (an (an (an (an (an (an (an bz @intD.eq_1) g1) e1) @c1) @c2) @c3) @stC.eq_1) @gT.eq_1) @ng.eq_1) @eO.eq_1) ?_
  refine ax [] rfl ?_
  simp [cv,cv1,cv0,upd,intD]
 have c3:decide ((p.d.size:Int)=0)=false:=decide_eq_false (by omega)
 by_cases b4:40 < p.d.size
 ·have c4:decide ((40:Int) < (p.d.size:Int))=true:=decide_eq_true (by omega)
  have hb:BR (if i=0 then none else l[i - 1]?) p=4:=by unfold BR; rw [if_pos (by omega)]
  rw [hb,if_neg (by decide)] at hr
  subst hr
  refine gx (an (an (an (an (an (an (an (an (an (an (an bz @intD.eq_1) g1) e1) @c1) @c2) @c3) @c4) @stC.eq_1) @gT.eq_1) @ng.eq_1) @eO.eq_1) ?_
  refine ax [] rfl ?_
  simp [cv,cv1,cv0,upd,intD]
 have c4:decide ((40:Int) < (p.d.size:Int))=false:=decide_eq_false (by omega)
 by_cases b5:p.n=0
 ·have c5:decide ((p.n:Int)=0)=true:=decide_eq_true (by omega)
  have hb:BR (if i=0 then none else l[i - 1]?) p=3:=by unfold BR; rw [if_neg (by omega),if_pos b5]
  rw [hb,if_neg (by decide)] at hr
  subst hr
  refine gx (an (an (an (an (an (an (an (an (an (an (an (an bz @intD.eq_1) g1) e1) @c1) @c2) @c3) @c4) @c5) @stC.eq_1) @gT.eq_1) @ng.eq_1) @eO.eq_1) ?_
  refine ax [] rfl ?_
  simp [cv,cv1,cv0,upd,intD]
 have c5:decide ((p.n:Int)=0)=false:=decide_eq_false (by omega)
 by_cases b6:i=0
 ·have c6:decide ((0:Int) < (i:Int))=false:=decide_eq_false (by omega)
  have hb:BR (if i=0 then none else l[i - 1]?) p=0:=by unfold BR; rw [if_neg (by omega),if_neg b5,if_pos b6]
  rw [hb,if_pos rfl] at hr
  refine gx (an (an (an (an (an (an (an (an (an (an (an (an (an (an bz @intD.eq_1) g1) e1) @c1) @c2) @c3) @c4) @c5) @c6) w1) @stC.eq_1) @gT.eq_1) @ng.eq_1) @eO.eq_1) ?_
  refine ⟨i+1,⟨h,by rw [if_neg (by omega),Nat.add_sub_cancel,hs]; exact hr⟩,az _ _ [] [(101,101)] ?_ ?_ rfl rfl,by simp; omega⟩
  ·simp [cv,cvL,cv1,cv0,upd,lk,aJ,intD,eO]
  ·simp [bE,aJ,lk,cvO,cvL,cv1,cv0,frz,upd,hO,noH,stC,gT,ng,eO,Ec,D.one]
 have c6:decide ((0:Int) < (i:Int))=true:=decide_eq_true (by omega)
 have w2:=w2 (by omega)
 obtain ⟨q,hq,e2⟩:=e2 (by omega)
 have hb:BR (if i=0 then none else l[i - 1]?) p=if ni (pk q) (pk p) < 0 then 0 else 2:=by unfold BR; rw [if_neg (by omega),if_neg b5,if_neg b6,hq]
 rw [hb] at hr
 clear hb
 unfold ni pk at hr
 simp only at hr
 simp only [a_] at e2
 generalize hx:lg q.o p.o=x at *
 generalize hy:lg q.d p.d=y at *
 by_cases b7:0 < x
 ·have c7:decide (0 < x)=true:=decide_eq_true b7
  rw [if_neg (show ¬ (if x=0 then y else x) < 0 by rw [if_neg (by omega)]; omega),if_neg (by decide)] at hr
  subst hr
  (repeat (first | (simp -implicitDefEqProofs only [ev,mixed,Nat.reduceLT,Nat.reduceAdd,Nat.reduceMul,reduceIte,Nat.reduceEqDiff,reduceCtorEq,Nat.reducePow,Nat.reduceLeDiff,Int.reduceLE,Int.reduceLT,Int.reduceToNat,Int.reduceEq,Nat.reduceBEq,dV,gdA,af,il,kE,ixQ,ldH,aF,aj,bC,faQ,exQ,kU,dO,bS,slQ,stH,kV,kW,aS,bq,ae,D.one,jP,dH,dX,cvH,bz,intD,g1,e1,c1,c2,c3,c4,c5,c6,w2,e2,hx,c7,stC,gT,ng,eO]) | (with_reducible refine ⟨?_,?_⟩; (· first | (obtain ⟨rfl⟩:=‹Hq _ _›; with_reducible refine chk_ok ?_; kernel_rfl) | kernel_rfl)) | (with_reducible intro ops hops)))
  refine ax [] rfl ?_
  simp [cv,cv1,cv0,upd,intD]
 have c7:decide (0 < x)=false:=decide_eq_false b7
 have c8:(q.o == p.o)=decide (x=0):=by
  rw [aay,<- hx]
  by_cases e:q.o=p.o
  ·rw [decide_eq_true e,decide_eq_true (cmpS_zero.2 e)]
  ·rw [decide_eq_false e,decide_eq_false (fun hc=>e (cmpS_zero.1 hc))]
 by_cases b8:x=0
 ·rw [decide_eq_true b8] at c8
  rw [if_pos b8] at hr
  by_cases b9:0<=y
  ·have c9:decide (0<=y)=true:=decide_eq_true b9
   rw [if_neg (show ¬ y < 0 by omega),if_neg (by decide)] at hr
   subst hr
   (repeat (first | (simp -implicitDefEqProofs only [ev,mixed,Nat.reduceLT,Nat.reduceAdd,Nat.reduceMul,reduceIte,Nat.reduceEqDiff,reduceCtorEq,Nat.reducePow,Nat.reduceLeDiff,Int.reduceLE,Int.reduceLT,Int.reduceToNat,Int.reduceEq,Nat.reduceBEq,dV,gdA,af,il,kE,ixQ,ldH,aF,aj,bC,faQ,exQ,kU,dO,bS,slQ,stH,kV,kW,aS,bq,ae,D.one,jP,dH,dX,cvH,bz,intD,g1,e1,c1,c2,c3,c4,c5,c6,w2,e2,hx,hy,c7,c8,c9,stC,gT,ng,eO]) | (with_reducible refine ⟨?_,?_⟩; (· first | (obtain ⟨rfl⟩:=‹Hq _ _›; with_reducible refine chk_ok ?_; kernel_rfl) | kernel_rfl)) | (with_reducible intro ops hops)))
   refine ax [] rfl ?_
   simp [cv,cv1,cv0,upd,intD]
  ·have c9:decide (0<=y)=false:=decide_eq_false b9
   rw [if_pos (show y < 0 by omega),if_pos rfl] at hr
   (repeat (first | (simp -implicitDefEqProofs only [ev,mixed,Nat.reduceLT,Nat.reduceAdd,Nat.reduceMul,reduceIte,Nat.reduceEqDiff,reduceCtorEq,Nat.reducePow,Nat.reduceLeDiff,Int.reduceLE,Int.reduceLT,Int.reduceToNat,Int.reduceEq,Nat.reduceBEq,dV,gdA,af,il,kE,ixQ,ldH,aF,aj,bC,faQ,exQ,kU,dO,bS,slQ,stH,kV,kW,aS,bq,ae,D.one,jP,dH,dX,cvH,bz,intD,g1,e1,c1,c2,c3,c4,c5,c6,w1,w2,e2,hx,hy,c7,c8,c9,stC,gT,ng,eO]) | (with_reducible refine ⟨?_,?_⟩; (· first | (obtain ⟨rfl⟩:=‹Hq _ _›; with_reducible refine chk_ok ?_; kernel_rfl) | kernel_rfl)) | (with_reducible intro ops hops)))
   refine ⟨i+1,⟨h,by rw [if_neg (by omega),Nat.add_sub_cancel,hs]; exact hr⟩,az _ _ [] [(101,101)] ?_ ?_ rfl rfl,by simp; omega⟩
   ·simp [cv,cvL,cv1,cv0,upd,lk,aJ,intD,eO]
   ·simp [bE,aJ,lk,cvO,cvL,cv1,cv0,frz,upd,hO,noH,stC,gT,ng,eO,Ec,D.one]
 ·rw [decide_eq_false b8] at c8
  rw [if_neg b8,if_pos (show x < 0 by omega),if_pos rfl] at hr
  (repeat (first | (simp -implicitDefEqProofs only [ev,mixed,Nat.reduceLT,Nat.reduceAdd,Nat.reduceMul,reduceIte,Nat.reduceEqDiff,reduceCtorEq,Nat.reducePow,Nat.reduceLeDiff,Int.reduceLE,Int.reduceLT,Int.reduceToNat,Int.reduceEq,Nat.reduceBEq,dV,gdA,af,il,kE,ixQ,ldH,aF,aj,bC,faQ,exQ,kU,dO,bS,slQ,stH,kV,kW,aS,bq,ae,D.one,jP,dH,dX,cvH,bz,intD,g1,e1,c1,c2,c3,c4,c5,c6,w1,w2,e2,hx,c7,c8,stC,gT,ng,eO]) | (with_reducible refine ⟨?_,?_⟩; (· first | (obtain ⟨rfl⟩:=‹Hq _ _›; with_reducible refine chk_ok ?_; kernel_rfl) | kernel_rfl)) | (with_reducible intro ops hops)))
  refine ⟨i+1,⟨h,by rw [if_neg (by omega),Nat.add_sub_cancel,hs]; exact hr⟩,az _ _ [] [(101,101)] ?_ ?_ rfl rfl,by simp; omega⟩
  ·simp [cv,cvL,cv1,cv0,upd,lk,aJ,intD,eO]
  ·simp [bE,aJ,lk,cvO,cvL,cv1,cv0,frz,upd,hO,noH,stC,gT,ng,eO,Ec,D.one]
theorem sw:(type_of% @Ty.T3)/\(type_of% @Ty.T4)/\(type_of% @Ty.T9)/\(type_of% @Ty.T26)/\(type_of% @Ty.T54)/\(type_of% @Ty.adg):=⟨@Ty.T3,@Ty.T4,@Ty.T9,@Ty.T26,@Ty.T54,@Ty.adg⟩
theorem CF {G:Nat->Ob} {o o2 off off2 len len2 cap:Nat} {es es2:List (List I)} (ho:G o=.arr 3 es) (ho2:G o2=.arr 3 es2) (hne:o≠o2) (h1:0 < len) (h2:0 < len2) :
  Sw Tryz.prog 294 [.os o2 3 off2 len2,.oc o 3 off len cap] G (boolD false) G:=by
 intro K0 T K vs hr hrd
 obtain ⟨hs,hg⟩:=hrd
 have e:vs=#[vs.getD 0 undef,vs.getD 1 undef]:=by
  apply Array.ext
  ·simpa using hs
  ·intro i h1 h2
   simp at hs
   have:i=0\/i=1:=by omega
   rcases this with rfl | rfl <;> simp [Array.getD,hs]
 have hrun:=lK (P:=Tryz.prog) (t:=26) (tR:=4) (s:=3) Tryz.underlying26 (eQ (by kernel_rfl)) hr (hg 0 _ rfl) (hg 1 _ rfl) ho ho2 hne h1 h2
 rw [e]
 refine ⟨.bool false,K,?_,Ext.refl K,hr,.i (.s _ rfl)⟩
 rw [run_callFunc_extern Tryz.func294 (by kernel_rfl) (by kernel_rfl) (by kernel_rfl) (e:=Extern.SlicesOverlaps.overlaps #[26,26] #[4]) (by kernel_rfl),hrun]
 rfl
theorem LP (es:List (List I)) (p:List I) (i:Nat) (hi:i<=es.length) (hl:es.length<=1048576) (hu:∀ e∈es,e.length=3) (hp:p.length=3) :
  aN Tryz.prog 286 [.os 0 3 0 es.length,intD i,.os 2 3 0 1] (hF [(0,.arr 3 es),(2,.arr 3 [p])]) (.os 1 3 0 (es.length+1))
   (hOf (hF [(0,.arr 3 es),(2,.arr 3 [p])]) [(1,.arr 3 (es.take i++p :: es.drop i))]):=by
 have hu2:=uN hu
 by_cases hin:i=es.length
 ·subst hin
  have e3:es.length+1<=140737488355328:=by omega
  have e4:(es.length+1) * 40<=140737488355328:=by omega
  refine aa 95 Tryz.func286 rfl rfl rfl (fun o ho=>by simp [hF,lk,show o≠0 by omega,show o≠1 by omega,show o≠2 by omega,show o≠3 by omega,show o≠4 by omega,show o≠5 by omega]) ?_
  refine gx (an (an (an (an (an (an (an sw @intD.eq_1) e3) e4) @hp) hu2) @Int.le_refl) @Nat.sub_self) ?_
  refine dG [(1,.arr 3 (es++[p]))] [] [(1,2794)] rfl ?_ ?_ rfl ?_ rfl
  ·simp [cv,cv1,cv0,upd,iP,hF,lk]
  ·simp [bE,iP,lk,cvO,frz,upd,hF]
  ·simp [hF,lk]
 ·have hlt:i < es.length:=by omega
  refine uE (by omega) fun c hc=>?_
  have g1:decide ((i:Int)=(es.length:Int))=false:=decide_eq_false (by omega)
  have w1:IntKind.i64.wrap ((es.length:Int)+1)=((es.length+1:Nat):Int):=by rw [aD (by omega) (by omega)]; omega
  have w2:IntKind.i64.wrap ((i:Int)+1)=((i+1:Nat):Int):=by rw [aD (by omega) (by omega)]; omega
  have l1:(i<=es.length)=True:=eq_true (by omega)
  have l2:(es.length<=c)=True:=eq_true (by omega)
  have l3:(i<=es.length+1)=True:=eq_true (by omega)
  have l6:(i<=c)=True:=eq_true (by omega)
  have l4:(i+1<=es.length+1)=True:=eq_true (by omega)
  have m2:i+(es.length - i)=es.length:=by omega
  have m4:min 1 (es.length+1 - i)=1:=by omega
  have l7:(es.length - i<=es.length+1 - i)=True:=eq_true (by omega)
  have l8:(i+1<=es.length)=True:=eq_true (by omega)
  have tk:(es.drop i).take (es.length - i)=es.drop i:=List.take_of_length_le (by simp)
  have hu3:uni 3 (es.drop i)=true:=uN fun e he=>hu e (List.mem_of_mem_drop he)
  by_cases hroom:es.length+1<=c
  ·have g2:decide ((c:Int) < ((es.length+1:Nat):Int))=false:=decide_eq_false (by omega)
   have l5:(es.length+1<=c)=True:=eq_true (by omega)
   have m1:min (es.length+1 - i) (es.length+1 - (i+1))=es.length - i:=by omega
   have l9:(i<=(over es (i+1) (es.drop i)).length)=True:=eq_true (by unfold over; simp; omega)
   have hos:=uU (p:=p) hlt
   refine aa 95 Tryz.func286 rfl rfl rfl (fun o ho=>by simp [hF,lk,show o≠0 by omega,show o≠1 by omega,show o≠2 by omega,show o≠3 by omega,show o≠4 by omega,show o≠5 by omega]) ?_
   (repeat (first | (simp -implicitDefEqProofs only [ev,mixed,Nat.reduceLT,Nat.reduceAdd,Nat.reduceMul,reduceIte,Nat.reduceEqDiff,reduceCtorEq,Nat.reducePow,Nat.reduceLeDiff,Int.reduceLE,Int.reduceLT,Int.reduceToNat,Int.reduceEq,Nat.reduceBEq,dV,gdA,af,il,kE,ixQ,ldH,aF,aj,bC,faQ,exQ,kU,dO,bS,slQ,stH,kV,kW,aS,bq,ae,D.one,jP,dH,dX,cvH,sw,intD,slX,GX,Bb,g1,g2,w1,w2,l1,l2,l3,l4,l5,true_or,Nat.sub_zero,Nat.zero_le,l6,hp,hu2]) | (with_reducible refine ⟨?_,?_⟩; (· first | (obtain ⟨rfl⟩:=‹Hq _ _›; with_reducible refine chk_ok ?_; kernel_rfl) | kernel_rfl)) | (with_reducible intro ops hops)))
   refine ⟨_,_,.inr (CF (len:=es.length+1 - (i+1)) (len2:=1) (by simp [hF,lk]; rfl) (by simp [hF,lk]; rfl) (by decide) (by omega) (by omega)),?_⟩
   (repeat (first | (simp -implicitDefEqProofs only [ev,mixed,Nat.reduceLT,Nat.reduceAdd,Nat.reduceMul,reduceIte,Nat.reduceEqDiff,reduceCtorEq,Nat.reducePow,Nat.reduceLeDiff,Int.reduceLE,Int.reduceLT,Int.reduceToNat,Int.reduceEq,Nat.reduceBEq,dV,gdA,af,il,kE,ixQ,ldH,aF,aj,bC,faQ,exQ,kU,dO,bS,slQ,stH,kV,kW,aS,bq,ae,D.one,jP,dH,dX,cvH,sw,boolD,intD,slX,GX,Bb,cpX,BU,BS,sM,w1,w2,l1,l2,l3,l4,l5,true_or,Nat.sub_zero,Nat.zero_le,l6,hp,hu2,m1,m2,m4,l7,l8,l9,tk,hu3]) | (with_reducible refine ⟨?_,?_⟩; (· first | (obtain ⟨rfl⟩:=‹Hq _ _›; with_reducible refine chk_ok ?_; kernel_rfl) | kernel_rfl)) | (with_reducible intro ops hops)))
   have hos2:(over (over es (i+1) (es.drop i)) i [p]).take (es.length+1)=es.take i++p :: es.drop i:=by rw [hos]; exact List.take_of_length_le (by simp; omega)
   rw [<- hos2]
   exact Bq (o:=0) (cap:=c) rfl (by simp [upd]) (by simp [upd,hF,lk]) (by simp [upd,hF,lk]) (by simp [hF,lk]) (by simp [hF,lk])
  ·have g2:decide ((c:Int) < ((es.length+1:Nat):Int))=true:=decide_eq_true (by omega)
   have l5:(c < es.length+1)=True:=eq_true (by omega)
   have s1:i+(es.length+1 - i)=es.length+1:=by omega
   have e3:es.length+1<=140737488355328:=by omega
   have e4:(es.length+1) * 40<=140737488355328:=by omega
   have m1:min (es.length - i) (es.length+1 - (i+1))=es.length - i:=by omega
   have L1:((i:Int)<=((es.length+1:Nat):Int))=True:=eq_true (by omega)
   have L2:(((i+1:Nat):Int)<=((es.length+1:Nat):Int))=True:=eq_true (by omega)
   have hti:(es.take i).length=i:=by simp; omega
   have l9:(i+1<=(over (es.take i++List.replicate (es.length+1 - i) [I.s (.string ⟨#[]⟩),I.s (.string ⟨#[]⟩),I.s (.int .u64 0)]) i [p]).length)=True:=eq_true (by rw [yh (by simp; omega)]; simp; omega)
   have hos:=yU (es:=es) (R:=List.replicate (es.length+1 - i) [I.s (.string ⟨#[]⟩),I.s (.string ⟨#[]⟩),I.s (.int .u64 0)]) (p:=p) hlt (by simp)
   have w3:IntKind.i64.wrap (((es.length+1:Nat):Int) - (i:Int))=((es.length+1 - i:Nat):Int):=by rw [aD (by omega) (by omega)]; omega
   refine aa 95 Tryz.func286 rfl rfl rfl (fun o ho=>by simp [hF,lk,show o≠0 by omega,show o≠1 by omega,show o≠2 by omega,show o≠3 by omega,show o≠4 by omega,show o≠5 by omega]) ?_
   (repeat (first | (simp -implicitDefEqProofs only [ev,mixed,Nat.reduceLT,Nat.reduceAdd,Nat.reduceMul,reduceIte,Nat.reduceEqDiff,reduceCtorEq,Nat.reducePow,Nat.reduceLeDiff,Int.reduceLE,Int.reduceLT,Int.reduceToNat,Int.reduceEq,Nat.reduceBEq,dV,gdA,af,il,kE,ixQ,ldH,aF,aj,bC,faQ,exQ,kU,dO,bS,slQ,stH,kV,kW,aS,bq,ae,D.one,jP,dH,dX,cvH,sw,intD,slX,GX,Bb,apX,cpX,BU,BS,sM,g1,g2,w1,w2,w3,l1,l2,l3,l4,l5,true_or,Nat.sub_zero,Nat.zero_le,l6,hp,hu2,s1,e3,e4,L1,L2,m4,m1,m2,hti,l7,l8,l9,tk,hu3]) | (with_reducible refine ⟨?_,?_⟩; (· first | (obtain ⟨rfl⟩:=‹Hq _ _›; with_reducible refine chk_ok ?_; kernel_rfl) | kernel_rfl)) | (with_reducible intro ops hops)))
   refine dG [(1,.arr 3 (es.take i++p :: es.drop i))] [] [(1,3312)] rfl ?_ ?_ rfl ?_ rfl
   ·simp [cv,cv1,cv0,upd,iP,hF,lk]
   ·simp [bE,iP,lk,cvO,frz,upd,hF,hos]
   ·simp [hF,lk]
theorem PG:(type_of% @Ty.T3)/\(type_of% @Ty.T9)/\(type_of% @Ty.T26)/\(type_of% @Ty.T54)/\(type_of% @Ty.adg):=⟨@Ty.T3,@Ty.T9,@Ty.T26,@Ty.T54,@Ty.adg⟩
theorem MM (es:List (List I)) (i:Nat) (hi:i < es.length) (hl:es.length<=1048576) (hu:∀ e∈es,e.length=3) :
  aN Tryz.prog 282 [.os 0 3 0 es.length,intD i,intD (i+1:Nat)] (hF [(0,.arr 3 es)]) (.os 1 3 0 (es.length - 1))
   (hOf (hF [(0,.arr 3 es)]) [(1,.arr 3 (es.take i++es.drop (i+1)))]):=by
 have hu2:=uN hu
 have hu3:uni 3 (es.drop (i+1))=true:=uN fun e he=>hu e (List.mem_of_mem_drop he)
 refine uE (by omega) fun c hc=>?_
 have g1:decide ((i:Int)=((i+1:Nat):Int))=false:=decide_eq_false (by omega)
 have l1:(i<=i+1)=True:=eq_true (by omega)
 have l2:(i+1<=es.length)=True:=eq_true (by omega)
 have l3:(es.length<=c)=True:=eq_true (by omega)
 have l4:(i<=c)=True:=eq_true (by omega)
 have l5:(i<=es.length)=True:=eq_true (by omega)
 have l6:(es.length - 1<=es.length)=True:=eq_true (by omega)
 have l7:(es.length - 1<=c)=True:=eq_true (by omega)
 have m1:i+(es.length - (i+1))=es.length - 1:=by omega
 have m2:i+1+(es.length - (i+1))=es.length:=by omega
 have tk:(es.drop (i+1)).take (es.length - (i+1))=es.drop (i+1):=List.take_of_length_le (by simp)
 have l8:(es.length - 1<=(over es i (es.drop (i+1))).length)=True:=eq_true (by unfold over; simp; omega)
 refine aa 33 Tryz.func282 rfl rfl rfl (fun o ho=>by simp [hF,lk,show o≠0 by omega,show o≠1 by omega,show o≠2 by omega,show o≠3 by omega,show o≠4 by omega,show o≠5 by omega]) ?_
 (repeat (first | (simp -implicitDefEqProofs only [ev,mixed,Nat.reduceLT,Nat.reduceAdd,Nat.reduceMul,reduceIte,Nat.reduceEqDiff,reduceCtorEq,Nat.reducePow,Nat.reduceLeDiff,Int.reduceLE,Int.reduceLT,Int.reduceToNat,Int.reduceEq,Nat.reduceBEq,dV,gdA,af,il,kE,ixQ,ldH,aF,aj,bC,faQ,exQ,kU,dO,bS,slQ,stH,kV,kW,aS,bq,ae,D.one,jP,dH,dX,cvH,PG,intD,slX,GX,Bb,apX,clX,cpX,BU,BS,sM,g1,l1,l2,l3,l4,l5,l6,l7,l8,m1,m2,tk,hu2,hu3,or_true,true_or,Nat.sub_zero,Nat.zero_le]) | (with_reducible refine ⟨?_,?_⟩; (· first | (obtain ⟨rfl⟩:=‹Hq _ _›; with_reducible refine chk_ok ?_; kernel_rfl) | kernel_rfl)) | (with_reducible intro ops hops)))
 have hos:=GI (R:=List.replicate (es.length - (es.length - 1)) [I.s (.string ⟨#[]⟩),I.s (.string ⟨#[]⟩),I.s (.int .u64 0)]) hi
 rw [<- hos]
 exact Bq (o:=0) (cap:=c) rfl (by simp [upd]) (by simp [upd,hF,lk]) (by simp [upd,hF,lk]) (by simp [hF,lk]) (by simp [hF,lk])
theorem Ju (o d:ByteArray):[o,d].all eZ=(eZ o && eZ d):=by simp
theorem es3 (l:List PurseD):∀ e∈l.map a_,e.length=3:=by
 intro e he; simp only [List.mem_map] at he; obtain ⟨q,_,rfl⟩:=he; rfl
attribute [local simp,local go_sem] eO sD wD
theorem TK (l:List PurseD) (h:bH l) (o d:ByteArray) (n:Nat) (hn:n < 18446744073709551616) :
  PureD Tryz.prog 261 [.i (eO l),sD o,sD d,wD n] (.tup [.i (eO (nu l o d n).1),intD (nu l o d n).2]):=by
 refine ak fun R hR=>?_
 have c1:=Jt [o,d] (by simp)
 rw [Ju] at c1
 have hlen:=h.len
 have c2:=Sk l o d (by omega) h.srt
 have e1:=vI l (by omega)
 have c3:=CB l o d (by omega) h.srt
 have hlt:=Oi h o d
 have hga:=tH h o d
 simp only [List.map_cons,List.map_nil,sI] at c1
 unfold nu at hR
 generalize (eZ o && eZ d)=B at *
 cases B
 ·simp only [Bool.not_false,if_true,Bool.false_eq_true,if_false] at hR c1
  clear c2 c3 e1 h hga hlt
  refine aa 58 Tryz.func261 rfl rfl rfl (fun _ _=>rfl) ?_
  exact wkl trivial
 ·simp only [Bool.not_true,Bool.false_eq_true,if_false,if_true] at hR c1
  by_cases ha:amtP l o d < n
  ·rw [if_pos ha] at hR
   have g1:((amtP l o d:Nat):Int) < (n:Int):=by omega
   generalize amtP l o d=A at *
   clear c3 e1 h hga hlt ha
   refine aa 58 Tryz.func261 rfl rfl rfl (fun _ _=>rfl) ?_
   exact wkl trivial
  ·rw [if_neg ha] at hR
   simp only at hR
   have g1:¬ ((amtP l o d:Nat):Int) < (n:Int):=by omega
   generalize hA:amtP l o d=A at *
   cases hg:DI l o d with
   | none =>
    rw [hg] at c3 hga
    have hA0:A=0:=by
     apply Decidable.byContradiction; intro hc
     rw [if_neg hc] at hga; cases hga
    have hres:kY l o d (A - n)=l:=by
     unfold kY xY
     rw [if_pos (by omega),KL.put_none cmpP_ok h.srt hg]
    rw [hres] at hR
    generalize bU l o d=j at *
    simp only [Option.isSome_none] at c3
    clear h hga hg hlt ha hA hres hA0
    refine aa 58 Tryz.func261 rfl rfl rfl (fun _ _=>rfl) ?_
    exact wkl trivial
   | some v =>
    rw [hg] at c3 hga
    have hA0:A≠0:=by intro hc; rw [if_pos hc] at hga; cases hga
    rw [if_neg hA0] at hga
    injection hga with hga
    subst hga
    obtain ⟨hp,hv⟩:=KL.place_lt cmpP_ok h.srt hg
    have hp':bU l o d < l.length:=hp
    have s1:(l.map a_)[bU l o d]?=some (a_ ⟨o,d,A⟩):=by rw [List.getElem?_map,List.getElem?_eq_getElem hp,hv]; rfl
    have w1:IntKind.u64.wrap ((A:Int) - (n:Int))=((A - n:Nat):Int):=by rw [IntKind.wrap_u64]; omega
    simp only [a_] at s1
    have s2:((l.map a_).set (bU l o d) [.s (.string o),.s (.string d),.s (.int .u64 ((A - n:Nat):Int))])[bU l o d]?=some [.s (.string o),.s (.string d),.s (.int .u64 ((A - n:Nat):Int))]:=by
     rw [List.getElem?_set]; simp [hp']
    simp only [Option.isSome_some] at c3
    by_cases h0:A - n=0
    ·have hz:((A - n:Nat):Int)=0:=by omega
     rw [hz] at w1 s2
     have e2:=MM ((l.map a_).set (bU l o d) [.s (.string o),.s (.string d),.s (.int .u64 0)]) (bU l o d) (by simpa using hp) (by simp; omega) (by
      intro e he
      rcases List.mem_or_eq_of_mem_set he with he | rfl
      ·exact es3 l e he
      ·rfl)
     have hres:kY l o d (A - n)=l.take (bU l o d)++l.drop (bU l o d+1):=by
      unfold kY xY
      rw [if_pos h0,KL.put_del cmpP_ok h.srt hg]
     have he2:((l.map a_).set (bU l o d) [.s (.string o),.s (.string d),.s (.int .u64 0)]).take (bU l o d)++((l.map a_).set (bU l o d) [.s (.string o),.s (.string d),.s (.int .u64 0)]).drop (bU l o d+1)=(kY l o d (A - n)).map a_:=by
      rw [hres,List.take_set_of_le (Nat.le_refl _),List.drop_set_of_lt (by omega),<- List.map_take,<- List.map_drop,List.map_append]
     have hln:l.length - 1=(kY l o d (A - n)).length:=by rw [hres]; simp; omega
     rw [he2] at e2
     simp only [List.length_set,List.length_map,intD,Int.natCast_add,Int.natCast_one] at e2
     rw [hln] at e2
     generalize kY l o d (A - n)=R2 at *
     generalize bU l o d=j at *
     clear h hg hv hp hlt ha hA h0 hres he2 hA0 hln hz
     refine aa 58 Tryz.func261 rfl rfl rfl (fun _ _=>rfl) ?_
     exact wkl trivial
    ·have hres:(l.map a_).set (bU l o d) [.s (.string o),.s (.string d),.s (.int .u64 ((A - n:Nat):Int))]=(kY l o d (A - n)).map a_:=by
      unfold kY xY
      rw [if_neg h0,KL.put_hit cmpP_ok h.srt hg,List.set_eq_take_append_cons_drop,if_pos (by simpa using hp')]
      simp [a_]
     have hln:l.length=(kY l o d (A - n)).length:=by
      have:=congrArg List.length hres
      simpa using this
     have g2:¬ (((A - n:Nat):Nat):Int)=0:=by omega
     rw [hres] at s2
     have tk:((kY l o d (A - n)).map a_).take l.length=(kY l o d (A - n)).map a_:=by rw [hln]; simp
     replace hln:=hln.symm
     generalize kY l o d (A - n)=R2 at *
     generalize bU l o d=j at *
     generalize A - n=B at *
     clear h hg hv hp hlt ha hA h0 hA0
     refine aa 58 Tryz.func261 rfl rfl rfl (fun _ _=>rfl) ?_
     exact wkl trivial
attribute [local simp,local go_sem] eO sD wD
theorem Lu (l:List PurseD) (h:bH l) (o d:ByteArray) (n:Nat) (hn:n < 18446744073709551616) :
  PureD Tryz.prog 264 [.i (eO l),sD o,sD d,wD n] (.tup [.i (eO (nO l o d n).1),intD (nO l o d n).2]):=by
 refine ak fun R hR=>?_
 have c1:=Jt [o,d] (by simp)
 rw [Ju] at c1
 have hlen:=h.len
 have e1:=vI l (by omega)
 have c2:=CB l o d (by omega) h.srt
 have c3:=PN l d (by omega) (fun p hp=>(h.pos p hp).2)
 have hga:=tH h o d
 have has:=wX h o d
 simp only [List.map_cons,List.map_nil,sI] at c1
 unfold nO at hR
 generalize (eZ o && eZ d)=B at *
 cases B
 ·simp only [Bool.not_false,if_true,Bool.false_eq_true,if_false] at hR c1
  clear c2 c3 e1 h hga has
  refine aa 78 Tryz.func264 rfl rfl rfl (fun _ _=>rfl) ?_
  exact wkl trivial
 ·simp only [Bool.not_true,Bool.false_eq_true,if_false,if_true] at hR c1
  by_cases h0:n=0
  ·subst h0
   rw [if_pos rfl] at hR
   have tk:(l.map a_).take l.length=l.map a_:=by rw [List.take_of_length_le (by simp)]
   clear c2 c3 h hga has
   refine aa 78 Tryz.func264 rfl rfl rfl (fun _ _=>rfl) ?_
   exact wkl trivial
  ·rw [if_neg h0] at hR
   have g1:¬ ((n:Nat):Int)=0:=by omega
   generalize hS:pV l d=S at *
   by_cases hov:18446744073709551616<=S
   ·rw [if_pos hov,decide_eq_true hov] at c3
    rw [if_pos (by omega)] at hR
    have hadd:=EK 0 n 0 (by decide) hn (by decide)
    generalize (0+n+0) % 18446744073709551616=x1 at hadd
    generalize (0+n+0) / 18446744073709551616=x2 at hadd
    clear c2 h hga has hov hn h0
    refine aa 78 Tryz.func264 rfl rfl rfl (fun _ _=>rfl) ?_
    refine wkl ?_
    clear hR; intro hR
    repeat' (intro _)
    refine jI hadd ?_
    clear hadd
    exact wkl trivial
   ·rw [if_neg hov,decide_eq_false hov] at c3
    have hadd:=EK S n 0 (by omega) hn (by decide)
    generalize (S+n+0) % 18446744073709551616=x1 at hadd
    generalize hx2:(S+n+0) / 18446744073709551616=x2 at hadd
    by_cases hsn:18446744073709551616<=S+n
    ·rw [if_pos hsn] at hR
     have g2:(0:Int) < ((x2:Nat):Int):=by omega
     clear c2 h hga has hov hn h0 hsn hx2
     refine aa 78 Tryz.func264 rfl rfl rfl (fun _ _=>rfl) ?_
     refine wkl ?_
     clear hR; intro hR
     repeat' (intro _)
     refine jI hadd ?_
     clear hadd
     exact wkl trivial
    ·rw [if_neg hsn] at hR
     obtain rfl:x2=0:=by omega
     clear hx2
     generalize hA:amtP l o d=A at *
     cases hg:DI l o d with
     | none =>
      rw [hg] at c2 hga
      have hA0:A=0:=by
       apply Decidable.byContradiction; intro hc
       rw [if_neg hc] at hga; cases hga
      subst hA0
      simp only [Option.isSome_none] at c2
      by_cases h60:l.length=60
      ·have g3:((l.length:Nat):Int)=60:=by omega
       rw [if_pos ⟨rfl,h60⟩] at hR
       generalize bU l o d=j at *
       clear h hga has hov hn h0 hsn h60 hg hA hS
       refine aa 78 Tryz.func264 rfl rfl rfl (fun _ _=>rfl) ?_
       refine wkl ?_
       clear hR; intro hR
       repeat' (intro _)
       refine jI hadd ?_
       clear hadd
       exact wkl trivial
      ·have g3:¬ ((l.length:Nat):Int)=60:=by omega
       rw [if_neg (fun e=>h60 e.2)] at hR
       have hj:bU l o d<=l.length:=KL.place_le cmpP_ok l _
       have e2:=LP (l.map a_) [.s (.string o),.s (.string d),.s (.int .u64 n)] (bU l o d) (by simpa using hj) (by simp; omega) (es3 l) rfl
       have hres:kY l o d (0+n)=l.take (bU l o d)++⟨o,d,n⟩ :: l.drop (bU l o d):=by
        unfold kY xY
        rw [if_neg (by omega),KL.put_miss cmpP_ok h.srt hg,Nat.zero_add]
       have he2:(l.map a_).take (bU l o d)++[.s (.string o),.s (.string d),.s (.int .u64 n)] :: (l.map a_).drop (bU l o d)=(kY l o d (0+n)).map a_:=by
        rw [hres,<- List.map_take,<- List.map_drop]; simp [a_]
       have hln:l.length+1=(kY l o d (0+n)).length:=by rw [hres]; simp; omega
       rw [he2] at e2
       simp only [List.length_map,intD] at e2
       rw [hln] at e2
       generalize kY l o d (0+n)=R2 at *
       generalize bU l o d=j at *
       clear h hga has hov hn h0 hsn h60 hg hA hS hln he2 hres hj
       refine aa 78 Tryz.func264 rfl rfl rfl (fun _ _=>rfl) ?_
       refine wkl ?_
       clear hR; intro hR
       repeat' (intro _)
       refine jI hadd ?_
       clear hadd
       exact wkl trivial
     | some v =>
      rw [hg] at c2 hga
      have hA0:A≠0:=by intro hc; rw [if_pos hc] at hga; cases hga
      rw [if_neg hA0] at hga
      injection hga with hga
      subst hga
      rw [if_neg (fun e=>hA0 e.1)] at hR
      simp only [Option.isSome_some] at c2
      obtain ⟨hp,hv⟩:=KL.place_lt cmpP_ok h.srt hg
      have hp':bU l o d < l.length:=hp
      have s1:(l.map a_)[bU l o d]?=some (a_ ⟨o,d,A⟩):=by rw [List.getElem?_map,List.getElem?_eq_getElem hp,hv]; rfl
      have w1:IntKind.u64.wrap ((A:Int)+(n:Int))=((A+n:Nat):Int):=by rw [IntKind.wrap_u64]; omega
      simp only [a_] at s1
      have hres:(l.map a_).set (bU l o d) [.s (.string o),.s (.string d),.s (.int .u64 ((A+n:Nat):Int))]=(kY l o d (A+n)).map a_:=by
       unfold kY xY
       rw [if_neg (by omega),KL.put_hit cmpP_ok h.srt hg,List.set_eq_take_append_cons_drop,if_pos (by simpa using hp')]
       simp [a_]
      have hln:l.length=(kY l o d (A+n)).length:=by
       have:=congrArg List.length hres
       simpa using this
      have tk:((kY l o d (A+n)).map a_).take l.length=(kY l o d (A+n)).map a_:=by rw [hln]; simp
      replace hln:=hln.symm
      generalize kY l o d (A+n)=R2 at *
      generalize bU l o d=j at *
      generalize A+n=B at *
      clear h has hov hn h0 hsn hg hA hA0 hS hp hv
      refine aa 78 Tryz.func264 rfl rfl rfl (fun _ _=>rfl) ?_
      refine wkl ?_
      clear hR; intro hR
      repeat' (intro _)
      refine jI hadd ?_
      clear hadd
      exact wkl trivial
theorem FZ (l:List PurseD) (h:bH l) (o t d:ByteArray) (n:Nat) (hn:n < 18446744073709551616) :
  PureD Tryz.prog 222 [.i (eO l),sD o,sD t,sD d,wD n] (.tup [.i (eO (kZ l o t d n).1),intD (kZ l o t d n).2]):=by
 refine ak fun R hR=>?_
 have c1:=TK l h o d n hn
 have c2:=Lu (nu l o d n).1 (mU h o d n) t d n hn
 unfold kZ at hR
 clear h
 generalize nu l o d n=R2 at *
 obtain ⟨m,e⟩:=R2
 simp only at *
 generalize nO m t d n=R3 at *
 by_cases he:e=0
 ·subst he
  rw [if_pos rfl] at hR
  refine aa 32 Tryz.func222 rfl rfl rfl (fun _ _=>rfl) ?_
  exact wkl trivial
 ·have g1:¬ ((e:Nat):Int)=0:=by omega
  rw [if_neg he] at hR
  refine aa 32 Tryz.func222 rfl rfl rfl (fun _ _=>rfl) ?_
  exact wkl trivial
def XZ:List PurseD->List PurseD->Bool
 | [],[]=>true
 | a :: x,b :: y=>(decide (a.o=b.o) && (decide (a.d=b.d) && decide (a.n=b.n))) && XZ x y
 | _,_=>false
structure iF where
 d:ByteArray
 n:Nat
 s:ByteArray
 r:ByteArray
def trD (t:iF):D:=.agg [.i (.s (.string t.d)),.i (.s (.int .u64 t.n)),.i (.s (.string t.s)),.i (.s (.string t.r))]
def nN (ch:Int):ByteArray:=⟨(Lib.itoa ch++[47]).toArray⟩
def jF (ch:Int):ByteArray:=⟨([35]++Lib.itoa ch).toArray⟩
def rY (s p:ByteArray):Bool:=decide (p.size<=s.size) && (s.extract 0 p.size == p)
def TH (s p:ByteArray):ByteArray:=s.extract p.size s.size
def lN (l:List PurseD) (ch:Int) (t:iF):List PurseD × Nat:=if rY t.d (nN ch)=true then nu l t.s t.d t.n else kZ l t.s (jF ch) t.d t.n
def mi (l:List PurseD) (ch:Int) (t:iF):List PurseD × Nat:=if rY t.d (nN ch)=true then nO l t.s t.d t.n else kZ l (jF ch) t.s t.d t.n
def vZ (l:List PurseD) (ch other:Int) (t:iF):List PurseD × Nat:=if rY t.d (nN other)=true then kZ l (jF ch) t.r (TH t.d (nN other)) t.n else nO l t.r (nN ch++t.d) t.n
theorem Q_ (p d:ByteArray):rY (p++d) p=true:=by
 have h1:(p++d).size=p.size+d.size:=by simp
 have h2:(p++d).extract 0 p.size=p:=by
  apply ByteArray.ext
  rw [ByteArray.data_extract,ByteArray.data_append]
  show (p.data++d.data).extract 0 p.data.size=p.data
  simp
 rw [rY,h1,h2,aay]
 simp
theorem Dr {l:List PurseD} (h:bH l) (ch:Int) (t:iF):bH (lN l ch t).1:=by
 unfold lN
 split
 ·exact mU h ..
 ·exact mO h ..
theorem IZ {l:List PurseD} (h:bH l) (ch:Int) (t:iF):bH (mi l ch t).1:=by
 unfold mi
 split
 ·exact qw h ..
 ·exact mO h ..
theorem IL {l:List PurseD} (h:bH l) (ch other:Int) (t:iF):bH (vZ l ch other t).1:=by
 unfold vZ
 split
 ·exact mO h ..
 ·exact qw h ..
theorem Fh:(type_of% @Ty.T3)/\(type_of% @Ty.T4)/\(type_of% @Ty.T5)/\(type_of% @Ty.T29)/\(type_of% @Ty.acN):=⟨@Ty.T3,@Ty.T4,@Ty.T5,@Ty.T29,@Ty.acN⟩
theorem gB:(type_of% @Ty.T3)/\(type_of% @Ty.T4)/\(type_of% @Ty.T5)/\(type_of% @Ty.T29)/\(type_of% @Ty.T54)/\(type_of% @Ty.acO)/\(type_of% @Ty.acN):=⟨@Ty.T3,@Ty.T4,@Ty.T5,@Ty.T29,@Ty.T54,@Ty.acO,@Ty.acN⟩
theorem bF:(type_of% @Ty.T1)/\(type_of% @Ty.T3)/\(type_of% @Ty.T4)/\(type_of% @Ty.T5)/\(type_of% @Ty.T29)/\(type_of% @Ty.T54)/\(type_of% @Ty.adb)/\(type_of% @Ty.ac_)/\(type_of% @Ty.acO)/\(type_of% @Ty.acN):=⟨@Ty.T1,@Ty.T3,@Ty.T4,@Ty.T5,@Ty.T29,@Ty.T54,@Ty.adb,@Ty.ac_,@Ty.acO,@Ty.acN⟩
def rdO (b:List UInt8) (bad:Bool):Ob:=.box [.i (.sl (b.map af)),.i (.s (.bool bad))]
def vJ (c:UInt8):D:=.i (.s (.int .u8 (c.toNat:Int)))
theorem FC (bad:Bool):aN Tryz.prog 278 [.pt 0 0 0 0] (hF [(0,rdO [] bad)]) (vJ 0) (hOf (hF [(0,rdO [] bad)]) [(0,rdO [] true)]):=by
 refine aa 28 Tryz.func278 rfl rfl rfl (fun o ho=>by simp [hF,lk,show o≠0 by omega]) ?_
 refine gx (an Fh @rdO.eq_1) ?_
 refine dG _ [] [] rfl ?_ ?_ rfl ?_ rfl
 ·simp [cv,cv1,cv0,upd,vJ]
 ·simp [bE,iP,lk,cvO,cvL,cv0,frz,upd,hF,D.one]
 ·simp
theorem qc (c:UInt8) (b:List UInt8) (bad:Bool) (hb:b.length<=1048576):aN Tryz.prog 278 [.pt 0 0 0 0] (hF [(0,rdO (c :: b) bad)]) (vJ c) (hOf (hF [(0,rdO (c :: b) bad)]) [(0,rdO b bad)]):=by
 refine aa 28 Tryz.func278 rfl rfl rfl (fun o ho=>by simp [hF,lk,show o≠0 by omega]) ?_
 have e1:(((b.length+1:Nat):Int)=0)=False:=by simp; omega
 refine gx (an (an Fh @rdO.eq_1) e1) ?_
 refine dG _ [] [] rfl ?_ ?_ rfl ?_ rfl
 ·simp [cv,cv1,cv0,upd,vJ]
 ·simp [bE,iP,lk,cvO,cvL,cv0,frz,upd,hF,D.one]
 ·simp
theorem Iy {n i:Nat} (a:Nat) (h:n < 128 ^ i):n ||| (a * 128 ^ i)=n+a * 128 ^ i:=by
 have e:(128:Nat) ^ i=2 ^ (7 * i):=by rw [Nat.pow_mul]
 rw [e] at h ⊢
 rw [Nat.or_comm,Nat.mul_comm,<- Nat.two_pow_add_eq_or_of_lt h,Nat.add_comm]
theorem rn_facts (c:UInt8) (i a:Nat) (h2:a < 128 ^ i) (h3:i<=9) (h9:i=9->c.toNat<=1) :
  bits .and .u8 (c.toNat:Int) 127=((c.toNat % 128:Nat):Int)/\IntKind.u64.wrap ((c.toNat % 128:Nat):Int)=((c.toNat % 128:Nat):Int) /\
  IntKind.u64.wrap (((c.toNat % 128:Nat):Int) * 2 ^ (min (7 * i) (IntKind.bits .u64)))=((c.toNat % 128 * 128 ^ i:Nat):Int) /\
  bits .or .u64 (a:Int) ((c.toNat % 128 * 128 ^ i:Nat):Int)=((a+c.toNat % 128 * 128 ^ i:Nat):Int):=by
 have hc:=c.toNat_lt
 have hlt:c.toNat % 128 * 128 ^ i < 18446744073709551616:=by
  by_cases e9:i=9
  ·have:c.toNat % 128<=1:=by have:=h9 e9; omega
   subst e9
   have:=Nat.mul_le_mul_right (128 ^ 9) this
   omega
  ·have:=Nat.mul_le_mul (show c.toNat % 128<=127 by omega) (Nat.pow_le_pow_right (show 1<=128 by decide) (show i<=8 by omega))
   omega
 refine ⟨?_,?_,?_,?_⟩
 ·have:=(bits_nat .u8 8 (by decide) wraps_u8 c.toNat 127 hc (by decide)).1
  rw [show ((127:Nat):Int)=127 from rfl] at this
  rw [this,show (127:Nat)=2 ^ 7 - 1 from rfl,Nat.and_two_pow_sub_one_eq_mod]
 ·rw [IntKind.wrap_u64]; omega
 ·rw [show min (7 * i) (IntKind.bits .u64)=7 * i by simp [IntKind.bits]; omega,Int.pow_mul]
  rw [IntKind.wrap_u64]
  have e:((c.toNat % 128:Nat):Int) * (2 ^ 7) ^ i=((c.toNat % 128 * 128 ^ i:Nat):Int):=by simp
  rw [e]; omega
 ·have ha:a < 2 ^ 64:=by
   have:=Nat.pow_le_pow_right (show 1<=128 by decide) h3
   have:(128:Nat) ^ 9=9223372036854775808:=by decide
   omega
  have:=(bits_nat .u64 64 (by decide) (fun n g0 g1=>by rw [IntKind.wrap_u64]; omega) a (c.toNat % 128 * 128 ^ i) ha hlt).2
  rw [this,Iy _ h2]
theorem lI (b r:List UInt8) (v:Nat) (hb:b.length<=1048576) (h:iJ 0 0 b=some (v,r)):aN Tryz.prog 277 [.pt 0 0 0 0] (hF [(0,rdO b false)]) (.i (.s (.int .u64 v))) (hOf (hF [(0,rdO b false)]) [(0,rdO r false)]):=by
 refine aa 41 Tryz.func277 rfl rfl rfl (fun o ho=>by simp [hF,lk,show o≠0 by omega]) ?_
 refine gx (an gB @rdO.eq_1) ?_
 refine wZ (ι:={ p:List UInt8 × Nat × Nat // iJ p.2.1 p.2.2 p.1=some (v,r)/\p.2.2 < 128 ^ p.2.1/\p.2.1<=9/\p.1.length<=b.length })
  (fun p=>ek [(0,.pt 0 0 0 0),(3,.i (.s (.int .u64 (p.1.2.2:Nat)))),(4,.i (.s (.int .i64 ((7 * p.1.2.1:Nat):Int))))] [(0,rdO p.1.1 false)]) (fun p=>p.1.1.length) ⟨(b,0,0),h,by simp,by simp,by simp⟩ ?_ ?_
 ·refine az _ _ [] [] ?_ ?_ rfl rfl
  ·simp [cv,cv1,cv0,upd,lk,aJ]
  ·simp [bE,aJ,lk,cvO,cvL,cv0,frz,hF,rdO,D.one]
 ·rintro ⟨⟨s,i,a⟩,h1,h2,h3,h4⟩
  simp only at h1 h2 h3 h4
  rw [au]
  cases s with
  | nil=>simp [iJ] at h1
  | cons c s =>
  refine gx (an gB @rdO.eq_1) ?_
  refine fO (qc c s false (by simp at h4; omega)) rfl rfl ?_
  rw [iJ] at h1
  split at h1
  ·cases h1
  ·rename_i hno
   have hc:=c.toNat_lt
   have c0:(c=0)↔c.toNat=0:=by rw [<- UInt8.toNat_inj]; rfl
   obtain ⟨w1,w2,w3,w4⟩:=rn_facts c i a h2 h3 (by rintro rfl; simp at hno; omega)
   cases g1:decide (0 < ((7 * i:Nat):Int)) <;> cases g2:decide ((c.toNat:Int)=0) <;> cases g3:decide (((7 * i:Nat):Int)=63) <;> cases g4:decide (1 < (c.toNat:Int)) <;>
    first
    | (exfalso; simp only [decide_eq_true_eq,decide_eq_false_iff_not] at g1 g2 g3 g4; rw [c0] at hno; omega)
    | skip
   all_goals refine gx (an (an (an (an (an (an (an (an (an (an gB @rdO.eq_1) @vJ.eq_1) g1) g2) g3) g4) w1) w2) w3) w4) ?_
   all_goals
    refine bi (fun h=>?_) (fun h=>?_)
    ·have h5:c.toNat < 128:=by simp at h; omega
     rw [if_pos h5] at h1
     simp only [Option.some.injEq,Prod.mk.injEq] at h1
     obtain ⟨rfl,rfl⟩:=h1
     refine gx gB ?_
     refine dG _ [] [] rfl ?_ ?_ rfl ?_ rfl
     ·simp [cv,cv1,cv0,upd,Nat.mod_eq_of_lt h5]
     ·simp [bE,iP,lk,cvO,cvL,cv0,frz,upd,hF,D.one]
     ·simp
    ·have h5:¬ c.toNat < 128:=by simp at h; omega
     rw [if_neg h5] at h1
     have h6:c.toNat % 128=c.toNat - 128:=by omega
     rw [<- h6] at h1
     have h9:i≠9:=by rintro rfl; simp at hno; omega
     have w5:IntKind.i64.wrap (((7 * i:Nat):Int)+7)=((7 * (i+1):Nat):Int):=by rw [aD (by omega) (by omega)]; omega
     refine gx (an gB w5) ?_
     refine ⟨⟨(s,i+1,a+c.toNat % 128 * 128 ^ i),h1,?_,by simp; omega,by simp at h4 ⊢; omega⟩,az _ _ [] [] ?_ ?_ rfl rfl,?_⟩
     ·simp only [Nat.pow_succ]
      have:=Nat.mul_le_mul_right (128 ^ i) (show c.toNat % 128<=127 by omega)
      omega
     ·simp [cv,cv1,cv0,upd,lk,aJ]
     ·simp [bE,aJ,lk,cvO,cvL,cv0,frz,hF,hO,rdO,D.one,upd]
     ·simp
def rZ:Nat->List UInt8->List UInt8
 | _,[]=>[]
 | i,c :: s=>if (0 < i/\c=0)\/(i=9/\1 < c.toNat) then s else rZ (i+1) s
theorem mH (b:List UInt8) (bad:Bool) (hbad:bad=true->b=[]) (hb:b.length<=1048576) (h:iJ 0 0 b=none):aN Tryz.prog 277 [.pt 0 0 0 0] (hF [(0,rdO b bad)]) (.i (.s (.int .u64 0))) (hOf (hF [(0,rdO b bad)]) [(0,rdO (rZ 0 b) true)]):=by
 generalize hq:rZ 0 b=q
 refine aa 41 Tryz.func277 rfl rfl rfl (fun o ho=>by simp [hF,lk,show o≠0 by omega]) ?_
 refine gx (an gB @rdO.eq_1) ?_
 refine wZ (ι:={ p:List UInt8 × Nat × Nat // iJ p.2.1 p.2.2 p.1=none/\rZ p.2.1 p.1=q/\p.2.2 < 128 ^ p.2.1/\p.2.1<=9/\p.1.length<=b.length/\(bad=true->p.1=[]) })
  (fun p=>ek [(0,.pt 0 0 0 0),(3,.i (.s (.int .u64 (p.1.2.2:Nat)))),(4,.i (.s (.int .i64 ((7 * p.1.2.1:Nat):Int))))] [(0,rdO p.1.1 bad)]) (fun p=>p.1.1.length) ⟨(b,0,0),h,hq,by simp,by simp,by simp,hbad⟩ ?_ ?_
 ·refine az _ _ [] [] ?_ ?_ rfl rfl
  ·simp [cv,cv1,cv0,upd,lk,aJ]
  ·simp [bE,aJ,lk,cvO,cvL,cv0,frz,hF,rdO,D.one]
 ·rintro ⟨⟨s,i,a⟩,h1,h0,h2,h3,h4,hbd⟩
  simp only at h1 h0 h2 h3 h4 hbd
  rw [au]
  cases s with
  | nil =>
   have h0:q=[]:=by rw [<- h0]; rfl
   subst h0
   refine gx (an gB @rdO.eq_1) ?_
   refine fO (FC bad) rfl rfl ?_
   cases g1:decide (0 < ((7 * i:Nat):Int)) <;> cases g3:decide (((7 * i:Nat):Int)=63)
   all_goals
    refine gx (an (an (an (an (an gB @rdO.eq_1) @vJ.eq_1) g1) g3) @UInt8.toNat_zero) ?_
    refine dG _ [] [] rfl ?_ ?_ rfl ?_ rfl
    ·simp [cv,cv1,cv0,upd]
    ·simp [bE,iP,lk,cvO,cvL,cv0,frz,upd,hF,D.one]
    ·simp
  | cons c s =>
  obtain rfl:bad=false:=by cases bad; rfl; simp at hbd
  refine gx (an gB @rdO.eq_1) ?_
  refine fO (qc c s false (by simp at h4; omega)) rfl rfl ?_
  have hc:=c.toNat_lt
  have c0:(c=0)↔c.toNat=0:=by rw [<- UInt8.toNat_inj]; rfl
  rw [iJ] at h1
  rw [rZ] at h0
  split at h1
  ·rename_i hyes
   rw [if_pos hyes] at h0
   subst h0
   cases g1:decide (0 < ((7 * i:Nat):Int)) <;> cases g2:decide ((c.toNat:Int)=0) <;> cases g3:decide (((7 * i:Nat):Int)=63) <;> cases g4:decide (1 < (c.toNat:Int)) <;>
    first
    | (exfalso; simp only [decide_eq_true_eq,decide_eq_false_iff_not] at g1 g2 g3 g4; rw [c0] at hyes; omega)
    | skip
   all_goals
    refine gx (an (an (an (an (an (an gB @rdO.eq_1) @vJ.eq_1) g1) g2) g3) g4) ?_
    refine dG _ [] [] rfl ?_ ?_ rfl ?_ rfl
    ·simp [cv,cv1,cv0,upd]
    ·simp [bE,iP,lk,cvO,cvL,cv0,frz,upd,hF,D.one]
    ·simp
  ·rename_i hno
   rw [if_neg hno] at h0
   split at h1
   ·cases h1
   ·rename_i h5
    have h9:i≠9:=by rintro rfl; simp at hno; omega
    obtain ⟨w1,w2,w3,w4⟩:=rn_facts c i a h2 h3 (by omega)
    have h6:c.toNat % 128=c.toNat - 128:=by omega
    rw [<- h6] at h1
    have w5:IntKind.i64.wrap (((7 * i:Nat):Int)+7)=((7 * (i+1):Nat):Int):=by rw [aD (by omega) (by omega)]; omega
    have h7:decide ((c.toNat:Int) < 128)=false:=by simp; omega
    cases g1:decide (0 < ((7 * i:Nat):Int)) <;> cases g2:decide ((c.toNat:Int)=0) <;> cases g3:decide (((7 * i:Nat):Int)=63) <;> cases g4:decide (1 < (c.toNat:Int)) <;>
     first
     | (exfalso; simp only [decide_eq_true_eq,decide_eq_false_iff_not] at g1 g2 g3 g4; rw [c0] at hno; omega)
     | skip
    all_goals
     refine gx (an (an (an (an (an (an (an (an (an (an (an (an gB @rdO.eq_1) @vJ.eq_1) g1) g2) g3) g4) w1) w2) w3) w4) w5) @h7) ?_
     refine ⟨⟨(s,i+1,a+c.toNat % 128 * 128 ^ i),h1,h0,?_,by simp; omega,by simp at h4 ⊢; omega,by simp⟩,az _ _ [] [] ?_ ?_ rfl rfl,?_⟩
     ·simp only [Nat.pow_succ]
      have:=Nat.mul_le_mul_right (128 ^ i) (show c.toNat % 128<=127 by omega)
      omega
     ·simp [cv,cv1,cv0,upd,lk,aJ]
     ·simp [bE,aJ,lk,cvO,cvL,cv0,frz,hF,hO,rdO,D.one,upd]
     ·simp
def rX (l:List dw) (e:Nat):D:=.tup [.i (.sl (l.map vC)),.i (.s (.int .i64 (e:Int)))]
theorem Fg (l:List dw):uni 3 (l.map vC)=true:=Cn (s:=3) (f:=vC) (fun _=>rfl) l
theorem Yb (b:List UInt8) (hb:b.length<=1048576):PureD Tryz.prog 252 [.i (bI b)] (rX (readF b).1 (readF b).2):=by
 refine aa 85 Tryz.func252 rfl rfl rfl (fun _ _=>rfl) ?_
 refine gx (an bF @bI.eq_1) ?_
 refine bi (fun h=>?_) (fun h=>?_)
 ·have h1:20000 < b.length:=by simp at h; omega
  refine gx bF ?_
  refine cK [] rfl ?_
  simp [cv,cvT,cv1,cv0,upd,readF,h1,rX]
 ·have h1:¬ 20000 < b.length:=by simp at h; omega
  clear h
  rw [readF,if_neg h1]
  refine gx bF ?_
  cases h2:iJ 0 0 b with
  | none =>
   refine fO (mH b false (by simp) hb h2) (by simp [upd,rdO]) rfl ?_
   refine gx bF ?_
   refine cK [] rfl ?_
   simp [cv,cvT,cv1,cv0,upd,rX]
  | some p =>
   obtain ⟨n,r⟩:=p
   have hrl:r.length<=b.length:=by
    have:=(takeN_vnum h2).1; rw [this]; simp
   refine fO (lI b r n hb h2) (by simp [upd,rdO]) rfl ?_
   refine gx bF ?_
   refine bi (fun h=>?_) (fun h=>?_)
   ·have h3:200 < n:=by simp at h; omega
    refine gx bF ?_
    refine cK [] rfl ?_
    simp [cv,cvT,cv1,cv0,upd,rX,h3]
   ·have h3:¬ 200 < n:=by simp at h; omega
    clear h
    simp only [if_neg h3]
    refine gx bF ?_
    refine wZ (ι:={ p:List dw × Nat × List UInt8 // p.2.1<=n/\p.1.length=p.2.1/\p.2.2.length<=b.length/\eT n r=(eT (n - p.2.1) p.2.2).map (p.1++·) })
     (fun p=>ek [(4,.pt 101 0 0 0),(6,.os 100 3 0 p.1.1.length),(26,.i (.s (.int .u64 n))),(27,.i (.s (.int .u64 (p.1.2.1:Nat))))] [(100,.arr 3 (p.1.1.map vC)),(101,rdO p.1.2.2 false)]) (fun p=>n - p.1.2.1) ⟨([],0,r),by simp,rfl,hrl,by simp⟩ ?_ ?_
    ·refine az _ _ [] [(101,1770)] ?_ ?_ rfl rfl
     ·simp [cv,cv1,cv0,upd,lk,aJ]
     ·simp [bE,aJ,lk,cvO,cvL,cv0,frz,upd,D.one,rdO]
    ·rintro ⟨⟨acc,i,s⟩,hi,hal,hs,hq⟩
     simp only at hi hal hs hq
     rw [au]
     refine gx (an bF @rdO.eq_1) ?_
     refine bi (fun h=>?_) (fun h=>?_)
     ·have h4:i < n:=by simp at h; omega
      clear h
      have hni:n - i=(n - (i+1))+1:=by omega
      rw [hni] at hq
      refine gx bF ?_
      cases s with
      | nil =>
       refine fO (FC false) (by simp [upd,hO,lk,rdO]) rfl ?_
       refine gx (an (an bF @vJ.eq_1) @UInt8.toNat_zero) ?_
       refine fO (mH [] true (by simp) (by simp) rfl) (by simp [upd,hO,lk,rdO]) rfl ?_
       refine gx (an (an (an bF @vJ.eq_1) @UInt8.toNat_zero) @rdO.eq_1) ?_
       refine cK [] rfl ?_
       have hR:eT n r=none:=by rw [hq]; rfl
       simp [cv,cvT,cv1,cv0,upd,rX,hR]
      | cons c s =>
       have hs':s.length<=1048576:=by simp at hs; omega
       refine fO (qc c s false hs') (by simp [upd,hO,lk,rdO]) rfl ?_
       have c0:(c=0)↔c.toNat=0:=by rw [<- UInt8.toNat_inj]; rfl
       have c1:(c=1)↔c.toNat=1:=by rw [<- UInt8.toNat_inj]; rfl
       have e3:acc.length+1<=140737488355328:=by omega
       have e3':(acc.length+1) * 40<=140737488355328:=by omega
       have w5:IntKind.u64.wrap ((i:Int)+1)=((i+1:Nat):Int):=by rw [IntKind.wrap_u64]; omega
       rw [eT] at hq
       refine gx (an bF @vJ.eq_1) ?_
       refine bi (fun h=>?_) (fun h=>?_)
       ·have h5:c=0:=by rw [c0]; simp at h; omega
        clear h
        refine gx bF ?_
        cases h6:iJ 0 0 s with
        | none =>
         refine fO (mH s false (by simp) hs' h6) (by simp [upd,hO,lk,rdO]) rfl ?_
         refine gx bF ?_
         have hR:eT n r=none:=by rw [hq,h6]; rfl
         refine cK [] rfl ?_
         simp [cv,cvT,cv1,cv0,upd,rX,hR]
        | some p =>
         obtain ⟨v,s'⟩:=p
         simp only [h6,h5,if_true] at hq
         refine fO (lI s s' v hs' h6) (by simp [upd,hO,lk,rdO]) rfl ?_
         refine gx (an (an (an (an bF e3) e3') @Fg) w5) ?_
         refine ⟨⟨(acc++[⟨1,v,[]⟩],i+1,s'),h4,by simp [hal],?_,?_⟩,az _ _ [] [(100,7147),(101,101)] ?_ ?_ rfl rfl,?_⟩
         ·have:=(takeN_vnum h6).1
          have h7:s'.length<=s.length:=by rw [this]; simp
          simp at hs ⊢; omega
         ·rw [hq]; simp [Option.map_map]; congr
         ·simp [cv,cv1,cv0,upd,lk,aJ]
         ·simp [bE,aJ,lk,cvO,cvL,cv0,frz,upd,D.one,hO,rdO,vC,bI]
         ·simp; omega
       ·have h5:c≠0:=by rw [Ne,c0]; simp at h; omega
        clear h
        refine gx bF ?_
        refine bi (fun h=>?_) (fun h=>?_)
        ·have h5':c=1:=by rw [c1]; simp at h; omega
         clear h
         refine gx bF ?_
         cases h6:iJ 0 0 s with
         | none =>
          refine fO (mH s false (by simp) hs' h6) (by simp [upd,hO,lk,rdO]) rfl ?_
          have hR:eT n r=none:=by rw [hq,h6]; rfl
          have e7:((0:Int)<=((rZ 0 s).length:Int))=True:=by simp
          have e8:decide (((rZ 0 s).length:Int) < 0)=false:=by simp
          have e9:IntKind.u64.wrap ((rZ 0 s).length:Int)=((rZ 0 s).length:Int):=by
           have:∀ (i:Nat) (s:List UInt8),(rZ i s).length<=s.length:=by
            intro i s
            induction s generalizing i with
            | nil=>simp [rZ]
            | cons a t ih=>simp only [rZ]; split <;> simp; have:=ih (i+1); omega
           have:=this 0 s
           rw [IntKind.wrap_u64]; omega
          refine gx (an (an (an (an bF e7) e8) e9) @jd) ?_
          refine cK [] rfl ?_
          simp [cv,cvT,cv1,cv0,upd,rX,hR]
         | some p =>
          obtain ⟨v,s'⟩:=p
          have h7:s'.length<=s.length:=by have:=(takeN_vnum h6).1; rw [this]; simp
          simp only [h6,h5',if_true] at hq
          refine fO (lI s s' v hs' h6) (by simp [upd,hO,lk,rdO]) rfl ?_
          have e9:IntKind.u64.wrap (s'.length:Int)=(s'.length:Int):=by rw [IntKind.wrap_u64]; omega
          refine gx (an bF e9) ?_
          refine bi (fun h=>?_) (fun h=>?_)
          ·have h8:s'.length < v:=by simp at h; omega
           have hR:eT n r=none:=by rw [hq]; simp [h8]
           refine gx bF ?_
           refine cK [] rfl ?_
           simp [cv,cvT,cv1,cv0,upd,rX,hR]
          ·have h8:¬ s'.length < v:=by simp at h; omega
           rw [if_neg h8] at hq
           have e10:((v:Int)<=(s'.length:Int))=True:=by simp; omega
           have e11:(List.map af (List.take v s')).length=v:=by simp; omega
           have e12:v<=140737488355328:=by omega
           refine gx (an (an (an (an (an (an (an (an (an (an bF e3) e3') @Fg) @jd) w5) @e10) @mtk) @mdr) @e11) @e12) ?_
           refine ⟨⟨(acc++[⟨2,0,s'.take v⟩],i+1,s'.drop v),h4,by simp [hal],?_,?_⟩,az _ _ [] [(100,7147),(101,101)] ?_ ?_ rfl rfl,?_⟩
           ·simp at hs ⊢; omega
           ·rw [hq]; simp [Option.map_map]; congr
           ·simp [cv,cv1,cv0,upd,lk,aJ]
           ·simp [bE,aJ,lk,cvO,cvL,cv0,frz,upd,D.one,hO,rdO,vC,bI,List.take_take]
           ·simp; omega
        ·have h5':c≠1:=by rw [Ne,c1]; simp at h; omega
         clear h
         refine gx bF ?_
         have hR:eT n r=none:=by rw [hq]; cases iJ 0 0 s <;> simp [h5,h5']
         refine cK [] rfl ?_
         simp [cv,cvT,cv1,cv0,upd,rX,hR]
     ·have h4:i=n:=by simp at h; omega
      subst h4
      refine gx bF ?_
      have hz:i - i=0:=by omega
      rw [hz,eT] at hq
      refine bi (fun h=>?_) (fun h=>?_)
      ·have hR:eT i r=none:=by rw [hq,if_neg (by rintro rfl; simp at h)]; rfl
       refine gx bF ?_
       refine cK [] rfl ?_
       simp [cv,cvT,cv1,cv0,upd,rX,hR]
      ·have hR:eT i r=some acc:=by rw [hq,if_pos (by cases s <;> simp at h ⊢)]; simp
       refine gx bF ?_
       refine cK [100] rfl ?_
       simp [cv,cvT,cv1,cv0,upd,rX,hR,hO,lk,ae,List.take_of_length_le]
def Xo (s:ByteArray):dw:=⟨2,0,unB s⟩
def Tf (t:iF):List dw:=[Xo t.d,⟨1,t.n,[]⟩,Xo t.s,Xo t.r]
def fP (t:iF):List UInt8:=(cu (Tf t)).1
def BV:iF:=⟨⟨#[]⟩,0,⟨#[]⟩,⟨#[]⟩⟩
def wC (l:List ByteArray):Int:=if l.all eZ then 0 else 4
def Nk (t:iF):iF × Int:=if wC [t.d,t.s,t.r]=0 then (if t.n=0 then (BV,3) else (t,0)) else (BV,wC [t.d,t.s,t.r])
def Ms:List dw->iF × Int
 | [a,b,c,d]=>if a.kind=2/\b.kind=1/\c.kind=2/\d.kind=2 then Nk ⟨Ik a.b,b.n,Ik c.b,Ik d.b⟩ else (BV,2)
 | _=>(BV,2)
def bL (b:List UInt8):iF × Int:=if (readF b).2=0 then Ms (readF b).1 else (BV,(readF b).2)
theorem Gw {l:List dw} (h:l.length≠4):Ms l=(BV,2):=by
 unfold Ms
 split
 ·simp at h
 ·rfl
attribute [local simp,local go_sem] trD sD intD bI BV nE vC Ik
theorem Ur (s:ByteArray) (hs:s.size<=140737488355328):PureD Tryz.prog 254 [sD s] (.agg [.i (.s (.int .i64 2)),.i (.s (.int .u64 0)),.i (bI (unB s))]):=by
 refine ak fun R hR=>?_
 have x1:=JL s
 refine aa 6 Tryz.func254 rfl rfl rfl (fun _ _=>rfl) ?_
 exact wkl trivial
theorem ED (t:iF) (hn:t.n < 18446744073709551616) (h1:t.d.size<=1048576) (h2:t.s.size<=1048576) (h3:t.r.size<=1048576):PureD Tryz.prog 216 [trD t] (.i (bI (fP t))):=by
 have c1:=Ur t.d (by omega)
 have c2:=Ur t.s (by omega)
 have c3:=Ur t.r (by omega)
 have c4:=xh (Tf t) (by simp [Tf]) (by intro p hp; simp only [Tf,Xo,List.mem_cons,List.not_mem_nil,or_false] at hp; rcases hp with rfl | rfl | rfl | rfl <;> simp only [unB_len,List.length_nil] <;> omega)
  (by intro p hp; simp only [Tf,Xo,List.mem_cons,List.not_mem_nil,or_false] at hp; rcases hp with rfl | rfl | rfl | rfl <;> first | exact hn | (simp only; omega))
 unfold fP
 generalize cu (Tf t)=W at *
 simp only [Tf,Xo,List.map_cons,List.map_nil,vC] at c4
 refine ak fun R hR=>?_
 refine aa 27 Tryz.func216 rfl rfl rfl (fun _ _=>rfl) ?_
 exact wkl trivial
theorem four4 (l:List dw) (h:l.length=4):∃ a b c d,l=[a,b,c,d]:=by
 match l,h with
 | [a,b,c,d],_=>exact ⟨a,b,c,d,rfl⟩
theorem yf (b:List UInt8) (hb:b.length<=1048576):PureD Tryz.prog 215 [.i (bI b)] (.tup [trD (bL b).1,intD (bL b).2]):=by
 have c1:=Yb b hb
 refine ak fun R hR=>?_
 simp only [bL] at hR
 generalize readF b=L at *
 obtain ⟨l,e⟩:=L
 simp only [rX] at c1 hR
 by_cases h4:l.length=4
 ·obtain ⟨p,q,r,s,rfl⟩:=four4 l h4
  have c2:PureD _ _ _ (intD (wC [Ik p.b,Ik r.b,Ik s.b])):=Jt [Ik p.b,Ik r.b,Ik s.b] (by simp)
  simp only [List.map_cons,List.map_nil,sI] at c2
  simp only [Ms,Nk] at hR
  generalize wC [Ik p.b,Ik r.b,Ik s.b]=w at *
  clear h4
  refine aa 86 Tryz.func215 rfl rfl rfl (fun _ _=>rfl) ?_
  exact wkl trivial
 ·rw [Gw h4] at hR
  refine aa 86 Tryz.func215 rfl rfl rfl (fun _ _=>rfl) ?_
  exact wkl trivial
end Go.Proofs.YtfenipelcpmkpaaGreatDoor
