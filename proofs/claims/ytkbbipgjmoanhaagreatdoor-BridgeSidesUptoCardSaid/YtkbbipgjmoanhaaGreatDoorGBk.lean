/- Merged texts: Strs, Purse, PurseF, BankP, RName, RFrom, BankW, RWrong, InsPu, DelPu, BankX, BankY, Right, DecPu, BkQ, WRead, BankT. -/
import Derived.Test.YtkbbipgjmoanhaaGreatDoorGMk
import Derived.Lib.ItoaLen
set_option linter.all false
set_option maxHeartbeats 8000000
set_option maxRecDepth 20000
namespace Go.Proofs.YtkbbipgjmoanhaaGreatDoor
open Go Go.Abs Go.RowKit Go.Proofs.YtkbbipgjmoanhaaGreatDoor.Ty
theorem HV:(type_of% @Ty.T9):=@Ty.T9
theorem Hz:(type_of% @Ty.T9):=@Ty.T9
theorem PD (a b:ByteArray) (G:Nat->Ob):Qj Tryz.prog 268 [sD a,sD b] G (.i (.s (.int .i64 (ll a b)))) G:=by
 refine EU (vs:=[.string a,.string b]) (v:=.int .i64 (ll a b)) rfl (fun w=>?_) (fun K=>.i (.s _ rfl))
 rw [run_callFunc_extern Tryz.func268 (by kernel_rfl) (by kernel_rfl) (by kernel_rfl) (e:=Extern.BytealgCompare.compare) (by kernel_rfl)]
 rw [show ([Value.string a,Value.string b].toArray)=#[.string a,.string b] from rfl,Lib.run_compareString]
 rfl
theorem ui (a b:ByteArray):PureD Tryz.prog 265 [sD a,sD b] (.i (.s (.int .i64 (ll a b)))):=by
 refine aa 8 Tryz.func265 rfl rfl rfl (fun _ _=>rfl) ?_
 refine gx (an Hz @sD.eq_1) ?_
 refine je (PD a b) ?_
 refine gx Hz ?_
 refine aB [] rfl ?_
 simp [cv,cv1,cv0,upd]
theorem Qw (a b:ByteArray):PureD Tryz.prog 256 [sD a,sD b] (.i (.s (.int .i64 (ll a b)))):=by
 refine aa 8 Tryz.func256 rfl rfl rfl (fun _ _=>rfl) ?_
 (refine gy (an HV @sD.eq_1) ?_; try intro ops hops)
 (first | refine ai [] [] (ui a b) (by simp [aJ,cvA,aM,cvR,ah,cv1,cvL,cv0,bI,af,sD,ae,upd]) rfl ?_ | refine ag [] [] [] (ui a b) (fun G _=>by simp [aJ,cvA,aM,cvR,ah,cv1,cvL,cv0,bI,af,sD,ae,upd]) rfl ?_)
 refine gx HV ?_
 refine aB [] rfl ?_
 simp [cv,cv1,cv0,upd]
theorem nC:(type_of% @Ty.T3)/\(type_of% @Ty.T9)/\(type_of% @Ty.T56)/\(type_of% @Ty.T90):=⟨@Ty.T3,@Ty.T9,@Ty.T56,@Ty.T90⟩
def amtP (l:List az) (o d:ByteArray):Nat:=match Ct l o d with | some p=>p.n | none=>0
theorem qU (p:az) (o d:ByteArray):PureD Tryz.prog 255 [puD p,sD d,.rp [sI o] 0] (intD (ni (pk p) (o,d))):=by
 unfold ni pk
 have h1:=Qw p.o o
 have h2:=Qw p.d d
 simp only
 generalize ll p.o o=c1 at *
 generalize ll p.d d=c2 at *
 by_cases h:c1=0
 ·rw [if_pos h]
  have g:decide (c1=0)=true:=decide_eq_true h
  refine aa 18 Tryz.func255 rfl rfl rfl (fun _ _=>rfl) ?_
  (refine gy (an (an (an nC @puD.eq_1) @sD.eq_1) @sI.eq_1) ?_; try intro ops hops)
  (first | refine ai [] [] (h1) (by simp [aJ,cvA,aM,cvR,ah,cv1,cvL,cv0,bI,af,intD,sD,sI,puD,ae,upd]) rfl ?_ | refine ag [] [] [] (h1) (fun G _=>by simp [aJ,cvA,aM,cvR,ah,cv1,cvL,cv0,bI,af,intD,sD,sI,puD,ae,upd]) rfl ?_)
  (refine gy (an nC g) ?_; try intro ops hops)
  (first | refine ai [] [] (h2) (by simp [aJ,cvA,aM,cvR,ah,cv1,cvL,cv0,bI,af,intD,sD,sI,puD,ae,upd]) rfl ?_ | refine ag [] [] [] (h2) (fun G _=>by simp [aJ,cvA,aM,cvR,ah,cv1,cvL,cv0,bI,af,intD,sD,sI,puD,ae,upd]) rfl ?_)
  refine gx nC ?_
  refine aB [] rfl ?_
  simp [cv,cv1,cv0,upd,intD]
 ·rw [if_neg h]
  have g:decide (c1=0)=false:=decide_eq_false h
  refine aa 18 Tryz.func255 rfl rfl rfl (fun _ _=>rfl) ?_
  (refine gy (an (an (an nC @puD.eq_1) @sD.eq_1) @sI.eq_1) ?_; try intro ops hops)
  (first | refine ai [] [] (h1) (by simp [aJ,cvA,aM,cvR,ah,cv1,cvL,cv0,bI,af,intD,sD,sI,puD,ae,upd]) rfl ?_ | refine ag [] [] [] (h1) (fun G _=>by simp [aJ,cvA,aM,cvR,ah,cv1,cvL,cv0,bI,af,intD,sD,sI,puD,ae,upd]) rfl ?_)
  refine gx (an nC g) ?_
  refine aB [] rfl ?_
  simp [cv,cv1,cv0,upd,intD]
theorem fP:(type_of% @Ty.T3)/\(type_of% @Ty.T9)/\(type_of% @Ty.T28)/\(type_of% @Ty.T56)/\(type_of% @Ty.T90)/\(type_of% @Ty.aay):=⟨@Ty.T3,@Ty.T9,@Ty.T28,@Ty.T56,@Ty.T90,@Ty.aay⟩
theorem zf:(type_of% @Ty.T9)/\(type_of% @Ty.T28)/\(type_of% @Ty.T56)/\(type_of% @Ty.T90)/\(type_of% @Ty.aai):=⟨@Ty.T9,@Ty.T28,@Ty.T56,@Ty.T90,@Ty.aai⟩
theorem nA:(type_of% @Ty.T4)/\(type_of% @Ty.T9)/\(type_of% @Ty.T28)/\(type_of% @Ty.T56)/\(type_of% @Ty.T90):=⟨@Ty.T4,@Ty.T9,@Ty.T28,@Ty.T56,@Ty.T90⟩
theorem II (l:List az) (ow de:ByteArray) (p:Nat) (hl:l.length<=1048576) (hp:p<=l.length) (hm:∀ a (h:a < l.length),ni (pk l[a]) (ow,de) < 0↔a < p) :
  PureD Tryz.prog 254 [.i (jB l),sD de,.fn 255 [.rp [sI ow] 0]]
   (.tup [intD p,boolD (if h:p < l.length then decide (ni (pk l[p]) (ow,de)=0) else false)]):=by
 refine aa 49 Tryz.func254 rfl rfl rfl (fun _ _=>rfl) ?_
 refine gx (an (an fP @jB.eq_1) @sD.eq_1) ?_
 refine cz (ι:=Nat × Nat) (fun q=>q.1<=p/\p<=q.2/\q.2<=l.length)
  (fun q=>dW [(0,.i (.sl (l.map aV))),(1,sD de),(2,.fn 255 [.rp [sI ow] 0]),(8,intD l.length),(9,intD q.1),(10,intD q.2)] []) (fun q=>q.2 - q.1) (0,l.length) ⟨Nat.zero_le _,hp,Nat.le_refl _⟩ ?_ ?_
 ·refine le_stOf _ _ [] [] ?_ ?_ rfl rfl
  ·simp [cv,cvL,cv1,cv0,upd,lk,aZ,intD,sD,sI]
  ·simp
 ·rintro ⟨i,j⟩ ⟨h1,h2,h3⟩
  simp only at h1 h2 h3
  rw [au]
  refine gx (an (an fP @intD.eq_1) @sD.eq_1) ?_
  refine Wc_split (fun h=>?_) (fun h=>?_)
  ·have hij:i < j:=by simp at h; omega
   clear h
   have hml:(i+j) / 2 < l.length:=by omega
   have e1:(l.map aV)[(i+j) / 2]?=some (aV l[(i+j) / 2]):=by rw [List.getElem?_map,List.getElem?_eq_getElem hml]; rfl
   have hmm:=hm _ hml
   have w1:IntKind.i64.wrap ((i:Int)+(j:Int))=((i+j:Nat):Int):=by rw [ay (by omega) (by omega)]; omega
   have w2:IntKind.u64.wrap ((i+j:Nat):Int)=((i+j:Nat):Int):=by rw [IntKind.wrap_u64]; omega
   have w3:((i+j:Nat):Int).fdiv (2 ^ min 1 (IntKind.bits .u64))=(((i+j) / 2:Nat):Int):=by
    rw [show min 1 (IntKind.bits .u64)=1 from rfl,Int.fdiv_eq_ediv_of_nonneg _ (by decide)]; omega
   have w4:IntKind.i64.wrap (((i+j) / 2:Nat):Int)=(((i+j) / 2:Nat):Int):=by rw [ay (by omega) (by omega)]
   have w5:IntKind.i64.wrap ((((i+j) / 2:Nat):Int)+1)=(((i+j) / 2+1:Nat):Int):=by rw [ay (by omega) (by omega)]; omega
   have hmid1:i<=(i+j) / 2:=by omega
   have hmid2:(i+j) / 2 < j:=by omega
   generalize l[(i+j) / 2]=q at e1 hmm
   simp only [aV] at e1
   generalize (i+j) / 2=m at *
   (refine gy (an (an (an (an (an fP w1) w2) w3) w4) e1) ?_; try intro ops hops)
   (first | refine ai [] [] (qU q ow de) (by simp [aJ,cvA,aM,cvR,ah,cv1,cvL,cv0,bI,af,intD,boolD,sD,sI,puD,jB,wD,ae,upd]) rfl ?_ | refine ag [] [] [] (qU q ow de) (fun G _=>by simp [aJ,cvA,aM,cvR,ah,cv1,cvL,cv0,bI,af,intD,boolD,sD,sI,puD,jB,wD,ae,upd]) rfl ?_)
   refine gx (an (an fP @intD.eq_1) @sD.eq_1) ?_
   refine Wc_split (fun h=>?_) (fun h=>?_)
   ·have hlt:m < p:=hmm.1 (by simpa using h)
    refine gx (an fP w5) ?_
    refine ⟨(m+1,j),⟨hlt,h2,h3⟩,le_stOf _ _ [] [] ?_ ?_ rfl rfl,by simp; omega⟩
    ·simp [cv,cvL,cv1,cv0,upd,lk,aZ,intD,sD,sI]
    ·simp
   ·have hlt:¬ m < p:=fun hc=>by have:=hmm.2 hc; simp at h; omega
    refine gx fP ?_
    refine ⟨(i,m),⟨h1,Nat.le_of_not_lt hlt,by omega⟩,le_stOf _ _ [] [] ?_ ?_ rfl rfl,by simp; omega⟩
    ·simp [cv,cvL,cv1,cv0,upd,lk,aZ,intD,sD,sI]
    ·simp
  ·have hij:i=p:=by simp at h; omega
   subst hij
   by_cases hlt:i < l.length
   ·rw [dif_pos hlt]
    have e1:(l.map aV)[i]?=some (aV l[i]):=by rw [List.getElem?_map,List.getElem?_eq_getElem hlt]; rfl
    generalize l[i]=q at e1
    simp only [aV] at e1
    have g:decide ((i:Int) < (l.length:Int))=true:=decide_eq_true (by omega)
    (refine gy (an (an fP g) e1) ?_; try intro ops hops)
    (first | refine ai [] [] (qU q ow de) (by simp [aJ,cvA,aM,cvR,ah,cv1,cvL,cv0,bI,af,intD,boolD,sD,sI,puD,jB,wD,ae,upd]) rfl ?_ | refine ag [] [] [] (qU q ow de) (fun G _=>by simp [aJ,cvA,aM,cvR,ah,cv1,cvL,cv0,bI,af,intD,boolD,sD,sI,puD,jB,wD,ae,upd]) rfl ?_)
    refine gx (an (an fP @intD.eq_1) @sD.eq_1) ?_
    refine bQ [] rfl ?_
    simp [cv,cvT,cv1,cv0,upd,intD,boolD]
   ·rw [dif_neg hlt]
    have g:decide ((i:Int) < (l.length:Int))=false:=decide_eq_false (by omega)
    refine gx (an fP g) ?_
    refine bQ [] rfl ?_
    simp [cv,cvT,cv1,cv0,upd,intD,boolD]
theorem Gj {l:List az} (hs:UC l) (o d:ByteArray):(if h:bL l o d < l.length then decide (ni (pk l[bL l o d]) (o,d)=0) else false)=(Ct l o d).isSome:=by
 unfold Ct bL
 rw [KL.get_place cmpP_ok hs]
 by_cases h:KL.place pk ni l (o,d) < l.length
 ·rw [dif_pos h,dif_pos h]
  by_cases h2:ni (pk l[KL.place pk ni l (o,d)]) (o,d)=0
  ·rw [if_pos h2,decide_eq_true h2]; rfl
  ·rw [if_neg h2,decide_eq_false h2]; rfl
 ·rw [dif_neg h,dif_neg h]; rfl
theorem Bt (l:List az) (o d:ByteArray) (hl:l.length<=1048576) (hs:UC l) :
  PureD Tryz.prog 231 [.i (jB l),sD o,sD d] (.tup [intD (bL l o d),boolD (Ct l o d).isSome]):=by
 have hc:=II l o d (bL l o d) hl (KL.place_le cmpP_ok l _) (fun a ha=>KL.place_iff cmpP_ok hs (o,d) a ha)
 rw [Gj hs] at hc
 generalize bL l o d=p at *
 generalize (Ct l o d).isSome=b at *
 simp only [jB,sD,sI] at hc
 refine aa 14 Tryz.func231 rfl rfl rfl (fun _ _=>rfl) ?_
 (refine gy (an (an zf @jB.eq_1) @sD.eq_1) ?_; try intro ops hops)
 (first | refine ai [] [1000] (hc) (by simp [aJ,cvA,aM,cvR,ah,cv1,cvL,cv0,bI,af,intD,boolD,sD,sI,puD,jB,wD,ae,upd,and_assoc]) rfl ?_ | refine ag [] [1000] [1000] (hc) (fun G hG=>by (have hG1000:=hG 1000 (by simp); simp [aJ,cvA,aM,cvR,ah,cv1,cvL,cv0,bI,af,intD,boolD,sD,sI,puD,jB,wD,ae,upd,and_assoc,hG1000])) rfl ?_)
 refine gx (an (an zf @intD.eq_1) @boolD.eq_1) ?_
 refine bQ [] rfl ?_
 simp [cv,cvT,cv1,cv0,upd,intD,boolD]
theorem Qd (l:List az) (o d:ByteArray) (hl:l.length<=1048576) (hs:UC l) :
  PureD Tryz.prog 230 [.i (jB l),sD o,sD d] (wD (amtP l o d)):=by
 have hf:=Bt l o d hl hs
 unfold amtP
 cases hg:Ct l o d with
 | none =>
  rw [hg] at hf
  generalize bL l o d=p at *
  refine aa 23 Tryz.func230 rfl rfl rfl (fun _ _=>rfl) ?_
  (refine gy (an (an nA @jB.eq_1) @sD.eq_1) ?_; try intro ops hops)
  (first | refine aR [] (hf) (by simp [aJ,cvA,aM,cvR,ah,cv1,cvL,cv0,bI,af,intD,boolD,sD,sI,puD,jB,wD,ae,upd]) ?_ | refine aH [] [] (hf) (fun G _=>by simp [aJ,cvA,aM,cvR,ah,cv1,cvL,cv0,bI,af,intD,boolD,sD,sI,puD,jB,wD,ae,upd]) (by simp) ?_)
  refine gx (an (an (an nA @intD.eq_1) @boolD.eq_1) @Option.isSome_none.{0}) ?_
  refine aB [] rfl ?_
  simp [cv,cv1,cv0,upd,wD]
 | some v =>
  rw [hg] at hf
  obtain ⟨hp,hv⟩:=KL.place_lt cmpP_ok hs hg
  have e1:(l.map aV)[bL l o d]?=some (aV v):=by rw [List.getElem?_map,List.getElem?_eq_getElem hp,<- hv]; rfl
  simp only [aV] at e1
  clear hv hp
  generalize bL l o d=p at *
  refine aa 23 Tryz.func230 rfl rfl rfl (fun _ _=>rfl) ?_
  (refine gy (an (an nA @jB.eq_1) @sD.eq_1) ?_; try intro ops hops)
  (first | refine aR [] (hf) (by simp [aJ,cvA,aM,cvR,ah,cv1,cvL,cv0,bI,af,intD,boolD,sD,sI,puD,jB,wD,ae,upd]) ?_ | refine aH [] [] (hf) (fun G _=>by simp [aJ,cvA,aM,cvR,ah,cv1,cvL,cv0,bI,af,intD,boolD,sD,sI,puD,jB,wD,ae,upd]) (by simp) ?_)
  refine gx (an (an (an (an (an nA @intD.eq_1) @boolD.eq_1) @Option.isSome_some.{0}) @jB.eq_1) e1) ?_
  refine aB [] rfl ?_
  simp [cv,cv1,cv0,upd,wD]
structure bB (l:List az):Prop where
 len:l.length<=60
 wo:∀ p∈l,1<=p.o.size/\p.o.size<=40
 wd:∀ p∈l,1<=p.d.size/\p.d.size<=40
 pos:∀ p∈l,0 < p.n/\p.n < 18446744073709551616
 srt:UC l
def eD (s:ByteArray):Bool:=decide (1<=s.size) && decide (s.size<=40)
def jv (l:List az) (d:ByteArray):Nat:=(l.map fun p=>if p.d=d then p.n else 0).sum
abbrev wN (l:List az) (o d:ByteArray) (v:Option az):List az:=KL.put pk ni l (o,d) v
def kr (l:List az) (o d:ByteArray) (n:Nat):List az:=wN l o d (if n=0 then none else some ⟨o,d,n⟩)
def mO (l:List az) (o d:ByteArray) (n:Nat):List az × Nat :=
 if !(eD o && eD d) then ([],4)
 else if n=0 then (l,0)
 else if 18446744073709551616<=jv l d+n then ([],3)
 else if amtP l o d=0/\l.length=60 then ([],5)
 else (kr l o d (amtP l o d+n),0)
def mf (l:List az) (o d:ByteArray) (n:Nat):List az × Nat :=
 if !(eD o && eD d) then ([],4)
 else if amtP l o d < n then ([],8)
 else (kr l o d (amtP l o d - n),0)
def kv (l:List az) (o t d:ByteArray) (n:Nat):List az × Nat :=
 if (mf l o d n).2=0 then mO (mf l o d n).1 t d n else ([],(mf l o d n).2)
theorem getP_key {l:List az} (h:bB l) {o d:ByteArray} {p:az} (hg:Ct l o d=some p):p∈l/\p.o=o/\p.d=d:=by
 have:=(KL.get_iff cmpP_ok h.srt).1 hg
 exact ⟨this.1,congrArg Prod.fst this.2,congrArg Prod.snd this.2⟩
theorem ru {l:List az} (h:bB l) (o d:ByteArray):Ct l o d=if amtP l o d=0 then none else some ⟨o,d,amtP l o d⟩:=by
 unfold amtP
 cases hg:Ct l o d with
 | none=>rfl
 | some p =>
  obtain ⟨h1,h2,h3⟩:=getP_key h hg
  have:=(h.pos p h1).1
  simp only
  rw [if_neg (by omega),<- h2,<- h3]
theorem Ml {l:List az} (h:bB l) (o d:ByteArray):amtP l o d < 18446744073709551616:=by
 unfold amtP
 cases hg:Ct l o d with
 | none=>simp
 | some p=>exact (h.pos p (getP_key h hg).1).2
theorem Io {o d:ByteArray} {n:Nat}:∀ x,(if n=0 then none else some (⟨o,d,n⟩:az))=some x->pk x=(o,d):=by
 intro x hx
 split at hx
 ·cases hx
 ·injection hx with hx; subst hx; rfl
theorem NQ {l:List az} (h:bB l) (o d:ByteArray) (n:Nat):UC (kr l o d n):=KL.srt_put cmpP_ok h.srt Io
theorem Mk {l:List az} (h:bB l) (o d:ByteArray) (n:Nat) (o' d':ByteArray):amtP (kr l o d n) o' d'=if o'=o/\d'=d then n else amtP l o' d':=by
 unfold amtP
 have hd:Decidable ((o',d')=(o,d)):=Classical.propDecidable _
 have hg:Ct (kr l o d n) o' d'=if (o',d')=(o,d) then (if n=0 then none else some ⟨o,d,n⟩) else Ct l o' d':=KL.get_put cmpP_ok h.srt Io (o',d')
 rw [hg]
 by_cases hk:o'=o/\d'=d
 ·rw [if_pos (by rw [hk.1,hk.2]),if_pos hk]
  by_cases h0:n=0
  ·rw [if_pos h0]; exact h0.symm
  ·rw [if_neg h0]
 ·rw [if_neg (fun e=>hk ⟨congrArg Prod.fst e,congrArg Prod.snd e⟩),if_neg hk]
theorem mem_set {l:List az} {o d:ByteArray} {n:Nat} {x:az} (hx:x∈kr l o d n):x∈l\/(x=⟨o,d,n⟩/\n≠0):=by
 rcases (KL.mem_put cmpP_ok).1 hx with h1 | h1
 ·exact .inl h1.1
 ·split at h1
  ·cases h1
  ·injection h1 with h1; exact .inr ⟨h1.symm,by assumption⟩
theorem wordOk_iff {s:ByteArray}:eD s=true↔1<=s.size/\s.size<=40:=by simp [eD]
theorem Im {l:List az} (h:bB l) (o d:ByteArray) (n:Nat):(kr l o d n).length=if amtP l o d=0 then (if n=0 then l.length else l.length+1) else (if n=0 then l.length - 1 else l.length):=by
 have hg:=ru h o d
 by_cases h0:amtP l o d=0
 ·rw [if_pos h0] at hg ⊢
  unfold kr wN
  by_cases hn:n=0
  ·rw [if_pos hn,if_pos hn,KL.put_none cmpP_ok h.srt hg]
  ·rw [if_neg hn,if_neg hn,KL.put_miss cmpP_ok h.srt hg]
   have:=KL.place_le (κ:=pk) cmpP_ok l (o,d)
   simp; omega
 ·rw [if_neg h0] at hg ⊢
  obtain ⟨hp,_⟩:=KL.place_lt cmpP_ok h.srt hg
  unfold kr wN
  by_cases hn:n=0
  ·rw [if_pos hn,if_pos hn,KL.put_del cmpP_ok h.srt hg]; simp; omega
  ·rw [if_neg hn,if_neg hn,KL.put_hit cmpP_ok h.srt hg]; simp; omega
theorem zu {l:List az} (h:bB l) {o d:ByteArray} {n:Nat} (ho:eD o=true) (hd:eD d=true) (hn:n < 18446744073709551616) (hl:(kr l o d n).length<=60):bB (kr l o d n) where
 len:=hl
 wo:=fun p hp=>by rcases mem_set hp with h1 | ⟨rfl,_⟩; exact h.wo p h1; exact wordOk_iff.1 ho
 wd:=fun p hp=>by rcases mem_set hp with h1 | ⟨rfl,_⟩; exact h.wd p h1; exact wordOk_iff.1 hd
 pos:=fun p hp=>by rcases mem_set hp with h1 | ⟨rfl,h1⟩; exact h.pos p h1; exact ⟨by simp only; omega,hn⟩
 srt:=NQ h o d n
theorem Ic (f:az->Nat) (k:Yj) (l:List az):(l.map f).sum=((l.filter fun x=>decide (ni (pk x) k < 0)).map f).sum+(((l.filter fun x=>decide (ni (pk x) k=0)).map f).sum+((l.filter fun x=>decide (0 < ni (pk x) k)).map f).sum):=by
 induction l with
 | nil=>rfl
 | cons x t ih =>
  rw [List.map_cons,List.sum_cons,ih]
  by_cases h1:ni (pk x) k < 0
  ·rw [List.filter_cons_of_pos (by simpa using h1),List.filter_cons_of_neg (by simp; omega),List.filter_cons_of_neg (by simp; omega)]
   simp; omega
  ·by_cases h2:ni (pk x) k=0
   ·rw [List.filter_cons_of_neg (by simp; omega),List.filter_cons_of_pos (by simpa using h2),List.filter_cons_of_neg (by simp; omega)]
    simp; omega
   ·rw [List.filter_cons_of_neg (by simp; omega),List.filter_cons_of_neg (by simp; omega),List.filter_cons_of_pos (by simp; omega)]
    simp; omega
theorem Kz {l:List az} (h:UC l) (k:Yj):(l.filter fun x=>decide (ni (pk x) k=0))=(KL.get pk ni l k).toList:=by
 induction l with
 | nil=>rfl
 | cons x t ih =>
  rw [KL.get_cons cmpP_ok]
  have hs:=List.pairwise_cons.1 h
  by_cases hx:ni (pk x) k=0
  ·rw [if_pos hx,List.filter_cons_of_pos (by simpa using hx)]
   have hk:=(cmpP_ok.zero _ _).1 hx
   have:(t.filter fun x=>decide (ni (pk x) k=0))=[]:=by
    rw [List.filter_eq_nil_iff]
    intro y hy
    have h1:=hs.1 y hy
    rw [hk] at h1
    have:=(cmpP_ok.neg k (pk y)).1 h1
    simp; omega
   rw [this]; rfl
  ·rw [if_neg hx,List.filter_cons_of_neg (by simpa using hx),ih hs.2]
theorem IP (o d d':ByteArray) (n:Nat):(((if n=0 then none else some (⟨o,d,n⟩:az)).toList).map fun p=>if p.d=d' then p.n else 0).sum=if d=d' then n else 0:=by
 by_cases hn:n=0
 ·rw [if_pos hn,hn]; simp
 ·rw [if_neg hn]; simp
theorem Bh {l:List az} (h:bB l) (o d:ByteArray) (n:Nat) (d':ByteArray):jv (kr l o d n) d'+(if d=d' then amtP l o d else 0)=jv l d'+(if d=d' then n else 0):=by
 have h1:=Ic (fun p=>if p.d=d' then p.n else 0) (o,d) l
 rw [Kz h.srt (o,d),show KL.get pk ni l (o,d)=Ct l o d from rfl,ru h o d,IP] at h1
 unfold jv kr wN KL.put
 rw [h1]
 simp only [List.map_append,List.sum_append,IP]
 omega
theorem vE {l:List az} (h:bB l) (o d:ByteArray):amtP l o d<=jv l d:=by
 have:=Bh h o d 0 d
 simp at this
 omega
theorem lV {l:List az} (h:bB l) (o d:ByteArray) (n:Nat):bB (mf l o d n).1:=by
 have hnil:bB []:=⟨by simp,by simp,by simp,by simp,List.Pairwise.nil⟩
 unfold mf
 split
 ·exact hnil
 ·split
  ·exact hnil
  ·rename_i hw ha
   simp only [Bool.not_eq_true',Bool.not_eq_false,Bool.and_eq_true] at hw
   have:=Ml h o d
   refine zu h hw.1 hw.2 (by omega) ?_
   rw [Im h]
   have:=h.len
   split <;> split <;> omega
theorem oU {l:List az} (h:bB l) (o d:ByteArray) (n:Nat):bB (mO l o d n).1:=by
 have hnil:bB []:=⟨by simp,by simp,by simp,by simp,List.Pairwise.nil⟩
 unfold mO
 split
 ·exact hnil
 ·split
  ·exact h
  ·split
   ·exact hnil
   ·split
    ·exact hnil
    ·rename_i hw h0 hs ha
     simp only [Bool.not_eq_true',Bool.not_eq_false,Bool.and_eq_true] at hw
     have:=vE h o d
     refine zu h hw.1 hw.2 (by omega) ?_
     rw [Im h]
     have:=h.len
     split <;> split <;> omega
theorem lN {l:List az} (h:bB l) (o t d:ByteArray) (n:Nat):bB (kv l o t d n).1:=by
 unfold kv
 split
 ·exact oU (lV h o d n) t d n
 ·exact ⟨by simp,by simp,by simp,by simp,List.Pairwise.nil⟩
theorem burn_ok {l:List az} (h:bB l) {o d:ByteArray} {n:Nat} (he:(mf l o d n).2=0) :
  n<=amtP l o d/\(∀ o' d',amtP (mf l o d n).1 o' d'=if o'=o/\d'=d then amtP l o d - n else amtP l o' d')/\∀ d',jv (mf l o d n).1 d'+(if d=d' then n else 0)=jv l d':=by
 unfold mf at he ⊢
 split at he
 ·cases he
 ·split at he
  ·cases he
  ·rename_i hw ha
   rw [if_neg hw,if_neg ha]
   refine ⟨by omega,fun o' d'=>Mk h o d _ o' d',fun d'=>?_⟩
   have:=Bh h o d (amtP l o d - n) d'
   simp only
   split at this <;> simp_all <;> omega
theorem mint_ok {l:List az} (h:bB l) {o d:ByteArray} {n:Nat} (he:(mO l o d n).2=0) :
  (∀ o' d',amtP (mO l o d n).1 o' d'=if o'=o/\d'=d then amtP l o d+n else amtP l o' d')/\(∀ d',jv (mO l o d n).1 d'=jv l d'+(if d=d' then n else 0))/\(n≠0->jv l d+n < 18446744073709551616):=by
 unfold mO at he ⊢
 split at he
 ·cases he
 ·rename_i hw
  rw [if_neg hw]
  split at he
  ·rename_i hn
   rw [if_pos hn]
   subst hn
   refine ⟨fun o' d'=>?_,fun d'=>by simp,fun hc=>absurd rfl hc⟩
   split
   ·rename_i hk; rw [hk.1,hk.2]; rfl
   ·rfl
  ·rename_i hn
   rw [if_neg hn]
   split at he
   ·cases he
   ·rename_i hs
    rw [if_neg hs]
    split at he
    ·cases he
    ·rename_i ha
     rw [if_neg ha]
     refine ⟨fun o' d'=>Mk h o d _ o' d',fun d'=>?_,fun _=>by omega⟩
     have:=Bh h o d (amtP l o d+n) d'
     simp only
     split at this <;> simp_all <;> omega
theorem xz {l:List az} (h:bB l) {o t d:ByteArray} {n:Nat} (he:(kv l o t d n).2=0) :
  n<=amtP l o d/\(∀ o' d',amtP (kv l o t d n).1 o' d'=(if o'=o/\d'=d then amtP l o d - n else amtP l o' d')+(if o'=t/\d'=d then n else 0))/\∀ d',jv (kv l o t d n).1 d'=jv l d':=by
 unfold kv at he ⊢
 split at he
 ·rename_i hb
  rw [if_pos hb]
  have hr:=lV h o d n
  obtain ⟨h1,h2,h3⟩:=burn_ok h hb
  obtain ⟨g1,g2,_⟩:=mint_ok hr he
  refine ⟨h1,fun o' d'=>?_,fun d'=>?_⟩
  ·rw [g1]
   by_cases hk:o'=t/\d'=d
   ·rw [if_pos hk,if_pos hk,h2,hk.1,hk.2]
   ·rw [if_neg hk,if_neg hk,h2]; rfl
  ·rw [g2,<- h3 d']
 ·rename_i hb; exact absurd he hb
theorem nE:(type_of% @Ty.T3)/\(type_of% @Ty.T9)/\(type_of% @Ty.aaq):=⟨@Ty.T3,@Ty.T9,@Ty.aaq⟩
theorem lF:(type_of% @Ty.T3)/\(type_of% @Ty.T9)/\(type_of% @Ty.T28)/\(type_of% @Ty.T56)/\(type_of% @Ty.T90):=⟨@Ty.T3,@Ty.T9,@Ty.T28,@Ty.T56,@Ty.T90⟩
theorem v_:(type_of% @Ty.T0)/\(type_of% @Ty.T9)/\(type_of% @Ty.T28)/\(type_of% @Ty.T56)/\(type_of% @Ty.T90):=⟨@Ty.T0,@Ty.T9,@Ty.T28,@Ty.T56,@Ty.T90⟩
theorem Hf (l:List ByteArray) (hl:l.length<=100):PureD Tryz.prog 187 [.i (.sl (l.map fun s=>[sI s]))] (intD (if l.all eD then 0 else 4)):=by
 generalize hR:(if l.all eD then 0 else 4:Int)=R
 refine aa 20 Tryz.func187 rfl rfl rfl (fun _ _=>rfl) ?_
 refine gx (an nE @sI.eq_1) ?_
 refine cz (ι:=Nat) (fun i=>i<=l.length/\(if (l.drop i).all eD then 0 else 4:Int)=R)
  (fun i=>dW [(2,intD 0),(5,.i (.sl (l.map fun s=>[sI s]))),(6,intD l.length),(7,intD i)] []) (fun i=>l.length - i) 0 ⟨Nat.zero_le _,hR⟩ ?_ ?_
 ·refine le_stOf _ _ [] [] ?_ ?_ rfl rfl
  ·simp [cv,cvL,cv1,cv0,upd,lk,aZ,intD,sI]
  ·simp
 ·rintro i ⟨hi,hr⟩
  clear hR
  rw [au]
  by_cases h:i < l.length
  ·have g1:decide ((i:Int) < (l.length:Int))=true:=decide_eq_true (by omega)
   have e1:(l.map fun s=>[sI s])[i]?=some [sI l[i]]:=by rw [List.getElem?_map,List.getElem?_eq_getElem h]; rfl
   have w1:IntKind.i64.wrap ((i:Int)+1)=((i+1:Nat):Int):=by rw [ay (by omega) (by omega)]; omega
   rw [List.drop_eq_getElem_cons h,List.all_cons] at hr
   generalize l[i]=s at *
   simp only [sI] at e1
   by_cases h1:1<=s.size
   ·have g2:decide ((s.size:Int) < 1)=false:=decide_eq_false (by omega)
    by_cases h2:s.size<=40
    ·have g3:decide ((40:Int) < (s.size:Int))=false:=decide_eq_false (by omega)
     have hw:eD s=true:=wordOk_iff.2 ⟨h1,h2⟩
     rw [hw,Bool.true_and] at hr
     refine gx (an (an (an (an (an (an (an nE @intD.eq_1) @sI.eq_1) g1) e1) g2) g3) w1) ?_
     refine ⟨i+1,⟨h,hr⟩,le_stOf _ _ [] [] ?_ ?_ rfl rfl,by simp; omega⟩
     ·simp [cv,cvL,cv1,cv0,upd,lk,aZ,intD,sI]
     ·simp
    ·have g3:decide ((40:Int) < (s.size:Int))=true:=decide_eq_true (by omega)
     have hw:eD s=false:=by simp [eD]; omega
     rw [hw,Bool.false_and,if_neg (by simp)] at hr
     subst hr
     refine gx (an (an (an (an (an (an nE @intD.eq_1) @sI.eq_1) g1) e1) g2) g3) ?_
     refine aB [] rfl ?_
     simp [cv,cv1,cv0,upd,intD]
   ·have g2:decide ((s.size:Int) < 1)=true:=decide_eq_true (by omega)
    have hw:eD s=false:=by simp [eD]; omega
    rw [hw,Bool.false_and,if_neg (by simp)] at hr
    subst hr
    refine gx (an (an (an (an (an nE @intD.eq_1) @sI.eq_1) g1) e1) g2) ?_
    refine aB [] rfl ?_
    simp [cv,cv1,cv0,upd,intD]
  ·have g1:decide ((i:Int) < (l.length:Int))=false:=decide_eq_false (by omega)
   rw [List.drop_eq_nil_of_le (by omega)] at hr
   simp only [List.all_nil,if_true] at hr
   subst hr
   refine gx (an (an nE @intD.eq_1) g1) ?_
   refine aB [] rfl ?_
   simp [cv,cv1,cv0,upd,intD]
theorem NG {l:List az} {d:ByteArray} {i:Nat} (h:i < l.length):jv (l.take (i+1)) d=jv (l.take i) d+if l[i].d=d then l[i].n else 0:=by
 unfold jv
 rw [List.take_succ_eq_append_getElem h,List.map_append,List.sum_append]; simp
def ovr (n:Nat):Nat:=if 18446744073709551616<=n then 1 else 0
theorem Yd (a b:ByteArray):(a == b)=decide (a=b):=by
 obtain ⟨a⟩:=a
 obtain ⟨b⟩:=b
 show (a == b)=_
 by_cases h:a=b
 ·subst h; simp
 ·rw [decide_eq_false (fun e=>h (by injection e))]; exact beq_eq_false_iff_ne.2 h
theorem Za:bits .or .u64 0 0=0:=by decide
theorem Y_:bits .or .u64 0 1=1:=by decide
theorem YZ:bits .or .u64 1 0=1:=by decide
theorem YY:bits .or .u64 1 1=1:=by decide
theorem wB (l:List az) (d:ByteArray) (hl:l.length<=1048576) (hn:∀ p∈l,p.n < 18446744073709551616) :
  PureD Tryz.prog 11 [.i (jB l),sD d] (.tup [wD (if 18446744073709551616<=jv l d then 0 else jv l d),boolD (decide (18446744073709551616<=jv l d))]):=by
 refine aa 35 Tryz.func11 rfl rfl rfl (fun _ _=>rfl) ?_
 refine gx (an (an lF @jB.eq_1) @sD.eq_1) ?_
 refine cz (ι:=Nat) (fun i=>i<=l.length)
  (fun i=>dW [(1,sD d),(6,wD (jv (l.take i) d % 18446744073709551616)),(7,wD (ovr (jv (l.take i) d))),(11,.i (.sl (l.map aV))),(12,intD l.length),(13,intD i)] []) (fun i=>l.length - i) 0 (Nat.zero_le _) ?_ ?_
 ·refine le_stOf _ _ [] [] ?_ ?_ rfl rfl
  ·simp [cv,cvL,cv1,cv0,upd,lk,aZ,intD,sI,wD,jv,ovr,sD]
  ·simp
 ·rintro i hi
  rw [au]
  by_cases h:i < l.length
  ·have g1:decide ((i:Int) < (l.length:Int))=true:=decide_eq_true (by omega)
   have e1:(l.map aV)[i]?=some (aV l[i]):=by rw [List.getElem?_map,List.getElem?_eq_getElem h]; rfl
   have w1:IntKind.i64.wrap ((i:Int)+1)=((i+1:Nat):Int):=by rw [ay (by omega) (by omega)]; omega
   have hs:=NG (d:=d) h
   have hpn:=hn l[i] (List.getElem_mem h)
   generalize l[i]=p at *
   generalize hS':jv (l.take (i+1)) d=S' at *
   generalize hS:jv (l.take i) d=S at *
   simp only [aV] at e1
   by_cases hd:p.d=d
   ·have g2:(p.d == d)=true:=by rw [Yd]; exact decide_eq_true hd
    rw [if_pos hd] at hs
    have a1:S % 18446744073709551616 < 18446744073709551616:=Nat.mod_lt _ (by decide)
    have hadd:=Dv (S % 18446744073709551616) p.n 0 a1 hpn (by decide)
    have hm:(S % 18446744073709551616+p.n+0) % 18446744073709551616=S' % 18446744073709551616:=by omega
    rw [hm] at hadd
    have hor:(∃ c:Nat,(S % 18446744073709551616+p.n+0) / 18446744073709551616=c/\((ovr S=0/\c=0/\ovr S'=0)\/(ovr S=0/\c=1/\ovr S'=1)\/(ovr S=1/\c=0/\ovr S'=1)\/(ovr S=1/\c=1/\ovr S'=1))):=by
     refine ⟨_,rfl,?_⟩
     have:(S % 18446744073709551616+p.n+0) / 18446744073709551616=0\/(S % 18446744073709551616+p.n+0) / 18446744073709551616=1:=by omega
     unfold ovr
     rcases this with e | e <;> rw [e] <;> by_cases k1:18446744073709551616<=S <;> by_cases k2:18446744073709551616<=S' <;> first | (simp [k1,k2]; done) | (exfalso; omega)
    obtain ⟨c,hc,hor⟩:=hor
    rw [hc] at hadd
    generalize S % 18446744073709551616=A at *
    generalize hB:S' % 18446744073709551616=B at *
    have fin:∀ x y:Nat,ovr S=x->c=y->((x=0/\y=0/\ovr S'=0)\/(x=0/\y=1/\ovr S'=1)\/(x=1/\y=0/\ovr S'=1)\/(x=1/\y=1/\ovr S'=1)):=by
     intro x y hx hy; rw [<- hx,<- hy]; exact hor
    generalize ovr S=x at *
    generalize hO:ovr S'=z at *
    rcases hor with ⟨rfl,rfl,rfl⟩ | ⟨rfl,rfl,rfl⟩ | ⟨rfl,rfl,rfl⟩ | ⟨rfl,rfl,rfl⟩ <;>
    ·refine gx (an (an (an (an (an (an (an (an lF @intD.eq_1) @sD.eq_1) @wD.eq_1) g1) e1) g2) @Int.natCast_zero) @Int.natCast_one) ?_
     refine je hadd ?_
     refine gx (an (an (an (an (an (an lF @intD.eq_1) @sD.eq_1) @wD.eq_1) w1) @Int.natCast_zero) @Int.natCast_one) ?_
     refine ⟨i+1,h,le_stOf _ _ [] [] ?_ ?_ rfl rfl,by simp; omega⟩
     ·simp [cv,cvL,cv1,cv0,upd,lk,aZ,intD,sI,wD,sD,hS',hB,hO,Za,Y_,YZ,YY]
     ·simp
   ·have g2:(p.d == d)=false:=by rw [Yd]; exact decide_eq_false hd
    rw [if_neg hd] at hs
    obtain rfl:S'=S:=hs
    refine gx (an (an (an (an (an (an (an lF @intD.eq_1) @sD.eq_1) @wD.eq_1) g1) e1) g2) w1) ?_
    refine ⟨i+1,h,le_stOf _ _ [] [] ?_ ?_ rfl rfl,by simp; omega⟩
    ·simp [cv,cvL,cv1,cv0,upd,lk,aZ,intD,sI,wD,sD,hS']
    ·simp
  ·have g1:decide ((i:Int) < (l.length:Int))=false:=decide_eq_false (by omega)
   have ht:l.take i=l:=List.take_of_length_le (by omega)
   rw [ht]
   generalize jv l d=S
   by_cases hS:18446744073709551616<=S
   ·have hov:ovr S=1:=by simp [ovr,hS]
    rw [hov,if_pos hS,decide_eq_true hS]
    refine gx (an (an (an (an (an lF @intD.eq_1) @wD.eq_1) g1) @Int.natCast_one) @Int.natCast_zero) ?_
    refine bQ [] rfl ?_
    simp [cv,cvT,cv1,cv0,upd,intD,boolD,wD]
   ·have hov:ovr S=0:=by simp [ovr,hS]
    have hm:S % 18446744073709551616=S:=Nat.mod_eq_of_lt (by omega)
    rw [hov,if_neg hS,decide_eq_false hS,hm]
    refine gx (an (an (an (an lF @intD.eq_1) @wD.eq_1) g1) @Int.natCast_zero) ?_
    refine bQ [] rfl ?_
    simp [cv,cvT,cv1,cv0,upd,intD,boolD,wD]
theorem Hw (l:List az):uni 3 (l.map aV)=true:=by simp [uni,aV]
theorem uk (l:List az) (hl:l.length<=1048576):aN Tryz.prog 65 [.i (jB l)] noH (.os 1 3 0 l.length) (hOf noH [(1,.arr 3 (l.map aV))]):=by
 cases l with
 | nil =>
  refine iU (fE Tryz.func65 rfl rfl) fun K vs hrd=>?_
  obtain ⟨hs,hg⟩:=hrd
  obtain ⟨a,c,hv⟩:∃ a c,vs.getD 0 undef=.slice a 0 c:=by
   have:=hg 0 _ rfl
   generalize vs.getD 0 undef=v at this
   cases this with
   | i hx =>
    cases hx with
    | e a c=>exact ⟨a,c,rfl⟩
    | sl b off cap sz es f h1 h2=>exact ⟨_,_,rfl⟩
  refine ⟨[.i (.s (.slice a 0 c))],?_,hs,fun j d hd=>?_⟩
  ·have hun:=Zq
   refine aa 8 Tryz.func65 rfl rfl rfl (fun _ _=>rfl) ?_
   cases a with
   | none =>
    (repeat (first | (simp -implicitDefEqProofs only [ev,mixed,Nat.reduceLT,Nat.reduceAdd,Nat.reduceMul,reduceIte,Nat.reduceEqDiff,reduceCtorEq,Nat.reducePow,Nat.reduceLeDiff,Int.reduceLE,Int.reduceLT,Int.reduceToNat,Int.reduceEq,Nat.reduceBEq,ek,gdA,af,ic,kQ,ixQ,ldH,aC,ak,bG,faQ,exQ,lQ,dR,bS,slQ,stH,lW,lY,aO,bi,ae,D.one,jY,dM,eB,cvH,v_,dH hun,Option.isNone_none]) | (with_reducible refine ⟨?_,?_⟩; (· first | (obtain ⟨rfl⟩:=‹Hq _ _›; with_reducible refine chk_ok ?_; kernel_rfl) | kernel_rfl)) | (with_reducible intro ops hops)))
    refine cK [(1,.arr 3 [])] [] [] rfl ?_ ?_ rfl ?_ rfl
    ·simp [cv,cv1,cv0,upd,ib,hF,lk,noH]
    ·simp [cO,ib,lk,cvO,frz,upd,hF,noH]
    ·simp [noH]
   | some a =>
    (repeat (first | (simp -implicitDefEqProofs only [ev,mixed,Nat.reduceLT,Nat.reduceAdd,Nat.reduceMul,reduceIte,Nat.reduceEqDiff,reduceCtorEq,Nat.reducePow,Nat.reduceLeDiff,Int.reduceLE,Int.reduceLT,Int.reduceToNat,Int.reduceEq,Nat.reduceBEq,ek,gdA,af,ic,kQ,ixQ,ldH,aC,ak,bG,faQ,exQ,lQ,dR,bS,slQ,stH,lW,lY,aO,bi,ae,D.one,jY,dM,eB,cvH,v_,dH hun,Option.isNone_some]) | (with_reducible refine ⟨?_,?_⟩; (· first | (obtain ⟨rfl⟩:=‹Hq _ _›; with_reducible refine chk_ok ?_; kernel_rfl) | kernel_rfl)) | (with_reducible intro ops hops)))
    refine cK [(1,.arr 3 [])] [] [(1,1770)] rfl ?_ ?_ rfl ?_ rfl
    ·simp [cv,cv1,cv0,upd,ib,hF,lk,noH]
    ·simp [cO,ib,lk,cvO,frz,upd,hF,noH]
    ·simp [noH]
  ·cases j with
   | zero=>simp at hd; subst hd; rw [hv]; exact .i (.s _ rfl)
   | succ j=>simp at hd
 | cons p t =>
  have hu:=Hw t
  have e3:t.length+1<=140737488355328:=by simp at hl; omega
  have e4:(t.length+1) * 40<=140737488355328:=by simp at hl; omega
  have e5:(aV p).length=3:=rfl
  refine aa 8 Tryz.func65 rfl rfl rfl (fun _ _=>rfl) ?_
  refine gx (an (an (an (an (an (an (an (an v_ @jB.eq_1) hu) e3) e4) e5) @List.map_cons.{0,0}) @List.length_cons.{0}) @List.length_map.{0,0}) ?_
  refine cK [(1,.arr 3 ((p :: t).map aV))] [] [(1,1770)] rfl ?_ ?_ rfl ?_ rfl
  ·simp [cv,cv1,cv0,upd,ib,hF,lk,noH]
  ·simp [cO,ib,lk,cvO,frz,upd,hF,noH]
  ·simp [noH]
theorem qE:(type_of% @Ty.T3)/\(type_of% @Ty.T4)/\(type_of% @Ty.T9)/\(type_of% @Ty.T28)/\(type_of% @Ty.T56)/\(type_of% @Ty.T90):=⟨@Ty.T3,@Ty.T4,@Ty.T9,@Ty.T28,@Ty.T56,@Ty.T90⟩
theorem Bv {G:Nat->Ob} {o o2 off off2 len len2 cap:Nat} {es es2:List (List I)} (ho:G o=.arr 3 es) (ho2:G o2=.arr 3 es2) (hne:o≠o2) (h1:0 < len) (h2:0 < len2) :
  Qj Tryz.prog 257 [.os o2 3 off2 len2,.oc o 3 off len cap] G (boolD false) G:=by
 intro K0 T K vs hr hrd
 obtain ⟨hs,hg⟩:=hrd
 have e:vs=#[vs.getD 0 undef,vs.getD 1 undef]:=by
  apply Array.ext
  ·simpa using hs
  ·intro i h1 h2
   simp at hs
   have:i=0\/i=1:=by omega
   rcases this with rfl | rfl <;> simp [Array.getD,hs]
 have hrun:=kN (P:=Tryz.prog) (t:=28) (tR:=4) (s:=3) Tryz.underlying28 (dV (by kernel_rfl)) hr (hg 0 _ rfl) (hg 1 _ rfl) ho ho2 hne h1 h2
 rw [e]
 refine ⟨.bool false,K,?_,Ext.refl K,hr,.i (.s _ rfl)⟩
 rw [run_callFunc_extern Tryz.func257 (by kernel_rfl) (by kernel_rfl) (by kernel_rfl) (e:=Extern.SlicesOverlaps.overlaps #[28,28] #[4]) (by kernel_rfl),hrun]
 rfl
theorem JQ (es:List (List I)) (p:List I) (i:Nat) (hi:i<=es.length) (hl:es.length<=1048576) (hu:∀ e∈es,e.length=3) (hp:p.length=3) :
  aN Tryz.prog 234 [.os 0 3 0 es.length,intD i,.os 2 3 0 1] (hF [(0,.arr 3 es),(2,.arr 3 [p])]) (.os 1 3 0 (es.length+1))
   (hOf (hF [(0,.arr 3 es),(2,.arr 3 [p])]) [(1,.arr 3 (es.take i++p :: es.drop i))]):=by
 have hu2:=uN hu
 by_cases hin:i=es.length
 ·subst hin
  have e3:es.length+1<=140737488355328:=by omega
  have e4:(es.length+1) * 40<=140737488355328:=by omega
  refine aa 95 Tryz.func234 rfl rfl rfl (fun o ho=>by simp [hF,lk,show o≠0 by omega,show o≠1 by omega,show o≠2 by omega,show o≠3 by omega,show o≠4 by omega,show o≠5 by omega]) ?_
  refine gx (an (an (an (an (an (an (an qE @intD.eq_1) e3) e4) @hp) hu2) @Int.le_refl) @Nat.sub_self) ?_
  refine cK [(1,.arr 3 (es++[p]))] [] [(1,2794)] rfl ?_ ?_ rfl ?_ rfl
  ·simp [cv,cv1,cv0,upd,ib,hF,lk]
  ·simp [cO,ib,lk,cvO,frz,upd,hF]
  ·simp [hF,lk]
 ·have hlt:i < es.length:=by omega
  refine sH (by omega) fun c hc=>?_
  have g1:decide ((i:Int)=(es.length:Int))=false:=decide_eq_false (by omega)
  have w1:IntKind.i64.wrap ((es.length:Int)+1)=((es.length+1:Nat):Int):=by rw [ay (by omega) (by omega)]; omega
  have w2:IntKind.i64.wrap ((i:Int)+1)=((i+1:Nat):Int):=by rw [ay (by omega) (by omega)]; omega
  have l1:(i<=es.length)=True:=eq_true (by omega)
  have l2:(es.length<=c)=True:=eq_true (by omega)
  have l3:(i<=es.length+1)=True:=eq_true (by omega)
  have l6:(i<=c)=True:=eq_true (by omega)
  have l4:(i+1<=es.length+1)=True:=eq_true (by omega)
  have m2:i+(es.length - i)=es.length:=by omega
  have m4:min 1 (es.length+1 - i)=1:=by omega
  have l7:(es.length - i<=es.length+1 - i)=True:=eq_true (by omega)
  have l8:(i+1<=es.length)=True:=eq_true (by omega)
  have tk:(es.drop i).take (es.length - i)=es.drop i:=List.take_of_length_le (by simp)
  have hu3:uni 3 (es.drop i)=true:=uN fun e he=>hu e (List.mem_of_mem_drop he)
  by_cases hroom:es.length+1<=c
  ·have g2:decide ((c:Int) < ((es.length+1:Nat):Int))=false:=decide_eq_false (by omega)
   have l5:(es.length+1<=c)=True:=eq_true (by omega)
   have m1:min (es.length+1 - i) (es.length+1 - (i+1))=es.length - i:=by omega
   have l9:(i<=(over es (i+1) (es.drop i)).length)=True:=eq_true (by unfold over; simp; omega)
   have hos:=tu (p:=p) hlt
   refine aa 95 Tryz.func234 rfl rfl rfl (fun o ho=>by simp [hF,lk,show o≠0 by omega,show o≠1 by omega,show o≠2 by omega,show o≠3 by omega,show o≠4 by omega,show o≠5 by omega]) ?_
   (repeat (first | (simp -implicitDefEqProofs only [ev,mixed,Nat.reduceLT,Nat.reduceAdd,Nat.reduceMul,reduceIte,Nat.reduceEqDiff,reduceCtorEq,Nat.reducePow,Nat.reduceLeDiff,Int.reduceLE,Int.reduceLT,Int.reduceToNat,Int.reduceEq,Nat.reduceBEq,ek,gdA,af,ic,kQ,ixQ,ldH,aC,ak,bG,faQ,exQ,lQ,dR,bS,slQ,stH,lW,lY,aO,bi,ae,D.one,jY,dM,eB,cvH,qE,intD,slX,Fh,zR,g1,g2,w1,w2,l1,l2,l3,l4,l5,true_or,Nat.sub_zero,Nat.zero_le,l6,hp,hu2]) | (with_reducible refine ⟨?_,?_⟩; (· first | (obtain ⟨rfl⟩:=‹Hq _ _›; with_reducible refine chk_ok ?_; kernel_rfl) | kernel_rfl)) | (with_reducible intro ops hops)))
   refine ⟨_,_,.inr (Bv (len:=es.length+1 - (i+1)) (len2:=1) (by simp [hF,lk]; rfl) (by simp [hF,lk]; rfl) (by decide) (by omega) (by omega)),?_⟩
   (repeat (first | (simp -implicitDefEqProofs only [ev,mixed,Nat.reduceLT,Nat.reduceAdd,Nat.reduceMul,reduceIte,Nat.reduceEqDiff,reduceCtorEq,Nat.reducePow,Nat.reduceLeDiff,Int.reduceLE,Int.reduceLT,Int.reduceToNat,Int.reduceEq,Nat.reduceBEq,ek,gdA,af,ic,kQ,ixQ,ldH,aC,ak,bG,faQ,exQ,lQ,dR,bS,slQ,stH,lW,lY,aO,bi,ae,D.one,jY,dM,eB,cvH,qE,boolD,intD,slX,Fh,zR,cpX,AO,AL,qL,w1,w2,l1,l2,l3,l4,l5,true_or,Nat.sub_zero,Nat.zero_le,l6,hp,hu2,m1,m2,m4,l7,l8,l9,tk,hu3]) | (with_reducible refine ⟨?_,?_⟩; (· first | (obtain ⟨rfl⟩:=‹Hq _ _›; with_reducible refine chk_ok ?_; kernel_rfl) | kernel_rfl)) | (with_reducible intro ops hops)))
   have hos2:(over (over es (i+1) (es.drop i)) i [p]).take (es.length+1)=es.take i++p :: es.drop i:=by rw [hos]; exact List.take_of_length_le (by simp; omega)
   rw [<- hos2]
   exact Ac (o:=0) (cap:=c) rfl (by simp [upd]) (by simp [upd,hF,lk]) (by simp [upd,hF,lk]) (by simp [hF,lk]) (by simp [hF,lk])
  ·have g2:decide ((c:Int) < ((es.length+1:Nat):Int))=true:=decide_eq_true (by omega)
   have l5:(c < es.length+1)=True:=eq_true (by omega)
   have s1:i+(es.length+1 - i)=es.length+1:=by omega
   have e3:es.length+1<=140737488355328:=by omega
   have e4:(es.length+1) * 40<=140737488355328:=by omega
   have m1:min (es.length - i) (es.length+1 - (i+1))=es.length - i:=by omega
   have L1:((i:Int)<=((es.length+1:Nat):Int))=True:=eq_true (by omega)
   have L2:(((i+1:Nat):Int)<=((es.length+1:Nat):Int))=True:=eq_true (by omega)
   have hti:(es.take i).length=i:=by simp; omega
   have l9:(i+1<=(over (es.take i++List.replicate (es.length+1 - i) [I.s (.string ⟨#[]⟩),I.s (.string ⟨#[]⟩),I.s (.int .u64 0)]) i [p]).length)=True:=eq_true (by rw [wR (by simp; omega)]; simp; omega)
   have hos:=xJ (es:=es) (R:=List.replicate (es.length+1 - i) [I.s (.string ⟨#[]⟩),I.s (.string ⟨#[]⟩),I.s (.int .u64 0)]) (p:=p) hlt (by simp)
   have w3:IntKind.i64.wrap (((es.length+1:Nat):Int) - (i:Int))=((es.length+1 - i:Nat):Int):=by rw [ay (by omega) (by omega)]; omega
   refine aa 95 Tryz.func234 rfl rfl rfl (fun o ho=>by simp [hF,lk,show o≠0 by omega,show o≠1 by omega,show o≠2 by omega,show o≠3 by omega,show o≠4 by omega,show o≠5 by omega]) ?_
   (repeat (first | (simp -implicitDefEqProofs only [ev,mixed,Nat.reduceLT,Nat.reduceAdd,Nat.reduceMul,reduceIte,Nat.reduceEqDiff,reduceCtorEq,Nat.reducePow,Nat.reduceLeDiff,Int.reduceLE,Int.reduceLT,Int.reduceToNat,Int.reduceEq,Nat.reduceBEq,ek,gdA,af,ic,kQ,ixQ,ldH,aC,ak,bG,faQ,exQ,lQ,dR,bS,slQ,stH,lW,lY,aO,bi,ae,D.one,jY,dM,eB,cvH,qE,intD,slX,Fh,zR,apX,cpX,AO,AL,qL,g1,g2,w1,w2,w3,l1,l2,l3,l4,l5,true_or,Nat.sub_zero,Nat.zero_le,l6,hp,hu2,s1,e3,e4,L1,L2,m4,m1,m2,hti,l7,l8,l9,tk,hu3]) | (with_reducible refine ⟨?_,?_⟩; (· first | (obtain ⟨rfl⟩:=‹Hq _ _›; with_reducible refine chk_ok ?_; kernel_rfl) | kernel_rfl)) | (with_reducible intro ops hops)))
   refine cK [(1,.arr 3 (es.take i++p :: es.drop i))] [] [(1,3312)] rfl ?_ ?_ rfl ?_ rfl
   ·simp [cv,cv1,cv0,upd,ib,hF,lk]
   ·simp [cO,ib,lk,cvO,frz,upd,hF,hos]
   ·simp [hF,lk]
theorem NA:(type_of% @Ty.T3)/\(type_of% @Ty.T9)/\(type_of% @Ty.T28)/\(type_of% @Ty.T56)/\(type_of% @Ty.T90):=⟨@Ty.T3,@Ty.T9,@Ty.T28,@Ty.T56,@Ty.T90⟩
theorem KM (es:List (List I)) (i:Nat) (hi:i < es.length) (hl:es.length<=1048576) (hu:∀ e∈es,e.length=3) :
  aN Tryz.prog 232 [.os 0 3 0 es.length,intD i,intD (i+1:Nat)] (hF [(0,.arr 3 es)]) (.os 1 3 0 (es.length - 1))
   (hOf (hF [(0,.arr 3 es)]) [(1,.arr 3 (es.take i++es.drop (i+1)))]):=by
 have hu2:=uN hu
 have hu3:uni 3 (es.drop (i+1))=true:=uN fun e he=>hu e (List.mem_of_mem_drop he)
 refine sH (by omega) fun c hc=>?_
 have g1:decide ((i:Int)=((i+1:Nat):Int))=false:=decide_eq_false (by omega)
 have l1:(i<=i+1)=True:=eq_true (by omega)
 have l2:(i+1<=es.length)=True:=eq_true (by omega)
 have l3:(es.length<=c)=True:=eq_true (by omega)
 have l4:(i<=c)=True:=eq_true (by omega)
 have l5:(i<=es.length)=True:=eq_true (by omega)
 have l6:(es.length - 1<=es.length)=True:=eq_true (by omega)
 have l7:(es.length - 1<=c)=True:=eq_true (by omega)
 have m1:i+(es.length - (i+1))=es.length - 1:=by omega
 have m2:i+1+(es.length - (i+1))=es.length:=by omega
 have tk:(es.drop (i+1)).take (es.length - (i+1))=es.drop (i+1):=List.take_of_length_le (by simp)
 have l8:(es.length - 1<=(over es i (es.drop (i+1))).length)=True:=eq_true (by unfold over; simp; omega)
 refine aa 33 Tryz.func232 rfl rfl rfl (fun o ho=>by simp [hF,lk,show o≠0 by omega,show o≠1 by omega,show o≠2 by omega,show o≠3 by omega,show o≠4 by omega,show o≠5 by omega]) ?_
 (repeat (first | (simp -implicitDefEqProofs only [ev,mixed,Nat.reduceLT,Nat.reduceAdd,Nat.reduceMul,reduceIte,Nat.reduceEqDiff,reduceCtorEq,Nat.reducePow,Nat.reduceLeDiff,Int.reduceLE,Int.reduceLT,Int.reduceToNat,Int.reduceEq,Nat.reduceBEq,ek,gdA,af,ic,kQ,ixQ,ldH,aC,ak,bG,faQ,exQ,lQ,dR,bS,slQ,stH,lW,lY,aO,bi,ae,D.one,jY,dM,eB,cvH,NA,intD,slX,Fh,zR,apX,clX,cpX,AO,AL,qL,g1,l1,l2,l3,l4,l5,l6,l7,l8,m1,m2,tk,hu2,hu3,or_true,true_or,Nat.sub_zero,Nat.zero_le]) | (with_reducible refine ⟨?_,?_⟩; (· first | (obtain ⟨rfl⟩:=‹Hq _ _›; with_reducible refine chk_ok ?_; kernel_rfl) | kernel_rfl)) | (with_reducible intro ops hops)))
 have hos:=EX (R:=List.replicate (es.length - (es.length - 1)) [I.s (.string ⟨#[]⟩),I.s (.string ⟨#[]⟩),I.s (.int .u64 0)]) hi
 rw [<- hos]
 exact Ac (o:=0) (cap:=c) rfl (by simp [upd]) (by simp [upd,hF,lk]) (by simp [upd,hF,lk]) (by simp [hF,lk]) (by simp [hF,lk])
theorem Hg (o d:ByteArray):[o,d].all eD=(eD o && eD d):=by simp
theorem es3 (l:List az):∀ e∈l.map aV,e.length=3:=by
 intro e he; simp only [List.mem_map] at he; obtain ⟨q,_,rfl⟩:=he; rfl
attribute [local simp,local go_sem] jB sD wD
theorem QZ (l:List az) (h:bB l) (o d:ByteArray) (n:Nat) (hn:n < 18446744073709551616) :
  PureD Tryz.prog 195 [.i (jB l),sD o,sD d,wD n] (.tup [.i (jB (mf l o d n).1),intD (mf l o d n).2]):=by
 refine aj fun R hR=>?_
 have c1:=Hf [o,d] (by simp)
 rw [Hg] at c1
 have hlen:=h.len
 have c2:=Qd l o d (by omega) h.srt
 have e1:=uk l (by omega)
 have c3:=Bt l o d (by omega) h.srt
 have hlt:=Ml h o d
 have hga:=ru h o d
 simp only [List.map_cons,List.map_nil,sI] at c1
 unfold mf at hR
 generalize (eD o && eD d)=B at *
 cases B
 ·simp only [Bool.not_false,if_true,Bool.false_eq_true,if_false] at hR c1
  clear c2 c3 e1 h hga hlt
  refine aa 58 Tryz.func195 rfl rfl rfl (fun _ _=>rfl) ?_
  exact wkl trivial
 ·simp only [Bool.not_true,Bool.false_eq_true,if_false,if_true] at hR c1
  by_cases ha:amtP l o d < n
  ·rw [if_pos ha] at hR
   have g1:((amtP l o d:Nat):Int) < (n:Int):=by omega
   generalize amtP l o d=A at *
   clear c3 e1 h hga hlt ha
   refine aa 58 Tryz.func195 rfl rfl rfl (fun _ _=>rfl) ?_
   exact wkl trivial
  ·rw [if_neg ha] at hR
   simp only at hR
   have g1:¬ ((amtP l o d:Nat):Int) < (n:Int):=by omega
   generalize hA:amtP l o d=A at *
   cases hg:Ct l o d with
   | none =>
    rw [hg] at c3 hga
    have hA0:A=0:=by
     apply Decidable.byContradiction; intro hc
     rw [if_neg hc] at hga; cases hga
    have hres:kr l o d (A - n)=l:=by
     unfold kr wN
     rw [if_pos (by omega),KL.put_none cmpP_ok h.srt hg]
    rw [hres] at hR
    generalize bL l o d=j at *
    simp only [Option.isSome_none] at c3
    clear h hga hg hlt ha hA hres hA0
    refine aa 58 Tryz.func195 rfl rfl rfl (fun _ _=>rfl) ?_
    exact wkl trivial
   | some v =>
    rw [hg] at c3 hga
    have hA0:A≠0:=by intro hc; rw [if_pos hc] at hga; cases hga
    rw [if_neg hA0] at hga
    injection hga with hga
    subst hga
    obtain ⟨hp,hv⟩:=KL.place_lt cmpP_ok h.srt hg
    have hp':bL l o d < l.length:=hp
    have s1:(l.map aV)[bL l o d]?=some (aV ⟨o,d,A⟩):=by rw [List.getElem?_map,List.getElem?_eq_getElem hp,hv]; rfl
    have w1:IntKind.u64.wrap ((A:Int) - (n:Int))=((A - n:Nat):Int):=by rw [IntKind.wrap_u64]; omega
    simp only [aV] at s1
    have s2:((l.map aV).set (bL l o d) [.s (.string o),.s (.string d),.s (.int .u64 ((A - n:Nat):Int))])[bL l o d]?=some [.s (.string o),.s (.string d),.s (.int .u64 ((A - n:Nat):Int))]:=by
     rw [List.getElem?_set]; simp [hp']
    simp only [Option.isSome_some] at c3
    by_cases h0:A - n=0
    ·have hz:((A - n:Nat):Int)=0:=by omega
     rw [hz] at w1 s2
     have e2:=KM ((l.map aV).set (bL l o d) [.s (.string o),.s (.string d),.s (.int .u64 0)]) (bL l o d) (by simpa using hp) (by simp; omega) (by
      intro e he
      rcases List.mem_or_eq_of_mem_set he with he | rfl
      ·exact es3 l e he
      ·rfl)
     have hres:kr l o d (A - n)=l.take (bL l o d)++l.drop (bL l o d+1):=by
      unfold kr wN
      rw [if_pos h0,KL.put_del cmpP_ok h.srt hg]
     have he2:((l.map aV).set (bL l o d) [.s (.string o),.s (.string d),.s (.int .u64 0)]).take (bL l o d)++((l.map aV).set (bL l o d) [.s (.string o),.s (.string d),.s (.int .u64 0)]).drop (bL l o d+1)=(kr l o d (A - n)).map aV:=by
      rw [hres,List.take_set_of_le (Nat.le_refl _),List.drop_set_of_lt (by omega),<- List.map_take,<- List.map_drop,List.map_append]
     have hln:l.length - 1=(kr l o d (A - n)).length:=by rw [hres]; simp; omega
     rw [he2] at e2
     simp only [List.length_set,List.length_map,intD,Int.natCast_add,Int.natCast_one] at e2
     rw [hln] at e2
     generalize kr l o d (A - n)=R2 at *
     generalize bL l o d=j at *
     clear h hg hv hp hlt ha hA h0 hres he2 hA0 hln hz
     refine aa 58 Tryz.func195 rfl rfl rfl (fun _ _=>rfl) ?_
     exact wkl trivial
    ·have hres:(l.map aV).set (bL l o d) [.s (.string o),.s (.string d),.s (.int .u64 ((A - n:Nat):Int))]=(kr l o d (A - n)).map aV:=by
      unfold kr wN
      rw [if_neg h0,KL.put_hit cmpP_ok h.srt hg,List.set_eq_take_append_cons_drop,if_pos (by simpa using hp')]
      simp [aV]
     have hln:l.length=(kr l o d (A - n)).length:=by
      have:=congrArg List.length hres
      simpa using this
     have g2:¬ (((A - n:Nat):Nat):Int)=0:=by omega
     rw [hres] at s2
     have tk:((kr l o d (A - n)).map aV).take l.length=(kr l o d (A - n)).map aV:=by rw [hln]; simp
     replace hln:=hln.symm
     generalize kr l o d (A - n)=R2 at *
     generalize bL l o d=j at *
     generalize A - n=B at *
     clear h hg hv hp hlt ha hA h0 hA0
     refine aa 58 Tryz.func195 rfl rfl rfl (fun _ _=>rfl) ?_
     exact wkl trivial
attribute [local simp,local go_sem] jB sD wD
theorem JF (l:List az) (h:bB l) (o d:ByteArray) (n:Nat) (hn:n < 18446744073709551616) :
  PureD Tryz.prog 198 [.i (jB l),sD o,sD d,wD n] (.tup [.i (jB (mO l o d n).1),intD (mO l o d n).2]):=by
 refine aj fun R hR=>?_
 have c1:=Hf [o,d] (by simp)
 rw [Hg] at c1
 have hlen:=h.len
 have e1:=uk l (by omega)
 have c2:=Bt l o d (by omega) h.srt
 have c3:=wB l d (by omega) (fun p hp=>(h.pos p hp).2)
 have hga:=ru h o d
 have has:=vE h o d
 simp only [List.map_cons,List.map_nil,sI] at c1
 unfold mO at hR
 generalize (eD o && eD d)=B at *
 cases B
 ·simp only [Bool.not_false,if_true,Bool.false_eq_true,if_false] at hR c1
  clear c2 c3 e1 h hga has
  refine aa 78 Tryz.func198 rfl rfl rfl (fun _ _=>rfl) ?_
  exact wkl trivial
 ·simp only [Bool.not_true,Bool.false_eq_true,if_false,if_true] at hR c1
  by_cases h0:n=0
  ·subst h0
   rw [if_pos rfl] at hR
   have tk:(l.map aV).take l.length=l.map aV:=by rw [List.take_of_length_le (by simp)]
   clear c2 c3 h hga has
   refine aa 78 Tryz.func198 rfl rfl rfl (fun _ _=>rfl) ?_
   exact wkl trivial
  ·rw [if_neg h0] at hR
   have g1:¬ ((n:Nat):Int)=0:=by omega
   generalize hS:jv l d=S at *
   by_cases hov:18446744073709551616<=S
   ·rw [if_pos hov,decide_eq_true hov] at c3
    rw [if_pos (by omega)] at hR
    have hadd:=Dv 0 n 0 (by decide) hn (by decide)
    generalize (0+n+0) % 18446744073709551616=x1 at hadd
    generalize (0+n+0) / 18446744073709551616=x2 at hadd
    clear c2 h hga has hov hn h0
    refine aa 78 Tryz.func198 rfl rfl rfl (fun _ _=>rfl) ?_
    refine wkl ?_
    clear hR; intro hR
    repeat' (intro _)
    refine je hadd ?_
    clear hadd
    exact wkl trivial
   ·rw [if_neg hov,decide_eq_false hov] at c3
    have hadd:=Dv S n 0 (by omega) hn (by decide)
    generalize (S+n+0) % 18446744073709551616=x1 at hadd
    generalize hx2:(S+n+0) / 18446744073709551616=x2 at hadd
    by_cases hsn:18446744073709551616<=S+n
    ·rw [if_pos hsn] at hR
     have g2:(0:Int) < ((x2:Nat):Int):=by omega
     clear c2 h hga has hov hn h0 hsn hx2
     refine aa 78 Tryz.func198 rfl rfl rfl (fun _ _=>rfl) ?_
     refine wkl ?_
     clear hR; intro hR
     repeat' (intro _)
     refine je hadd ?_
     clear hadd
     exact wkl trivial
    ·rw [if_neg hsn] at hR
     obtain rfl:x2=0:=by omega
     clear hx2
     generalize hA:amtP l o d=A at *
     cases hg:Ct l o d with
     | none =>
      rw [hg] at c2 hga
      have hA0:A=0:=by
       apply Decidable.byContradiction; intro hc
       rw [if_neg hc] at hga; cases hga
      subst hA0
      simp only [Option.isSome_none] at c2
      by_cases h60:l.length=60
      ·have g3:((l.length:Nat):Int)=60:=by omega
       rw [if_pos ⟨rfl,h60⟩] at hR
       generalize bL l o d=j at *
       clear h hga has hov hn h0 hsn h60 hg hA hS
       refine aa 78 Tryz.func198 rfl rfl rfl (fun _ _=>rfl) ?_
       refine wkl ?_
       clear hR; intro hR
       repeat' (intro _)
       refine je hadd ?_
       clear hadd
       exact wkl trivial
      ·have g3:¬ ((l.length:Nat):Int)=60:=by omega
       rw [if_neg (fun e=>h60 e.2)] at hR
       have hj:bL l o d<=l.length:=KL.place_le cmpP_ok l _
       have e2:=JQ (l.map aV) [.s (.string o),.s (.string d),.s (.int .u64 n)] (bL l o d) (by simpa using hj) (by simp; omega) (es3 l) rfl
       have hres:kr l o d (0+n)=l.take (bL l o d)++⟨o,d,n⟩ :: l.drop (bL l o d):=by
        unfold kr wN
        rw [if_neg (by omega),KL.put_miss cmpP_ok h.srt hg,Nat.zero_add]
       have he2:(l.map aV).take (bL l o d)++[.s (.string o),.s (.string d),.s (.int .u64 n)] :: (l.map aV).drop (bL l o d)=(kr l o d (0+n)).map aV:=by
        rw [hres,<- List.map_take,<- List.map_drop]; simp [aV]
       have hln:l.length+1=(kr l o d (0+n)).length:=by rw [hres]; simp; omega
       rw [he2] at e2
       simp only [List.length_map,intD] at e2
       rw [hln] at e2
       generalize kr l o d (0+n)=R2 at *
       generalize bL l o d=j at *
       clear h hga has hov hn h0 hsn h60 hg hA hS hln he2 hres hj
       refine aa 78 Tryz.func198 rfl rfl rfl (fun _ _=>rfl) ?_
       refine wkl ?_
       clear hR; intro hR
       repeat' (intro _)
       refine je hadd ?_
       clear hadd
       exact wkl trivial
     | some v =>
      rw [hg] at c2 hga
      have hA0:A≠0:=by intro hc; rw [if_pos hc] at hga; cases hga
      rw [if_neg hA0] at hga
      injection hga with hga
      subst hga
      rw [if_neg (fun e=>hA0 e.1)] at hR
      simp only [Option.isSome_some] at c2
      obtain ⟨hp,hv⟩:=KL.place_lt cmpP_ok h.srt hg
      have hp':bL l o d < l.length:=hp
      have s1:(l.map aV)[bL l o d]?=some (aV ⟨o,d,A⟩):=by rw [List.getElem?_map,List.getElem?_eq_getElem hp,hv]; rfl
      have w1:IntKind.u64.wrap ((A:Int)+(n:Int))=((A+n:Nat):Int):=by rw [IntKind.wrap_u64]; omega
      simp only [aV] at s1
      have hres:(l.map aV).set (bL l o d) [.s (.string o),.s (.string d),.s (.int .u64 ((A+n:Nat):Int))]=(kr l o d (A+n)).map aV:=by
       unfold kr wN
       rw [if_neg (by omega),KL.put_hit cmpP_ok h.srt hg,List.set_eq_take_append_cons_drop,if_pos (by simpa using hp')]
       simp [aV]
      have hln:l.length=(kr l o d (A+n)).length:=by
       have:=congrArg List.length hres
       simpa using this
      have tk:((kr l o d (A+n)).map aV).take l.length=(kr l o d (A+n)).map aV:=by rw [hln]; simp
      replace hln:=hln.symm
      generalize kr l o d (A+n)=R2 at *
      generalize bL l o d=j at *
      generalize A+n=B at *
      clear h has hov hn h0 hsn hg hA hA0 hS hp hv
      refine aa 78 Tryz.func198 rfl rfl rfl (fun _ _=>rfl) ?_
      refine wkl ?_
      clear hR; intro hR
      repeat' (intro _)
      refine je hadd ?_
      clear hadd
      exact wkl trivial
theorem EC (l:List az) (h:bB l) (o t d:ByteArray) (n:Nat) (hn:n < 18446744073709551616) :
  PureD Tryz.prog 136 [.i (jB l),sD o,sD t,sD d,wD n] (.tup [.i (jB (kv l o t d n).1),intD (kv l o t d n).2]):=by
 refine aj fun R hR=>?_
 have c1:=QZ l h o d n hn
 have c2:=JF (mf l o d n).1 (lV h o d n) t d n hn
 unfold kv at hR
 clear h
 generalize mf l o d n=R2 at *
 obtain ⟨m,e⟩:=R2
 simp only at *
 generalize mO m t d n=R3 at *
 by_cases he:e=0
 ·subst he
  rw [if_pos rfl] at hR
  refine aa 32 Tryz.func136 rfl rfl rfl (fun _ _=>rfl) ?_
  exact wkl trivial
 ·have g1:¬ ((e:Nat):Int)=0:=by omega
  rw [if_neg he] at hR
  refine aa 32 Tryz.func136 rfl rfl rfl (fun _ _=>rfl) ?_
  exact wkl trivial
def VJ:List az->List az->Bool
 | [],[]=>true
 | a :: x,b :: y=>(decide (a.o=b.o) && (decide (a.d=b.d) && decide (a.n=b.n))) && VJ x y
 | _,_=>false
structure gV where
 d:ByteArray
 n:Nat
 s:ByteArray
 r:ByteArray
def trD (t:gV):D:=.agg [.i (.s (.string t.d)),.i (.s (.int .u64 t.n)),.i (.s (.string t.s)),.i (.s (.string t.r))]
def ji (ch:Int):ByteArray:=⟨(Lib.itoa ch++[47]).toArray⟩
def ja (ch:Int):ByteArray:=⟨([35]++Lib.itoa ch).toArray⟩
def oZ (s p:ByteArray):Bool:=decide (p.size<=s.size) && (s.extract 0 p.size == p)
def QY (s p:ByteArray):ByteArray:=s.extract p.size s.size
def kR (l:List az) (ch:Int) (t:gV):List az × Nat:=if oZ t.d (ji ch)=true then mf l t.s t.d t.n else kv l t.s (ja ch) t.d t.n
def lu (l:List az) (ch:Int) (t:gV):List az × Nat:=if oZ t.d (ji ch)=true then mO l t.s t.d t.n else kv l (ja ch) t.s t.d t.n
def uI (l:List az) (ch other:Int) (t:gV):List az × Nat:=if oZ t.d (ji other)=true then kv l (ja ch) t.r (QY t.d (ji other)) t.n else mO l t.r (ji ch++t.d) t.n
theorem OZ (p d:ByteArray):oZ (p++d) p=true:=by
 have h1:(p++d).size=p.size+d.size:=by simp
 have h2:(p++d).extract 0 p.size=p:=by
  apply ByteArray.ext
  rw [ByteArray.data_extract,ByteArray.data_append]
  show (p.data++d.data).extract 0 p.data.size=p.data
  simp
 rw [oZ,h1,h2,Yd]
 simp
theorem Cg {l:List az} (h:bB l) (ch:Int) (t:gV):bB (kR l ch t).1:=by
 unfold kR
 split
 ·exact lV h ..
 ·exact lN h ..
theorem GG {l:List az} (h:bB l) (ch:Int) (t:gV):bB (lu l ch t).1:=by
 unfold lu
 split
 ·exact oU h ..
 ·exact lN h ..
theorem Gu {l:List az} (h:bB l) (ch other:Int) (t:gV):bB (uI l ch other t).1:=by
 unfold uI
 split
 ·exact lN h ..
 ·exact oU h ..
theorem DZ:(type_of% @Ty.T3)/\(type_of% @Ty.T4)/\(type_of% @Ty.T5)/\(type_of% @Ty.T38)/\(type_of% @Ty.aak):=⟨@Ty.T3,@Ty.T4,@Ty.T5,@Ty.T38,@Ty.aak⟩
theorem fO:(type_of% @Ty.T3)/\(type_of% @Ty.T4)/\(type_of% @Ty.T5)/\(type_of% @Ty.T38)/\(type_of% @Ty.T56)/\(type_of% @Ty.aal)/\(type_of% @Ty.aak):=⟨@Ty.T3,@Ty.T4,@Ty.T5,@Ty.T38,@Ty.T56,@Ty.aal,@Ty.aak⟩
theorem bz:(type_of% @Ty.T1)/\(type_of% @Ty.T3)/\(type_of% @Ty.T4)/\(type_of% @Ty.T5)/\(type_of% @Ty.T38)/\(type_of% @Ty.T56)/\(type_of% @Ty.aax)/\(type_of% @Ty.aaw)/\(type_of% @Ty.aal)/\(type_of% @Ty.aak):=⟨@Ty.T1,@Ty.T3,@Ty.T4,@Ty.T5,@Ty.T38,@Ty.T56,@Ty.aax,@Ty.aaw,@Ty.aal,@Ty.aak⟩
def rdO (b:List UInt8) (bad:Bool):Ob:=.box [.i (.sl (b.map af)),.i (.s (.bool bad))]
def ul (c:UInt8):D:=.i (.s (.int .u8 (c.toNat:Int)))
theorem Ei (bad:Bool):aN Tryz.prog 226 [.pt 0 0 0 0] (hF [(0,rdO [] bad)]) (ul 0) (hOf (hF [(0,rdO [] bad)]) [(0,rdO [] true)]):=by
 refine aa 28 Tryz.func226 rfl rfl rfl (fun o ho=>by simp [hF,lk,show o≠0 by omega]) ?_
 refine gx (an DZ @rdO.eq_1) ?_
 refine cK _ [] [] rfl ?_ ?_ rfl ?_ rfl
 ·simp [cv,cv1,cv0,upd,ul]
 ·simp [cO,ib,lk,cvO,cvL,cv0,frz,upd,hF,D.one]
 ·simp
theorem oJ (c:UInt8) (b:List UInt8) (bad:Bool) (hb:b.length<=1048576):aN Tryz.prog 226 [.pt 0 0 0 0] (hF [(0,rdO (c :: b) bad)]) (ul c) (hOf (hF [(0,rdO (c :: b) bad)]) [(0,rdO b bad)]):=by
 refine aa 28 Tryz.func226 rfl rfl rfl (fun o ho=>by simp [hF,lk,show o≠0 by omega]) ?_
 have e1:(((b.length+1:Nat):Int)=0)=False:=by simp; omega
 refine gx (an (an DZ @rdO.eq_1) e1) ?_
 refine cK _ [] [] rfl ?_ ?_ rfl ?_ rfl
 ·simp [cv,cv1,cv0,upd,ul]
 ·simp [cO,ib,lk,cvO,cvL,cv0,frz,upd,hF,D.one]
 ·simp
theorem Gn {n i:Nat} (a:Nat) (h:n < 128 ^ i):n ||| (a * 128 ^ i)=n+a * 128 ^ i:=by
 have e:(128:Nat) ^ i=2 ^ (7 * i):=by rw [Nat.pow_mul]
 rw [e] at h ⊢
 rw [Nat.or_comm,Nat.mul_comm,<- Nat.two_pow_add_eq_or_of_lt h,Nat.add_comm]
theorem rn_facts (c:UInt8) (i a:Nat) (h2:a < 128 ^ i) (h3:i<=9) (h9:i=9->c.toNat<=1) :
  bits .and .u8 (c.toNat:Int) 127=((c.toNat % 128:Nat):Int)/\IntKind.u64.wrap ((c.toNat % 128:Nat):Int)=((c.toNat % 128:Nat):Int) /\
  IntKind.u64.wrap (((c.toNat % 128:Nat):Int) * 2 ^ (min (7 * i) (IntKind.bits .u64)))=((c.toNat % 128 * 128 ^ i:Nat):Int) /\
  bits .or .u64 (a:Int) ((c.toNat % 128 * 128 ^ i:Nat):Int)=((a+c.toNat % 128 * 128 ^ i:Nat):Int):=by
 have hc:=c.toNat_lt
 have hlt:c.toNat % 128 * 128 ^ i < 18446744073709551616:=by
  by_cases e9:i=9
  ·have:c.toNat % 128<=1:=by have:=h9 e9; omega
   subst e9
   have:=Nat.mul_le_mul_right (128 ^ 9) this
   omega
  ·have:=Nat.mul_le_mul (show c.toNat % 128<=127 by omega) (Nat.pow_le_pow_right (show 1<=128 by decide) (show i<=8 by omega))
   omega
 refine ⟨?_,?_,?_,?_⟩
 ·have:=(bits_nat .u8 8 (by decide) wraps_u8 c.toNat 127 hc (by decide)).1
  rw [show ((127:Nat):Int)=127 from rfl] at this
  rw [this,show (127:Nat)=2 ^ 7 - 1 from rfl,Nat.and_two_pow_sub_one_eq_mod]
 ·rw [IntKind.wrap_u64]; omega
 ·rw [show min (7 * i) (IntKind.bits .u64)=7 * i by simp [IntKind.bits]; omega,Int.pow_mul]
  rw [IntKind.wrap_u64]
  have e:((c.toNat % 128:Nat):Int) * (2 ^ 7) ^ i=((c.toNat % 128 * 128 ^ i:Nat):Int):=by simp
  rw [e]; omega
 ·have ha:a < 2 ^ 64:=by
   have:=Nat.pow_le_pow_right (show 1<=128 by decide) h3
   have:(128:Nat) ^ 9=9223372036854775808:=by decide
   omega
  have:=(bits_nat .u64 64 (by decide) (fun n g0 g1=>by rw [IntKind.wrap_u64]; omega) a (c.toNat % 128 * 128 ^ i) ha hlt).2
  rw [this,Gn _ h2]
theorem kK (b r:List UInt8) (v:Nat) (hb:b.length<=1048576) (h:gX 0 0 b=some (v,r)):aN Tryz.prog 225 [.pt 0 0 0 0] (hF [(0,rdO b false)]) (.i (.s (.int .u64 v))) (hOf (hF [(0,rdO b false)]) [(0,rdO r false)]):=by
 refine aa 41 Tryz.func225 rfl rfl rfl (fun o ho=>by simp [hF,lk,show o≠0 by omega]) ?_
 refine gx (an fO @rdO.eq_1) ?_
 refine uy (ι:={ p:List UInt8 × Nat × Nat // gX p.2.1 p.2.2 p.1=some (v,r)/\p.2.2 < 128 ^ p.2.1/\p.2.1<=9/\p.1.length<=b.length })
  (fun p=>dW [(0,.pt 0 0 0 0),(3,.i (.s (.int .u64 (p.1.2.2:Nat)))),(4,.i (.s (.int .i64 ((7 * p.1.2.1:Nat):Int))))] [(0,rdO p.1.1 false)]) (fun p=>p.1.1.length) ⟨(b,0,0),h,by simp,by simp,by simp⟩ ?_ ?_
 ·refine le_stOf _ _ [] [] ?_ ?_ rfl rfl
  ·simp [cv,cv1,cv0,upd,lk,aZ]
  ·simp [cO,aZ,lk,cvO,cvL,cv0,frz,hF,rdO,D.one]
 ·rintro ⟨⟨s,i,a⟩,h1,h2,h3,h4⟩
  simp only at h1 h2 h3 h4
  rw [au]
  cases s with
  | nil=>simp [gX] at h1
  | cons c s =>
  refine gx (an fO @rdO.eq_1) ?_
  refine fe (oJ c s false (by simp at h4; omega)) rfl rfl ?_
  rw [gX] at h1
  split at h1
  ·cases h1
  ·rename_i hno
   have hc:=c.toNat_lt
   have c0:(c=0)↔c.toNat=0:=by rw [<- UInt8.toNat_inj]; rfl
   obtain ⟨w1,w2,w3,w4⟩:=rn_facts c i a h2 h3 (by rintro rfl; simp at hno; omega)
   cases g1:decide (0 < ((7 * i:Nat):Int)) <;> cases g2:decide ((c.toNat:Int)=0) <;> cases g3:decide (((7 * i:Nat):Int)=63) <;> cases g4:decide (1 < (c.toNat:Int)) <;>
    first
    | (exfalso; simp only [decide_eq_true_eq,decide_eq_false_iff_not] at g1 g2 g3 g4; rw [c0] at hno; omega)
    | skip
   all_goals refine gx (an (an (an (an (an (an (an (an (an (an fO @rdO.eq_1) @ul.eq_1) g1) g2) g3) g4) w1) w2) w3) w4) ?_
   all_goals
    refine Wc_split (fun h=>?_) (fun h=>?_)
    ·have h5:c.toNat < 128:=by simp at h; omega
     rw [if_pos h5] at h1
     simp only [Option.some.injEq,Prod.mk.injEq] at h1
     obtain ⟨rfl,rfl⟩:=h1
     refine gx fO ?_
     refine cK _ [] [] rfl ?_ ?_ rfl ?_ rfl
     ·simp [cv,cv1,cv0,upd,Nat.mod_eq_of_lt h5]
     ·simp [cO,ib,lk,cvO,cvL,cv0,frz,upd,hF,D.one]
     ·simp
    ·have h5:¬ c.toNat < 128:=by simp at h; omega
     rw [if_neg h5] at h1
     have h6:c.toNat % 128=c.toNat - 128:=by omega
     rw [<- h6] at h1
     have h9:i≠9:=by rintro rfl; simp at hno; omega
     have w5:IntKind.i64.wrap (((7 * i:Nat):Int)+7)=((7 * (i+1):Nat):Int):=by rw [ay (by omega) (by omega)]; omega
     refine gx (an fO w5) ?_
     refine ⟨⟨(s,i+1,a+c.toNat % 128 * 128 ^ i),h1,?_,by simp; omega,by simp at h4 ⊢; omega⟩,le_stOf _ _ [] [] ?_ ?_ rfl rfl,?_⟩
     ·simp only [Nat.pow_succ]
      have:=Nat.mul_le_mul_right (128 ^ i) (show c.toNat % 128<=127 by omega)
      omega
     ·simp [cv,cv1,cv0,upd,lk,aZ]
     ·simp [cO,aZ,lk,cvO,cvL,cv0,frz,hF,hO,rdO,D.one,upd]
     ·simp
def qA:Nat->List UInt8->List UInt8
 | _,[]=>[]
 | i,c :: s=>if (0 < i/\c=0)\/(i=9/\1 < c.toNat) then s else qA (i+1) s
theorem lH (b:List UInt8) (bad:Bool) (hbad:bad=true->b=[]) (hb:b.length<=1048576) (h:gX 0 0 b=none):aN Tryz.prog 225 [.pt 0 0 0 0] (hF [(0,rdO b bad)]) (.i (.s (.int .u64 0))) (hOf (hF [(0,rdO b bad)]) [(0,rdO (qA 0 b) true)]):=by
 generalize hq:qA 0 b=q
 refine aa 41 Tryz.func225 rfl rfl rfl (fun o ho=>by simp [hF,lk,show o≠0 by omega]) ?_
 refine gx (an fO @rdO.eq_1) ?_
 refine uy (ι:={ p:List UInt8 × Nat × Nat // gX p.2.1 p.2.2 p.1=none/\qA p.2.1 p.1=q/\p.2.2 < 128 ^ p.2.1/\p.2.1<=9/\p.1.length<=b.length/\(bad=true->p.1=[]) })
  (fun p=>dW [(0,.pt 0 0 0 0),(3,.i (.s (.int .u64 (p.1.2.2:Nat)))),(4,.i (.s (.int .i64 ((7 * p.1.2.1:Nat):Int))))] [(0,rdO p.1.1 bad)]) (fun p=>p.1.1.length) ⟨(b,0,0),h,hq,by simp,by simp,by simp,hbad⟩ ?_ ?_
 ·refine le_stOf _ _ [] [] ?_ ?_ rfl rfl
  ·simp [cv,cv1,cv0,upd,lk,aZ]
  ·simp [cO,aZ,lk,cvO,cvL,cv0,frz,hF,rdO,D.one]
 ·rintro ⟨⟨s,i,a⟩,h1,h0,h2,h3,h4,hbd⟩
  simp only at h1 h0 h2 h3 h4 hbd
  rw [au]
  cases s with
  | nil =>
   have h0:q=[]:=by rw [<- h0]; rfl
   subst h0
   refine gx (an fO @rdO.eq_1) ?_
   refine fe (Ei bad) rfl rfl ?_
   cases g1:decide (0 < ((7 * i:Nat):Int)) <;> cases g3:decide (((7 * i:Nat):Int)=63)
   all_goals
    refine gx (an (an (an (an (an fO @rdO.eq_1) @ul.eq_1) g1) g3) @UInt8.toNat_zero) ?_
    refine cK _ [] [] rfl ?_ ?_ rfl ?_ rfl
    ·simp [cv,cv1,cv0,upd]
    ·simp [cO,ib,lk,cvO,cvL,cv0,frz,upd,hF,D.one]
    ·simp
  | cons c s =>
  obtain rfl:bad=false:=by cases bad; rfl; simp at hbd
  refine gx (an fO @rdO.eq_1) ?_
  refine fe (oJ c s false (by simp at h4; omega)) rfl rfl ?_
  have hc:=c.toNat_lt
  have c0:(c=0)↔c.toNat=0:=by rw [<- UInt8.toNat_inj]; rfl
  rw [gX] at h1
  rw [qA] at h0
  split at h1
  ·rename_i hyes
   rw [if_pos hyes] at h0
   subst h0
   cases g1:decide (0 < ((7 * i:Nat):Int)) <;> cases g2:decide ((c.toNat:Int)=0) <;> cases g3:decide (((7 * i:Nat):Int)=63) <;> cases g4:decide (1 < (c.toNat:Int)) <;>
    first
    | (exfalso; simp only [decide_eq_true_eq,decide_eq_false_iff_not] at g1 g2 g3 g4; rw [c0] at hyes; omega)
    | skip
   all_goals
    refine gx (an (an (an (an (an (an fO @rdO.eq_1) @ul.eq_1) g1) g2) g3) g4) ?_
    refine cK _ [] [] rfl ?_ ?_ rfl ?_ rfl
    ·simp [cv,cv1,cv0,upd]
    ·simp [cO,ib,lk,cvO,cvL,cv0,frz,upd,hF,D.one]
    ·simp
  ·rename_i hno
   rw [if_neg hno] at h0
   split at h1
   ·cases h1
   ·rename_i h5
    have h9:i≠9:=by rintro rfl; simp at hno; omega
    obtain ⟨w1,w2,w3,w4⟩:=rn_facts c i a h2 h3 (by omega)
    have h6:c.toNat % 128=c.toNat - 128:=by omega
    rw [<- h6] at h1
    have w5:IntKind.i64.wrap (((7 * i:Nat):Int)+7)=((7 * (i+1):Nat):Int):=by rw [ay (by omega) (by omega)]; omega
    have h7:decide ((c.toNat:Int) < 128)=false:=by simp; omega
    cases g1:decide (0 < ((7 * i:Nat):Int)) <;> cases g2:decide ((c.toNat:Int)=0) <;> cases g3:decide (((7 * i:Nat):Int)=63) <;> cases g4:decide (1 < (c.toNat:Int)) <;>
     first
     | (exfalso; simp only [decide_eq_true_eq,decide_eq_false_iff_not] at g1 g2 g3 g4; rw [c0] at hno; omega)
     | skip
    all_goals
     refine gx (an (an (an (an (an (an (an (an (an (an (an (an fO @rdO.eq_1) @ul.eq_1) g1) g2) g3) g4) w1) w2) w3) w4) w5) @h7) ?_
     refine ⟨⟨(s,i+1,a+c.toNat % 128 * 128 ^ i),h1,h0,?_,by simp; omega,by simp at h4 ⊢; omega,by simp⟩,le_stOf _ _ [] [] ?_ ?_ rfl rfl,?_⟩
     ·simp only [Nat.pow_succ]
      have:=Nat.mul_le_mul_right (128 ^ i) (show c.toNat % 128<=127 by omega)
      omega
     ·simp [cv,cv1,cv0,upd,lk,aZ]
     ·simp [cO,aZ,lk,cvO,cvL,cv0,frz,hF,hO,rdO,D.one,upd]
     ·simp
def qz (l:List bU) (e:Nat):D:=.tup [.i (.sl (l.map encP)),.i (.s (.int .i64 (e:Int)))]
theorem DY (l:List bU):uni 3 (l.map encP)=true:=Bg (s:=3) (f:=encP) (fun _=>rfl) l
theorem VM (b:List UInt8) (hb:b.length<=1048576):PureD Tryz.prog 186 [.i (bI b)] (qz (readF b).1 (readF b).2):=by
 refine aa 85 Tryz.func186 rfl rfl rfl (fun _ _=>rfl) ?_
 refine gx (an bz @bI.eq_1) ?_
 refine Wc_split (fun h=>?_) (fun h=>?_)
 ·have h1:20000 < b.length:=by simp at h; omega
  refine gx bz ?_
  refine bQ [] rfl ?_
  simp [cv,cvT,cv1,cv0,upd,readF,h1,qz]
 ·have h1:¬ 20000 < b.length:=by simp at h; omega
  clear h
  rw [readF,if_neg h1]
  refine gx bz ?_
  cases h2:gX 0 0 b with
  | none =>
   refine fe (lH b false (by simp) hb h2) (by simp [upd,rdO]) rfl ?_
   refine gx bz ?_
   refine bQ [] rfl ?_
   simp [cv,cvT,cv1,cv0,upd,qz]
  | some p =>
   obtain ⟨n,r⟩:=p
   have hrl:r.length<=b.length:=by
    have:=(takeN_vnum h2).1; rw [this]; simp
   refine fe (kK b r n hb h2) (by simp [upd,rdO]) rfl ?_
   refine gx bz ?_
   refine Wc_split (fun h=>?_) (fun h=>?_)
   ·have h3:200 < n:=by simp at h; omega
    refine gx bz ?_
    refine bQ [] rfl ?_
    simp [cv,cvT,cv1,cv0,upd,qz,h3]
   ·have h3:¬ 200 < n:=by simp at h; omega
    clear h
    simp only [if_neg h3]
    refine gx bz ?_
    refine uy (ι:={ p:List bU × Nat × List UInt8 // p.2.1<=n/\p.1.length=p.2.1/\p.2.2.length<=b.length/\dX n r=(dX (n - p.2.1) p.2.2).map (p.1++·) })
     (fun p=>dW [(4,.pt 101 0 0 0),(6,.os 100 3 0 p.1.1.length),(26,.i (.s (.int .u64 n))),(27,.i (.s (.int .u64 (p.1.2.1:Nat))))] [(100,.arr 3 (p.1.1.map encP)),(101,rdO p.1.2.2 false)]) (fun p=>n - p.1.2.1) ⟨([],0,r),by simp,rfl,hrl,by simp⟩ ?_ ?_
    ·refine le_stOf _ _ [] [(101,1770)] ?_ ?_ rfl rfl
     ·simp [cv,cv1,cv0,upd,lk,aZ]
     ·simp [cO,aZ,lk,cvO,cvL,cv0,frz,upd,D.one,rdO]
    ·rintro ⟨⟨acc,i,s⟩,hi,hal,hs,hq⟩
     simp only at hi hal hs hq
     rw [au]
     refine gx (an bz @rdO.eq_1) ?_
     refine Wc_split (fun h=>?_) (fun h=>?_)
     ·have h4:i < n:=by simp at h; omega
      clear h
      have hni:n - i=(n - (i+1))+1:=by omega
      rw [hni] at hq
      refine gx bz ?_
      cases s with
      | nil =>
       refine fe (Ei false) (by simp [upd,hO,lk,rdO]) rfl ?_
       refine gx (an (an bz @ul.eq_1) @UInt8.toNat_zero) ?_
       refine fe (lH [] true (by simp) (by simp) rfl) (by simp [upd,hO,lk,rdO]) rfl ?_
       refine gx (an (an (an bz @ul.eq_1) @UInt8.toNat_zero) @rdO.eq_1) ?_
       refine bQ [] rfl ?_
       have hR:dX n r=none:=by rw [hq]; rfl
       simp [cv,cvT,cv1,cv0,upd,qz,hR]
      | cons c s =>
       have hs':s.length<=1048576:=by simp at hs; omega
       refine fe (oJ c s false hs') (by simp [upd,hO,lk,rdO]) rfl ?_
       have c0:(c=0)↔c.toNat=0:=by rw [<- UInt8.toNat_inj]; rfl
       have c1:(c=1)↔c.toNat=1:=by rw [<- UInt8.toNat_inj]; rfl
       have e3:acc.length+1<=140737488355328:=by omega
       have e3':(acc.length+1) * 40<=140737488355328:=by omega
       have w5:IntKind.u64.wrap ((i:Int)+1)=((i+1:Nat):Int):=by rw [IntKind.wrap_u64]; omega
       rw [dX] at hq
       refine gx (an bz @ul.eq_1) ?_
       refine Wc_split (fun h=>?_) (fun h=>?_)
       ·have h5:c=0:=by rw [c0]; simp at h; omega
        clear h
        refine gx bz ?_
        cases h6:gX 0 0 s with
        | none =>
         refine fe (lH s false (by simp) hs' h6) (by simp [upd,hO,lk,rdO]) rfl ?_
         refine gx bz ?_
         have hR:dX n r=none:=by rw [hq,h6]; rfl
         refine bQ [] rfl ?_
         simp [cv,cvT,cv1,cv0,upd,qz,hR]
        | some p =>
         obtain ⟨v,s'⟩:=p
         simp only [h6,h5,if_true] at hq
         refine fe (kK s s' v hs' h6) (by simp [upd,hO,lk,rdO]) rfl ?_
         refine gx (an (an (an (an bz e3) e3') @DY) w5) ?_
         refine ⟨⟨(acc++[⟨1,v,[]⟩],i+1,s'),h4,by simp [hal],?_,?_⟩,le_stOf _ _ [] [(100,7147),(101,101)] ?_ ?_ rfl rfl,?_⟩
         ·have:=(takeN_vnum h6).1
          have h7:s'.length<=s.length:=by rw [this]; simp
          simp at hs ⊢; omega
         ·rw [hq]; simp [Option.map_map]; congr
         ·simp [cv,cv1,cv0,upd,lk,aZ]
         ·simp [cO,aZ,lk,cvO,cvL,cv0,frz,upd,D.one,hO,rdO,encP,bI]
         ·simp; omega
       ·have h5:c≠0:=by rw [Ne,c0]; simp at h; omega
        clear h
        refine gx bz ?_
        refine Wc_split (fun h=>?_) (fun h=>?_)
        ·have h5':c=1:=by rw [c1]; simp at h; omega
         clear h
         refine gx bz ?_
         cases h6:gX 0 0 s with
         | none =>
          refine fe (lH s false (by simp) hs' h6) (by simp [upd,hO,lk,rdO]) rfl ?_
          have hR:dX n r=none:=by rw [hq,h6]; rfl
          have e7:((0:Int)<=((qA 0 s).length:Int))=True:=by simp
          have e8:decide (((qA 0 s).length:Int) < 0)=false:=by simp
          have e9:IntKind.u64.wrap ((qA 0 s).length:Int)=((qA 0 s).length:Int):=by
           have:∀ (i:Nat) (s:List UInt8),(qA i s).length<=s.length:=by
            intro i s
            induction s generalizing i with
            | nil=>simp [qA]
            | cons a t ih=>simp only [qA]; split <;> simp; have:=ih (i+1); omega
           have:=this 0 s
           rw [IntKind.wrap_u64]; omega
          refine gx (an (an (an (an bz e7) e8) e9) @iH) ?_
          refine bQ [] rfl ?_
          simp [cv,cvT,cv1,cv0,upd,qz,hR]
         | some p =>
          obtain ⟨v,s'⟩:=p
          have h7:s'.length<=s.length:=by have:=(takeN_vnum h6).1; rw [this]; simp
          simp only [h6,h5',if_true] at hq
          refine fe (kK s s' v hs' h6) (by simp [upd,hO,lk,rdO]) rfl ?_
          have e9:IntKind.u64.wrap (s'.length:Int)=(s'.length:Int):=by rw [IntKind.wrap_u64]; omega
          refine gx (an bz e9) ?_
          refine Wc_split (fun h=>?_) (fun h=>?_)
          ·have h8:s'.length < v:=by simp at h; omega
           have hR:dX n r=none:=by rw [hq]; simp [h8]
           refine gx bz ?_
           refine bQ [] rfl ?_
           simp [cv,cvT,cv1,cv0,upd,qz,hR]
          ·have h8:¬ s'.length < v:=by simp at h; omega
           rw [if_neg h8] at hq
           have e10:((v:Int)<=(s'.length:Int))=True:=by simp; omega
           have e11:(List.map af (List.take v s')).length=v:=by simp; omega
           have e12:v<=140737488355328:=by omega
           refine gx (an (an (an (an (an (an (an (an (an (an bz e3) e3') @DY) @iH) w5) @e10) @mtk) @mdr) @e11) @e12) ?_
           refine ⟨⟨(acc++[⟨2,0,s'.take v⟩],i+1,s'.drop v),h4,by simp [hal],?_,?_⟩,le_stOf _ _ [] [(100,7147),(101,101)] ?_ ?_ rfl rfl,?_⟩
           ·simp at hs ⊢; omega
           ·rw [hq]; simp [Option.map_map]; congr
           ·simp [cv,cv1,cv0,upd,lk,aZ]
           ·simp [cO,aZ,lk,cvO,cvL,cv0,frz,upd,D.one,hO,rdO,encP,bI,List.take_take]
           ·simp; omega
        ·have h5':c≠1:=by rw [Ne,c1]; simp at h; omega
         clear h
         refine gx bz ?_
         have hR:dX n r=none:=by rw [hq]; cases gX 0 0 s <;> simp [h5,h5']
         refine bQ [] rfl ?_
         simp [cv,cvT,cv1,cv0,upd,qz,hR]
     ·have h4:i=n:=by simp at h; omega
      subst h4
      refine gx bz ?_
      have hz:i - i=0:=by omega
      rw [hz,dX] at hq
      refine Wc_split (fun h=>?_) (fun h=>?_)
      ·have hR:dX i r=none:=by rw [hq,if_neg (by rintro rfl; simp at h)]; rfl
       refine gx bz ?_
       refine bQ [] rfl ?_
       simp [cv,cvT,cv1,cv0,upd,qz,hR]
      ·have hR:dX i r=some acc:=by rw [hq,if_pos (by cases s <;> simp at h ⊢)]; simp
       refine gx bz ?_
       refine bQ [100] rfl ?_
       simp [cv,cvT,cv1,cv0,upd,qz,hR,hO,lk,ae,List.take_of_length_le]
def U_ (s:ByteArray):bU:=⟨2,0,unB s⟩
def QG (t:gV):List bU:=[U_ t.d,⟨1,t.n,[]⟩,U_ t.s,U_ t.r]
def fq (t:gV):List UInt8:=(bZ (QG t)).1
def zeroT:gV:=⟨⟨#[]⟩,0,⟨#[]⟩,⟨#[]⟩⟩
def uP (l:List ByteArray):Int:=if l.all eD then 0 else 4
def Lg (t:gV):gV × Int:=if uP [t.d,t.s,t.r]=0 then (if t.n=0 then (zeroT,3) else (t,0)) else (zeroT,uP [t.d,t.s,t.r])
def Ku:List bU->gV × Int
 | [a,b,c,d]=>if a.kind=2/\b.kind=1/\c.kind=2/\d.kind=2 then Lg ⟨strB a.b,b.n,strB c.b,strB d.b⟩ else (zeroT,2)
 | _=>(zeroT,2)
def bF (b:List UInt8):gV × Int:=if (readF b).2=0 then Ku (readF b).1 else (zeroT,(readF b).2)
theorem EO {l:List bU} (h:l.length≠4):Ku l=(zeroT,2):=by
 unfold Ku
 split
 ·simp at h
 ·rfl
theorem RO (s:ByteArray) (hs:s.size<=140737488355328):PureD Tryz.prog 188 [sD s] (.agg [.i (.s (.int .i64 2)),.i (.s (.int .u64 0)),.i (bI (unB s))]):=by
 refine aj fun R hR=>?_
 refine aa 6 Tryz.func188 rfl rfl rfl (fun _ _=>rfl) ?_
 (repeat' (first | (simp -implicitDefEqProofs only [go_sem,Nat.reduceLT,Nat.reduceAdd,Nat.reduceMul,reduceIte,Nat.reduceEqDiff,reduceCtorEq,Nat.reducePow,Nat.reduceLeDiff,Int.reduceLE,Int.reduceLT,Int.reduceToNat,Int.reduceEq,Nat.reduceBEq,sD,strI_un, *]) | (with_reducible refine ⟨?_,?_⟩; (· first | (obtain ⟨rfl⟩:=‹Hq _ _›; with_reducible refine chk_ok ?_; kernel_rfl) | kernel_rfl)) | (with_reducible intro ops hops) | (simp -implicitDefEqProofs (disch:=omega) only [wr64,wru64,get_lt]) | ((first | refine Wc_split (fun hg=>?_) (fun hg=>?_) | refine RoG_split (fun hg=>?_) (fun hg=>?_) | refine RdG_split (fun hg=>?_) (fun hg=>?_)) <;> (try simp only [nrm] at hg) <;> (try simp only [hg,lgc,reduceIte,reduceCtorEq] at hR) <;> (try (exfalso; omega))) | ((try simp only [*,lgc,reduceIte,reduceCtorEq] at hR); obtain ⟨rfl⟩:=hR; refine fin_q (rs:=[.cell 2 147]) rfl ?_; (try simp only [go_sem,Nat.reduceLT,Nat.reduceAdd,Nat.reduceMul,reduceIte,Nat.reduceEqDiff,reduceCtorEq,Nat.reducePow,Nat.reduceLeDiff,Int.reduceLE,Int.reduceLT,Int.reduceToNat,Int.reduceEq,Nat.reduceBEq,sD,strI_un]); (simp [sD,strI_un]; done))))
theorem Dn (t:gV) (hn:t.n < 18446744073709551616) (h1:t.d.size<=1048576) (h2:t.s.size<=1048576) (h3:t.r.size<=1048576):PureD Tryz.prog 130 [trD t] (.i (bI (fq t))):=by
 have r1:=RO t.d (by omega)
 have r2:=RO t.s (by omega)
 have r3:=RO t.r (by omega)
 have hw:=vK (QG t) (by simp [QG]) (by intro p hp; simp only [QG,U_,List.mem_cons,List.not_mem_nil,or_false] at hp; rcases hp with rfl | rfl | rfl | rfl <;> simp only [unB_len,List.length_nil] <;> omega)
  (by intro p hp; simp only [QG,U_,List.mem_cons,List.not_mem_nil,or_false] at hp; rcases hp with rfl | rfl | rfl | rfl <;> first | exact hn | (simp only; omega))
 unfold fq
 generalize bZ (QG t)=W at *
 simp only [QG,U_,List.map_cons,List.map_nil,encP] at hw
 refine aj fun R hR=>?_
 refine aa 27 Tryz.func130 rfl rfl rfl (fun _ _=>rfl) ?_
 (repeat' (first | (simp -implicitDefEqProofs only [go_sem,Nat.reduceLT,Nat.reduceAdd,Nat.reduceMul,reduceIte,Nat.reduceEqDiff,reduceCtorEq,Nat.reducePow,Nat.reduceLeDiff,Int.reduceLE,Int.reduceLT,Int.reduceToNat,Int.reduceEq,Nat.reduceBEq,trD,bI,sD,faultD, *]) | (with_reducible refine ⟨?_,?_⟩; (· first | (obtain ⟨rfl⟩:=‹Hq _ _›; with_reducible refine chk_ok ?_; kernel_rfl) | kernel_rfl)) | (with_reducible intro ops hops) | (simp -implicitDefEqProofs (disch:=omega) only [wr64,wru64,get_lt]) | ((with_reducible refine call_id ?_); (first | ((with_reducible refine Call_fz (r1) ?_ ?_); (· (simp [trD,bI,sD,faultD,and_assoc]; done))) | ((with_reducible refine Call_fz (r2) ?_ ?_); (· (simp [trD,bI,sD,faultD,and_assoc]; done))) | ((with_reducible refine Call_fz (r3) ?_ ?_); (· (simp [trD,bI,sD,faultD,and_assoc]; done))) | ((with_reducible refine Call_fl (hw) ?_ ?_ ?_); (· (simp [trD,bI,sD,faultD]; done)); (· (simp [trD,bI,sD,faultD,and_assoc]; done))) | ((with_reducible refine Call_fz (hw) ?_ ?_); (· (simp [trD,bI,sD,faultD,and_assoc]; done))))) | ((with_reducible refine callF_id ?_); (first | ((with_reducible refine CallF_fz (r1) ?_ ?_); (· (intro G hG; simp [trD,bI,sD,faultD] at hG; simp [trD,bI,sD,faultD,hG,and_assoc]; done))) | ((with_reducible refine CallF_fz (r2) ?_ ?_); (· (intro G hG; simp [trD,bI,sD,faultD] at hG; simp [trD,bI,sD,faultD,hG,and_assoc]; done))) | ((with_reducible refine CallF_fz (r3) ?_ ?_); (· (intro G hG; simp [trD,bI,sD,faultD] at hG; simp [trD,bI,sD,faultD,hG,and_assoc]; done))) | ((with_reducible refine CallF_fl (hw) ?_ ?_ ?_); (· (simp [trD,bI,sD,faultD]; done)); (· (intro G hG; simp [trD,bI,sD,faultD] at hG; simp [trD,bI,sD,faultD,hG,and_assoc]; done))) | ((with_reducible refine CallF_fz (hw) ?_ ?_); (· (intro G hG; simp [trD,bI,sD,faultD] at hG; simp [trD,bI,sD,faultD,hG,and_assoc]; done))))) | ((first | refine Wc_split (fun hg=>?_) (fun hg=>?_) | refine RoG_split (fun hg=>?_) (fun hg=>?_) | refine RdG_split (fun hg=>?_) (fun hg=>?_)) <;> (try simp only [nrm] at hg) <;> (try simp only [hg,lgc,reduceIte,reduceCtorEq] at hR) <;> (try (exfalso; omega))) | ((try simp only [*,lgc,reduceIte,reduceCtorEq] at hR); obtain ⟨rfl⟩:=hR; refine fin_q (rs:=[.tmp 2]) rfl ?_; (try simp only [go_sem,Nat.reduceLT,Nat.reduceAdd,Nat.reduceMul,reduceIte,Nat.reduceEqDiff,reduceCtorEq,Nat.reducePow,Nat.reduceLeDiff,Int.reduceLE,Int.reduceLT,Int.reduceToNat,Int.reduceEq,Nat.reduceBEq,trD,bI,sD,faultD]); (simp [trD,bI,sD,faultD]; done))))
theorem four4 (l:List bU) (h:l.length=4):∃ a b c d,l=[a,b,c,d]:=by
 match l,h with
 | [a,b,c,d],_=>exact ⟨a,b,c,d,rfl⟩
theorem wQ (b:List UInt8) (hb:b.length<=1048576):PureD Tryz.prog 129 [.i (bI b)] (.tup [trD (bF b).1,intD (bF b).2]):=by
 have hr:=VM b hb
 refine aj fun R hR=>?_
 simp only [bF] at hR
 generalize readF b=L at *
 obtain ⟨l,e⟩:=L
 simp only [qz] at hr hR
 by_cases h4:l.length=4
 ·obtain ⟨p,q,r,s,rfl⟩:=four4 l h4
  have hw:PureD _ _ _ (intD (uP [strB p.b,strB r.b,strB s.b])):=Hf [strB p.b,strB r.b,strB s.b] (by simp)
  simp only [List.map_cons,List.map_nil,sI] at hw
  simp only [Ku,Lg] at hR
  generalize uP [strB p.b,strB r.b,strB s.b]=w at *
  clear h4
  refine aa 86 Tryz.func129 rfl rfl rfl (fun _ _=>rfl) ?_
  (repeat' (first | (simp -implicitDefEqProofs only [go_sem,Nat.reduceLT,Nat.reduceAdd,Nat.reduceMul,reduceIte,Nat.reduceEqDiff,reduceCtorEq,Nat.reducePow,Nat.reduceLeDiff,Int.reduceLE,Int.reduceLT,Int.reduceToNat,Int.reduceEq,Nat.reduceBEq,trD,bI,sD,intD,encP,zeroT,strB, *]) | (with_reducible refine ⟨?_,?_⟩; (· first | (obtain ⟨rfl⟩:=‹Hq _ _›; with_reducible refine chk_ok ?_; kernel_rfl) | kernel_rfl)) | (with_reducible intro ops hops) | (simp -implicitDefEqProofs (disch:=omega) only [wr64,wru64,get_lt]) | ((with_reducible refine call_id ?_); (first | ((with_reducible refine Call_fl (hr) ?_ ?_ ?_); (· (simp [trD,bI,sD,intD,encP,zeroT,strB]; done)); (· (simp [trD,bI,sD,intD,encP,zeroT,strB,and_assoc]; done))) | ((with_reducible refine Call_fz (hr) ?_ ?_); (· (simp [trD,bI,sD,intD,encP,zeroT,strB,and_assoc]; done))) | ((with_reducible refine Call_fl (hw) ?_ ?_ ?_); (· (simp [trD,bI,sD,intD,encP,zeroT,strB]; done)); (· (simp [trD,bI,sD,intD,encP,zeroT,strB,and_assoc]; done))) | ((with_reducible refine Call_fz (hw) ?_ ?_); (· (simp [trD,bI,sD,intD,encP,zeroT,strB,and_assoc]; done))))) | ((with_reducible refine callF_id ?_); (first | ((with_reducible refine CallF_fl (hr) ?_ ?_ ?_); (· (simp [trD,bI,sD,intD,encP,zeroT,strB]; done)); (· (intro G hG; simp [trD,bI,sD,intD,encP,zeroT,strB] at hG; simp [trD,bI,sD,intD,encP,zeroT,strB,hG,and_assoc]; done))) | ((with_reducible refine CallF_fz (hr) ?_ ?_); (· (intro G hG; simp [trD,bI,sD,intD,encP,zeroT,strB] at hG; simp [trD,bI,sD,intD,encP,zeroT,strB,hG,and_assoc]; done))) | ((with_reducible refine CallF_fl (hw) ?_ ?_ ?_); (· (simp [trD,bI,sD,intD,encP,zeroT,strB]; done)); (· (intro G hG; simp [trD,bI,sD,intD,encP,zeroT,strB] at hG; simp [trD,bI,sD,intD,encP,zeroT,strB,hG,and_assoc]; done))) | ((with_reducible refine CallF_fz (hw) ?_ ?_); (· (intro G hG; simp [trD,bI,sD,intD,encP,zeroT,strB] at hG; simp [trD,bI,sD,intD,encP,zeroT,strB,hG,and_assoc]; done))))) | ((first | refine Wc_split (fun hg=>?_) (fun hg=>?_) | refine RoG_split (fun hg=>?_) (fun hg=>?_) | refine RdG_split (fun hg=>?_) (fun hg=>?_)) <;> (try simp only [nrm] at hg) <;> (try simp only [hg,lgc,reduceIte,reduceCtorEq] at hR) <;> (try (exfalso; omega))) | ((try simp only [*,lgc,reduceIte,reduceCtorEq] at hR); obtain ⟨rfl⟩:=hR; refine fin_q (rs:=[.cell 2 58,.tmp 3]) rfl ?_; (try simp only [go_sem,Nat.reduceLT,Nat.reduceAdd,Nat.reduceMul,reduceIte,Nat.reduceEqDiff,reduceCtorEq,Nat.reducePow,Nat.reduceLeDiff,Int.reduceLE,Int.reduceLT,Int.reduceToNat,Int.reduceEq,Nat.reduceBEq,trD,bI,sD,intD,encP,zeroT,strB]); (simp [trD,bI,sD,intD,encP,zeroT,strB]; done))))
 ·rw [EO h4] at hR
  refine aa 86 Tryz.func129 rfl rfl rfl (fun _ _=>rfl) ?_
  (repeat' (first | (simp -implicitDefEqProofs only [go_sem,Nat.reduceLT,Nat.reduceAdd,Nat.reduceMul,reduceIte,Nat.reduceEqDiff,reduceCtorEq,Nat.reducePow,Nat.reduceLeDiff,Int.reduceLE,Int.reduceLT,Int.reduceToNat,Int.reduceEq,Nat.reduceBEq,trD,bI,sD,intD,encP,zeroT, *]) | (with_reducible refine ⟨?_,?_⟩; (· first | (obtain ⟨rfl⟩:=‹Hq _ _›; with_reducible refine chk_ok ?_; kernel_rfl) | kernel_rfl)) | (with_reducible intro ops hops) | (simp -implicitDefEqProofs (disch:=omega) only [wr64,wru64,get_lt]) | ((with_reducible refine call_id ?_); (first | ((with_reducible refine Call_fl (hr) ?_ ?_ ?_); (· (simp [trD,bI,sD,intD,encP,zeroT]; done)); (· (simp [trD,bI,sD,intD,encP,zeroT,and_assoc]; done))) | ((with_reducible refine Call_fz (hr) ?_ ?_); (· (simp [trD,bI,sD,intD,encP,zeroT,and_assoc]; done))))) | ((with_reducible refine callF_id ?_); (first | ((with_reducible refine CallF_fl (hr) ?_ ?_ ?_); (· (simp [trD,bI,sD,intD,encP,zeroT]; done)); (· (intro G hG; simp [trD,bI,sD,intD,encP,zeroT] at hG; simp [trD,bI,sD,intD,encP,zeroT,hG,and_assoc]; done))) | ((with_reducible refine CallF_fz (hr) ?_ ?_); (· (intro G hG; simp [trD,bI,sD,intD,encP,zeroT] at hG; simp [trD,bI,sD,intD,encP,zeroT,hG,and_assoc]; done))))) | ((first | refine Wc_split (fun hg=>?_) (fun hg=>?_) | refine RoG_split (fun hg=>?_) (fun hg=>?_) | refine RdG_split (fun hg=>?_) (fun hg=>?_)) <;> (try simp only [nrm] at hg) <;> (try simp only [hg,lgc,reduceIte,reduceCtorEq] at hR) <;> (try (exfalso; omega))) | ((try simp only [*,lgc,reduceIte,reduceCtorEq] at hR); obtain ⟨rfl⟩:=hR; refine fin_q (rs:=[.cell 2 58,.tmp 3]) rfl ?_; (try simp only [go_sem,Nat.reduceLT,Nat.reduceAdd,Nat.reduceMul,reduceIte,Nat.reduceEqDiff,reduceCtorEq,Nat.reducePow,Nat.reduceLeDiff,Int.reduceLE,Int.reduceLT,Int.reduceToNat,Int.reduceEq,Nat.reduceBEq,trD,bI,sD,intD,encP,zeroT]); (simp [trD,bI,sD,intD,encP,zeroT]; done))))
end Go.Proofs.YtkbbipgjmoanhaaGreatDoor
