/- Merged texts: Strs, Purse, PurseF, BankP, RName, RFrom, BankW, RWrong, InsPu, DelPu, BankX, BankY, Right, DecPu, BkQ, WRead, BankT. -/
import Derived.Test.YtdmeldhlbpdeeaaGreatDoorGMk
import Derived.Lib.ItoaLen
set_option linter.all false
set_option maxHeartbeats 8000000
set_option maxRecDepth 20000
namespace Go.Proofs.YtdmeldhlbpdeeaaGreatDoor
open Go Go.Abs Go.RowKit Go.Proofs.YtdmeldhlbpdeeaaGreatDoor.Ty
def Mi:=@Ty.T9
def Mh:=@Ty.T9
def abJ:=@sD.eq_1
theorem UX (a b:ByteArray)(G:Nat->Ob):Sg Tryz.prog 290 [sD a,sD b] G (.i (.s (.int .i64 (nJ a b)))) G:=by refine Jb (vs:=[.string a,.string b]) (v:=.int .i64 (nJ a b)) rfl (λw=>?_) (λK=>.i (.s _ rfl));rw[run_callFunc_extern Tryz.func290 (by kernel_rfl) (by kernel_rfl) (by kernel_rfl) (e:=Extern.BytealgCompare.compare) (by kernel_rfl)];rw[show([Value.string a,Value.string b].toArray)=#[.string a,.string b]from rfl,Lib.run_compareString];rfl
theorem Fw (a b:ByteArray):PureD Tryz.prog 287 [sD a,sD b] (.i (.s (.int .i64 (nJ a b)))):=by refine aa 8 Tryz.func287 ?_;refine gx (an Mh @sD.eq_1) ?_;refine jF (UX a b) ?_;refine gx Mh ?_;refine aA [] rfl ?_;simp[cv,cv1,cv0,upd]
theorem Ws (a b:ByteArray):PureD Tryz.prog 283 [sD a,sD b] (.i (.s (.int .i64 (nJ a b)))):=by
 refine aa 8 Tryz.func283 ?_
 (refine gy (an Mi @sD.eq_1) ?_;try intro ops hops)
 (refine fq abJ (Fw a b) ?_)
 refine gx Mi ?_;refine aA [] rfl ?_;simp[cv,cv1,cv0,upd]
def pY:=an4 @Ty.T3 @Ty.T9 @Ty.T59 @Ty.aiM
def DI:=an3 @sD.eq_1 @sI.eq_1 @puD.eq_1
def amtP (l:List PurseD)(o d:ByteArray):Nat:=match DC l o d with|some p=>p.n|none=>0
theorem GN (p:PurseD)(o d:ByteArray):PureD Tryz.prog 282 [puD p,sD d,.rp [sI o] 0] (intD (pG (pk p) (o,d))):=by
 unfold pG pk;have h1:=Ws p.o o;have h2:=Ws p.d d;simp only;generalize nJ p.o o=c1 at*;generalize nJ p.d d=c2 at*;by_cases h:c1=0
 ·rw[if_pos h];have g:decide (c1=0)=true:=decide_eq_true h;refine aa 18 Tryz.func282 ?_
  (refine gy (an4 pY @puD.eq_1 @sD.eq_1 @sI.eq_1) ?_;try intro ops hops)
  (refine fq DI (h1) ?_)
  (refine gy (an pY g) ?_;try intro ops hops)
  (refine fq DI (h2) ?_)
  refine gx pY ?_;refine aA [] rfl ?_;simp[cv,cv1,cv0,upd,intD]
 ·rw[if_neg h];have g:decide (c1=0)=false:=decide_eq_false h;refine aa 18 Tryz.func282 ?_
  (refine gy (an4 pY @puD.eq_1 @sD.eq_1 @sI.eq_1) ?_;try intro ops hops)
  (refine fq DI (h1) ?_)
  refine gx (an pY g) ?_;refine aA [] rfl ?_;simp[cv,cv1,cv0,upd,intD]
def gY:=an6 @Ty.T3 @Ty.T9 @Ty.T26 @Ty.T59 @Ty.aiQ @Ty.aiM
def Bo:=an5 @Ty.T9 @Ty.T26 @Ty.T59 @Ty.aiM @Ty.aiA
def pX:=an5 @Ty.T4 @Ty.T9 @Ty.T26 @Ty.T59 @Ty.aiM
def uA:=an5 @sD.eq_1 @sI.eq_1 @puD.eq_1 @oF.eq_1 @wD.eq_1
theorem Nj (l:List PurseD)(ow de:ByteArray)(p:Nat)(hl:l.length<=1048576)(hp:p<=l.length)(hm:∀a (h:a<l.length),pG (pk l[a]) (ow,de)<0↔a<p):
  PureD Tryz.prog 281 [.i (oF l),sD de,.fn 282 [.rp [sI ow] 0]]
   (.tup [intD p,boolD (if h:p<l.length then decide (pG (pk l[p]) (ow,de)=0)else false)]):=by
 refine aa 49 Tryz.func281 ?_;refine gx (an3 gY @oF.eq_1 @sD.eq_1) ?_;refine bO (ι:=Nat×Nat) (λq=>q.1<=p/\p<=q.2/\q.2<=l.length)
  (λq=>dP [(0,.i (.sl (l.map bf))),(1,sD de),(2,.fn 282 [.rp [sI ow] 0]),(8,intD l.length),(9,intD q.1),(10,intD q.2)] []) (λq=>q.2-q.1) (0,l.length) ⟨Nat.zero_le _,hp,Nat.le_refl _⟩ ?_ ?_
 ·refine aj _ _ [] [] ?_ ?_ rfl rfl
  ·simp[cv,cvL,cv1,cv0,upd,lk,az,intD,sD,sI]
  ·simp
 ·rintro⟨i,j⟩ ⟨h1,h2,h3⟩;simp only at h1 h2 h3;rw[ag];refine gx (an3 gY @intD.eq_1 @sD.eq_1) ?_;refine aK (λh=>?_) (λh=>?_)
  ·have hij:i<j:=by simp at h;omega
   clear h;have hml:(i+j)/2<l.length:=by omega
   have e1:(l.map bf)[(i+j)/2]?=some (bf l[(i+j)/2]):=by rw[List.getElem?_map,List.getElem?_eq_getElem hml];rfl
   have hmm:=hm _ hml;have w1:IntKind.i64.wrap ((i:Int)+(j:Int))=((i+j:Nat):Int):=by rw[au (by omega) (by omega)];omega
   have w2:IntKind.u64.wrap ((i+j:Nat):Int)=((i+j:Nat):Int):=by rw[IntKind.wrap_u64];omega
   have w3:((i+j:Nat):Int).fdiv (2^min 1 (IntKind.bits .u64))=(((i+j)/2:Nat):Int):=by rw[show min 1 (IntKind.bits .u64)=1 from rfl,Int.fdiv_eq_ediv_of_nonneg _ (by decide)];omega
   have w4:IntKind.i64.wrap (((i+j)/2:Nat):Int)=(((i+j)/2:Nat):Int):=by rw[au (by omega) (by omega)]
   have w5:IntKind.i64.wrap ((((i+j)/2:Nat):Int)+1)=(((i+j)/2+1:Nat):Int):=by rw[au (by omega) (by omega)];omega
   have hmid1:i<=(i+j)/2:=by omega
   have hmid2:(i+j)/2<j:=by omega
   generalize l[(i+j)/2]=q at e1 hmm;simp only[bf]at e1;generalize(i+j)/2=m at*
   (refine gy (an6 gY w1 w2 w3 w4 e1) ?_;try intro ops hops)
   (refine fq uA (GN q ow de) ?_)
   refine gx (an3 gY @intD.eq_1 @sD.eq_1) ?_;refine aK (λh=>?_) (λh=>?_)
   ·have hlt:m<p:=hmm.1 (by simpa using h);refine gx (an gY w5) ?_;refine⟨(m+1,j),⟨hlt,h2,h3⟩,aj _ _ [] [] ?_ ?_ rfl rfl,by simp;omega⟩
    ·simp[cv,cvL,cv1,cv0,upd,lk,az,intD,sD,sI]
    ·simp
   ·have hlt:¬m<p:=λhc=>by have:=hmm.2 hc;simp at h;omega
    refine gx gY ?_;refine⟨(i,m),⟨h1,Nat.le_of_not_lt hlt,by omega⟩,aj _ _ [] [] ?_ ?_ rfl rfl,by simp;omega⟩
    ·simp[cv,cvL,cv1,cv0,upd,lk,az,intD,sD,sI]
    ·simp
  ·have hij:i=p:=by simp at h;omega
   subst hij;by_cases hlt:i<l.length
   ·rw[dif_pos hlt];have e1:(l.map bf)[i]?=some (bf l[i]):=by rw[List.getElem?_map,List.getElem?_eq_getElem hlt];rfl
    generalize l[i]=q at e1;simp only[bf]at e1;have g:decide ((i:Int)<(l.length:Int))=true:=decide_eq_true (by omega)
    (refine gy (an3 gY g e1) ?_;try intro ops hops)
    (refine fq uA (GN q ow de) ?_)
    refine gx (an3 gY @intD.eq_1 @sD.eq_1) ?_;refine dC [] rfl ?_;simp[cv,cvT,cv1,cv0,upd,intD,boolD]
   ·rw[dif_neg hlt];have g:decide ((i:Int)<(l.length:Int))=false:=decide_eq_false (by omega);refine gx (an gY g) ?_;refine dC [] rfl ?_;simp[cv,cvT,cv1,cv0,upd,intD,boolD]
theorem KD {l:List PurseD}(hs:abh l)(o d:ByteArray):(if h:bX l o d<l.length then decide (pG (pk l[bX l o d]) (o,d)=0)else false)=(DC l o d).isSome:=by
 unfold DC bX;rw[KL.get_place cmpP_ok hs];by_cases h:KL.place pk pG l (o,d)<l.length
 ·rw[dif_pos h,dif_pos h];by_cases h2:pG (pk l[KL.place pk pG l (o,d)]) (o,d)=0
  ·rw[if_pos h2,decide_eq_true h2];rfl
  ·rw[if_neg h2,decide_eq_false h2];rfl
 ·rw[dif_neg h,dif_neg h];rfl
theorem Ep (l:List PurseD)(o d:ByteArray)(hl:l.length<=1048576)(hs:abh l):
  PureD Tryz.prog 268 [.i (oF l),sD o,sD d] (.tup [intD (bX l o d),boolD (DC l o d).isSome]):=by
 have hc:=Nj l o d (bX l o d) hl (KL.place_le cmpP_ok l _) (λa ha=>KL.place_iff cmpP_ok hs (o,d) a ha);rw[KD hs]at hc;generalize bX l o d=p at*;generalize(DC l o d).isSome=b at*;simp only[oF,sD,sI]at hc;refine aa 14 Tryz.func268 ?_
 (refine gy (an3 Bo @oF.eq_1 @sD.eq_1) ?_;try intro ops hops)
 (first|refine ja [] [1000] (hc) (by simp[sD,sI,puD,oF,wD,and_assoc]) rfl ?_|refine jK [] [1000] [1000] (hc) (λG hG=>by(have hG1000:=hG 1000 (by simp);simp[sD,sI,puD,oF,wD,and_assoc,hG1000])) rfl ?_)
 refine gx (an3 Bo @intD.eq_1 @boolD.eq_1) ?_;refine dC [] rfl ?_;simp[cv,cvT,cv1,cv0,upd,intD,boolD]
theorem VE (l:List PurseD)(o d:ByteArray)(hl:l.length<=1048576)(hs:abh l):
  PureD Tryz.prog 267 [.i (oF l),sD o,sD d] (wD (amtP l o d)):=by
 have hf:=Ep l o d hl hs;unfold amtP;cases hg:DC l o d with
 |none =>
  rw[hg]at hf;generalize bX l o d=p at*;refine aa 23 Tryz.func267 ?_
  (refine gy (an3 pX @oF.eq_1 @sD.eq_1) ?_;try intro ops hops)
  (refine fqz uA (hf) ?_)
  refine gx (an4 pX @intD.eq_1 @boolD.eq_1 @Option.isSome_none.{0}) ?_;refine aA [] rfl ?_;simp[cv,cv1,cv0,upd,wD]
 |some v =>
  rw[hg]at hf;obtain⟨hp,hv⟩:=KL.place_lt cmpP_ok hs hg;have e1:(l.map bf)[bX l o d]?=some (bf v):=by rw[List.getElem?_map,List.getElem?_eq_getElem hp,<- hv];rfl
  simp only[bf]at e1;clear hv hp;generalize bX l o d=p at*;refine aa 23 Tryz.func267 ?_
  (refine gy (an3 pX @oF.eq_1 @sD.eq_1) ?_;try intro ops hops)
  (refine fqz uA (hf) ?_)
  refine gx (an6 pX @intD.eq_1 @boolD.eq_1 @Option.isSome_some.{0} @oF.eq_1 e1) ?_;refine aA [] rfl ?_;simp[cv,cv1,cv0,upd,wD]
structure bB (l:List PurseD):Prop where
 len:l.length<=60
 wo:∀p∈l,1<=p.o.size/\p.o.size<=40
 wd:∀p∈l,1<=p.d.size/\p.d.size<=40
 pos:∀p∈l,0<p.n/\p.n<18446744073709551616
 srt:abh l
def wordOk (s:ByteArray):Bool:=decide (1<=s.size)&&decide (s.size<=40)
def mM (l:List PurseD)(d:ByteArray):Nat:=(l.map λp=>if p.d=d then p.n else 0).sum
abbrev zC (l:List PurseD)(o d:ByteArray)(v:Option PurseD):List PurseD:=KL.put pk pG l (o,d) v
def mO (l:List PurseD)(o d:ByteArray)(n:Nat):List PurseD:=zC l o d (if n=0 then none else some ⟨o,d,n⟩)
def mintP (l:List PurseD)(o d:ByteArray)(n:Nat):List PurseD×Nat :=
 if !(wordOk o&&wordOk d)then([],4)
 else if n=0 then(l,0)
 else if 18446744073709551616<=mM l d+n then([],3)
 else if amtP l o d=0/\l.length=60 then([],5)
 else(mO l o d (amtP l o d+n),0)
def burnP (l:List PurseD)(o d:ByteArray)(n:Nat):List PurseD×Nat :=
 if !(wordOk o&&wordOk d)then([],4)
 else if amtP l o d<n then([],8)
 else(mO l o d (amtP l o d-n),0)
def jQ (l:List PurseD)(o t d:ByteArray)(n:Nat):List PurseD×Nat :=
 if(burnP l o d n).2=0 then mintP (burnP l o d n).1 t d n else([],(burnP l o d n).2)
theorem getP_key {l:List PurseD}(h:bB l){o d:ByteArray}{p:PurseD}(hg:DC l o d=some p):p∈l/\p.o=o/\p.d=d:=by have:=(KL.get_iff cmpP_ok h.srt).1 hg;exact⟨this.1,congrArg Prod.fst this.2,congrArg Prod.snd this.2⟩
theorem uZ {l:List PurseD}(h:bB l)(o d:ByteArray):DC l o d=if amtP l o d=0 then none else some ⟨o,d,amtP l o d⟩:=by
 unfold amtP;cases hg:DC l o d with
 |none=>rfl
 |some p =>obtain⟨h1,h2,h3⟩:=getP_key h hg;have:=(h.pos p h1).1;simp only;rw[if_neg (by omega),<- h2,<- h3]
theorem Q_ {l:List PurseD}(h:bB l)(o d:ByteArray):amtP l o d<18446744073709551616:=by
 unfold amtP;cases hg:DC l o d with
 |none=>simp
 |some p=>exact(h.pos p (getP_key h hg).1).2
theorem MN {o d:ByteArray}{n:Nat}:∀x,(if n=0 then none else some (⟨o,d,n⟩:PurseD))=some x->pk x=(o,d):=by
 intro x hx;split at hx
 ·cases hx
 ·injection hx with hx;subst hx;rfl
theorem Tf {l:List PurseD}(h:bB l)(o d:ByteArray)(n:Nat):abh (mO l o d n):=KL.srt_put cmpP_ok h.srt MN
theorem QZ {l:List PurseD}(h:bB l)(o d:ByteArray)(n:Nat)(o' d':ByteArray):amtP (mO l o d n) o' d'=if o'=o/\d'=d then n else amtP l o' d':=by
 unfold amtP;have hd:Decidable ((o',d')=(o,d)):=Classical.propDecidable _;have hg:DC (mO l o d n) o' d'=if(o',d')=(o,d)then(if n=0 then none else some ⟨o,d,n⟩)else DC l o' d':=KL.get_put cmpP_ok h.srt MN (o',d');rw[hg];by_cases hk:o'=o/\d'=d
 ·rw[if_pos (by rw[hk.1,hk.2]),if_pos hk];by_cases h0:n=0
  ·rw[if_pos h0];exact h0.symm
  ·rw[if_neg h0]
 ·rw[if_neg (λe=>hk ⟨congrArg Prod.fst e,congrArg Prod.snd e⟩),if_neg hk]
theorem mem_set {l:List PurseD}{o d:ByteArray}{n:Nat}{x:PurseD}(hx:x∈mO l o d n):x∈l\/(x=⟨o,d,n⟩/\n≠0):=by
 rcases(KL.mem_put cmpP_ok).1 hx with h1|h1
 ·exact .inl h1.1
 ·split at h1
  ·cases h1
  ·injection h1 with h1;exact .inr ⟨h1.symm,by assumption⟩
theorem wordOk_iff {s:ByteArray}:wordOk s=true↔1<=s.size/\s.size<=40:=by simp[wordOk]
theorem Eg {l:List PurseD}(h:bB l)(o d:ByteArray)(n:Nat):(mO l o d n).length=if amtP l o d=0 then(if n=0 then l.length else l.length+1)else(if n=0 then l.length-1 else l.length):=by
 have hg:=uZ h o d;by_cases h0:amtP l o d=0
 ·rw[if_pos h0]at hg⊢;unfold mO zC;by_cases hn:n=0
  ·rw[if_pos hn,if_pos hn,KL.put_none cmpP_ok h.srt hg]
  ·rw[if_neg hn,if_neg hn,KL.put_miss cmpP_ok h.srt hg];have:=KL.place_le (κ:=pk) cmpP_ok l (o,d);simp;omega
 ·rw[if_neg h0]at hg⊢;obtain⟨hp,_⟩:=KL.place_lt cmpP_ok h.srt hg;unfold mO zC;by_cases hn:n=0
  ·rw[if_pos hn,if_pos hn,KL.put_del cmpP_ok h.srt hg];simp;omega
  ·rw[if_neg hn,if_neg hn,KL.put_hit cmpP_ok h.srt hg];simp;omega
theorem BF {l:List PurseD}(h:bB l){o d:ByteArray}{n:Nat}(ho:wordOk o=true)(hd:wordOk d=true)(hn:n<18446744073709551616)(hl:(mO l o d n).length<=60):bB (mO l o d n) where
 len:=hl
 wo:=λp hp=>by rcases mem_set hp with h1|⟨rfl,_⟩;exact h.wo p h1;exact wordOk_iff.1 ho
 wd:=λp hp=>by rcases mem_set hp with h1|⟨rfl,_⟩;exact h.wd p h1;exact wordOk_iff.1 hd
 pos:=λp hp=>by rcases mem_set hp with h1|⟨rfl,h1⟩;exact h.pos p h1;exact⟨by simp only;omega,hn⟩
 srt:=Tf h o d n
theorem Mv (f:PurseD->Nat)(k:afM)(l:List PurseD):(l.map f).sum=((l.filter λx=>decide (pG (pk x) k<0)).map f).sum+(((l.filter λx=>decide (pG (pk x) k=0)).map f).sum+((l.filter λx=>decide (0<pG (pk x) k)).map f).sum):=by
 induction l with
 |nil=>rfl
 |cons x t ih =>
  rw[List.map_cons,List.sum_cons,ih];by_cases h1:pG (pk x) k<0
  ·rw[List.filter_cons_of_pos (by simpa using h1),List.filter_cons_of_neg (by simp;omega),List.filter_cons_of_neg (by simp;omega)];simp;omega
  ·by_cases h2:pG (pk x) k=0
   ·rw[List.filter_cons_of_neg (by simp;omega),List.filter_cons_of_pos (by simpa using h2),List.filter_cons_of_neg (by simp;omega)];simp;omega
   ·rw[List.filter_cons_of_neg (by simp;omega),List.filter_cons_of_neg (by simp;omega),List.filter_cons_of_pos (by simp;omega)];simp;omega
theorem PG {l:List PurseD}(h:abh l)(k:afM):(l.filter λx=>decide (pG (pk x) k=0))=(KL.get pk pG l k).toList:=by
 induction l with
 |nil=>rfl
 |cons x t ih =>
  rw[KL.get_cons cmpP_ok];have hs:=List.pairwise_cons.1 h;by_cases hx:pG (pk x) k=0
  ·rw[if_pos hx,List.filter_cons_of_pos (by simpa using hx)];have hk:=(cmpP_ok.zero _ _).1 hx;have:(t.filter λx=>decide (pG (pk x) k=0))=[]:=by
    rw[List.filter_eq_nil_iff];intro y hy;have h1:=hs.1 y hy;rw[hk]at h1;have:=(cmpP_ok.neg k (pk y)).1 h1;simp;omega
   rw[this];rfl
  ·rw[if_neg hx,List.filter_cons_of_neg (by simpa using hx),ih hs.2]
theorem Nw (o d d':ByteArray)(n:Nat):(((if n=0 then none else some (⟨o,d,n⟩:PurseD)).toList).map λp=>if p.d=d' then p.n else 0).sum=if d=d' then n else 0:=by
 by_cases hn:n=0
 ·rw[if_pos hn,hn];simp
 ·rw[if_neg hn];simp
theorem Ec {l:List PurseD}(h:bB l)(o d:ByteArray)(n:Nat)(d':ByteArray):mM (mO l o d n) d'+(if d=d' then amtP l o d else 0)=mM l d'+(if d=d' then n else 0):=by have h1:=Mv (λp=>if p.d=d' then p.n else 0) (o,d) l;rw[PG h.srt (o,d),show KL.get pk pG l (o,d)=DC l o d from rfl,uZ h o d,Nw]at h1;unfold mM mO zC KL.put;rw[h1];simp only[List.map_append,List.sum_append,Nw];omega
theorem yF {l:List PurseD}(h:bB l)(o d:ByteArray):amtP l o d<=mM l d:=by have:=Ec h o d 0 d;simp at this;omega
theorem oD {l:List PurseD}(h:bB l)(o d:ByteArray)(n:Nat):bB (burnP l o d n).1:=by
 have hnil:bB []:=⟨by simp,by simp,by simp,by simp,List.Pairwise.nil⟩
 unfold burnP;split
 ·exact hnil
 ·split
  ·exact hnil
  ·rename_i hw ha;simp only[Bool.not_eq_true',Bool.not_eq_false,Bool.and_eq_true]at hw;have:=Q_ h o d;refine BF h hw.1 hw.2 (by omega) ?_;rw[Eg h];have:=h.len;split<;>split<;>omega
theorem rW {l:List PurseD}(h:bB l)(o d:ByteArray)(n:Nat):bB (mintP l o d n).1:=by
 have hnil:bB []:=⟨by simp,by simp,by simp,by simp,List.Pairwise.nil⟩
 unfold mintP;split
 ·exact hnil
 ·split
  ·exact h
  ·split
   ·exact hnil
   ·split
    ·exact hnil
    ·rename_i hw h0 hs ha;simp only[Bool.not_eq_true',Bool.not_eq_false,Bool.and_eq_true]at hw;have:=yF h o d;refine BF h hw.1 hw.2 (by omega) ?_;rw[Eg h];have:=h.len;split<;>split<;>omega
theorem oq {l:List PurseD}(h:bB l)(o t d:ByteArray)(n:Nat):bB (jQ l o t d n).1:=by
 unfold jQ;split
 ·exact rW (oD h o d n) t d n
 ·exact⟨by simp,by simp,by simp,by simp,List.Pairwise.nil⟩
theorem burn_ok {l:List PurseD}(h:bB l){o d:ByteArray}{n:Nat}(he:(burnP l o d n).2=0):
  n<=amtP l o d/\(∀o' d',amtP (burnP l o d n).1 o' d'=if o'=o/\d'=d then amtP l o d-n else amtP l o' d')/\∀d',mM (burnP l o d n).1 d'+(if d=d' then n else 0)=mM l d':=by
 unfold burnP at he⊢;split at he
 ·cases he
 ·split at he
  ·cases he
  ·rename_i hw ha;rw[if_neg hw,if_neg ha];refine⟨by omega,λo' d'=>QZ h o d _ o' d',λd'=>?_⟩;have:=Ec h o d (amtP l o d-n) d';simp only;split at this<;>simp_all<;>omega
theorem mint_ok {l:List PurseD}(h:bB l){o d:ByteArray}{n:Nat}(he:(mintP l o d n).2=0):
  (∀o' d',amtP (mintP l o d n).1 o' d'=if o'=o/\d'=d then amtP l o d+n else amtP l o' d')/\(∀d',mM (mintP l o d n).1 d'=mM l d'+(if d=d' then n else 0))/\(n≠0->mM l d+n<18446744073709551616):=by
 unfold mintP at he⊢;split at he
 ·cases he
 ·rename_i hw;rw[if_neg hw];split at he
  ·rename_i hn;rw[if_pos hn];subst hn;refine⟨λo' d'=>?_,λd'=>by simp,λhc=>absurd rfl hc⟩;split
   ·rename_i hk;rw[hk.1,hk.2];rfl
   ·rfl
  ·rename_i hn;rw[if_neg hn];split at he
   ·cases he
   ·rename_i hs;rw[if_neg hs];split at he
    ·cases he
    ·rename_i ha;rw[if_neg ha];refine⟨λo' d'=>QZ h o d _ o' d',λd'=>?_,λ_=>by omega⟩;have:=Ec h o d (amtP l o d+n) d';simp only;split at this<;>simp_all<;>omega
theorem zT {l:List PurseD}(h:bB l){o t d:ByteArray}{n:Nat}(he:(jQ l o t d n).2=0):
  n<=amtP l o d/\(∀o' d',amtP (jQ l o t d n).1 o' d'=(if o'=o/\d'=d then amtP l o d-n else amtP l o' d')+(if o'=t/\d'=d then n else 0))/\∀d',mM (jQ l o t d n).1 d'=mM l d':=by
 unfold jQ at he⊢;split at he
 ·rename_i hb;rw[if_pos hb];have hr:=oD h o d n;obtain⟨h1,h2,h3⟩:=burn_ok h hb;obtain⟨g1,g2,_⟩:=mint_ok hr he;refine⟨h1,λo' d'=>?_,λd'=>?_⟩
  ·rw[g1];by_cases hk:o'=t/\d'=d
   ·rw[if_pos hk,if_pos hk,h2,hk.1,hk.2]
   ·rw[if_neg hk,if_neg hk,h2];rfl
  ·rw[g2,<- h3 d']
 ·rename_i hb;exact absurd he hb
def qa:=an3 @Ty.T3 @Ty.T9 @Ty.T78
def nS:=an5 @Ty.T3 @Ty.T9 @Ty.T26 @Ty.T59 @Ty.aiM
def zi:=an5 @Ty.T0 @Ty.T9 @Ty.T26 @Ty.T59 @Ty.aiM
theorem LW (l:List ByteArray)(hl:l.length<=100):PureD Tryz.prog 241 [.i (.sl (l.map λs=>[sI s]))] (intD (if l.all wordOk then 0 else 4)):=by
 generalize hR:(if l.all wordOk then 0 else 4:Int)=R;refine aa 20 Tryz.func241 ?_;refine gx (an qa @sI.eq_1) ?_;refine bO (ι:=Nat) (λi=>i<=l.length/\(if(l.drop i).all wordOk then 0 else 4:Int)=R)
  (λi=>dP [(2,intD 0),(5,.i (.sl (l.map λs=>[sI s]))),(6,intD l.length),(7,intD i)] []) (λi=>l.length-i) 0 ⟨Nat.zero_le _,hR⟩ ?_ ?_
 ·refine aj _ _ [] [] ?_ ?_ rfl rfl
  ·simp[cv,cvL,cv1,cv0,upd,lk,az,intD,sI]
  ·simp
 ·rintro i ⟨hi,hr⟩;clear hR;rw[ag];by_cases h:i<l.length
  ·have g1:decide ((i:Int)<(l.length:Int))=true:=decide_eq_true (by omega);have e1:(l.map λs=>[sI s])[i]?=some [sI l[i]]:=by rw[List.getElem?_map,List.getElem?_eq_getElem h];rfl
   have w1:IntKind.i64.wrap ((i:Int)+1)=((i+1:Nat):Int):=by rw[au (by omega) (by omega)];omega
   rw[List.drop_eq_getElem_cons h,List.all_cons]at hr;generalize l[i]=s at*;simp only[sI]at e1;by_cases h1:1<=s.size
   ·have g2:decide ((s.size:Int)<1)=false:=decide_eq_false (by omega);by_cases h2:s.size<=40
    ·have g3:decide ((40:Int)<(s.size:Int))=false:=decide_eq_false (by omega);have hw:wordOk s=true:=wordOk_iff.2 ⟨h1,h2⟩;rw[hw,Bool.true_and]at hr;refine gx (an8 qa @intD.eq_1 @sI.eq_1 g1 e1 g2 g3 w1) ?_;refine⟨i+1,⟨h,hr⟩,aj _ _ [] [] ?_ ?_ rfl rfl,by simp;omega⟩
     ·simp[cv,cvL,cv1,cv0,upd,lk,az,intD,sI]
     ·simp
    ·have g3:decide ((40:Int)<(s.size:Int))=true:=decide_eq_true (by omega);have hw:wordOk s=false:=by simp[wordOk];omega
     rw[hw,Bool.false_and,if_neg (by simp)]at hr;subst hr;refine gx (an7 qa @intD.eq_1 @sI.eq_1 g1 e1 g2 g3) ?_;refine aA [] rfl ?_;simp[cv,cv1,cv0,upd,intD]
   ·have g2:decide ((s.size:Int)<1)=true:=decide_eq_true (by omega);have hw:wordOk s=false:=by simp[wordOk];omega
    rw[hw,Bool.false_and,if_neg (by simp)]at hr;subst hr;refine gx (an6 qa @intD.eq_1 @sI.eq_1 g1 e1 g2) ?_;refine aA [] rfl ?_;simp[cv,cv1,cv0,upd,intD]
  ·have g1:decide ((i:Int)<(l.length:Int))=false:=decide_eq_false (by omega);rw[List.drop_eq_nil_of_le (by omega)]at hr;simp only[List.all_nil,if_true]at hr;subst hr;refine gx (an3 qa @intD.eq_1 g1) ?_;refine aA [] rfl ?_;simp[cv,cv1,cv0,upd,intD]
theorem SI {l:List PurseD}{d:ByteArray}{i:Nat}(h:i<l.length):mM (l.take (i+1)) d=mM (l.take i) d+if l[i].d=d then l[i].n else 0:=by unfold mM;rw[List.take_succ_eq_append_getElem h,List.map_append,List.sum_append];simp
def ovr (n:Nat):Nat:=if 18446744073709551616<=n then 1 else 0
theorem aff (a b:ByteArray):(a==b)=decide (a=b):=by
 obtain⟨a⟩:=a;obtain⟨b⟩:=b;show(a==b)=_;by_cases h:a=b
 ·subst h;simp
 ·rw[decide_eq_false (λe=>h (by injection e))];exact beq_eq_false_iff_ne.2 h
theorem agZ:bits .or .u64 0 0=0:=by decide
theorem agY:bits .or .u64 0 1=1:=by decide
theorem agX:bits .or .u64 1 0=1:=by decide
theorem agW:bits .or .u64 1 1=1:=by decide
theorem SH (l:List PurseD)(d:ByteArray)(hl:l.length<=1048576)(hn:∀p∈l,p.n<18446744073709551616):
  PureD Tryz.prog 271 [.i (oF l),sD d] (.tup [wD (if 18446744073709551616<=mM l d then 0 else mM l d),boolD (decide (18446744073709551616<=mM l d))]):=by
 refine aa 35 Tryz.func271 ?_;refine gx (an3 nS @oF.eq_1 @sD.eq_1) ?_;refine bO (ι:=Nat) (λi=>i<=l.length)
  (λi=>dP [(1,sD d),(6,wD (mM (l.take i) d%18446744073709551616)),(7,wD (ovr (mM (l.take i) d))),(11,.i (.sl (l.map bf))),(12,intD l.length),(13,intD i)] []) (λi=>l.length-i) 0 (Nat.zero_le _) ?_ ?_
 ·refine aj _ _ [] [] ?_ ?_ rfl rfl
  ·simp[cv,cvL,cv1,cv0,upd,lk,az,intD,sI,wD,mM,ovr,sD]
  ·simp
 ·rintro i hi;rw[ag];by_cases h:i<l.length
  ·have g1:decide ((i:Int)<(l.length:Int))=true:=decide_eq_true (by omega);have e1:(l.map bf)[i]?=some (bf l[i]):=by rw[List.getElem?_map,List.getElem?_eq_getElem h];rfl
   have w1:IntKind.i64.wrap ((i:Int)+1)=((i+1:Nat):Int):=by rw[au (by omega) (by omega)];omega
   have hs:=SI (d:=d) h;have hpn:=hn l[i] (List.getElem_mem h);generalize l[i]=p at*;generalize hS':mM (l.take (i+1)) d=S' at*;generalize hS:mM (l.take i) d=S at*;simp only[bf]at e1;by_cases hd:p.d=d
   ·have g2:(p.d==d)=true:=by rw[aff];exact decide_eq_true hd
    rw[if_pos hd]at hs;have a1:S%18446744073709551616<18446744073709551616:=Nat.mod_lt _ (by decide);have hadd:=Ba (S%18446744073709551616) p.n 0 a1 hpn (by decide);have hm:(S%18446744073709551616+p.n+0)%18446744073709551616=S'%18446744073709551616:=by omega
    rw[hm]at hadd;have hor:(∃c:Nat,(S%18446744073709551616+p.n+0)/18446744073709551616=c/\((ovr S=0/\c=0/\ovr S'=0)\/(ovr S=0/\c=1/\ovr S'=1)\/(ovr S=1/\c=0/\ovr S'=1)\/(ovr S=1/\c=1/\ovr S'=1))):=by
     refine⟨_,rfl,?_⟩;have:(S%18446744073709551616+p.n+0)/18446744073709551616=0\/(S%18446744073709551616+p.n+0)/18446744073709551616=1:=by omega
     unfold ovr;rcases this with e|e<;>rw[e]<;>by_cases k1:18446744073709551616<=S<;>by_cases k2:18446744073709551616<=S'<;>first|(simp[k1,k2];done)|(exfalso;omega)
    obtain⟨c,hc,hor⟩:=hor;rw[hc]at hadd;generalize S%18446744073709551616=A at*;generalize hB:S'%18446744073709551616=B at*;have fin:∀x y:Nat,ovr S=x->c=y->((x=0/\y=0/\ovr S'=0)\/(x=0/\y=1/\ovr S'=1)\/(x=1/\y=0/\ovr S'=1)\/(x=1/\y=1/\ovr S'=1)):=by intro x y hx hy;rw[<- hx,<- hy];exact hor
    generalize ovr S=x at*;generalize hO:ovr S'=z at*;rcases hor with⟨rfl,rfl,rfl⟩|⟨rfl,rfl,rfl⟩|⟨rfl,rfl,rfl⟩|⟨rfl,rfl,rfl⟩ <;>
    ·refine gx (an9 nS @intD.eq_1 @sD.eq_1 @wD.eq_1 g1 e1 g2 @Int.natCast_zero @Int.natCast_one) ?_;refine jF hadd ?_;refine gx (an7 nS @intD.eq_1 @sD.eq_1 @wD.eq_1 w1 @Int.natCast_zero @Int.natCast_one) ?_;refine⟨i+1,h,aj _ _ [] [] ?_ ?_ rfl rfl,by simp;omega⟩
     ·simp[cv,cvL,cv1,cv0,upd,lk,az,intD,sI,wD,sD,hS',hB,hO,agZ,agY,agX,agW]
     ·simp
   ·have g2:(p.d==d)=false:=by rw[aff];exact decide_eq_false hd
    rw[if_neg hd]at hs;obtain rfl:S'=S:=hs;refine gx (an8 nS @intD.eq_1 @sD.eq_1 @wD.eq_1 g1 e1 g2 w1) ?_;refine⟨i+1,h,aj _ _ [] [] ?_ ?_ rfl rfl,by simp;omega⟩
    ·simp[cv,cvL,cv1,cv0,upd,lk,az,intD,sI,wD,sD,hS']
    ·simp
  ·have g1:decide ((i:Int)<(l.length:Int))=false:=decide_eq_false (by omega);have ht:l.take i=l:=List.take_of_length_le (by omega);rw[ht];generalize mM l d=S;by_cases hS:18446744073709551616<=S
   ·have hov:ovr S=1:=by simp[ovr,hS]
    rw[hov,if_pos hS,decide_eq_true hS];refine gx (an6 nS @intD.eq_1 @wD.eq_1 g1 @Int.natCast_one @Int.natCast_zero) ?_;refine dC [] rfl ?_;simp[cv,cvT,cv1,cv0,upd,intD,boolD,wD]
   ·have hov:ovr S=0:=by simp[ovr,hS]
    have hm:S%18446744073709551616=S:=Nat.mod_eq_of_lt (by omega);rw[hov,if_neg hS,decide_eq_false hS,hm];refine gx (an5 nS @intD.eq_1 @wD.eq_1 g1 @Int.natCast_zero) ?_;refine dC [] rfl ?_;simp[cv,cvT,cv1,cv0,upd,intD,boolD,wD]
theorem Mg (l:List PurseD):uni 3 (l.map bf)=true:=by simp[uni,bf]
theorem wR (l:List PurseD)(hl:l.length<=1048576):aL Tryz.prog 161 [.i (oF l)] noH (.os 1 3 0 l.length) (hOf noH [(1,.arr 3 (l.map bf))]):=by
 cases l with
 |nil =>
  refine ko (gH Tryz.func161 rfl rfl) λK vs hrd=>?_;obtain⟨hs,hg⟩:=hrd;obtain⟨a,c,hv⟩:∃a c,vs.getD 0 undef=.slice a 0 c:=by
   have:=hg 0 _ rfl;generalize vs.getD 0 undef=v at this;cases this with
   |i hx =>
    cases hx with
    |e a c=>exact⟨a,c,rfl⟩
    |sl b off cap sz es f h1 h2=>exact⟨_,_,rfl⟩
  refine⟨[.i (.s (.slice a 0 c))],?_,hs,λj d hd=>?_⟩
  ·have hun:=ahq;refine aa 8 Tryz.func161 ?_;cases a with
   |none =>
    refine gx (an3 zi (jv hun) @Option.isNone_none.{0}) ?_;refine dN [(1,.arr 3 [])] [] [] rfl ?_ ?_ rfl ?_ rfl
    ·simp[cv,cv1,cv0,upd,jc,hF,lk,noH]
    ·simp[aX,jc,lk,cvO,frz,upd,hF,noH]
    ·simp[noH]
   |some a =>
    refine gx (an3 zi (jv hun) @Option.isNone_some.{0}) ?_;refine dN [(1,.arr 3 [])] [] [(1,1770)] rfl ?_ ?_ rfl ?_ rfl
    ·simp[cv,cv1,cv0,upd,jc,hF,lk,noH]
    ·simp[aX,jc,lk,cvO,frz,upd,hF,noH]
    ·simp[noH]
  ·cases j with
   |zero=>simp at hd;subst hd;rw[hv];exact .i (.s _ rfl)
   |succ j=>simp at hd
 |cons p t =>
  have hu:=Mg t;have e3:t.length+1<=140737488355328:=by simp at hl;omega
  have e4:(t.length+1)*40<=140737488355328:=by simp at hl;omega
  have e5:(bf p).length=3:=rfl;refine aa 8 Tryz.func161 ?_;refine gx (an9 zi @oF.eq_1 hu e3 e4 e5 @List.map_cons.{0,0} @List.length_cons.{0} @List.length_map.{0,0}) ?_;refine dN [(1,.arr 3 ((p::t).map bf))] [] [(1,1770)] rfl ?_ ?_ rfl ?_ rfl
  ·simp[cv,cv1,cv0,upd,jc,hF,lk,noH]
  ·simp[aX,jc,lk,cvO,frz,upd,hF,noH]
  ·simp[noH]
def uD:=an6 @Ty.T3 @Ty.T4 @Ty.T9 @Ty.T26 @Ty.T59 @Ty.aiM
theorem Et {G:Nat->Ob}{o o2 off off2 len len2 cap:Nat}{es es2:List (List I)}(ho:G o=.arr 3 es)(ho2:G o2=.arr 3 es2)(hne:o≠o2)(h1:0<len)(h2:0<len2):
  Sg Tryz.prog 284 [.os o2 3 off2 len2,.oc o 3 off len cap] G (boolD false) G:=by
 intro K0 T K vs hr hrd;obtain⟨hs,hg⟩:=hrd;have e:vs=#[vs.getD 0 undef,vs.getD 1 undef]:=by
  apply Array.ext
  ·simpa using hs
  ·intro i h1 h2;simp at hs;have:i=0\/i=1:=by omega
   rcases this with rfl|rfl<;>simp[Array.getD,hs]
 have hrun:=nz (P:=Tryz.prog) (t:=26) (tR:=4) (s:=3) Tryz.underlying26 (fD (by kernel_rfl)) hr (hg 0 _ rfl) (hg 1 _ rfl) ho ho2 hne h1 h2;rw[e];refine⟨.bool false,K,?_,Ext.refl K,hr,.i (.s _ rfl)⟩;rw[run_callFunc_extern Tryz.func284 (by kernel_rfl) (by kernel_rfl) (by kernel_rfl) (e:=Extern.SlicesOverlaps.overlaps #[26,26] #[4]) (by kernel_rfl),hrun];rfl
theorem OU (es:List (List I))(p:List I)(i:Nat)(hi:i<=es.length)(hl:es.length<=1048576)(hu:∀e∈es,e.length=3)(hp:p.length=3):
  aL Tryz.prog 273 [.os 0 3 0 es.length,intD i,.os 2 3 0 1] (hF [(0,.arr 3 es),(2,.arr 3 [p])]) (.os 1 3 0 (es.length+1))
   (hOf (hF [(0,.arr 3 es),(2,.arr 3 [p])]) [(1,.arr 3 (es.take i++p::es.drop i))]):=by
 have hu2:=uN hu;by_cases hin:i=es.length
 ·subst hin;have e3:es.length+1<=140737488355328:=by omega
  have e4:(es.length+1)*40<=140737488355328:=by omega
  refine aP 95 Tryz.func273 rfl rfl rfl (λo ho=>by simp[hF,lk,show o≠0 by omega,show o≠1 by omega,show o≠2 by omega,show o≠3 by omega,show o≠4 by omega,show o≠5 by omega]) ?_;refine gx (an8 uD @intD.eq_1 e3 e4 @hp hu2 @Int.le_refl @Nat.sub_self) ?_;refine dN [(1,.arr 3 (es++[p]))] [] [(1,2794)] rfl ?_ ?_ rfl ?_ rfl
  ·simp[cv,cv1,cv0,upd,jc,hF,lk]
  ·simp[aX,jc,lk,cvO,frz,upd,hF]
  ·simp[hF,lk]
 ·have hlt:i<es.length:=by omega
  refine wz (by omega) λc hc=>?_;have g1:decide ((i:Int)=(es.length:Int))=false:=decide_eq_false (by omega);have w1:IntKind.i64.wrap ((es.length:Int)+1)=((es.length+1:Nat):Int):=by rw[au (by omega) (by omega)];omega
  have w2:IntKind.i64.wrap ((i:Int)+1)=((i+1:Nat):Int):=by rw[au (by omega) (by omega)];omega
  have l1:(i<=es.length)=True:=eq_true (by omega);have l2:(es.length<=c)=True:=eq_true (by omega);have l3:(i<=es.length+1)=True:=eq_true (by omega);have l6:(i<=c)=True:=eq_true (by omega);have l4:(i+1<=es.length+1)=True:=eq_true (by omega);have m2:i+(es.length-i)=es.length:=by omega
  have m4:min 1 (es.length+1-i)=1:=by omega
  have l7:(es.length-i<=es.length+1-i)=True:=eq_true (by omega);have l8:(i+1<=es.length)=True:=eq_true (by omega);have tk:(es.drop i).take (es.length-i)=es.drop i:=List.take_of_length_le (by simp);have hu3:uni 3 (es.drop i)=true:=uN λe he=>hu e (List.mem_of_mem_drop he);by_cases hroom:es.length+1<=c
  ·have g2:decide ((c:Int)<((es.length+1:Nat):Int))=false:=decide_eq_false (by omega);have l5:(es.length+1<=c)=True:=eq_true (by omega);have m1:min (es.length+1-i) (es.length+1-(i+1))=es.length-i:=by omega
   have l9:(i<=(over es (i+1) (es.drop i)).length)=True:=eq_true (by unfold over;simp;omega);have hos:=wG (p:=p) hlt;refine aP 95 Tryz.func273 rfl rfl rfl (λo ho=>by simp[hF,lk,show o≠0 by omega,show o≠1 by omega,show o≠2 by omega,show o≠3 by omega,show o≠4 by omega,show o≠5 by omega]) ?_;refine gx2 (an9 uD @intD.eq_1 g1 g2 w1 w2 l1 l2 (an9 l3 l4 l5 @true_or @Nat.sub_zero @Nat.zero_le l6 @hp hu2)) ?_;refine⟨_,_,.inr (Et (len:=es.length+1-(i+1)) (len2:=1) (by simp[hF,lk];rfl) (by simp[hF,lk];rfl) (by decide) (by omega) (by omega)),?_⟩;refine gx2 (an9 uD @boolD.eq_1 @intD.eq_1 w1 w2 l1 l2 l3 (an9 l4 l5 @true_or @Nat.sub_zero @Nat.zero_le l6 @hp hu2 (an8 @m1 @m2 @m4 l7 l8 l9 @tk hu3))) ?_;have hos2:(over (over es (i+1) (es.drop i)) i [p]).take (es.length+1)=es.take i++p::es.drop i:=by rw[hos];exact List.take_of_length_le (by simp;omega)
   rw[<- hos2];exact CO (o:=0) (cap:=c) rfl (by simp[upd]) (by simp[upd,hF,lk]) (by simp[upd,hF,lk]) (by simp[hF,lk]) (by simp[hF,lk])
  ·have g2:decide ((c:Int)<((es.length+1:Nat):Int))=true:=decide_eq_true (by omega);have l5:(c<es.length+1)=True:=eq_true (by omega);have s1:i+(es.length+1-i)=es.length+1:=by omega
   have e3:es.length+1<=140737488355328:=by omega
   have e4:(es.length+1)*40<=140737488355328:=by omega
   have m1:min (es.length-i) (es.length+1-(i+1))=es.length-i:=by omega
   have L1:((i:Int)<=((es.length+1:Nat):Int))=True:=eq_true (by omega);have L2:(((i+1:Nat):Int)<=((es.length+1:Nat):Int))=True:=eq_true (by omega);have hti:(es.take i).length=i:=by simp;omega
   have l9:(i+1<=(over (es.take i++List.replicate (es.length+1-i) [I.s (.string ⟨#[]⟩),I.s (.string ⟨#[]⟩),I.s (.int .u64 0)]) i [p]).length)=True:=eq_true (by rw[zK (by simp;omega)];simp;omega);have hos:=Ac (es:=es) (R:=List.replicate (es.length+1-i) [I.s (.string ⟨#[]⟩),I.s (.string ⟨#[]⟩),I.s (.int .u64 0)]) (p:=p) hlt (by simp);have w3:IntKind.i64.wrap (((es.length+1:Nat):Int)-(i:Int))=((es.length+1-i:Nat):Int):=by rw[au (by omega) (by omega)];omega
   refine aP 95 Tryz.func273 rfl rfl rfl (λo ho=>by simp[hF,lk,show o≠0 by omega,show o≠1 by omega,show o≠2 by omega,show o≠3 by omega,show o≠4 by omega,show o≠5 by omega]) ?_;refine gx2 (an9 uD @intD.eq_1 g1 g2 w1 w2 w3 l1 (an9 l2 l3 l4 l5 @true_or @Nat.sub_zero @Nat.zero_le l6 (an9 @hp hu2 @s1 e3 e4 @L1 @L2 @m4 (an8 @m1 @m2 @hti l7 l8 l9 @tk hu3)))) ?_;refine dN [(1,.arr 3 (es.take i++p::es.drop i))] [] [(1,3312)] rfl ?_ ?_ rfl ?_ rfl
   ·simp[cv,cv1,cv0,upd,jc,hF,lk]
   ·simp[aX,jc,lk,cvO,frz,upd,hF,hos]
   ·simp[hF,lk]
def Sz:=an5 @Ty.T3 @Ty.T9 @Ty.T26 @Ty.T59 @Ty.aiM
theorem PQ (es:List (List I))(i:Nat)(hi:i<es.length)(hl:es.length<=1048576)(hu:∀e∈es,e.length=3):
  aL Tryz.prog 269 [.os 0 3 0 es.length,intD i,intD (i+1:Nat)] (hF [(0,.arr 3 es)]) (.os 1 3 0 (es.length-1))
   (hOf (hF [(0,.arr 3 es)]) [(1,.arr 3 (es.take i++es.drop (i+1)))]):=by
 have hu2:=uN hu;have hu3:uni 3 (es.drop (i+1))=true:=uN λe he=>hu e (List.mem_of_mem_drop he);refine wz (by omega) λc hc=>?_;have g1:decide ((i:Int)=((i+1:Nat):Int))=false:=decide_eq_false (by omega);have l1:(i<=i+1)=True:=eq_true (by omega);have l2:(i+1<=es.length)=True:=eq_true (by omega);have l3:(es.length<=c)=True:=eq_true (by omega);have l4:(i<=c)=True:=eq_true (by omega);have l5:(i<=es.length)=True:=eq_true (by omega);have l6:(es.length-1<=es.length)=True:=eq_true (by omega);have l7:(es.length-1<=c)=True:=eq_true (by omega);have m1:i+(es.length-(i+1))=es.length-1:=by omega
 have m2:i+1+(es.length-(i+1))=es.length:=by omega
 have tk:(es.drop (i+1)).take (es.length-(i+1))=es.drop (i+1):=List.take_of_length_le (by simp);have l8:(es.length-1<=(over es i (es.drop (i+1))).length)=True:=eq_true (by unfold over;simp;omega);refine aP 33 Tryz.func269 rfl rfl rfl (λo ho=>by simp[hF,lk,show o≠0 by omega,show o≠1 by omega,show o≠2 by omega,show o≠3 by omega,show o≠4 by omega,show o≠5 by omega]) ?_;refine gx2 (an9 Sz @intD.eq_1 g1 l1 l2 l3 l4 l5 (an9 l6 l7 l8 @m1 @m2 @tk hu2 hu3 (an4 @or_true @true_or @Nat.sub_zero @Nat.zero_le))) ?_;have hos:=Jc (R:=List.replicate (es.length-(es.length-1)) [I.s (.string ⟨#[]⟩),I.s (.string ⟨#[]⟩),I.s (.int .u64 0)]) hi;rw[<- hos];exact CO (o:=0) (cap:=c) rfl (by simp[upd]) (by simp[upd,hF,lk]) (by simp[upd,hF,lk]) (by simp[hF,lk]) (by simp[hF,lk])
theorem LX (o d:ByteArray):[o,d].all wordOk=(wordOk o&&wordOk d):=by simp
theorem es3 (l:List PurseD):∀e∈l.map bf,e.length=3:=by intro e he;simp only[List.mem_map]at he;obtain⟨q,_,rfl⟩:=he;rfl
attribute [local simp,local go_sem] oF sD wD
theorem XQ (l:List PurseD)(h:bB l)(o d:ByteArray)(n:Nat)(hn:n<18446744073709551616):
  PureD Tryz.prog 249 [.i (oF l),sD o,sD d,wD n] (.tup [.i (oF (burnP l o d n).1),intD (burnP l o d n).2]):=by
 refine ai λR hR=>?_;have c1:=LW [o,d] (by simp);rw[LX]at c1;have hlen:=h.len;have c2:=VE l o d (by omega) h.srt;have e1:=wR l (by omega);have c3:=Ep l o d (by omega) h.srt;have hlt:=Q_ h o d;have hga:=uZ h o d;simp only[List.map_cons,List.map_nil,sI]at c1;unfold burnP at hR;generalize(wordOk o&&wordOk d)=B at*;cases B
 ·simp only[Bool.not_false,if_true,Bool.false_eq_true,if_false]at hR c1;clear c2 c3 e1 h hga hlt;refine aa 58 Tryz.func249 ?_;exact wkl trivial
 ·simp only[Bool.not_true,Bool.false_eq_true,if_false,if_true]at hR c1;by_cases ha:amtP l o d<n
  ·rw[if_pos ha]at hR;have g1:((amtP l o d:Nat):Int)<(n:Int):=by omega
   generalize amtP l o d=A at*;clear c3 e1 h hga hlt ha;refine aa 58 Tryz.func249 ?_;exact wkl trivial
  ·rw[if_neg ha]at hR;simp only at hR;have g1:¬((amtP l o d:Nat):Int)<(n:Int):=by omega
   generalize hA:amtP l o d=A at*;cases hg:DC l o d with
   |none =>
    rw[hg]at c3 hga;have hA0:A=0:=by apply Decidable.byContradiction;intro hc;rw[if_neg hc]at hga;cases hga
    have hres:mO l o d (A-n)=l:=by unfold mO zC;rw[if_pos (by omega),KL.put_none cmpP_ok h.srt hg]
    rw[hres]at hR;generalize bX l o d=j at*;simp only[Option.isSome_none]at c3;clear h hga hg hlt ha hA hres hA0;refine aa 58 Tryz.func249 ?_;exact wkl trivial
   |some v =>
    rw[hg]at c3 hga;have hA0:A≠0:=by intro hc;rw[if_pos hc]at hga;cases hga
    rw[if_neg hA0]at hga;injection hga with hga
    subst hga;obtain⟨hp,hv⟩:=KL.place_lt cmpP_ok h.srt hg;have hp':bX l o d<l.length:=hp;have s1:(l.map bf)[bX l o d]?=some (bf ⟨o,d,A⟩):=by rw[List.getElem?_map,List.getElem?_eq_getElem hp,hv];rfl
    have w1:IntKind.u64.wrap ((A:Int)-(n:Int))=((A-n:Nat):Int):=by rw[IntKind.wrap_u64];omega
    simp only[bf]at s1;have s2:((l.map bf).set (bX l o d) [.s (.string o),.s (.string d),.s (.int .u64 ((A-n:Nat):Int))])[bX l o d]?=some [.s (.string o),.s (.string d),.s (.int .u64 ((A-n:Nat):Int))]:=by rw[List.getElem?_set];simp[hp']
    simp only[Option.isSome_some]at c3;by_cases h0:A-n=0
    ·have hz:((A-n:Nat):Int)=0:=by omega
     rw[hz]at w1 s2;have e2:=PQ ((l.map bf).set (bX l o d) [.s (.string o),.s (.string d),.s (.int .u64 0)]) (bX l o d) (by simpa using hp) (by simp;omega) (by
      intro e he;rcases List.mem_or_eq_of_mem_set he with he|rfl
      ·exact es3 l e he
      ·rfl)
     have hres:mO l o d (A-n)=l.take (bX l o d)++l.drop (bX l o d+1):=by unfold mO zC;rw[if_pos h0,KL.put_del cmpP_ok h.srt hg]
     have he2:((l.map bf).set (bX l o d) [.s (.string o),.s (.string d),.s (.int .u64 0)]).take (bX l o d)++((l.map bf).set (bX l o d) [.s (.string o),.s (.string d),.s (.int .u64 0)]).drop (bX l o d+1)=(mO l o d (A-n)).map bf:=by rw[hres,List.take_set_of_le (Nat.le_refl _),List.drop_set_of_lt (by omega),<- List.map_take,<- List.map_drop,List.map_append]
     have hln:l.length-1=(mO l o d (A-n)).length:=by rw[hres];simp;omega
     rw[he2]at e2;simp only[List.length_set,List.length_map,intD,Int.natCast_add,Int.natCast_one]at e2;rw[hln]at e2;generalize mO l o d (A-n)=R2 at*;generalize bX l o d=j at*;clear h hg hv hp hlt ha hA h0 hres he2 hA0 hln hz;refine aa 58 Tryz.func249 ?_;exact wkl trivial
    ·have hres:(l.map bf).set (bX l o d) [.s (.string o),.s (.string d),.s (.int .u64 ((A-n:Nat):Int))]=(mO l o d (A-n)).map bf:=by
      unfold mO zC;rw[if_neg h0,KL.put_hit cmpP_ok h.srt hg,List.set_eq_take_append_cons_drop,if_pos (by simpa using hp')];simp[bf]
     have hln:l.length=(mO l o d (A-n)).length:=by have:=congrArg List.length hres;simpa using this
     have g2:¬(((A-n:Nat):Nat):Int)=0:=by omega
     rw[hres]at s2;have tk:((mO l o d (A-n)).map bf).take l.length=(mO l o d (A-n)).map bf:=by rw[hln];simp
     replace hln:=hln.symm;generalize mO l o d (A-n)=R2 at*;generalize bX l o d=j at*;generalize A-n=B at*;clear h hg hv hp hlt ha hA h0 hA0;refine aa 58 Tryz.func249 ?_;exact wkl trivial
end Go.Proofs.YtdmeldhlbpdeeaaGreatDoor
namespace Go.Proofs.YtdmeldhlbpdeeaaGreatDoor
open Go Go.Abs Go.RowKit Go.Proofs.YtdmeldhlbpdeeaaGreatDoor.Ty
attribute [local simp,local go_sem] oF sD wD
theorem Oq (l:List PurseD)(h:bB l)(o d:ByteArray)(n:Nat)(hn:n<18446744073709551616):
  PureD Tryz.prog 252 [.i (oF l),sD o,sD d,wD n] (.tup [.i (oF (mintP l o d n).1),intD (mintP l o d n).2]):=by
 refine ai λR hR=>?_;have c1:=LW [o,d] (by simp);rw[LX]at c1;have hlen:=h.len;have e1:=wR l (by omega);have c2:=Ep l o d (by omega) h.srt;have c3:=SH l d (by omega) (λp hp=>(h.pos p hp).2);have hga:=uZ h o d;have has:=yF h o d;simp only[List.map_cons,List.map_nil,sI]at c1;unfold mintP at hR;generalize(wordOk o&&wordOk d)=B at*;cases B
 ·simp only[Bool.not_false,if_true,Bool.false_eq_true,if_false]at hR c1;clear c2 c3 e1 h hga has;refine aa 78 Tryz.func252 ?_;exact wkl trivial
 ·simp only[Bool.not_true,Bool.false_eq_true,if_false,if_true]at hR c1;by_cases h0:n=0
  ·subst h0;rw[if_pos rfl]at hR;have tk:(l.map bf).take l.length=l.map bf:=by rw[List.take_of_length_le (by simp)]
   clear c2 c3 h hga has;refine aa 78 Tryz.func252 ?_;exact wkl trivial
  ·rw[if_neg h0]at hR;have g1:¬((n:Nat):Int)=0:=by omega
   generalize hS:mM l d=S at*;by_cases hov:18446744073709551616<=S
   ·rw[if_pos hov,decide_eq_true hov]at c3;rw[if_pos (by omega)]at hR;have hadd:=Ba 0 n 0 (by decide) hn (by decide);generalize(0+n+0)%18446744073709551616=x1 at hadd;generalize(0+n+0)/18446744073709551616=x2 at hadd;clear c2 h hga has hov hn h0;refine aa 78 Tryz.func252 ?_;refine wkl ?_;clear hR;intro hR
    repeat' (intro _)
    refine jF hadd ?_;clear hadd;exact wkl trivial
   ·rw[if_neg hov,decide_eq_false hov]at c3;have hadd:=Ba S n 0 (by omega) hn (by decide);generalize(S+n+0)%18446744073709551616=x1 at hadd;generalize hx2:(S+n+0)/18446744073709551616=x2 at hadd;by_cases hsn:18446744073709551616<=S+n
    ·rw[if_pos hsn]at hR;have g2:(0:Int)<((x2:Nat):Int):=by omega
     clear c2 h hga has hov hn h0 hsn hx2;refine aa 78 Tryz.func252 ?_;refine wkl ?_;clear hR;intro hR
     repeat' (intro _)
     refine jF hadd ?_;clear hadd;exact wkl trivial
    ·rw[if_neg hsn]at hR;obtain rfl:x2=0:=by omega
     clear hx2;generalize hA:amtP l o d=A at*;cases hg:DC l o d with
     |none =>
      rw[hg]at c2 hga;have hA0:A=0:=by apply Decidable.byContradiction;intro hc;rw[if_neg hc]at hga;cases hga
      subst hA0;simp only[Option.isSome_none]at c2;by_cases h60:l.length=60
      ·have g3:((l.length:Nat):Int)=60:=by omega
       rw[if_pos ⟨rfl,h60⟩]at hR;generalize bX l o d=j at*;clear h hga has hov hn h0 hsn h60 hg hA hS;refine aa 78 Tryz.func252 ?_;refine wkl ?_;clear hR;intro hR
       repeat' (intro _)
       refine jF hadd ?_;clear hadd;exact wkl trivial
      ·have g3:¬((l.length:Nat):Int)=60:=by omega
       rw[if_neg (λe=>h60 e.2)]at hR;have hj:bX l o d<=l.length:=KL.place_le cmpP_ok l _;have e2:=OU (l.map bf) [.s (.string o),.s (.string d),.s (.int .u64 n)] (bX l o d) (by simpa using hj) (by simp;omega) (es3 l) rfl;have hres:mO l o d (0+n)=l.take (bX l o d)++⟨o,d,n⟩::l.drop (bX l o d):=by unfold mO zC;rw[if_neg (by omega),KL.put_miss cmpP_ok h.srt hg,Nat.zero_add]
       have he2:(l.map bf).take (bX l o d)++[.s (.string o),.s (.string d),.s (.int .u64 n)]::(l.map bf).drop (bX l o d)=(mO l o d (0+n)).map bf:=by rw[hres,<- List.map_take,<- List.map_drop];simp[bf]
       have hln:l.length+1=(mO l o d (0+n)).length:=by rw[hres];simp;omega
       rw[he2]at e2;simp only[List.length_map,intD]at e2;rw[hln]at e2;generalize mO l o d (0+n)=R2 at*;generalize bX l o d=j at*;clear h hga has hov hn h0 hsn h60 hg hA hS hln he2 hres hj;refine aa 78 Tryz.func252 ?_;refine wkl ?_;clear hR;intro hR
       repeat' (intro _)
       refine jF hadd ?_;clear hadd;exact wkl trivial
     |some v =>
      rw[hg]at c2 hga;have hA0:A≠0:=by intro hc;rw[if_pos hc]at hga;cases hga
      rw[if_neg hA0]at hga;injection hga with hga
      subst hga;rw[if_neg (λe=>hA0 e.1)]at hR;simp only[Option.isSome_some]at c2;obtain⟨hp,hv⟩:=KL.place_lt cmpP_ok h.srt hg;have hp':bX l o d<l.length:=hp;have s1:(l.map bf)[bX l o d]?=some (bf ⟨o,d,A⟩):=by rw[List.getElem?_map,List.getElem?_eq_getElem hp,hv];rfl
      have w1:IntKind.u64.wrap ((A:Int)+(n:Int))=((A+n:Nat):Int):=by rw[IntKind.wrap_u64];omega
      simp only[bf]at s1;have hres:(l.map bf).set (bX l o d) [.s (.string o),.s (.string d),.s (.int .u64 ((A+n:Nat):Int))]=(mO l o d (A+n)).map bf:=by unfold mO zC;rw[if_neg (by omega),KL.put_hit cmpP_ok h.srt hg,List.set_eq_take_append_cons_drop,if_pos (by simpa using hp')];simp[bf]
      have hln:l.length=(mO l o d (A+n)).length:=by have:=congrArg List.length hres;simpa using this
      have tk:((mO l o d (A+n)).map bf).take l.length=(mO l o d (A+n)).map bf:=by rw[hln];simp
      replace hln:=hln.symm;generalize mO l o d (A+n)=R2 at*;generalize bX l o d=j at*;generalize A+n=B at*;clear h has hov hn h0 hsn hg hA hA0 hS hp hv;refine aa 78 Tryz.func252 ?_;refine wkl ?_;clear hR;intro hR
      repeat' (intro _)
      refine jF hadd ?_;clear hadd;exact wkl trivial
theorem Ib (l:List PurseD)(h:bB l)(o t d:ByteArray)(n:Nat)(hn:n<18446744073709551616):
  PureD Tryz.prog 212 [.i (oF l),sD o,sD t,sD d,wD n] (.tup [.i (oF (jQ l o t d n).1),intD (jQ l o t d n).2]):=by
 refine ai λR hR=>?_;have c1:=XQ l h o d n hn;have c2:=Oq (burnP l o d n).1 (oD h o d n) t d n hn;unfold jQ at hR;clear h;generalize burnP l o d n=R2 at*;obtain⟨m,e⟩:=R2;simp only at*;generalize mintP m t d n=R3 at*;by_cases he:e=0
 ·subst he;rw[if_pos rfl]at hR;refine aa 32 Tryz.func212 ?_;exact wkl trivial
 ·have g1:¬((e:Nat):Int)=0:=by omega
  rw[if_neg he]at hR;refine aa 32 Tryz.func212 ?_;exact wkl trivial
end Go.Proofs.YtdmeldhlbpdeeaaGreatDoor
namespace Go.Proofs.YtdmeldhlbpdeeaaGreatDoor
open Go Go.Abs Go.RowKit Go.Proofs.YtdmeldhlbpdeeaaGreatDoor.Ty
def acm:List PurseD->List PurseD->Bool
 |[],[]=>true
 |a::x,b::y=>(decide (a.o=b.o)&&(decide (a.d=b.d)&&decide (a.n=b.n)))&&acm x y
 |_,_=>false
structure eX where
 d:ByteArray
 n:Nat
 s:ByteArray
 r:ByteArray
def trD (t:eX):D:=.agg [.i (.s (.string t.d)),.i (.s (.int .u64 t.n)),.i (.s (.string t.s)),.i (.s (.string t.r))]
def jR (ch:Int):ByteArray:=⟨(Lib.itoa ch++[47]).toArray⟩
def jq (ch:Int):ByteArray:=⟨([35]++Lib.itoa ch).toArray⟩
def qK (s p:ByteArray):Bool:=decide (p.size<=s.size)&&(s.extract 0 p.size==p)
def XH (s p:ByteArray):ByteArray:=s.extract p.size s.size
def kK (l:List PurseD)(ch:Int)(t:eX):List PurseD×Nat:=if qK t.d (jR ch)=true then burnP l t.s t.d t.n else jQ l t.s (jq ch) t.d t.n
def nL (l:List PurseD)(ch:Int)(t:eX):List PurseD×Nat:=if qK t.d (jR ch)=true then mintP l t.s t.d t.n else jQ l (jq ch) t.s t.d t.n
def sj (l:List PurseD)(ch other:Int)(t:eX):List PurseD×Nat:=if qK t.d (jR other)=true then jQ l (jq ch) t.r (XH t.d (jR other)) t.n else mintP l t.r (jR ch++t.d) t.n
theorem Uw (p d:ByteArray):qK (p++d) p=true:=by
 have h1:(p++d).size=p.size+d.size:=by simp
 have h2:(p++d).extract 0 p.size=p:=by apply ByteArray.ext;rw[ByteArray.data_extract,ByteArray.data_append];show(p.data++d.data).extract 0 p.data.size=p.data;simp
 rw[qK,h1,h2,aff];simp
theorem Vp {l:List PurseD}{o d:ByteArray}{n:Nat}(ho:wordOk o=true)(hd:wordOk d=true)(hn:n<=amtP l o d):(burnP l o d n).2=0:=by unfold burnP;rw[if_neg (by simp[ho,hd]),if_neg (by omega)]
theorem mint_can {l:List PurseD}{o d:ByteArray}{n:Nat}(ho:wordOk o=true)(hd:wordOk d=true)(hn:n≠0)(hs:mM l d+n<18446744073709551616):(mintP l o d n).2=0\/((mintP l o d n).2=5/\l.length=60):=by
 unfold mintP;rw[if_neg (by simp[ho,hd]),if_neg hn,if_neg (by omega)];split
 ·rename_i h;exact .inr ⟨rfl,h.2⟩
 ·exact .inl rfl
theorem EJ {l:List PurseD}(h:bB l)(ch:Int)(t:eX):bB (kK l ch t).1:=by
 unfold kK;split
 ·exact oD h ..
 ·exact oq h ..
theorem Ld {l:List PurseD}(h:bB l)(ch:Int)(t:eX):bB (nL l ch t).1:=by
 unfold nL;split
 ·exact rW h ..
 ·exact oq h ..
theorem KW {l:List PurseD}(h:bB l)(ch other:Int)(t:eX):bB (sj l ch other t).1:=by
 unfold sj;split
 ·exact oq h ..
 ·exact rW h ..
def FY:=an5 @Ty.T3 @Ty.T4 @Ty.T5 @Ty.T29 @Ty.aiC
def gX:=an7 @Ty.T3 @Ty.T4 @Ty.T5 @Ty.T29 @Ty.T59 @Ty.aiD @Ty.aiC
def bL:=an9 @Ty.T1 @Ty.T3 @Ty.T4 @Ty.T5 @Ty.T29 @Ty.T59 @Ty.aiT @Ty.aiS (an @Ty.aiD @Ty.aiC)
def rdO (b:List UInt8)(bad:Bool):Ob:=.box [.i (.sl (b.map aH)),.i (.s (.bool bad))]
def wS (c:UInt8):D:=.i (.s (.int .u8 (c.toNat:Int)))
theorem Gv (bad:Bool):aL Tryz.prog 263 [.pt 0 0 0 0] (hF [(0,rdO [] bad)]) (wS 0) (hOf (hF [(0,rdO [] bad)]) [(0,rdO [] true)]):=by
 refine aP 28 Tryz.func263 rfl rfl rfl (λo ho=>by simp[hF,lk,show o≠0 by omega]) ?_;refine gx (an FY @rdO.eq_1) ?_;refine dN _ [] [] rfl ?_ ?_ rfl ?_ rfl
 ·simp[cv,cv1,cv0,upd,wS]
 ·simp[aX,jc,lk,cvO,cvL,cv0,frz,upd,hF,D.one]
 ·simp
theorem rG (c:UInt8)(b:List UInt8)(bad:Bool)(hb:b.length<=1048576):aL Tryz.prog 263 [.pt 0 0 0 0] (hF [(0,rdO (c::b) bad)]) (wS c) (hOf (hF [(0,rdO (c::b) bad)]) [(0,rdO b bad)]):=by
 refine aP 28 Tryz.func263 rfl rfl rfl (λo ho=>by simp[hF,lk,show o≠0 by omega]) ?_;have e1:(((b.length+1:Nat):Int)=0)=False:=by simp;omega
 refine gx (an3 FY @rdO.eq_1 e1) ?_;refine dN _ [] [] rfl ?_ ?_ rfl ?_ rfl
 ·simp[cv,cv1,cv0,upd,wS]
 ·simp[aX,jc,lk,cvO,cvL,cv0,frz,upd,hF,D.one]
 ·simp
theorem KJ {n i:Nat}(a:Nat)(h:n<128^i):n ||| (a*128^i)=n+a*128^i:=by
 have e:(128:Nat)^i=2^(7*i):=by rw[Nat.pow_mul]
 rw[e]at h⊢;rw[Nat.or_comm,Nat.mul_comm,<- Nat.two_pow_add_eq_or_of_lt h,Nat.add_comm]
theorem rn_facts (c:UInt8)(i a:Nat)(h2:a<128^i)(h3:i<=9)(h9:i=9->c.toNat<=1):
  bits .and .u8 (c.toNat:Int) 127=((c.toNat%128:Nat):Int)/\IntKind.u64.wrap ((c.toNat%128:Nat):Int)=((c.toNat%128:Nat):Int) /\
  IntKind.u64.wrap (((c.toNat%128:Nat):Int)*2^(min (7*i) (IntKind.bits .u64)))=((c.toNat%128*128^i:Nat):Int) /\
  bits .or .u64 (a:Int) ((c.toNat%128*128^i:Nat):Int)=((a+c.toNat%128*128^i:Nat):Int):=by
 have hc:=c.toNat_lt;have hlt:c.toNat%128*128^i<18446744073709551616:=by
  by_cases e9:i=9
  ·have:c.toNat%128<=1:=by have:=h9 e9;omega
   subst e9;have:=Nat.mul_le_mul_right (128^9) this;omega
  ·have:=Nat.mul_le_mul (show c.toNat%128<=127 by omega) (Nat.pow_le_pow_right (show 1<=128 by decide) (show i<=8 by omega));omega
 refine⟨?_,?_,?_,?_⟩
 ·have:=(bits_nat .u8 8 (by decide) wraps_u8 c.toNat 127 hc (by decide)).1;rw[show((127:Nat):Int)=127 from rfl]at this;rw[this,show(127:Nat)=2^7-1 from rfl,Nat.and_two_pow_sub_one_eq_mod]
 ·rw[IntKind.wrap_u64];omega
 ·rw[show min (7*i) (IntKind.bits .u64)=7*i by simp[IntKind.bits];omega,Int.pow_mul];rw[IntKind.wrap_u64];have e:((c.toNat%128:Nat):Int)*(2^7)^i=((c.toNat%128*128^i:Nat):Int):=by simp
  rw[e];omega
 ·have ha:a<2^64:=by
   have:=Nat.pow_le_pow_right (show 1<=128 by decide) h3;have:(128:Nat)^9=9223372036854775808:=by decide
   omega
  have:=(bits_nat .u64 64 (by decide) (λn g0 g1=>by rw[IntKind.wrap_u64];omega) a (c.toNat%128*128^i) ha hlt).2;rw[this,KJ _ h2]
theorem ni (b r:List UInt8)(v:Nat)(hb:b.length<=1048576)(h:je 0 0 b=some (v,r)):aL Tryz.prog 262 [.pt 0 0 0 0] (hF [(0,rdO b false)]) (.i (.s (.int .u64 v))) (hOf (hF [(0,rdO b false)]) [(0,rdO r false)]):=by
 refine aP 41 Tryz.func262 rfl rfl rfl (λo ho=>by simp[hF,lk,show o≠0 by omega]) ?_;refine gx (an gX @rdO.eq_1) ?_;refine xg (ι:={p:List UInt8×Nat×Nat // je p.2.1 p.2.2 p.1=some (v,r)/\p.2.2<128^p.2.1/\p.2.1<=9/\p.1.length<=b.length})
  (λp=>dP [(0,.pt 0 0 0 0),(3,.i (.s (.int .u64 (p.1.2.2:Nat)))),(4,.i (.s (.int .i64 ((7*p.1.2.1:Nat):Int))))] [(0,rdO p.1.1 false)]) (λp=>p.1.1.length) ⟨(b,0,0),h,by simp,by simp,by simp⟩ ?_ ?_
 ·refine aj _ _ [] [] ?_ ?_ rfl rfl
  ·simp[cv,cv1,cv0,upd,lk,az]
  ·simp[aX,az,lk,cvO,cvL,cv0,frz,hF,rdO,D.one]
 ·rintro⟨⟨s,i,a⟩,h1,h2,h3,h4⟩;simp only at h1 h2 h3 h4;rw[ag];cases s with
  |nil=>simp[je]at h1
  |cons c s =>
  refine gx (an gX @rdO.eq_1) ?_;refine gB (rG c s false (by simp at h4;omega)) rfl rfl ?_;rw[je]at h1;split at h1
  ·cases h1
  ·rename_i hno;have hc:=c.toNat_lt;have c0:(c=0)↔c.toNat=0:=by rw[<- UInt8.toNat_inj];rfl
   obtain⟨w1,w2,w3,w4⟩:=rn_facts c i a h2 h3 (by rintro rfl;simp at hno;omega);cases g1:decide (0<((7*i:Nat):Int))<;>cases g2:decide ((c.toNat:Int)=0)<;>cases g3:decide (((7*i:Nat):Int)=63)<;>cases g4:decide (1<(c.toNat:Int)) <;>
    first
    |(exfalso;simp only[decide_eq_true_eq,decide_eq_false_iff_not]at g1 g2 g3 g4;rw[c0]at hno;omega)
    |skip
   all_goals refine gx (an9 gX @rdO.eq_1 @wS.eq_1 g1 g2 g3 g4 w1 (an3 w2 w3 w4)) ?_
   all_goals
    refine aK (λh=>?_) (λh=>?_)
    ·have h5:c.toNat<128:=by simp at h;omega
     rw[if_pos h5]at h1;simp only[Option.some.injEq,Prod.mk.injEq]at h1;obtain⟨rfl,rfl⟩:=h1;refine gx gX ?_;refine dN _ [] [] rfl ?_ ?_ rfl ?_ rfl
     ·simp[cv,cv1,cv0,upd,Nat.mod_eq_of_lt h5]
     ·simp[aX,jc,lk,cvO,cvL,cv0,frz,upd,hF,D.one]
     ·simp
    ·have h5:¬c.toNat<128:=by simp at h;omega
     rw[if_neg h5]at h1;have h6:c.toNat%128=c.toNat-128:=by omega
     rw[<- h6]at h1;have h9:i≠9:=by rintro rfl;simp at hno;omega
     have w5:IntKind.i64.wrap (((7*i:Nat):Int)+7)=((7*(i+1):Nat):Int):=by rw[au (by omega) (by omega)];omega
     refine gx (an gX w5) ?_;refine⟨⟨(s,i+1,a+c.toNat%128*128^i),h1,?_,by simp;omega,by simp at h4⊢;omega⟩,aj _ _ [] [] ?_ ?_ rfl rfl,?_⟩
     ·simp only[Nat.pow_succ];have:=Nat.mul_le_mul_right (128^i) (show c.toNat%128<=127 by omega);omega
     ·simp[cv,cv1,cv0,upd,lk,az]
     ·simp[aX,az,lk,cvO,cvL,cv0,frz,hF,hO,rdO,D.one,upd]
     ·simp
def ut:Nat->List UInt8->List UInt8
 |_,[]=>[]
 |i,c::s=>if(0<i/\c=0)\/(i=9/\1<c.toNat)then s else ut (i+1) s
theorem nY (b:List UInt8)(bad:Bool)(hbad:bad=true->b=[])(hb:b.length<=1048576)(h:je 0 0 b=none):aL Tryz.prog 262 [.pt 0 0 0 0] (hF [(0,rdO b bad)]) (.i (.s (.int .u64 0))) (hOf (hF [(0,rdO b bad)]) [(0,rdO (ut 0 b) true)]):=by
 generalize hq:ut 0 b=q;refine aP 41 Tryz.func262 rfl rfl rfl (λo ho=>by simp[hF,lk,show o≠0 by omega]) ?_;refine gx (an gX @rdO.eq_1) ?_;refine xg (ι:={p:List UInt8×Nat×Nat // je p.2.1 p.2.2 p.1=none/\ut p.2.1 p.1=q/\p.2.2<128^p.2.1/\p.2.1<=9/\p.1.length<=b.length/\(bad=true->p.1=[])})
  (λp=>dP [(0,.pt 0 0 0 0),(3,.i (.s (.int .u64 (p.1.2.2:Nat)))),(4,.i (.s (.int .i64 ((7*p.1.2.1:Nat):Int))))] [(0,rdO p.1.1 bad)]) (λp=>p.1.1.length) ⟨(b,0,0),h,hq,by simp,by simp,by simp,hbad⟩ ?_ ?_
 ·refine aj _ _ [] [] ?_ ?_ rfl rfl
  ·simp[cv,cv1,cv0,upd,lk,az]
  ·simp[aX,az,lk,cvO,cvL,cv0,frz,hF,rdO,D.one]
 ·rintro⟨⟨s,i,a⟩,h1,h0,h2,h3,h4,hbd⟩;simp only at h1 h0 h2 h3 h4 hbd;rw[ag];cases s with
  |nil =>
   have h0:q=[]:=by rw[<- h0];rfl
   subst h0;refine gx (an gX @rdO.eq_1) ?_;refine gB (Gv bad) rfl rfl ?_;cases g1:decide (0<((7*i:Nat):Int))<;>cases g3:decide (((7*i:Nat):Int)=63);all_goals
    refine gx (an6 gX @rdO.eq_1 @wS.eq_1 g1 g3 @UInt8.toNat_zero) ?_;refine dN _ [] [] rfl ?_ ?_ rfl ?_ rfl
    ·simp[cv,cv1,cv0,upd]
    ·simp[aX,jc,lk,cvO,cvL,cv0,frz,upd,hF,D.one]
    ·simp
  |cons c s =>
  obtain rfl:bad=false:=by cases bad;rfl;simp at hbd
  refine gx (an gX @rdO.eq_1) ?_;refine gB (rG c s false (by simp at h4;omega)) rfl rfl ?_;have hc:=c.toNat_lt;have c0:(c=0)↔c.toNat=0:=by rw[<- UInt8.toNat_inj];rfl
  rw[je]at h1;rw[ut]at h0;split at h1
  ·rename_i hyes;rw[if_pos hyes]at h0;subst h0;cases g1:decide (0<((7*i:Nat):Int))<;>cases g2:decide ((c.toNat:Int)=0)<;>cases g3:decide (((7*i:Nat):Int)=63)<;>cases g4:decide (1<(c.toNat:Int)) <;>
    first
    |(exfalso;simp only[decide_eq_true_eq,decide_eq_false_iff_not]at g1 g2 g3 g4;rw[c0]at hyes;omega)
    |skip
   all_goals
    refine gx (an7 gX @rdO.eq_1 @wS.eq_1 g1 g2 g3 g4) ?_;refine dN _ [] [] rfl ?_ ?_ rfl ?_ rfl
    ·simp[cv,cv1,cv0,upd]
    ·simp[aX,jc,lk,cvO,cvL,cv0,frz,upd,hF,D.one]
    ·simp
  ·rename_i hno;rw[if_neg hno]at h0;split at h1
   ·cases h1
   ·rename_i h5;have h9:i≠9:=by rintro rfl;simp at hno;omega
    obtain⟨w1,w2,w3,w4⟩:=rn_facts c i a h2 h3 (by omega);have h6:c.toNat%128=c.toNat-128:=by omega
    rw[<- h6]at h1;have w5:IntKind.i64.wrap (((7*i:Nat):Int)+7)=((7*(i+1):Nat):Int):=by rw[au (by omega) (by omega)];omega
    have h7:decide ((c.toNat:Int)<128)=false:=by simp;omega
    cases g1:decide (0<((7*i:Nat):Int))<;>cases g2:decide ((c.toNat:Int)=0)<;>cases g3:decide (((7*i:Nat):Int)=63)<;>cases g4:decide (1<(c.toNat:Int)) <;>
     first
     |(exfalso;simp only[decide_eq_true_eq,decide_eq_false_iff_not]at g1 g2 g3 g4;rw[c0]at hno;omega)
     |skip
    all_goals
     refine gx (an9 gX @rdO.eq_1 @wS.eq_1 g1 g2 g3 g4 w1 (an5 w2 w3 w4 w5 @h7)) ?_;refine⟨⟨(s,i+1,a+c.toNat%128*128^i),h1,h0,?_,by simp;omega,by simp at h4⊢;omega,by simp⟩,aj _ _ [] [] ?_ ?_ rfl rfl,?_⟩
     ·simp only[Nat.pow_succ];have:=Nat.mul_le_mul_right (128^i) (show c.toNat%128<=127 by omega);omega
     ·simp[cv,cv1,cv0,upd,lk,az]
     ·simp[aX,az,lk,cvO,cvL,cv0,frz,hF,hO,rdO,D.one,upd]
     ·simp
def um (l:List bC)(e:Nat):D:=.tup [.i (.sl (l.map wM)),.i (.s (.int .i64 (e:Int)))]
theorem FW (l:List bC):uni 3 (l.map wM)=true:=eG (s:=3) (f:=wM) (fun _=>rfl) l
theorem aco (b:List UInt8)(hb:b.length<=1048576):PureD Tryz.prog 240 [.i (bI b)] (um (readF b).1 (readF b).2):=by
 refine aP 85 Tryz.func240 rfl rfl rfl (λ_ _=>rfl) ?_;refine gx (an bL @bI.eq_1) ?_;refine aK (λh=>?_) (λh=>?_)
 ·have h1:20000<b.length:=by simp at h;omega
  refine gx bL ?_;refine dC [] rfl ?_;simp[cv,cvT,cv1,cv0,upd,readF,h1,um]
 ·have h1:¬20000<b.length:=by simp at h;omega
  clear h;rw[readF,if_neg h1];refine gx bL ?_;cases h2:je 0 0 b with
  |none =>refine gB (nY b false (by simp) hb h2) (by simp[upd,rdO]) rfl ?_;refine gx bL ?_;refine dC [] rfl ?_;simp[cv,cvT,cv1,cv0,upd,um]
  |some p =>
   obtain⟨n,r⟩:=p;have hrl:r.length<=b.length:=by have:=(takeN_vnum h2).1;rw[this];simp
   refine gB (ni b r n hb h2) (by simp[upd,rdO]) rfl ?_;refine gx bL ?_;refine aK (λh=>?_) (λh=>?_)
   ·have h3:200<n:=by simp at h;omega
    refine gx bL ?_;refine dC [] rfl ?_;simp[cv,cvT,cv1,cv0,upd,um,h3]
   ·have h3:¬200<n:=by simp at h;omega
    clear h;simp only[if_neg h3];refine gx bL ?_;refine xg (ι:={p:List bC×Nat×List UInt8 // p.2.1<=n/\p.1.length=p.2.1/\p.2.2.length<=b.length/\fE n r=(fE (n-p.2.1) p.2.2).map (p.1++·)})
     (λp=>dP [(4,.pt 101 0 0 0),(6,.os 100 3 0 p.1.1.length),(26,.i (.s (.int .u64 n))),(27,.i (.s (.int .u64 (p.1.2.1:Nat))))] [(100,.arr 3 (p.1.1.map wM)),(101,rdO p.1.2.2 false)]) (λp=>n-p.1.2.1) ⟨([],0,r),by simp,rfl,hrl,by simp⟩ ?_ ?_
    ·refine aj _ _ [] [(101,1770)] ?_ ?_ rfl rfl
     ·simp[cv,cv1,cv0,upd,lk,az]
     ·simp[aX,az,lk,cvO,cvL,cv0,frz,upd,D.one,rdO]
    ·rintro⟨⟨acc,i,s⟩,hi,hal,hs,hq⟩;simp only at hi hal hs hq;rw[ag];refine gx (an bL @rdO.eq_1) ?_;refine aK (λh=>?_) (λh=>?_)
     ·have h4:i<n:=by simp at h;omega
      clear h;have hni:n-i=(n-(i+1))+1:=by omega
      rw[hni]at hq;refine gx bL ?_;cases s with
      |nil =>
       refine gB (Gv false) (by simp[upd,hO,lk,rdO]) rfl ?_;refine gx (an3 bL @wS.eq_1 @UInt8.toNat_zero) ?_;refine gB (nY [] true (by simp) (by simp) rfl) (by simp[upd,hO,lk,rdO]) rfl ?_;refine gx (an4 bL @wS.eq_1 @UInt8.toNat_zero @rdO.eq_1) ?_;refine dC [] rfl ?_;have hR:fE n r=none:=by rw[hq];rfl
       simp[cv,cvT,cv1,cv0,upd,um,hR]
      |cons c s =>
       have hs':s.length<=1048576:=by simp at hs;omega
       refine gB (rG c s false hs') (by simp[upd,hO,lk,rdO]) rfl ?_;have c0:(c=0)↔c.toNat=0:=by rw[<- UInt8.toNat_inj];rfl
       have c1:(c=1)↔c.toNat=1:=by rw[<- UInt8.toNat_inj];rfl
       have e3:acc.length+1<=140737488355328:=by omega
       have e3':(acc.length+1)*40<=140737488355328:=by omega
       have w5:IntKind.u64.wrap ((i:Int)+1)=((i+1:Nat):Int):=by rw[IntKind.wrap_u64];omega
       rw[fE]at hq;refine gx (an bL @wS.eq_1) ?_;refine aK (λh=>?_) (λh=>?_)
       ·have h5:c=0:=by rw[c0];simp at h;omega
        clear h;refine gx bL ?_;cases h6:je 0 0 s with
        |none =>
         refine gB (nY s false (by simp) hs' h6) (by simp[upd,hO,lk,rdO]) rfl ?_;refine gx bL ?_;have hR:fE n r=none:=by rw[hq,h6];rfl
         refine dC [] rfl ?_;simp[cv,cvT,cv1,cv0,upd,um,hR]
        |some p =>
         obtain⟨v,s'⟩:=p;simp only[h6,h5,if_true]at hq;refine gB (ni s s' v hs' h6) (by simp[upd,hO,lk,rdO]) rfl ?_;refine gx (an5 bL e3 e3' @FW w5) ?_;refine⟨⟨(acc++[⟨1,v,[]⟩],i+1,s'),h4,by simp[hal],?_,?_⟩,aj _ _ [] [(100,7147),(101,101)] ?_ ?_ rfl rfl,?_⟩
         ·have:=(takeN_vnum h6).1;have h7:s'.length<=s.length:=by rw[this];simp
          simp at hs⊢;omega
         ·rw[hq];simp[Option.map_map];congr
         ·simp[cv,cv1,cv0,upd,lk,az]
         ·simp[aX,az,lk,cvO,cvL,cv0,frz,upd,D.one,hO,rdO,wM,bI]
         ·simp;omega
       ·have h5:c≠0:=by rw[Ne,c0];simp at h;omega
        clear h;refine gx bL ?_;refine aK (λh=>?_) (λh=>?_)
        ·have h5':c=1:=by rw[c1];simp at h;omega
         clear h;refine gx bL ?_;cases h6:je 0 0 s with
         |none =>
          refine gB (nY s false (by simp) hs' h6) (by simp[upd,hO,lk,rdO]) rfl ?_;have hR:fE n r=none:=by rw[hq,h6];rfl
          have e7:((0:Int)<=((ut 0 s).length:Int))=True:=by simp
          have e8:decide (((ut 0 s).length:Int)<0)=false:=by simp
          have e9:IntKind.u64.wrap ((ut 0 s).length:Int)=((ut 0 s).length:Int):=by
           have:∀(i:Nat) (s:List UInt8),(ut i s).length<=s.length:=by
            intro i s;induction s generalizing i with
            |nil=>simp[ut]
            |cons a t ih=>simp only[ut];split<;>simp;have:=ih (i+1);omega
           have:=this 0 s;rw[IntKind.wrap_u64];omega
          refine gx (an5 bL e7 e8 e9 @fB) ?_;refine dC [] rfl ?_;simp[cv,cvT,cv1,cv0,upd,um,hR]
         |some p =>
          obtain⟨v,s'⟩:=p;have h7:s'.length<=s.length:=by have:=(takeN_vnum h6).1;rw[this];simp
          simp only[h6,h5',if_true]at hq;refine gB (ni s s' v hs' h6) (by simp[upd,hO,lk,rdO]) rfl ?_;have e9:IntKind.u64.wrap (s'.length:Int)=(s'.length:Int):=by rw[IntKind.wrap_u64];omega
          refine gx (an bL e9) ?_;refine aK (λh=>?_) (λh=>?_)
          ·have h8:s'.length<v:=by simp at h;omega
           have hR:fE n r=none:=by rw[hq];simp[h8]
           refine gx bL ?_;refine dC [] rfl ?_;simp[cv,cvT,cv1,cv0,upd,um,hR]
          ·have h8:¬s'.length<v:=by simp at h;omega
           rw[if_neg h8]at hq;have e10:((v:Int)<=(s'.length:Int))=True:=by simp;omega
           have e11:(List.map aH (List.take v s')).length=v:=by simp;omega
           have e12:v<=140737488355328:=by omega
           refine gx (an9 bL e3 e3' @FW @fB w5 @e10 @mtk (an3 @mdr @e11 @e12)) ?_;refine⟨⟨(acc++[⟨2,0,s'.take v⟩],i+1,s'.drop v),h4,by simp[hal],?_,?_⟩,aj _ _ [] [(100,7147),(101,101)] ?_ ?_ rfl rfl,?_⟩
           ·simp at hs⊢;omega
           ·rw[hq];simp[Option.map_map];congr
           ·simp[cv,cv1,cv0,upd,lk,az]
           ·simp[aX,az,lk,cvO,cvL,cv0,frz,upd,D.one,hO,rdO,wM,bI,List.take_take]
           ·simp;omega
        ·have h5':c≠1:=by rw[Ne,c1];simp at h;omega
         clear h;refine gx bL ?_;have hR:fE n r=none:=by rw[hq];cases je 0 0 s<;>simp[h5,h5']
         refine dC [] rfl ?_;simp[cv,cvT,cv1,cv0,upd,um,hR]
     ·have h4:i=n:=by simp at h;omega
      subst h4;refine gx bL ?_;have hz:i-i=0:=by omega
      rw[hz,fE]at hq;refine aK (λh=>?_) (λh=>?_)
      ·have hR:fE i r=none:=by rw[hq,if_neg (by rintro rfl;simp at h)];rfl
       refine gx bL ?_;refine dC [] rfl ?_;simp[cv,cvT,cv1,cv0,upd,um,hR]
      ·have hR:fE i r=some acc:=by rw[hq,if_pos (by cases s<;>simp at h⊢)];simp
       refine gx bL ?_;refine dC [100] rfl ?_;simp[cv,cvT,cv1,cv0,upd,um,hR,hO,lk,aO,List.take_of_length_le]
def Gx (s:ByteArray):bC:=⟨2,0,unB s⟩
def pcsT (t:eX):List bC:=[Gx t.d,⟨1,t.n,[]⟩,Gx t.s,Gx t.r]
def bytesT (t:eX):List UInt8:=(bD (pcsT t)).1
def DD:eX:=⟨⟨#[]⟩,0,⟨#[]⟩,⟨#[]⟩⟩
def vD (l:List ByteArray):Int:=if l.all wordOk then 0 else 4
def Jv (t:eX):eX×Int:=if vD [t.d,t.s,t.r]=0 then(if t.n=0 then(DD,3)else(t,0))else(DD,vD [t.d,t.s,t.r])
def KT:List bC->eX×Int
 |[a,b,c,d]=>if a.kind=2/\b.kind=1/\c.kind=2/\d.kind=2 then Jv ⟨Gg a.b,b.n,Gg c.b,Gg d.b⟩else(DD,2)
 |_=>(DD,2)
def bE (b:List UInt8):eX×Int:=if(readF b).2=0 then KT (readF b).1 else(DD,(readF b).2)
theorem IQ {l:List bC}(h:l.length≠4):KT l=(DD,2):=by
 unfold KT;split
 ·simp at h
 ·rfl
attribute [local simp,local go_sem] trD sD intD bI DD oU wM Gg
theorem Zg (s:ByteArray)(hs:s.size<=140737488355328):PureD Tryz.prog 242 [sD s] (.agg [.i (.s (.int .i64 2)),.i (.s (.int .u64 0)),.i (bI (unB s))]):=by refine ai λR hR=>?_;have x1:=Mw s;refine aa 6 Tryz.func242 ?_;exact wkl trivial
theorem Fz (t:eX)(hn:t.n<18446744073709551616)(h1:t.d.size<=1048576)(h2:t.s.size<=1048576)(h3:t.r.size<=1048576):PureD Tryz.prog 206 [trD t] (.i (bI (bytesT t))):=by
 have c1:=Zg t.d (by omega);have c2:=Zg t.s (by omega);have c3:=Zg t.r (by omega);have c4:=yP (pcsT t) (by simp[pcsT]) (by intro p hp;simp only[pcsT,Gx,List.mem_cons,List.not_mem_nil,or_false]at hp;rcases hp with rfl|rfl|rfl|rfl<;>simp only[unB_len,List.length_nil]<;>omega)
  (by intro p hp;simp only[pcsT,Gx,List.mem_cons,List.not_mem_nil,or_false]at hp;rcases hp with rfl|rfl|rfl|rfl<;>first|exact hn|(simp only;omega))
 unfold bytesT;generalize bD (pcsT t)=W at*;simp only[pcsT,Gx,List.map_cons,List.map_nil,wM]at c4;refine ai λR hR=>?_;refine aa 27 Tryz.func206 ?_;exact wkl trivial
theorem four4 (l:List bC)(h:l.length=4):∃a b c d,l=[a,b,c,d]:=by
 match l,h with
 |[a,b,c,d],_=>exact⟨a,b,c,d,rfl⟩
theorem zJ (b:List UInt8)(hb:b.length<=1048576):PureD Tryz.prog 205 [.i (bI b)] (.tup [trD (bE b).1,intD (bE b).2]):=by
 have c1:=aco b hb;refine ai λR hR=>?_;simp only[bE]at hR;generalize readF b=L at*;obtain⟨l,e⟩:=L;simp only[um]at c1 hR;by_cases h4:l.length=4
 ·obtain⟨p,q,r,s,rfl⟩:=four4 l h4;have c2:PureD _ _ _ (intD (vD [Gg p.b,Gg r.b,Gg s.b])):=LW [Gg p.b,Gg r.b,Gg s.b] (by simp);simp only[List.map_cons,List.map_nil,sI]at c2;simp only[KT,Jv]at hR;generalize vD [Gg p.b,Gg r.b,Gg s.b]=w at*;clear h4;refine aa 86 Tryz.func205 ?_;exact wkl trivial
 ·rw[IQ h4]at hR;refine aa 86 Tryz.func205 ?_;exact wkl trivial
end Go.Proofs.YtdmeldhlbpdeeaaGreatDoor
