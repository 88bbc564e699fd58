/- Merged texts: NameP, KL, CmpO, PurD, PurK, Byt. -/
import Derived.Test.YtdmeldhlbpdeeaaGreatDoorTy
import Derived.Lib.Bytealg
set_option linter.all false
namespace Go.Proofs.YtdmeldhlbpdeeaaGreatDoor
open Go Go.Abs
def sI (s:ByteArray):I:=.s (.string s)
def sD (s:ByteArray):D:=.i (.s (.string s))
def wD (n:Nat):D:=.i (.s (.int .u64 n))
def inR (lo c:Nat)(b:UInt8):Bool:=decide (lo<=b.toNat/\b.toNat<c)
def Cj (b:UInt8):Bool:=inR 97 123 b||inR 48 58 b
def ic (s:ByteArray):Bool:=decide (1<=s.size)&&decide (s.size<=20)&&(List.range s.size).all λk=>Cj (byS s k)
end Go.Proofs.YtdmeldhlbpdeeaaGreatDoor
namespace Go.KL
structure CmpOk {K:Type}(c:K->K->Int):Prop where
 zero:∀a b,c a b=0↔a=b
 neg:∀a b,c a b<0↔0<c b a
 trans:∀a b d,c a b<0->c b d<0->c a d<0
section
variable {α K:Type}(κ:α->K) (c:K->K->Int)
def Srt (l:List α):Prop:=l.Pairwise λx y=>c (κ x) (κ y)<0
def place (l:List α)(k:K):Nat:=(l.takeWhile λx=>decide (c (κ x) k<0)).length
def get (l:List α)(k:K):Option α:=l.find? λx=>decide (c (κ x) k=0)
def put (l:List α)(k:K)(v:Option α):List α:=(l.filter λx=>decide (c (κ x) k<0))++(v.toList++l.filter λx=>decide (0<c (κ x) k))
end
section
variable {α K:Type}{κ:α->K}{c:K->K->Int}(ok:CmpOk c)
include ok
theorem irr (a:K):¬c a a<0:=λh=>by have:=(ok.zero a a).2 rfl;omega
theorem tri (a b:K):c a b<0\/a=b\/0<c a b:=by
 rcases Int.lt_trichotomy (c a b) 0 with h|h|h
 ·exact .inl h
 ·exact .inr (.inl ((ok.zero a b).1 h))
 ·exact .inr (.inr h)
theorem iG {x:α}{t:List α}{k:K}:place κ c (x::t) k=if c (κ x) k<0 then place κ c t k+1 else 0:=by unfold place;rw[List.takeWhile_cons];by_cases h:c (κ x) k<0<;>simp[h]
theorem place_le (l:List α)(k:K):place κ c l k<=l.length:=by
 induction l with
 |nil=>simp[place]
 |cons x t ih=>rw[iG ok];split<;>simp;omega
theorem kE {x:α}{t:List α}(h:Srt κ c (x::t)):Srt κ c t:=(List.pairwise_cons.1 h).2
theorem lW {x:α}{t:List α}(h:Srt κ c (x::t)):∀y∈t,c (κ x) (κ y)<0:=(List.pairwise_cons.1 h).1
theorem iI {x:α}{t:List α}{k:K}(h:Srt κ c (x::t))(hk:¬c (κ x) k<0):∀y∈t,0<c (κ y) k:=by
 intro y hy;have h1:=lW ok h y hy;rcases tri ok (κ y) k with h2|h2|h2
 ·exact absurd (ok.trans _ _ _ h1 h2) hk
 ·rw[h2]at h1;exact absurd h1 hk
 ·exact h2
theorem place_iff {l:List α}(h:Srt κ c l)(k:K):∀a (ha:a<l.length),c (κ l[a]) k<0↔a<place κ c l k:=by
 induction l with
 |nil=>intro a ha;simp at ha
 |cons x t ih =>
  intro a ha;rw[iG ok];by_cases hx:c (κ x) k<0
  ·rw[if_pos hx];cases a with
   |zero=>simp[hx]
   |succ a =>have:=ih (kE ok h) a (by simpa using ha);simp only[List.getElem_cons_succ,this];omega
  ·rw[if_neg hx];cases a with
   |zero=>simp[hx]
   |succ a =>have h1:=iI ok h hx (t[a]'(by simpa using ha)) (List.getElem_mem _);simp only[List.getElem_cons_succ];omega
theorem get_cons {x:α}{t:List α}{k:K}:get κ c (x::t) k=if c (κ x) k=0 then some x else get κ c t k:=by unfold get;rw[List.find?_cons];by_cases h:c (κ x) k=0<;>simp[h]
theorem IA {l:List α}{k:K}(h:∀y∈l,0<c (κ y) k):get κ c l k=none:=by unfold get;rw[List.find?_eq_none];intro y hy;have:=h y hy;simp;omega
theorem get_place {l:List α}(h:Srt κ c l)(k:K):get κ c l k=if hp:place κ c l k<l.length then(if c (κ l[place κ c l k]) k=0 then some l[place κ c l k]else none)else none:=by
 induction l with
 |nil=>simp[get,place]
 |cons x t ih =>
  rw[get_cons ok];by_cases hx:c (κ x) k<0
  ·have hp:place κ c (x::t) k=place κ c t k+1:=by rw[iG ok,if_pos hx]
   rw[if_neg (by omega),ih (kE ok h)];by_cases h1:place κ c t k<t.length
   ·rw[dif_pos h1,dif_pos (by rw[hp];simpa using h1)];simp only[hp,List.getElem_cons_succ]
   ·rw[dif_neg h1,dif_neg (by rw[hp];simpa using h1)]
  ·have hp:place κ c (x::t) k=0:=by rw[iG ok,if_neg hx]
   rw[dif_pos (by rw[hp];simp)];simp only[hp,List.getElem_cons_zero];split
   ·rfl
   ·exact IA ok (iI ok h hx)
theorem TW {l:List α}(h:Srt κ c l){x y:α}(hx:x∈l)(hy:y∈l)(he:κ x=κ y):x=y:=by
 induction l with
 |nil=>simp at hx
 |cons z t ih =>
  rcases List.mem_cons.1 hx with rfl|hx'<;>rcases List.mem_cons.1 hy with rfl|hy'
  ·rfl
  ·have:=lW ok h y hy';rw[he]at this;exact absurd this (irr ok _)
  ·have:=lW ok h x hx';rw[he]at this;exact absurd this (irr ok _)
  ·exact ih (kE ok h) hx' hy'
theorem get_iff {l:List α}(h:Srt κ c l){k:K}{x:α}:get κ c l k=some x↔x∈l/\κ x=k:=by
 constructor
 ·intro hg;exact⟨List.mem_of_find?_eq_some hg,(ok.zero _ _).1 (by simpa using List.find?_some hg)⟩
 ·rintro⟨hx,rfl⟩;cases hg:get κ c l (κ x)with
  |none =>unfold get at hg;rw[List.find?_eq_none]at hg;have:=hg x hx;simp[(ok.zero (κ x) (κ x)).2 rfl]at this
  |some y =>
   have hy:y∈l/\κ y=κ x:=⟨List.mem_of_find?_eq_some hg,(ok.zero _ _).1 (by simpa using List.find?_some hg)⟩
   rw[TW ok h hy.1 hx hy.2]
theorem wI {l:List α}(h:Srt κ c l){k:K}:get κ c l k=none↔∀x∈l,κ x≠k:=by
 constructor
 ·intro hg x hx he;rw[(get_iff ok h).2 ⟨hx,he⟩]at hg;cases hg
 ·intro hn;cases hg:get κ c l k with
  |none=>rfl
  |some x=>exact absurd ((get_iff ok h).1 hg).2 (hn x ((get_iff ok h).1 hg).1)
theorem aav {l m:List α}(hl:Srt κ c l)(hm:Srt κ c m)(h:∀x,x∈l↔x∈m):l=m:=by
 induction l generalizing m with
 |nil =>
  cases m with
  |nil=>rfl
  |cons y t=>exact absurd ((h y).2 (by simp)) (by simp)
 |cons x s ih =>
  cases m with
  |nil=>exact absurd ((h x).1 (by simp)) (by simp)
  |cons y t =>
   have hxy:x=y:=by
    have h1:=(h x).1 (by simp);have h2:=(h y).2 (by simp);rcases List.mem_cons.1 h1 with rfl|h1'
    ·rfl
    ·rcases List.mem_cons.1 h2 with rfl|h2'
     ·rfl
     ·have a:=lW ok hm x h1';have b:=lW ok hl y h2';exact absurd (ok.trans _ _ _ a b) (irr ok _)
   subst hxy;congr 1;refine ih (kE ok hl) (kE ok hm) λz=>?_;constructor
   ·intro hz;rcases List.mem_cons.1 ((h z).1 (by simp[hz]))with rfl|h1
    ·exact absurd (lW ok hl z hz) (irr ok _)
    ·exact h1
   ·intro hz;rcases List.mem_cons.1 ((h z).2 (by simp[hz]))with rfl|h1
    ·exact absurd (lW ok hm z hz) (irr ok _)
    ·exact h1
theorem ext {l m:List α}(hl:Srt κ c l)(hm:Srt κ c m)(h:∀k,get κ c l k=get κ c m k):l=m:=by
 refine aav ok hl hm λx=>?_;constructor
 ·intro hx;exact((get_iff ok hm).1 ((h (κ x))▸(get_iff ok hl).2 ⟨hx,rfl⟩)).1
 ·intro hx;exact((get_iff ok hl).1 ((h (κ x)).symm▸(get_iff ok hm).2 ⟨hx,rfl⟩)).1
theorem mem_put {l:List α}{k:K}{v:Option α}{x:α}:x∈put κ c l k v↔(x∈l/\κ x≠k)\/v=some x:=by
 unfold put;simp only[List.mem_append,List.mem_filter,decide_eq_true_eq,Option.mem_toList];constructor
 ·rintro(⟨h1,h2⟩|h1|⟨h1,h2⟩)
  ·exact .inl ⟨h1,λhe=>by rw[he]at h2;exact irr ok _ h2⟩
  ·exact .inr h1
  ·exact .inl ⟨h1,λhe=>by rw[he,(ok.zero k k).2 rfl]at h2;omega⟩
 ·rintro(⟨h1,h2⟩|h1)
  ·rcases tri ok (κ x) k with h3|h3|h3
   ·exact .inl ⟨h1,h3⟩
   ·exact absurd h3 h2
   ·exact .inr (.inr ⟨h1,h3⟩)
  ·exact .inr (.inl h1)
theorem srt_put {l:List α}(h:Srt κ c l){k:K}{v:Option α}(hv:∀x,v=some x->κ x=k):Srt κ c (put κ c l k v):=by
 unfold put Srt;have hf:∀p:α->Bool,(l.filter p).Pairwise λx y=>c (κ x) (κ y)<0:=λp=>List.Pairwise.filter p h;rw[List.pairwise_append,List.pairwise_append];refine⟨hf _,⟨?_,hf _,?_⟩,?_⟩
 ·cases v with
  |none=>simp
  |some x=>simp
 ·intro a ha b hb;have ha':=hv a (by simpa using ha);have hb':0<c (κ b) k:=by simpa using(List.mem_filter.1 hb).2
  rw[ha'];exact(ok.neg _ _).2 hb'
 ·intro a ha b hb;have ha':c (κ a) k<0:=by simpa using(List.mem_filter.1 ha).2
  rcases List.mem_append.1 hb with hb|hb
  ·rw[hv b (by simpa using hb)];exact ha'
  ·have hb':0<c (κ b) k:=by simpa using(List.mem_filter.1 hb).2
   exact ok.trans _ _ _ ha' ((ok.neg _ _).2 hb')
theorem get_put {l:List α}(h:Srt κ c l){k:K}{v:Option α}(hv:∀x,v=some x->κ x=k)(k':K) [Decidable (k'=k)]:get κ c (put κ c l k v) k'=if k'=k then v else get κ c l k':=by
 have hs:=srt_put ok h hv;cases hg:get κ c (put κ c l k v) k' with
 |none =>
  rw[wI ok hs]at hg;split
  ·subst_vars
   cases v with
   |none=>rfl
   |some x=>exact absurd (hv x rfl) (hg x ((mem_put ok).2 (.inr rfl)))
  ·refine((wI ok h).2 λx hx he=>?_).symm;exact hg x ((mem_put ok).2 (.inl ⟨hx,by rw[he];assumption⟩)) he
 |some x =>
  obtain⟨h1,h2⟩:=(get_iff ok hs).1 hg;rcases(mem_put ok).1 h1 with⟨h3,h4⟩|h3
  ·rw[if_neg (by rw[<- h2];exact h4)];exact((get_iff ok h).2 ⟨h3,h2⟩).symm
  ·rw[if_pos (by rw[<- h2];exact hv x h3),h3]
theorem qO {l:List α}(h:Srt κ c l)(k:K):(l.filter λx=>decide (c (κ x) k<0))=l.take (place κ c l k):=by
 induction l with
 |nil=>simp
 |cons x t ih =>
  rw[iG ok];by_cases hx:c (κ x) k<0
  ·rw[if_pos hx,List.take_succ_cons,List.filter_cons_of_pos (by simpa using hx),ih (kE ok h)]
  ·rw[if_neg hx,List.take_zero,List.filter_cons_of_neg (by simpa using hx),List.filter_eq_nil_iff];intro y hy;have:=iI ok h hx y hy;simp;omega
theorem oQ {l:List α}(h:Srt κ c l)(k:K)(hg:get κ c l k=none):(l.filter λx=>decide (0<c (κ x) k))=l.drop (place κ c l k):=by
 induction l with
 |nil=>simp
 |cons x t ih =>
  rw[get_cons ok]at hg;have hne:c (κ x) k≠0:=λh0=>by rw[if_pos h0]at hg;cases hg
  rw[if_neg hne]at hg;rw[iG ok];by_cases hx:c (κ x) k<0
  ·rw[if_pos hx,List.drop_succ_cons,List.filter_cons_of_neg (by simp;omega),ih (kE ok h) hg]
  ·rw[if_neg hx,List.drop_zero,List.filter_eq_self];intro y hy;rcases List.mem_cons.1 hy with rfl|hy
   ·simp;omega
   ·simpa using iI ok h hx y hy
theorem qP {l:List α}(h:Srt κ c l)(k:K){v:α}(hg:get κ c l k=some v):(l.filter λx=>decide (0<c (κ x) k))=l.drop (place κ c l k+1):=by
 induction l with
 |nil=>simp
 |cons x t ih =>
  rw[get_cons ok]at hg;rw[iG ok];by_cases hx:c (κ x) k<0
  ·rw[if_neg (by omega)]at hg;rw[if_pos hx,List.drop_succ_cons,List.filter_cons_of_neg (by simp;omega),ih (kE ok h) hg]
  ·rw[if_neg hx];by_cases h0:c (κ x) k=0
   ·rw[List.filter_cons_of_neg (by simp;omega),List.drop_succ_cons,List.drop_zero,List.filter_eq_self];intro y hy;simpa using iI ok h hx y hy
   ·rw[if_neg h0,IA ok (iI ok h hx)]at hg;cases hg
theorem put_miss {l:List α}(h:Srt κ c l){k:K}{v:α}(hg:get κ c l k=none):put κ c l k (some v)=l.take (place κ c l k)++v::l.drop (place κ c l k):=by unfold put;rw[qO ok h,oQ ok h k hg];rfl
theorem put_hit {l:List α}(h:Srt κ c l){k:K}{u v:α}(hg:get κ c l k=some u):put κ c l k (some v)=l.take (place κ c l k)++v::l.drop (place κ c l k+1):=by unfold put;rw[qO ok h,qP ok h k hg];rfl
theorem put_del {l:List α}(h:Srt κ c l){k:K}{u:α}(hg:get κ c l k=some u):put κ c l k none=l.take (place κ c l k)++l.drop (place κ c l k+1):=by unfold put;rw[qO ok h,qP ok h k hg];rfl
theorem put_none {l:List α}(h:Srt κ c l){k:K}(hg:get κ c l k=none):put κ c l k none=l:=by unfold put;rw[qO ok h,oQ ok h k hg];simp
theorem place_lt {l:List α}(h:Srt κ c l){k:K}{v:α}(hg:get κ c l k=some v):∃hp:place κ c l k<l.length,l[place κ c l k]=v:=by
 rw[get_place ok h]at hg;split at hg
 ·rename_i hp;split at hg
  ·exact⟨hp,by injection hg⟩
  ·cases hg
 ·cases hg
end
end Go.KL
namespace Go.Proofs.YtdmeldhlbpdeeaaGreatDoor
open Go Go.Abs
theorem Qo:Lib.compareBytes [] []=0:=by simp[Lib.compareBytes]
theorem Jr (b:UInt8) (t:List UInt8):Lib.compareBytes [] (b :: t)=-1:=by simp [Lib.compareBytes]
theorem yh (b:UInt8)(t:List UInt8):Lib.compareBytes (b::t) []=1:=by simp[Lib.compareBytes]
theorem Js (a b:UInt8) (s t:List UInt8):Lib.compareBytes (a :: s) (b :: t)=if a < b then -1 else if b < a then 1 else Lib.compareBytes s t:=by rw [Lib.compareBytes]
theorem nI:∀(a b:List UInt8),Lib.compareBytes b a=- Lib.compareBytes a b
 |[],[]=>by simp[Qo]
 |[],b::t=>by simp[Jr,yh]
 |a::s,[]=>by simp[Jr,yh]
 |a::s,b::t=>by
  rw[Js,Js];by_cases h1:a<b
  ·have h2:¬b<a:=λh=>by simp only[UInt8.lt_iff_toNat_lt]at*;omega
   simp[h1,h2]
  ·by_cases h2:b<a
   ·simp[h1,h2]
   ·simp[h1,h2,nI s t]
theorem kL:∀(a b:List UInt8),Lib.compareBytes a b=0↔a=b
 |[],[]=>by simp[Qo]
 |[],b::t=>by simp[Jr]
 |a::s,[]=>by simp[yh]
 |a::s,b::t=>by
  rw[Js];by_cases h1:a<b
  ·have h2:a≠b:=λh=>by subst h;simp only[UInt8.lt_iff_toNat_lt]at*;omega
   simp[h1,h2]
  ·by_cases h2:b<a
   ·have h3:a≠b:=λh=>by subst h;exact h1 h2
    simp[h1,h2,h3]
   ·have h3:a=b:=by
     apply UInt8.toNat_inj.1;simp only[UInt8.lt_iff_toNat_lt]at*;omega
    simp[h1,h2,h3,kL s t]
theorem jY:∀(a b c:List UInt8),Lib.compareBytes a b<0->Lib.compareBytes b c<0->Lib.compareBytes a c<0
 |[],[],c,h,_=>by simp[Qo]at h
 |[],b::t,[],_,h=>by simp[yh]at h
 |[],b::t,c::u,_,_=>by simp[Jr]
 |a::s,[],c,h,_=>by simp[yh]at h
 |a::s,b::t,[],_,h=>by simp[yh]at h
 |a::s,b::t,c::u,h1,h2=>by
  rw[Js]at*;simp only[UInt8.lt_iff_toNat_lt]at*;by_cases p1:a.toNat<b.toNat
  ·by_cases p2:b.toNat<c.toNat
   ·rw[if_pos (by omega)];decide
   ·rw[if_neg p2]at h2;by_cases p3:c.toNat<b.toNat
    ·rw[if_pos p3]at h2;exact absurd h2 (by decide)
    ·rw[if_pos (by omega)];decide
  ·rw[if_neg p1]at h1;by_cases p2:b.toNat<a.toNat
   ·rw[if_pos p2]at h1;exact absurd h1 (by decide)
   ·rw[if_neg p2]at h1;by_cases p3:b.toNat<c.toNat
    ·rw[if_pos (by omega)];decide
    ·rw[if_neg p3]at h2;by_cases p4:c.toNat<b.toNat
     ·rw[if_pos p4]at h2;exact absurd h2 (by decide)
     ·rw[if_neg p4]at h2;rw[if_neg (by omega),if_neg (by omega)];exact jY s t u h1 h2
structure PurseD where
 o:ByteArray
 d:ByteArray
 n:Nat
def bf (p:PurseD):List I:=[.s (.string p.o),.s (.string p.d),.s (.int .u64 p.n)]
def puD (p:PurseD):D:=.agg [.i (.s (.string p.o)),.i (.s (.string p.d)),.i (.s (.int .u64 p.n))]
def oF (l:List PurseD):I:=.sl (l.map bf)
theorem wQ:KL.CmpOk nJ where
 zero:=λ_ _=>cmpS_zero
 neg:=λa b=>by unfold nJ;rw[nI b.data.toList a.data.toList];omega
 trans:=λa b d h1 h2=>jY _ _ _ h1 h2
abbrev afM:=ByteArray×ByteArray
def pk (p:PurseD):afM:=(p.o,p.d)
def pG (a b:afM):Int:=if nJ a.1 b.1=0 then nJ a.2 b.2 else nJ a.1 b.1
theorem cmpP_ok:KL.CmpOk pG where
 zero:=λa b=>by
  unfold pG;by_cases h:nJ a.1 b.1=0
  ·rw[if_pos h];rw[cmpS_zero]at h;rw[cmpS_zero];constructor
   ·intro h2;exact Prod.ext h h2
   ·rintro rfl;rfl
  ·rw[if_neg h];constructor
   ·intro h2;exact absurd h2 h
   ·rintro rfl;exact absurd (cmpS_zero.2 rfl) h
 neg:=λa b=>by have h1:=wQ.neg a.1 b.1;have h2:=wQ.neg b.1 a.1;have h3:=wQ.neg a.2 b.2;unfold pG;split<;>split<;>omega
 trans:=λa b d=>by
  intro h1 h2;have t1:=wQ.trans a.1 b.1 d.1;have t2:=wQ.trans a.2 b.2 d.2;unfold pG at*;by_cases e1:nJ a.1 b.1=0
  ·have e1':=cmpS_zero.1 e1;rw[if_pos e1]at h1;rw[e1'];by_cases e2:nJ b.1 d.1=0
   ·rw[if_pos e2]at h2⊢;exact t2 h1 h2
   ·rw[if_neg e2]at h2⊢;exact h2
  ·rw[if_neg e1]at h1;by_cases e2:nJ b.1 d.1=0
   ·have e2':=cmpS_zero.1 e2;rw[<- e2',if_neg e1];exact h1
   ·rw[if_neg e2]at h2;have:=t1 h1 h2;rw[if_neg (by omega)];exact this
abbrev abh (l:List PurseD):Prop:=KL.Srt pk pG l
abbrev bX (l:List PurseD)(o d:ByteArray):Nat:=KL.place pk pG l (o,d)
abbrev DC (l:List PurseD)(o d:ByteArray):Option PurseD:=KL.get pk pG l (o,d)
def unB (s:ByteArray):List UInt8:=s.data.toList
def Gg (b:List UInt8):ByteArray:=⟨b.toArray⟩
theorem Ed (s:ByteArray):Gg (unB s)=s:=by cases s;rfl
theorem unB_len (s:ByteArray):(unB s).length=s.size:=by cases s;rfl
theorem Mw (s:ByteArray):Wm s=bI (unB s):=rfl
end Go.Proofs.YtdmeldhlbpdeeaaGreatDoor
