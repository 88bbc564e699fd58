/- Merged texts: WireS, WireL, WNum, WWrite. -/
import Derived.Test.YtdmeldhlbpdeeaaGreatDoorGx
import Derived.Test.YtdmeldhlbpdeeaaGreatDoorTy
set_option linter.all false
set_option maxHeartbeats 2000000
namespace Go.Proofs.YtdmeldhlbpdeeaaGreatDoor
structure bC where
 kind:Int
 n:Nat
 b:List UInt8
def mR:Nat->Nat->List UInt8
 |0,n=>[UInt8.ofNat n]
 |f+1,n=>if n<128 then[UInt8.ofNat n]else UInt8.ofNat (n%128+128)::mR f (n/128)
def jG (n:Nat):List UInt8:=mR 9 n
def fJ (p:bC):Option (List UInt8) :=
 if p.kind=1 then some (0::jG p.n)else if p.kind=2 then some (1::(jG p.b.length++p.b))else none
def cO:List UInt8->Nat->List bC->List UInt8×Nat×Nat
 |acc,_,[]=>(acc,0,0)
 |acc,i,p::r=>match fJ p with
  |none=>([],1,i)
  |some x=>if 20000<(acc++x).length then([],4,i)else cO (acc++x) (i+1) r
def bD (l:List bC):List UInt8×Nat×Nat:=if 200<l.length then([],5,0)else cO (jG l.length) 0 l
def je:Nat->Nat->List UInt8->Option (Nat×List UInt8)
 |_,_,[]=>none
 |i,n,c::r=>if(0<i/\c=0)\/(i=9/\1<c.toNat)then none
  else if c.toNat<128 then some (n+c.toNat*128^i,r)else je (i+1) (n+(c.toNat-128)*128^i) r
def fE:Nat->List UInt8->Option (List bC)
 |0,r=>if r=[]then some []else none
 |_+1,[]=>none
 |k+1,c::r=>match je 0 0 r with
  |none=>none
  |some (v,r')=>if c=0 then(fE k r').map (⟨1,v,[]⟩ :: ·)
   else if c=1 then(if r'.length<v then none else(fE k (r'.drop v)).map (⟨2,0,r'.take v⟩ :: ·))else none
def readF (b:List UInt8):List bC×Nat :=
 if 20000<b.length then([],4)else match je 0 0 b with
  |none=>([],2)
  |some (n,r)=>if 200<n then([],2)else match fE n r with
   |none=>([],2)
   |some l=>(l,0)
def dS (p q:bC):Bool:=decide (p.kind=q.kind)&&(p.kind != 1||p.n==q.n)&&(p.kind != 2||decide (p.b=q.b))
def aM:List bC->List bC->Bool
 |[],[]=>true
 |p::l,q::m=>dS p q&&aM l m
 |_,_=>false
theorem acL (i:Nat):0<128^i:=Nat.pow_pos (by decide)
theorem xJ:∀(f i a n:Nat)(r:List UInt8),(0<i->0<n)->n<2*128^f->f+i=9->je i a (mR f n++r)=some (a+n*128^i,r)
 |0,i,a,n,r,h0,hn,hi=>by
  have hn2:n<2:=by simpa using hn
  have hi9:i=9:=by omega
  subst hi9;have:n=1:=by have:=h0 (by omega);omega
  subst this;simp[mR,je]
 |f+1,i,a,n,r,h0,hn,hi=>by
  rw[mR];by_cases h:n<128
  ·rw[if_pos h];have ht:(UInt8.ofNat n).toNat=n:=by rw[UInt8.toNat_ofNat'];omega
   have hc:¬((0<i/\UInt8.ofNat n=0)\/(i=9/\1<(UInt8.ofNat n).toNat)):=by
    rintro(⟨h1,h2⟩|⟨h1,_⟩)
    ·have:=congrArg UInt8.toNat h2;rw[ht]at this;have:=h0 h1;simp at*;omega
    ·omega
   simp only[List.cons_append,List.nil_append,je];rw[if_neg hc,if_pos (by omega),ht]
  ·rw[if_neg h];have ht:(UInt8.ofNat (n%128+128)).toNat=n%128+128:=by rw[UInt8.toNat_ofNat'];omega
   have hc:¬((0<i/\UInt8.ofNat (n%128+128)=0)\/(i=9/\1<(UInt8.ofNat (n%128+128)).toNat)):=by
    rintro(⟨h1,h2⟩|⟨h1,_⟩)
    ·have:=congrArg UInt8.toNat h2;rw[ht]at this;simp at this
    ·omega
   simp only[List.cons_append,je];rw[if_neg hc,if_neg (by omega),ht];rw[xJ f (i+1) _ (n/128) r (λ_=>by omega) (by rw[Nat.pow_succ]at hn;omega) (by omega)];congr 2;rw[Nat.pow_succ,Nat.add_sub_cancel,Nat.add_assoc];congr 1;have:=Nat.div_add_mod n 128;have e:n/128*(128^i*128)=(128*(n/128))*128^i:=by rw[Nat.mul_comm (128^i) 128,<- Nat.mul_assoc,Nat.mul_comm (n/128) 128]
   rw[e,<- Nat.add_mul,Nat.add_comm,this]
theorem vK (n:Nat)(r:List UInt8)(h:n<18446744073709551616):je 0 0 (jG n++r)=some (n,r):=by
 have:=xJ 9 0 0 n r (by omega) (by have:(2:Nat)*128^9=18446744073709551616:=by decide
                                   omega) rfl
 simpa[jG]using this
theorem takeN_vnumF:∀(f i a:Nat)(b:List UInt8)(v:Nat)(r:List UInt8),f+i=9->je i a b=some (v,r)->∃n,v=a+n*128^i/\b=mR f n++r/\n<2*128^f/\(0<i->0<n)
 |_,_,_,[],_,_,_,h=>by simp[je]at h
 |f,i,a,c::s,v,r,hi,h=>by
  rw[je]at h;split at h
  ·cases h
  rename_i hc;split at h
  ·rename_i hlt;cases h;refine⟨c.toNat,rfl,?_,?_,λh1=>?_⟩
   ·have:mR f c.toNat=[c]:=by
     cases f with
     |zero=>simp[mR]
     |succ f=>rw[mR,if_pos hlt];simp
    rw[this];rfl
   ·cases f with
    |zero =>
     have:i=9:=by omega
     have h2:¬1<c.toNat:=λh2=>hc (.inr ⟨this,h2⟩);simp;omega
    |succ f=>have:=acL f;rw[Nat.pow_succ];omega
   ·have:c≠0:=λe=>hc (.inl ⟨h1,e⟩);have:c.toNat≠0:=λe=>this (UInt8.toNat_inj.1 (by simpa using e));omega
  ·rename_i hge;cases f with
   |zero =>
    have:i=9:=by omega
    exact absurd (.inr ⟨this,by omega⟩) hc
   |succ f =>
    obtain⟨n,hv,hb,hn,h0⟩:=takeN_vnumF f (i+1) _ s v r (by omega) h;have hn0:=h0 (by omega);have hcl:=c.toNat_lt;refine⟨n*128+(c.toNat-128),?_,?_,?_,λ_=>by omega⟩
    ·rw[hv,Nat.pow_succ,Nat.add_assoc];congr 1;rw[Nat.add_mul,Nat.add_comm];congr 1;rw[Nat.mul_comm (128^i) 128,<- Nat.mul_assoc]
    ·rw[mR,if_neg (by omega)];rw[show(n*128+(c.toNat-128))%128+128=c.toNat by omega,show(n*128+(c.toNat-128))/128=n by omega,hb];simp
    ·rw[Nat.pow_succ];omega
theorem takeN_vnum {b:List UInt8}{v:Nat}{r:List UInt8}(h:je 0 0 b=some (v,r)):b=jG v++r/\v<18446744073709551616:=by
 obtain⟨n,hv,hb,hn,_⟩:=takeN_vnumF 9 0 0 b v r rfl h;have:(2:Nat)*128^9=18446744073709551616:=by decide
 have hvn:v=n:=by simpa using hv
 subst hvn;exact⟨hb,by omega⟩
def KM (l:List bC):Prop:=∀p∈l,p.n<18446744073709551616
theorem writeGo_read:∀(l:List bC)(acc:List UInt8)(i:Nat)(x:List UInt8)(a:Nat),cO acc i l=(x,0,a)->KM l->acc.length<=20000 ->
  ∃xs m,x=acc++xs/\x.length<=20000/\fE l.length xs=some m/\aM l m=true
 |[],acc,i,x,a,h,_,hacc=>by simp[cO]at h;exact⟨[],[],by simp[h.1],by rw[<- h.1];exact hacc,by simp[fE],rfl⟩
 |p::r,acc,i,x,a,h,hn,hacc=>by
  rw[cO]at h;cases hw:fJ p with
  |none=>rw[hw]at h;simp at h
  |some y =>
   rw[hw]at h;simp only[]at h;by_cases hbig:20000<(acc++y).length
   ·rw[if_pos hbig]at h;simp at h
   ·rw[if_neg hbig]at h;obtain⟨xs,m,hx,hl,hr,hs⟩:=writeGo_read r (acc++y) (i+1) x a h (λq hq=>hn q (by simp[hq])) (by omega);have hpn:=hn p (by simp);unfold fJ at hw;split at hw
    ·rename_i hk;cases hw;refine⟨0::jG p.n++xs,⟨1,p.n,[]⟩::m,by rw[hx,List.append_assoc],hl,?_,?_⟩
     ·rw[List.length_cons,List.cons_append,fE,vK _ _ hpn];simp[hr]
     ·simp[aM,dS,hs,hk]
    ·split at hw
     ·rename_i hk1 hk;cases hw;have hb:p.b.length<=20000:=by simp at hbig;omega
      refine⟨1::(jG p.b.length++p.b)++xs,⟨2,0,p.b⟩::m,by rw[hx,List.append_assoc],hl,?_,?_⟩
      ·rw[List.length_cons,List.cons_append,List.append_assoc,fE,vK _ _ (by omega)];simp[hr]
      ·simp[aM,dS,hs,hk]
     ·cases hw
theorem dG (n:Nat):(jG n).length<=10:=by
 have:∀f n,(mR f n).length<=f+1:=by
  intro f;induction f with
  |zero=>intro n;simp[mR]
  |succ f ih=>intro n;rw[mR];split<;>simp;exact ih _
 exact this 9 n
theorem write_read {l:List bC}{x:List UInt8}{a:Nat}(h:bD l=(x,0,a))(hn:KM l):∃m,readF x=(m,0)/\aM l m=true:=by
 unfold bD at h;split at h
 ·simp at h
 ·rename_i hlen;have hv:=dG l.length;obtain⟨xs,m,hx,hl,hr,hs⟩:=writeGo_read l _ _ _ _ h hn (by omega);refine⟨m,?_,hs⟩;unfold readF;rw[if_neg (by omega),hx,vK _ _ (by omega)];simp only[];rw[if_neg (by omega),hr]
theorem readGo_write:∀(k:Nat)(r:List UInt8)(m:List bC),fE k r=some m->m.length=k/\KM m/\∀(acc:List UInt8)(i:Nat),(acc++r).length<=20000->cO acc i m=(acc++r,0,0)
 |0,r,m,h=>by simp[fE]at h;obtain⟨rfl,rfl⟩:=h;exact⟨rfl,λp hp=>by simp at hp,λacc i _=>by simp[cO]⟩
 |k+1,[],m,h=>by simp[fE]at h
 |k+1,c::s,m,h=>by
  rw[fE]at h;cases ht:je 0 0 s with
  |none=>rw[ht]at h;simp at h
  |some vr =>
   obtain⟨v,r'⟩:=vr;rw[ht]at h;simp only[]at h;obtain⟨hs,hv⟩:=takeN_vnum ht;split at h
   ·rename_i hc;subst hc;cases hm:fE k r' with
    |none=>rw[hm]at h;simp at h
    |some m' =>
     rw[hm]at h;simp at h;subst h;obtain⟨h1,h2,h3⟩:=readGo_write k r' m' hm;refine⟨by simp[h1],λp hp=>?_,λacc i hl=>?_⟩
     ·rcases List.mem_cons.1 hp with rfl|hp
      ·exact hv
      ·exact h2 p hp
     ·rw[cO];have hw:fJ ⟨1,v,[]⟩=some (0::jG v):=by simp[fJ]
      rw[hw];simp only[];rw[hs]at hl;have e:acc++(0::jG v)++r'=acc++0::s:=by rw[hs];simp
      rw[if_neg (by simp at hl⊢;omega),h3 _ _ (by rw[e,hs];exact hl),e]
   ·split at h
    ·rename_i hc0 hc;subst hc;split at h
     ·cases h
     ·rename_i hlen;cases hm:fE k (r'.drop v)with
      |none=>rw[hm]at h;simp at h
      |some m' =>
       rw[hm]at h;simp at h;subst h;obtain⟨h1,h2,h3⟩:=readGo_write k _ m' hm;refine⟨by simp[h1],λp hp=>?_,λacc i hl=>?_⟩
       ·rcases List.mem_cons.1 hp with rfl|hp
        ·simp
        ·exact h2 p hp
       ·rw[cO];have hlv:(r'.take v).length=v:=by rw[List.length_take];omega
        have hw:fJ ⟨2,0,r'.take v⟩=some (1::(jG v++r'.take v)):=by simp[fJ,hlv]
        rw[hw];simp only[];rw[hs]at hl;have e:acc++(1::(jG v++r'.take v))++r'.drop v=acc++1::s:=by rw[hs];simp
        rw[if_neg (by simp[hlv]at hl⊢;omega),h3 _ _ (by rw[e,hs];exact hl),e]
    ·cases h
theorem read_write {b:List UInt8}{m:List bC}(h:readF b=(m,0)):bD m=(b,0,0)/\KM m:=by
 unfold readF at h;split at h
 ·simp at h
 ·rename_i hb;cases ht:je 0 0 b with
  |none=>rw[ht]at h;simp at h
  |some vr =>
   obtain⟨n,r⟩:=vr;rw[ht]at h;simp only[]at h;split at h
   ·simp at h
   ·rename_i hn;cases hm:fE n r with
    |none=>rw[hm]at h;simp at h
    |some m' =>rw[hm]at h;simp at h;subst h;obtain⟨hs,_⟩:=takeN_vnum ht;obtain⟨h1,h2,h3⟩:=readGo_write n r m' hm;refine⟨?_,h2⟩;unfold bD;rw[h1,if_neg hn,hs];exact h3 _ _ (by rw[<- hs];omega)
theorem uj {p q:bC}(h:dS p q=true):fJ p=fJ q:=by
 simp[dS]at h;obtain⟨⟨hk,h1⟩,h2⟩:=h;unfold fJ;rw[<- hk];by_cases k1:p.kind=1
 ·rw[if_pos k1,if_pos k1,h1.resolve_left (λh=>h k1)]
 ·rw[if_neg k1,if_neg k1];by_cases k2:p.kind=2
  ·rw[if_pos k2,if_pos k2,h2.resolve_left (λh=>h k2)]
  ·rw[if_neg k2,if_neg k2]
theorem mZ:∀{l m:List bC},aM l m=true->l.length=m.length
 |[],[],_=>rfl
 |[],_::_,h=>by simp[aM]at h
 |_::_,[],h=>by simp[aM]at h
 |p::l,q::m,h=>by simp[aM]at h;simp[mZ h.2]
theorem sV:∀{l m:List bC}(acc:List UInt8)(i:Nat),aM l m=true->cO acc i l=cO acc i m
 |[],[],_,_,_=>rfl
 |[],_::_,_,_,h=>by simp[aM]at h
 |_::_,[],_,_,h=>by simp[aM]at h
 |p::l,q::m,acc,i,h=>by
  simp[aM]at h;rw[cO,cO,uj h.1];cases fJ q with
  |none=>rfl
  |some x=>simp only[];rw[sV (acc++x) (i+1) h.2]
theorem Kw {l m:List bC}(h:aM l m=true):bD l=bD m:=by unfold bD;rw[mZ h,sV _ _ h]
theorem vX {p q r:bC}(h1:dS p q=true)(h2:dS r q=true):dS p r=true:=by
 simp[dS]at*;obtain⟨⟨a,b⟩,c⟩:=h1;obtain⟨⟨d,e⟩,f⟩:=h2;refine⟨⟨by rw[a,d],?_⟩,?_⟩
 ·rcases b with b|b
  ·exact .inl b
  ·rcases e with e|e
   ·exact .inl (by rw[a,<- d];exact e)
   ·exact .inr (by rw[b,e])
 ·rcases c with c|c
  ·exact .inl c
  ·rcases f with f|f
   ·exact .inl (by rw[a,<- d];exact f)
   ·exact .inr (by rw[c,f])
theorem mF:∀{l m k:List bC},aM l m=true->aM k m=true->aM l k=true
 |[],[],[],_,_=>rfl
 |[],[],_::_,_,h=>by simp[aM]at h
 |_::_,_::_,[],_,h=>by simp[aM]at h
 |[],_::_,_,h,_=>by simp[aM]at h
 |_::_,[],_,h,_=>by simp[aM]at h
 |p::l,q::m,r::k,h1,h2=>by simp only[aM,Bool.and_eq_true]at*;exact⟨vX h1.1 h2.1,mF h1.2 h2.2⟩
theorem Bi {l m:List bC}{x y:List UInt8}{a b:Nat}(h1:bD l=(x,0,a))(h2:bD m=(y,0,b))(n1:KM l)(n2:KM m):decide (x=y)=aM l m:=by
 by_cases h:x=y
 ·subst h;obtain⟨k,hk,s1⟩:=write_read h1 n1;obtain⟨k',hk',s2⟩:=write_read h2 n2;rw[hk]at hk';cases hk';simp[mF s1 s2]
 ·rw[decide_eq_false h];symm;cases hs:aM l m with
  |false=>rfl
  |true =>have:=Kw hs;rw[h1,h2]at this;exact absurd (congrArg Prod.fst this) h
theorem vC:∀(l:List bC)(acc:List UInt8)(i:Nat),acc.length<=20000->(cO acc i l).1.length<=20000
 |[],acc,i,h=>h
 |p::r,acc,i,h=>by
  simp only[cO];split
  ·simp
  ·split
   ·simp
   ·exact vC r _ _ (by omega)
theorem nQ (l:List bC):(bD l).1.length<=20000:=by
 unfold bD;split
 ·simp
 ·exact vC l _ _ (by have:=dG l.length;omega)
open Go Go.Abs Go.RowKit Go.Proofs.YtdmeldhlbpdeeaaGreatDoor.Ty
def yU:=an4 @Ty.T1 @Ty.T5 @Ty.T29 @Ty.T59
def Sa (acc:List UInt8):Ob:=.arr 1 (acc.map aH)
theorem agw:∀x,x<256->x ||| 128=x%128+128:=by decide +kernel
theorem aaO (n:Nat):bits .or .u8 ((n:Int)%256) 128=((UInt8.ofNat (n%128+128)).toNat:Int):=by
 have h:((n:Int)%256)=((n%256:Nat):Int):=by omega
 rw[h];have:=(bits_nat .u8 8 (by decide) wraps_u8 (n%256) 128 (Nat.mod_lt _ (by decide)) (by decide)).2;rw[show((128:Nat):Int)=128 from rfl]at this;rw[this,agw _ (Nat.mod_lt _ (by decide)),UInt8.toNat_ofNat'];omega
theorem aaP (n:Nat)(h:n<128):(n:Int)%256=((UInt8.ofNat n).toNat:Int):=by rw[UInt8.toNat_ofNat'];omega
theorem TP (acc:List UInt8)(n:Nat)(hn:n<18446744073709551616)(hl:acc.length<=140737488355000):
  aL Tryz.prog 172 [.os 0 1 0 acc.length,.i (.s (.int .u64 n))] (hF [(0,Sa acc)]) (.os 1 1 0 (acc++jG n).length) (hOf (hF [(0,Sa acc)]) [(1,Sa (acc++jG n))]):=by
 generalize hr:acc++jG n=res
 refine aP 20 Tryz.func172 rfl rfl rfl (λo ho=>by simp[hF,lk,show o≠0 by omega]) ?_
 have hn2:n<2*128^9:=by have:(2:Nat)*128^9=18446744073709551616:=by decide
                        omega
 refine gx (an yU @Sa.eq_1) ?_
 refine xg (ι:={p:List UInt8×Nat×Nat // p.2.1<2*128^p.2.2/\p.1++mR p.2.2 p.2.1=res/\p.1.length+p.2.2<=acc.length+9/\p.2.2<=9})
  (λp=>dP [(0,.os 100 1 0 p.1.1.length),(1,.i (.s (.int .u64 (p.1.2.1:Nat))))] [(100,Sa p.1.1)]) (λp=>p.1.2.2) ⟨(acc,n,9),hn2,hr,by simp,by simp⟩ ?_ ?_
 ·refine aj _ _ [] [(100,0)] ?_ ?_ rfl rfl
  ·simp[cv,cv1,cv0,upd,lk,az]
  ·simp[aX,az,lk,cvO,frz,hF,Sa]
 ·rintro⟨⟨acc',n',f⟩,h1,h2,h3,h4⟩
  simp only at h1 h2 h3 h4
  rw[ag]
  refine gx (an yU @Sa.eq_1) ?_
  refine aK (λh=>?_) (λh=>?_)
  ·have h5:128<=n':=by simp at h;omega
   clear h
   have e1:IntKind.u8.wrap (n':Int)=(n':Int)%256:=by rw[IntKind.wrap_u8]
   have e2:bits .or .u8 ((n':Int)%256) 128=((UInt8.ofNat (n'%128+128)).toNat:Int):=aaO n'
   have e3:acc'.length+1<=140737488355328:=by omega
   have e4:(n':Int).fdiv (2^min 7 (IntKind.bits .u64))=((n'/128:Nat):Int):=by
    rw[show min 7 (IntKind.bits .u64)=7 from rfl,Int.fdiv_eq_ediv_of_nonneg _ (by decide)];rfl
   refine gx (an6 yU @Sa.eq_1 e1 e2 e3 e4) ?_
   cases f with
   |zero=>simp at h1;omega
   |succ f =>
   refine⟨⟨(acc'++[UInt8.ofNat (n'%128+128)],n'/128,f),?_,?_,?_,?_⟩,aj _ _ [] [(100,1517)] ?_ ?_ rfl rfl,?_⟩
   ·simp only[Nat.pow_succ]at h1⊢;omega
   ·rw[<- h2,mR,if_neg (by omega)];simp
   ·simp at h3⊢;omega
   ·simp at h4⊢;omega
   ·simp[cv,cv1,cv0,upd,lk,az]
   ·simp[aX,az,lk,cvO,frz,upd,aH]
   ·simp
  ·have h5:n'<128:=by simp at h;omega
   clear h
   have e1:IntKind.u8.wrap (n':Int)=((UInt8.ofNat n').toNat:Int):=by rw[IntKind.wrap_u8];exact aaP n' h5
   have e3:acc'.length+1<=140737488355328:=by omega
   refine gx (an4 yU @Sa.eq_1 e1 e3) ?_
   have hres:res=acc'++[UInt8.ofNat n']:=by
    rw[<- h2];cases f with
    |zero=>rfl
    |succ f=>rw[mR,if_pos h5]
   subst hres
   refine dN _ [] [(1,2028)] rfl ?_ ?_ rfl ?_ rfl
   ·simp[cv,cv1,cv0,upd,jc,hF,lk]
   ·simp[aX,jc,lk,cvO,frz,upd,aH,hF]
   ·simp[hF,lk]
theorem HZ (acc:List UInt8)(n len len':Nat)(es':List (List I))(hn:n<18446744073709551616)(hl:acc.length<=140737488355000)(h1:len=acc.length)(h2:len'=acc.length+(jG n).length)(h3:es'=acc.map aH++(jG n).map aH):
  aL Tryz.prog 172 [.os 0 1 0 len,.i (.s (.int .u64 n))] (hF [(0,.arr 1 (acc.map aH))]) (.os 1 1 0 len') (hOf (hF [(0,.arr 1 (acc.map aH))]) [(1,.arr 1 es')]):=by
 have:=TP acc n hn hl;subst h1 h2 h3;simpa[Sa]using this
theorem HY (acc:List UInt8)(n len len':Nat)(es es':List (List I))(hn:n<18446744073709551616)(hl:acc.length<=140737488355000)(h1:len=acc.length)(h0:es=acc.map aH)(h2:len'=acc.length+(jG n).length)(h3:es'=(acc++jG n).map aH):
  aL Tryz.prog 172 [.os 0 1 0 len,.i (.s (.int .u64 n))] (hF [(0,.arr 1 es)]) (.os 1 1 0 len') (hOf (hF [(0,.arr 1 es)]) [(1,.arr 1 es')]):=by
 subst h0;exact HZ acc n len len' es' hn hl h1 h2 (by rw[h3];simp)
def cZ:=an9 @Ty.T1 @Ty.T3 @Ty.T5 @Ty.T29 @Ty.T32 @Ty.T59 @Ty.ahO @Ty.aiT @Ty.aiS
def wM (p:bC):List I:=[.s (.int .i64 p.kind),.s (.int .u64 (p.n:Int)),bI p.b]
def oU (e i:Nat):D:=.agg [.i (.s (.int .i64 (e:Int))),.i (.s (.int .i64 (i:Int)))]
theorem yP (l:List bC)(hl:l.length<=1048576)(hb:∀p∈l,p.b.length<=1048576)(hn:KM l):
  PureD Tryz.prog 127 [.i (.sl (l.map wM))] (.tup [.i (bI (bD l).1),oU (bD l).2.1 (bD l).2.2]):=by
 refine aP 55 Tryz.func127 rfl rfl rfl (λ_ _=>rfl) ?_;refine gx cZ ?_;refine aK (λh=>?_) (λh=>?_)
 ·have h1:200<l.length:=by simp at h;omega
  clear h;refine gx cZ ?_;refine CP [] rfl sK rC (by simp[upd,aW,aR];rfl) ?_;simp[cv,cvT,cv1,cvL,cv0,upd,bD,h1,oU,bI]
 ·have h1:l.length<=200:=by simp at h;omega
  clear h;have e1:IntKind.u64.wrap (l.length:Int)=(l.length:Int):=by rw[IntKind.wrap_u64];omega
  refine gx (an cZ e1) ?_;refine VQ 1771 (HZ [] l.length 0 _ _ (by omega) (by simp) rfl rfl rfl) (by decide) (by simp[upd,noH]) rfl ?_;refine gx cZ ?_;refine xg (ι:={p:List UInt8×Nat // p.2<=l.length/\bD l=cO p.1 p.2 (l.drop p.2)/\p.1.length<=20000})
   (λp=>dP [(3,.pt 101 0 0 0),(4,.os 100 1 0 p.1.1.length),(15,.i (.sl (l.map wM))),(16,.i (.s (.int .i64 l.length))),(17,.i (.s (.int .i64 (p.1.2:Nat))))]
    [(100,.arr 1 (p.1.1.map aH)),(101,.box [.i (.s (.int .i64 0)),.i (.s (.int .i64 0))])]) (λp=>l.length-p.1.2) ⟨(jG l.length,0),by simp,by simp[bD,show ¬200<l.length by omega],by have:=dG l.length;simp;omega⟩ ?_ ?_
  ·refine aj _ _ [] [(100,1771),(101,1001)] ?_ ?_ rfl rfl
   ·simp[cv,cv1,cv0,upd,lk,az]
   ·simp[aX,az,lk,cvO,cvL,cv0,frz,upd,D.one]
  ·rintro⟨⟨acc,k⟩,hk,hw,ha⟩;simp only at hk hw ha;rw[ag];refine gx cZ ?_;refine aK (λh=>?_) (λh=>?_)
   ·have h2:k<l.length:=by simp at h;omega
    clear h;have hd:l.drop k=l[k]::l.drop (k+1):=(List.drop_eq_getElem_cons h2)
    rw[hd]at hw;have hmem:l[k]∈l:=List.getElem_mem h2;have hpb:=hb _ hmem;have hpn:=hn _ hmem;generalize hp:l[k]=p at hw hpb hpn;have e2:(l.map wM)[k]?=some [.s (.int .i64 p.kind),.s (.int .u64 (p.n:Int)),bI p.b]:=by simp[h2,wM,hp]
    refine gx (an cZ e2) ?_;have e3:acc.length+1<=140737488355328:=by omega
    have hw1:IntKind.i64.wrap ((k:Int)+1)=((k+1:Nat):Int):=by rw[au (by omega) (by omega)];omega
    refine aK (λh=>?_) (λh=>?_)
    ·have hk1:p.kind=1:=by simpa using h
     clear h
     (repeat(first|(simp -implicitDefEqProofs only[ev,mixed,Nat.reduceLT,Nat.reduceAdd,Nat.reduceMul,reduceIte,Nat.reduceEqDiff,reduceCtorEq,Nat.reducePow,Nat.reduceLeDiff,Int.reduceLE,Int.reduceLT,Int.reduceToNat,Int.reduceEq,Nat.reduceBEq,uq,gdA,aH,uo,RU,ixQ,ldH,aW,aR,ku,faQ,exQ,UC,qD,qX,slQ,stH,Vq,VA,bY,eu,aO,D.one,KF,oH,uw,cvH,cZ,e3])|(with_reducible refine⟨?_,?_⟩;(· first|(obtain⟨rfl⟩:=‹Hq _ _›;with_reducible refine chk_ok ?_;kernel_rfl)|kernel_rfl))|(with_reducible intro ops hops)))
     (refine Dv (es:=?es1) (es':=?eb1) (sz':=?sz1) (len':=?len1) 3565 ?hL1 ?ho1 ?hf1 rfl ?k1;(case ho1=>(simp[upd,hO,lk,hF,noH,hOf,frz];try rfl));(case hf1=>(simp[upd,hO,lk,hF,noH,hOf,frz]));(case hL1=>(refine HY (acc++[0]) p.n _ _ _ _ hpn ?_ ?_ ?_ ?_ ?_<;>first|rfl|(simp[aH];done)|omega|(simp;omega)|(simp at*;omega))))
     refine gx cZ ?_;have hwp:fJ p=some (0::jG p.n):=by simp[fJ,hk1]
     rw[cO,hwp]at hw;have hvl:=dG p.n;refine aK (λh=>?_) (λh=>?_)
     ·refine gx cZ ?_;have h3:20000<(acc++0::jG p.n).length:=by simp at h⊢;omega
      simp only[h3,if_true]at hw;refine CP [] rfl sK rC (by simp[upd,aW,aR];rfl) ?_;simp[cv,cvT,cv1,cvL,cv0,upd,hw,oU,bI]
     ·refine gx (an cZ @hw1) ?_;have h3:¬20000<(acc++0::jG p.n).length:=by simp at h⊢;omega
      simp only[h3,if_false]at hw;refine⟨⟨(acc++0::jG p.n,k+1),h2,hw,Nat.not_lt.1 h3⟩,aj _ _ [] [(100,3565),(101,101)] ?_ ?_ rfl rfl,?_⟩
      ·simp[cv,cv1,cv0,upd,lk,az];omega
      ·simp[aX,az,lk,cvO,cvL,cv0,frz,upd,D.one,hO]
      ·simp;omega
    ·refine gx cZ ?_;refine aK (λh=>?_) (λh=>?_)
     ·have hk2:p.kind=2:=by simpa using h
      clear h;have e4:IntKind.u64.wrap (p.b.length:Int)=(p.b.length:Int):=by rw[IntKind.wrap_u64];omega
      have e5:acc.length+1+(jG p.b.length).length+p.b.length<=140737488355328:=by have:=dG p.b.length;omega
      (repeat(first|(simp -implicitDefEqProofs only[ev,mixed,Nat.reduceLT,Nat.reduceAdd,Nat.reduceMul,reduceIte,Nat.reduceEqDiff,reduceCtorEq,Nat.reducePow,Nat.reduceLeDiff,Int.reduceLE,Int.reduceLT,Int.reduceToNat,Int.reduceEq,Nat.reduceBEq,uq,gdA,aH,uo,RU,ixQ,ldH,aW,aR,ku,faQ,exQ,UC,qD,qX,slQ,stH,Vq,VA,bY,eu,aO,D.one,KF,oH,uw,cvH,cZ,e3,bI,e4])|(with_reducible refine⟨?_,?_⟩;(· first|(obtain⟨rfl⟩:=‹Hq _ _›;with_reducible refine chk_ok ?_;kernel_rfl)|kernel_rfl))|(with_reducible intro ops hops)))
      (refine Dv (es:=?es2) (es':=?eb2) (sz':=?sz2) (len':=?len2) 4079 ?hL2 ?ho2 ?hf2 rfl ?k2;(case ho2=>(simp[upd,hO,lk,hF,noH,hOf,frz];try rfl));(case hf2=>(simp[upd,hO,lk,hF,noH,hOf,frz]));(case hL2=>(refine HY (acc++[1]) p.b.length _ _ _ _ (by omega) ?_ ?_ ?_ ?_ ?_<;>first|rfl|(simp[aH];done)|omega|(simp;omega)|(simp at*;omega))))
      have e6:acc.length+((jG p.b.length).length+1)=acc.length+1+(jG p.b.length).length:=by omega
      refine gx (an3 cZ e5 e6) ?_;have hwp:fJ p=some (1::(jG p.b.length++p.b)):=by simp[fJ,hk2]
      rw[cO,hwp]at hw;refine aK (λh=>?_) (λh=>?_)
      ·refine gx cZ ?_;have h3:20000<(acc++(1::(jG p.b.length++p.b))).length:=by simp at h⊢;omega
       simp only[h3,if_true]at hw;refine CP [] rfl sK rC (by simp[upd,aW,aR];rfl) ?_;simp[cv,cvT,cv1,cvL,cv0,upd,hw,oU,bI]
      ·refine gx (an cZ @hw1) ?_;have h3:¬20000<(acc++(1::(jG p.b.length++p.b))).length:=by simp at h⊢;omega
       simp only[h3,if_false]at hw;refine⟨⟨(acc++(1::(jG p.b.length++p.b)),k+1),h2,hw,Nat.not_lt.1 h3⟩,aj _ _ [] [(100,4082),(101,101)] ?_ ?_ rfl rfl,?_⟩
       ·simp[cv,cv1,cv0,upd,lk,az];omega
       ·simp[aX,az,lk,cvO,cvL,cv0,frz,upd,D.one,hO]
       ·simp;omega
     ·refine gx cZ ?_;have hwp:fJ p=none:=by simp at h;simp[fJ,h];simp_all
      rw[cO,hwp]at hw;refine CP [] rfl sK rC (by simp[upd,aW,aR];rfl) ?_;simp[cv,cvT,cv1,cvL,cv0,upd,hw,oU,bI]
   ·have h2:k=l.length:=by simp at h;omega
    subst h2;refine gx cZ ?_;rw[List.drop_length,cO]at hw;refine CP [100] rfl sK rC (by simp[upd,aW,aR];rfl) ?_;simp[cv,cvT,cv1,cvL,cv0,upd,hw,oU,bI,hO,lk,aO,List.take_of_length_le]
end Go.Proofs.YtdmeldhlbpdeeaaGreatDoor
