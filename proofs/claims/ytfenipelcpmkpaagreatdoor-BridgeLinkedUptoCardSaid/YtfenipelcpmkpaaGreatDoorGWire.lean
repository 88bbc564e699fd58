/- Merged texts: WireS, WireL, WNum, WWrite. -/
import Derived.Test.YtfenipelcpmkpaaGreatDoorGx
import Derived.Test.YtfenipelcpmkpaaGreatDoorTy
set_option linter.all false
set_option maxHeartbeats 2000000
namespace Go.Proofs.YtfenipelcpmkpaaGreatDoor
structure dw where
 kind:Int
 n:Nat
 b:List UInt8
def mW:Nat->Nat->List UInt8
 | 0,n=>[UInt8.ofNat n]
 | f+1,n=>if n < 128 then [UInt8.ofNat n] else UInt8.ofNat (n % 128+128) :: mW f (n / 128)
def lu (n:Nat):List UInt8:=mW 9 n
def jA (p:dw):Option (List UInt8) :=
 if p.kind=1 then some (0 :: lu p.n) else if p.kind=2 then some (1 :: (lu p.b.length++p.b)) else none
def eF:List UInt8->Nat->List dw->List UInt8 × Nat × Nat
 | acc,_,[]=>(acc,0,0)
 | acc,i,p :: r=>match jA p with
  | none=>([],1,i)
  | some x=>if 20000 < (acc++x).length then ([],4,i) else eF (acc++x) (i+1) r
def cu (l:List dw):List UInt8 × Nat × Nat:=if 200 < l.length then ([],5,0) else eF (lu l.length) 0 l
def iJ:Nat->Nat->List UInt8->Option (Nat × List UInt8)
 | _,_,[]=>none
 | i,n,c :: r=>if (0 < i/\c=0)\/(i=9/\1 < c.toNat) then none
  else if c.toNat < 128 then some (n+c.toNat * 128 ^ i,r) else iJ (i+1) (n+(c.toNat - 128) * 128 ^ i) r
def eT:Nat->List UInt8->Option (List dw)
 | 0,r=>if r=[] then some [] else none
 | _+1,[]=>none
 | k+1,c :: r=>match iJ 0 0 r with
  | none=>none
  | some (v,r')=>if c=0 then (eT k r').map (⟨1,v,[]⟩ :: ·)
   else if c=1 then (if r'.length < v then none else (eT k (r'.drop v)).map (⟨2,0,r'.take v⟩ :: ·)) else none
def readF (b:List UInt8):List dw × Nat :=
 if 20000 < b.length then ([],4) else match iJ 0 0 b with
  | none=>([],2)
  | some (n,r)=>if 200 < n then ([],2) else match eT n r with
   | none=>([],2)
   | some l=>(l,0)
def uz (p q:dw):Bool:=decide (p.kind=q.kind) && (p.kind != 1 || p.n == q.n) && (p.kind != 2 || decide (p.b=q.b))
def jT:List dw->List dw->Bool
 | [],[]=>true
 | p :: l,q :: m=>uz p q && jT l m
 | _,_=>false
theorem Yw (i:Nat):0 < 128 ^ i:=Nat.pow_pos (by decide)
theorem wG:∀ (f i a n:Nat) (r:List UInt8),(0 < i->0 < n)->n < 2 * 128 ^ f->f+i=9->iJ i a (mW f n++r)=some (a+n * 128 ^ i,r)
 | 0,i,a,n,r,h0,hn,hi=>by
  have hn2:n < 2:=by simpa using hn
  have hi9:i=9:=by omega
  subst hi9
  have:n=1:=by have:=h0 (by omega); omega
  subst this
  simp [mW,iJ]
 | f+1,i,a,n,r,h0,hn,hi=>by
  rw [mW]
  by_cases h:n < 128
  ·rw [if_pos h]
   have ht:(UInt8.ofNat n).toNat=n:=by rw [UInt8.toNat_ofNat']; omega
   have hc:¬ ((0 < i/\UInt8.ofNat n=0)\/(i=9/\1 < (UInt8.ofNat n).toNat)):=by
    rintro (⟨h1,h2⟩ | ⟨h1,_⟩)
    ·have:=congrArg UInt8.toNat h2; rw [ht] at this; have:=h0 h1; simp at *; omega
    ·omega
   simp only [List.cons_append,List.nil_append,iJ]
   rw [if_neg hc,if_pos (by omega),ht]
  ·rw [if_neg h]
   have ht:(UInt8.ofNat (n % 128+128)).toNat=n % 128+128:=by rw [UInt8.toNat_ofNat']; omega
   have hc:¬ ((0 < i/\UInt8.ofNat (n % 128+128)=0)\/(i=9/\1 < (UInt8.ofNat (n % 128+128)).toNat)):=by
    rintro (⟨h1,h2⟩ | ⟨h1,_⟩)
    ·have:=congrArg UInt8.toNat h2; rw [ht] at this; simp at this
    ·omega
   simp only [List.cons_append,iJ]
   rw [if_neg hc,if_neg (by omega),ht]
   rw [wG f (i+1) _ (n / 128) r (fun _=>by omega) (by rw [Nat.pow_succ] at hn; omega) (by omega)]
   congr 2
   rw [Nat.pow_succ,Nat.add_sub_cancel,Nat.add_assoc]
   congr 1
   have:=Nat.div_add_mod n 128
   have e:n / 128 * (128 ^ i * 128)=(128 * (n / 128)) * 128 ^ i:=by
    rw [Nat.mul_comm (128 ^ i) 128,<- Nat.mul_assoc,Nat.mul_comm (n / 128) 128]
   rw [e,<- Nat.add_mul,Nat.add_comm,this]
theorem t_ (n:Nat) (r:List UInt8) (h:n < 18446744073709551616):iJ 0 0 (lu n++r)=some (n,r):=by
 have:=wG 9 0 0 n r (by omega) (by have:(2:Nat) * 128 ^ 9=18446744073709551616:=by decide
                                   omega) rfl
 simpa [lu] using this
theorem takeN_vnumF:∀ (f i a:Nat) (b:List UInt8) (v:Nat) (r:List UInt8),f+i=9->iJ i a b=some (v,r)->∃ n,v=a+n * 128 ^ i/\b=mW f n++r/\n < 2 * 128 ^ f/\(0 < i->0 < n)
 | _,_,_,[],_,_,_,h=>by simp [iJ] at h
 | f,i,a,c :: s,v,r,hi,h=>by
  rw [iJ] at h
  split at h
  ·cases h
  rename_i hc
  split at h
  ·rename_i hlt
   cases h
   refine ⟨c.toNat,rfl,?_,?_,fun h1=>?_⟩
   ·have:mW f c.toNat=[c]:=by
     cases f with
     | zero=>simp [mW]
     | succ f=>rw [mW,if_pos hlt]; simp
    rw [this]; rfl
   ·cases f with
    | zero =>
     have:i=9:=by omega
     have h2:¬ 1 < c.toNat:=fun h2=>hc (.inr ⟨this,h2⟩)
     simp; omega
    | succ f=>have:=Yw f; rw [Nat.pow_succ]; omega
   ·have:c≠0:=fun e=>hc (.inl ⟨h1,e⟩)
    have:c.toNat≠0:=fun e=>this (UInt8.toNat_inj.1 (by simpa using e))
    omega
  ·rename_i hge
   cases f with
   | zero =>
    have:i=9:=by omega
    exact absurd (.inr ⟨this,by omega⟩) hc
   | succ f =>
    obtain ⟨n,hv,hb,hn,h0⟩:=takeN_vnumF f (i+1) _ s v r (by omega) h
    have hn0:=h0 (by omega)
    have hcl:=c.toNat_lt
    refine ⟨n * 128+(c.toNat - 128),?_,?_,?_,fun _=>by omega⟩
    ·rw [hv,Nat.pow_succ,Nat.add_assoc]
     congr 1
     rw [Nat.add_mul,Nat.add_comm]
     congr 1
     rw [Nat.mul_comm (128 ^ i) 128,<- Nat.mul_assoc]
    ·rw [mW,if_neg (by omega)]
     rw [show (n * 128+(c.toNat - 128)) % 128+128=c.toNat by omega,show (n * 128+(c.toNat - 128)) / 128=n by omega,hb]
     simp
    ·rw [Nat.pow_succ]; omega
theorem takeN_vnum {b:List UInt8} {v:Nat} {r:List UInt8} (h:iJ 0 0 b=some (v,r)):b=lu v++r/\v < 18446744073709551616:=by
 obtain ⟨n,hv,hb,hn,_⟩:=takeN_vnumF 9 0 0 b v r rfl h
 have:(2:Nat) * 128 ^ 9=18446744073709551616:=by decide
 have hvn:v=n:=by simpa using hv
 subst hvn
 exact ⟨hb,by omega⟩
def Qs (l:List dw):Prop:=∀ p∈l,p.n < 18446744073709551616
theorem writeGo_read:∀ (l:List dw) (acc:List UInt8) (i:Nat) (x:List UInt8) (a:Nat),eF acc i l=(x,0,a)->Qs l->acc.length<=20000 ->
  ∃ xs m,x=acc++xs/\x.length<=20000/\eT l.length xs=some m/\jT l m=true
 | [],acc,i,x,a,h,_,hacc=>by
  simp [eF] at h
  exact ⟨[],[],by simp [h.1],by rw [<- h.1]; exact hacc,by simp [eT],rfl⟩
 | p :: r,acc,i,x,a,h,hn,hacc=>by
  rw [eF] at h
  cases hw:jA p with
  | none=>rw [hw] at h; simp at h
  | some y =>
   rw [hw] at h
   simp only [] at h
   by_cases hbig:20000 < (acc++y).length
   ·rw [if_pos hbig] at h; simp at h
   ·rw [if_neg hbig] at h
    obtain ⟨xs,m,hx,hl,hr,hs⟩:=writeGo_read r (acc++y) (i+1) x a h (fun q hq=>hn q (by simp [hq])) (by omega)
    have hpn:=hn p (by simp)
    unfold jA at hw
    split at hw
    ·rename_i hk
     cases hw
     refine ⟨0 :: lu p.n++xs,⟨1,p.n,[]⟩ :: m,by rw [hx,List.append_assoc],hl,?_,?_⟩
     ·rw [List.length_cons,List.cons_append,eT,t_ _ _ hpn]
      simp [hr]
     ·simp [jT,uz,hs,hk]
    ·split at hw
     ·rename_i hk1 hk
      cases hw
      have hb:p.b.length<=20000:=by simp at hbig; omega
      refine ⟨1 :: (lu p.b.length++p.b)++xs,⟨2,0,p.b⟩ :: m,by rw [hx,List.append_assoc],hl,?_,?_⟩
      ·rw [List.length_cons,List.cons_append,List.append_assoc,eT,t_ _ _ (by omega)]
       simp [hr]
      ·simp [jT,uz,hs,hk]
     ·cases hw
theorem fw (n:Nat):(lu n).length<=10:=by
 have:∀ f n,(mW f n).length<=f+1:=by
  intro f
  induction f with
  | zero=>intro n; simp [mW]
  | succ f ih=>intro n; rw [mW]; split <;> simp; exact ih _
 exact this 9 n
theorem Xl {l:List dw} {x:List UInt8} {a:Nat} (h:cu l=(x,0,a)) (hn:Qs l):∃ m,readF x=(m,0)/\jT l m=true:=by
 unfold cu at h
 split at h
 ·simp at h
 ·rename_i hlen
  have hv:=fw l.length
  obtain ⟨xs,m,hx,hl,hr,hs⟩:=writeGo_read l _ _ _ _ h hn (by omega)
  refine ⟨m,?_,hs⟩
  unfold readF
  rw [if_neg (by omega),hx,t_ _ _ (by omega)]
  simp only []
  rw [if_neg (by omega),hr]
theorem readGo_write:∀ (k:Nat) (r:List UInt8) (m:List dw),eT k r=some m->m.length=k/\Qs m/\∀ (acc:List UInt8) (i:Nat),(acc++r).length<=20000->eF acc i m=(acc++r,0,0)
 | 0,r,m,h=>by
  simp [eT] at h
  obtain ⟨rfl,rfl⟩:=h
  exact ⟨rfl,fun p hp=>by simp at hp,fun acc i _=>by simp [eF]⟩
 | k+1,[],m,h=>by simp [eT] at h
 | k+1,c :: s,m,h=>by
  rw [eT] at h
  cases ht:iJ 0 0 s with
  | none=>rw [ht] at h; simp at h
  | some vr =>
   obtain ⟨v,r'⟩:=vr
   rw [ht] at h
   simp only [] at h
   obtain ⟨hs,hv⟩:=takeN_vnum ht
   split at h
   ·rename_i hc
    subst hc
    cases hm:eT k r' with
    | none=>rw [hm] at h; simp at h
    | some m' =>
     rw [hm] at h
     simp at h
     subst h
     obtain ⟨h1,h2,h3⟩:=readGo_write k r' m' hm
     refine ⟨by simp [h1],fun p hp=>?_,fun acc i hl=>?_⟩
     ·rcases List.mem_cons.1 hp with rfl | hp
      ·exact hv
      ·exact h2 p hp
     ·rw [eF]
      have hw:jA ⟨1,v,[]⟩=some (0 :: lu v):=by simp [jA]
      rw [hw]
      simp only []
      rw [hs] at hl
      have e:acc++(0 :: lu v)++r'=acc++0 :: s:=by rw [hs]; simp
      rw [if_neg (by simp at hl ⊢; omega),h3 _ _ (by rw [e,hs]; exact hl),e]
   ·split at h
    ·rename_i hc0 hc
     subst hc
     split at h
     ·cases h
     ·rename_i hlen
      cases hm:eT k (r'.drop v) with
      | none=>rw [hm] at h; simp at h
      | some m' =>
       rw [hm] at h
       simp at h
       subst h
       obtain ⟨h1,h2,h3⟩:=readGo_write k _ m' hm
       refine ⟨by simp [h1],fun p hp=>?_,fun acc i hl=>?_⟩
       ·rcases List.mem_cons.1 hp with rfl | hp
        ·simp
        ·exact h2 p hp
       ·rw [eF]
        have hlv:(r'.take v).length=v:=by rw [List.length_take]; omega
        have hw:jA ⟨2,0,r'.take v⟩=some (1 :: (lu v++r'.take v)):=by simp [jA,hlv]
        rw [hw]
        simp only []
        rw [hs] at hl
        have e:acc++(1 :: (lu v++r'.take v))++r'.drop v=acc++1 :: s:=by
         rw [hs]; simp
        rw [if_neg (by simp [hlv] at hl ⊢; omega),h3 _ _ (by rw [e,hs]; exact hl),e]
    ·cases h
theorem read_write {b:List UInt8} {m:List dw} (h:readF b=(m,0)):cu m=(b,0,0)/\Qs m:=by
 unfold readF at h
 split at h
 ·simp at h
 ·rename_i hb
  cases ht:iJ 0 0 b with
  | none=>rw [ht] at h; simp at h
  | some vr =>
   obtain ⟨n,r⟩:=vr
   rw [ht] at h
   simp only [] at h
   split at h
   ·simp at h
   ·rename_i hn
    cases hm:eT n r with
    | none=>rw [hm] at h; simp at h
    | some m' =>
     rw [hm] at h
     simp at h
     subst h
     obtain ⟨hs,_⟩:=takeN_vnum ht
     obtain ⟨h1,h2,h3⟩:=readGo_write n r m' hm
     refine ⟨?_,h2⟩
     unfold cu
     rw [h1,if_neg hn,hs]
     exact h3 _ _ (by rw [<- hs]; omega)
theorem tV:∀ (l:List dw) (acc:List UInt8) (i:Nat),acc.length<=20000->(eF acc i l).1.length<=20000
 | [],acc,i,h=>h
 | p :: r,acc,i,h=>by
  simp only [eF]
  split
  ·simp
  ·split
   ·simp
   ·exact tV r _ _ (by omega)
theorem mr (l:List dw):(cu l).1.length<=20000:=by
 unfold cu
 split
 ·simp
 ·exact tV l _ _ (by have:=fw l.length; omega)
open Go Go.Abs Go.RowKit Go.Proofs.YtfenipelcpmkpaaGreatDoor.Ty
theorem xq:(type_of% @Ty.T1)/\(type_of% @Ty.T5)/\(type_of% @Ty.T29)/\(type_of% @Ty.T54):=⟨@Ty.T1,@Ty.T5,@Ty.T29,@Ty.T54⟩
def Po (acc:List UInt8):Ob:=.arr 1 (acc.map af)
theorem abb:∀ x,x < 256->x ||| 128=x % 128+128:=by decide +kernel
theorem Wx (n:Nat):bits .or .u8 ((n:Int) % 256) 128=((UInt8.ofNat (n % 128+128)).toNat:Int):=by
 have h:((n:Int) % 256)=((n % 256:Nat):Int):=by omega
 rw [h]
 have:=(bits_nat .u8 8 (by decide) wraps_u8 (n % 256) 128 (Nat.mod_lt _ (by decide)) (by decide)).2
 rw [show ((128:Nat):Int)=128 from rfl] at this
 rw [this,abb _ (Nat.mod_lt _ (by decide)),UInt8.toNat_ofNat']
 omega
theorem Wy (n:Nat) (h:n < 128):(n:Int) % 256=((UInt8.ofNat n).toNat:Int):=by
 rw [UInt8.toNat_ofNat']; omega
theorem Qr (acc:List UInt8) (n:Nat) (hn:n < 18446744073709551616) (hl:acc.length<=140737488355000) :
  aN Tryz.prog 182 [.os 0 1 0 acc.length,.i (.s (.int .u64 n))] (hF [(0,Po acc)]) (.os 1 1 0 (acc++lu n).length) (hOf (hF [(0,Po acc)]) [(1,Po (acc++lu n))]):=by
 generalize hr:acc++lu n=res
 refine aa 20 Tryz.func182 rfl rfl rfl (fun o ho=>by simp [hF,lk,show o≠0 by omega]) ?_
 have hn2:n < 2 * 128 ^ 9:=by have:(2:Nat) * 128 ^ 9=18446744073709551616:=by decide
                              omega
 refine gx (an xq @Po.eq_1) ?_
 refine wZ (ι:={ p:List UInt8 × Nat × Nat // p.2.1 < 2 * 128 ^ p.2.2/\p.1++mW p.2.2 p.2.1=res/\p.1.length+p.2.2<=acc.length+9/\p.2.2<=9 })
  (fun p=>ek [(0,.os 100 1 0 p.1.1.length),(1,.i (.s (.int .u64 (p.1.2.1:Nat))))] [(100,Po p.1.1)]) (fun p=>p.1.2.2) ⟨(acc,n,9),hn2,hr,by simp,by simp⟩ ?_ ?_
 ·refine az _ _ [] [(100,0)] ?_ ?_ rfl rfl
  ·simp [cv,cv1,cv0,upd,lk,aJ]
  ·simp [bE,aJ,lk,cvO,frz,hF,Po]
 ·rintro ⟨⟨acc',n',f⟩,h1,h2,h3,h4⟩
  simp only at h1 h2 h3 h4
  rw [au]
  refine gx (an xq @Po.eq_1) ?_
  refine bi (fun h=>?_) (fun h=>?_)
  ·have h5:128<=n':=by simp at h; omega
   clear h
   have e1:IntKind.u8.wrap (n':Int)=(n':Int) % 256:=by rw [IntKind.wrap_u8]
   have e2:bits .or .u8 ((n':Int) % 256) 128=((UInt8.ofNat (n' % 128+128)).toNat:Int):=Wx n'
   have e3:acc'.length+1<=140737488355328:=by omega
   have e4:(n':Int).fdiv (2 ^ min 7 (IntKind.bits .u64))=((n' / 128:Nat):Int):=by
    rw [show min 7 (IntKind.bits .u64)=7 from rfl,Int.fdiv_eq_ediv_of_nonneg _ (by decide)]; rfl
   refine gx (an (an (an (an (an xq @Po.eq_1) e1) e2) e3) e4) ?_
   cases f with
   | zero=>simp at h1; omega
   | succ f =>
   refine ⟨⟨(acc'++[UInt8.ofNat (n' % 128+128)],n' / 128,f),?_,?_,?_,?_⟩,az _ _ [] [(100,1517)] ?_ ?_ rfl rfl,?_⟩
   ·simp only [Nat.pow_succ] at h1 ⊢; omega
   ·rw [<- h2,mW,if_neg (by omega)]; simp
   ·simp at h3 ⊢; omega
   ·simp at h4 ⊢; omega
   ·simp [cv,cv1,cv0,upd,lk,aJ]
   ·simp [bE,aJ,lk,cvO,frz,upd,af]
   ·simp
  ·have h5:n' < 128:=by simp at h; omega
   clear h
   have e1:IntKind.u8.wrap (n':Int)=((UInt8.ofNat n').toNat:Int):=by rw [IntKind.wrap_u8]; exact Wy n' h5
   have e3:acc'.length+1<=140737488355328:=by omega
   refine gx (an (an (an xq @Po.eq_1) e1) e3) ?_
   have hres:res=acc'++[UInt8.ofNat n']:=by
    rw [<- h2]; cases f with
    | zero=>rfl
    | succ f=>rw [mW,if_pos h5]
   subst hres
   refine dG _ [] [(1,2028)] rfl ?_ ?_ rfl ?_ rfl
   ·simp [cv,cv1,cv0,upd,iP,hF,lk]
   ·simp [bE,iP,lk,cvO,frz,upd,af,hF]
   ·simp [hF,lk]
theorem FV (acc:List UInt8) (n len len':Nat) (es':List (List I)) (hn:n < 18446744073709551616) (hl:acc.length<=140737488355000) (h1:len=acc.length) (h2:len'=acc.length+(lu n).length) (h3:es'=acc.map af++(lu n).map af) :
  aN Tryz.prog 182 [.os 0 1 0 len,.i (.s (.int .u64 n))] (hF [(0,.arr 1 (acc.map af))]) (.os 1 1 0 len') (hOf (hF [(0,.arr 1 (acc.map af))]) [(1,.arr 1 es')]):=by
 have:=Qr acc n hn hl
 subst h1 h2 h3
 simpa [Po] using this
theorem FU (acc:List UInt8) (n len len':Nat) (es es':List (List I)) (hn:n < 18446744073709551616) (hl:acc.length<=140737488355000) (h1:len=acc.length) (h0:es=acc.map af) (h2:len'=acc.length+(lu n).length) (h3:es'=(acc++lu n).map af) :
  aN Tryz.prog 182 [.os 0 1 0 len,.i (.s (.int .u64 n))] (hF [(0,.arr 1 es)]) (.os 1 1 0 len') (hOf (hF [(0,.arr 1 es)]) [(1,.arr 1 es')]):=by
 subst h0
 exact FV acc n len len' es' hn hl h1 h2 (by rw [h3]; simp)
theorem bX:(type_of% @Ty.T1)/\(type_of% @Ty.T3)/\(type_of% @Ty.T5)/\(type_of% @Ty.T29)/\(type_of% @Ty.T32)/\(type_of% @Ty.T54)/\(type_of% @Ty.aaC)/\(type_of% @Ty.adb)/\(type_of% @Ty.ac_):=⟨@Ty.T1,@Ty.T3,@Ty.T5,@Ty.T29,@Ty.T32,@Ty.T54,@Ty.aaC,@Ty.adb,@Ty.ac_⟩
def vC (p:dw):List I:=[.s (.int .i64 p.kind),.s (.int .u64 (p.n:Int)),bI p.b]
def nE (e i:Nat):D:=.agg [.i (.s (.int .i64 (e:Int))),.i (.s (.int .i64 (i:Int)))]
theorem xh (l:List dw) (hl:l.length<=1048576) (hb:∀ p∈l,p.b.length<=1048576) (hn:Qs l) :
  PureD Tryz.prog 135 [.i (.sl (l.map vC))] (.tup [.i (bI (cu l).1),nE (cu l).2.1 (cu l).2.2]):=by
 refine aa 55 Tryz.func135 rfl rfl rfl (fun _ _=>rfl) ?_
 refine gx bX ?_
 refine bi (fun h=>?_) (fun h=>?_)
 ·have h1:200 < l.length:=by simp at h; omega
  clear h
  refine gx bX ?_
  refine Br [] rfl qZ pU (by simp [upd,aF,aj]; rfl) ?_
  simp [cv,cvT,cv1,cvL,cv0,upd,cu,h1,nE,bI]
 ·have h1:l.length<=200:=by simp at h; omega
  clear h
  have e1:IntKind.u64.wrap (l.length:Int)=(l.length:Int):=by rw [IntKind.wrap_u64]; omega
  refine gx (an bX e1) ?_
  refine Sz 1771 (FV [] l.length 0 _ _ (by omega) (by simp) rfl rfl rfl) (by decide) (by simp [upd,noH]) rfl ?_
  refine gx bX ?_
  refine wZ (ι:={ p:List UInt8 × Nat // p.2<=l.length/\cu l=eF p.1 p.2 (l.drop p.2)/\p.1.length<=20000 })
   (fun p=>ek [(3,.pt 101 0 0 0),(4,.os 100 1 0 p.1.1.length),(15,.i (.sl (l.map vC))),(16,.i (.s (.int .i64 l.length))),(17,.i (.s (.int .i64 (p.1.2:Nat))))]
    [(100,.arr 1 (p.1.1.map af)),(101,.box [.i (.s (.int .i64 0)),.i (.s (.int .i64 0))])]) (fun p=>l.length - p.1.2) ⟨(lu l.length,0),by simp,by simp [cu,show ¬ 200 < l.length by omega],by have:=fw l.length; simp; omega⟩ ?_ ?_
  ·refine az _ _ [] [(100,1771),(101,1001)] ?_ ?_ rfl rfl
   ·simp [cv,cv1,cv0,upd,lk,aJ]
   ·simp [bE,aJ,lk,cvO,cvL,cv0,frz,upd,D.one]
  ·rintro ⟨⟨acc,k⟩,hk,hw,ha⟩
   simp only at hk hw ha
   rw [au]
   refine gx bX ?_
   refine bi (fun h=>?_) (fun h=>?_)
   ·have h2:k < l.length:=by simp at h; omega
    clear h
    have hd:l.drop k=l[k] :: l.drop (k+1):=(List.drop_eq_getElem_cons h2)
    rw [hd] at hw
    have hmem:l[k]∈l:=List.getElem_mem h2
    have hpb:=hb _ hmem
    have hpn:=hn _ hmem
    generalize hp:l[k]=p at hw hpb hpn
    have e2:(l.map vC)[k]?=some [.s (.int .i64 p.kind),.s (.int .u64 (p.n:Int)),bI p.b]:=by simp [h2,vC,hp]
    refine gx (an bX e2) ?_
    have e3:acc.length+1<=140737488355328:=by omega
    have hw1:IntKind.i64.wrap ((k:Int)+1)=((k+1:Nat):Int):=by rw [aD (by omega) (by omega)]; omega
    refine bi (fun h=>?_) (fun h=>?_)
    ·have hk1:p.kind=1:=by simpa using h
     clear h
     (repeat (first | (simp -implicitDefEqProofs only [ev,mixed,Nat.reduceLT,Nat.reduceAdd,Nat.reduceMul,reduceIte,Nat.reduceEqDiff,reduceCtorEq,Nat.reducePow,Nat.reduceLeDiff,Int.reduceLE,Int.reduceLT,Int.reduceToNat,Int.reduceEq,Nat.reduceBEq,dV,gdA,af,il,kE,ixQ,ldH,aF,aj,bC,faQ,exQ,kU,dO,bS,slQ,stH,kV,kW,aS,bq,ae,D.one,jP,dH,dX,cvH,bX,e3]) | (with_reducible refine ⟨?_,?_⟩; (· first | (obtain ⟨rfl⟩:=‹Hq _ _›; with_reducible refine chk_ok ?_; kernel_rfl) | kernel_rfl)) | (with_reducible intro ops hops)))
     (refine BO (es:=?es1) (es':=?eb1) (sz':=?sz1) (len':=?len1) 3565 ?hL1 ?ho1 ?hf1 rfl ?k1; (case ho1=>(simp [upd,hO,lk,hF,noH,hOf,frz]; try rfl)); (case hf1=>(simp [upd,hO,lk,hF,noH,hOf,frz])); (case hL1=>(refine FU (acc++[0]) p.n _ _ _ _ hpn ?_ ?_ ?_ ?_ ?_ <;> first | rfl | (simp [af]; done) | omega | (simp; omega) | (simp at *; omega))))
     refine gx bX ?_
     have hwp:jA p=some (0 :: lu p.n):=by simp [jA,hk1]
     rw [eF,hwp] at hw
     have hvl:=fw p.n
     refine bi (fun h=>?_) (fun h=>?_)
     ·refine gx bX ?_
      have h3:20000 < (acc++0 :: lu p.n).length:=by simp at h ⊢; omega
      simp only [h3,if_true] at hw
      refine Br [] rfl qZ pU (by simp [upd,aF,aj]; rfl) ?_
      simp [cv,cvT,cv1,cvL,cv0,upd,hw,nE,bI]
     ·refine gx (an bX @hw1) ?_
      have h3:¬ 20000 < (acc++0 :: lu p.n).length:=by simp at h ⊢; omega
      simp only [h3,if_false] at hw
      refine ⟨⟨(acc++0 :: lu p.n,k+1),h2,hw,Nat.not_lt.1 h3⟩,az _ _ [] [(100,3565),(101,101)] ?_ ?_ rfl rfl,?_⟩
      ·simp [cv,cv1,cv0,upd,lk,aJ]; omega
      ·simp [bE,aJ,lk,cvO,cvL,cv0,frz,upd,D.one,hO]
      ·simp; omega
    ·refine gx bX ?_
     refine bi (fun h=>?_) (fun h=>?_)
     ·have hk2:p.kind=2:=by simpa using h
      clear h
      have e4:IntKind.u64.wrap (p.b.length:Int)=(p.b.length:Int):=by rw [IntKind.wrap_u64]; omega
      have e5:acc.length+1+(lu p.b.length).length+p.b.length<=140737488355328:=by have:=fw p.b.length; omega
      (repeat (first | (simp -implicitDefEqProofs only [ev,mixed,Nat.reduceLT,Nat.reduceAdd,Nat.reduceMul,reduceIte,Nat.reduceEqDiff,reduceCtorEq,Nat.reducePow,Nat.reduceLeDiff,Int.reduceLE,Int.reduceLT,Int.reduceToNat,Int.reduceEq,Nat.reduceBEq,dV,gdA,af,il,kE,ixQ,ldH,aF,aj,bC,faQ,exQ,kU,dO,bS,slQ,stH,kV,kW,aS,bq,ae,D.one,jP,dH,dX,cvH,bX,e3,bI,e4]) | (with_reducible refine ⟨?_,?_⟩; (· first | (obtain ⟨rfl⟩:=‹Hq _ _›; with_reducible refine chk_ok ?_; kernel_rfl) | kernel_rfl)) | (with_reducible intro ops hops)))
      (refine BO (es:=?es2) (es':=?eb2) (sz':=?sz2) (len':=?len2) 4079 ?hL2 ?ho2 ?hf2 rfl ?k2; (case ho2=>(simp [upd,hO,lk,hF,noH,hOf,frz]; try rfl)); (case hf2=>(simp [upd,hO,lk,hF,noH,hOf,frz])); (case hL2=>(refine FU (acc++[1]) p.b.length _ _ _ _ (by omega) ?_ ?_ ?_ ?_ ?_ <;> first | rfl | (simp [af]; done) | omega | (simp; omega) | (simp at *; omega))))
      have e6:acc.length+((lu p.b.length).length+1)=acc.length+1+(lu p.b.length).length:=by omega
      refine gx (an (an bX e5) e6) ?_
      have hwp:jA p=some (1 :: (lu p.b.length++p.b)):=by simp [jA,hk2]
      rw [eF,hwp] at hw
      refine bi (fun h=>?_) (fun h=>?_)
      ·refine gx bX ?_
       have h3:20000 < (acc++(1 :: (lu p.b.length++p.b))).length:=by simp at h ⊢; omega
       simp only [h3,if_true] at hw
       refine Br [] rfl qZ pU (by simp [upd,aF,aj]; rfl) ?_
       simp [cv,cvT,cv1,cvL,cv0,upd,hw,nE,bI]
      ·refine gx (an bX @hw1) ?_
       have h3:¬ 20000 < (acc++(1 :: (lu p.b.length++p.b))).length:=by simp at h ⊢; omega
       simp only [h3,if_false] at hw
       refine ⟨⟨(acc++(1 :: (lu p.b.length++p.b)),k+1),h2,hw,Nat.not_lt.1 h3⟩,az _ _ [] [(100,4082),(101,101)] ?_ ?_ rfl rfl,?_⟩
       ·simp [cv,cv1,cv0,upd,lk,aJ]; omega
       ·simp [bE,aJ,lk,cvO,cvL,cv0,frz,upd,D.one,hO]
       ·simp; omega
     ·refine gx bX ?_
      have hwp:jA p=none:=by simp at h; simp [jA,h]; simp_all
      rw [eF,hwp] at hw
      refine Br [] rfl qZ pU (by simp [upd,aF,aj]; rfl) ?_
      simp [cv,cvT,cv1,cvL,cv0,upd,hw,nE,bI]
   ·have h2:k=l.length:=by simp at h; omega
    subst h2
    refine gx bX ?_
    rw [List.drop_length,eF] at hw
    refine Br [100] rfl qZ pU (by simp [upd,aF,aj]; rfl) ?_
    simp [cv,cvT,cv1,cvL,cv0,upd,hw,nE,bI,hO,lk,ae,List.take_of_length_le]
end Go.Proofs.YtfenipelcpmkpaaGreatDoor
