/- Merged texts: HdB, HdC, HdD, ClC, InsKn, ClD, ClE. -/
import Derived.Test.YtfenipelcpmkpaaGreatDoorGMk
set_option linter.all false
set_option maxHeartbeats 4000000
set_option maxRecDepth 20000
namespace Go.Proofs.YtfenipelcpmkpaaGreatDoor
open Go Go.Abs Go.RowKit Go.Proofs.YtfenipelcpmkpaaGreatDoor.Ty
attribute [local simp,local go_sem] intD boolD sD bI bO valsI jZ vC jh nE
theorem Bl (l:List dw) (hl:l.length<=1048576) (hb:∀ p∈l,p.b.length<=1048576) (hn:Qs l):PureD Tryz.prog 95 [.i (.sl (l.map vC))] (.i (bI (cu l).1)):=by
 have c1:=xh l hl hb hn
 refine ak fun R hR=>?_
 generalize cu l=W at *
 refine aa 11 Tryz.func95 rfl rfl rfl (fun _ _=>rfl) ?_
 exact wkl trivial
theorem yX (n:Nat):PureD Tryz.prog 93 [bO n] (.agg [.i (.s (.int .i64 1)),.i (.s (.int .u64 n)),.i (.sl [])]):=by
 refine ak fun R hR=>?_
 refine aa 5 Tryz.func93 rfl rfl rfl (fun _ _=>rfl) ?_
 exact wkl trivial
theorem Gn (b:List UInt8):PureD Tryz.prog 157 [.i (bI b)] (.agg [.i (.s (.int .i64 2)),.i (.s (.int .u64 0)),.i (bI b)]):=by
 refine ak fun R hR=>?_
 refine aa 5 Tryz.func157 rfl rfl rfl (fun _ _=>rfl) ?_
 exact wkl trivial
theorem Km {l:List dJ} {i:Nat} (h:i < l.length):vW (l.take (i+1))=vW (l.take i)++[jh l[i].k,jh l[i].p]:=by
 unfold vW
 rw [List.take_succ_eq_append_getElem h,List.flatMap_append]; simp
theorem FP (l:List dJ):(vW l).length=2 * l.length:=by
 unfold vW
 induction l with
 | nil=>rfl
 | cons a t ih=>rw [List.flatMap_cons,List.length_append,ih]; simp; omega
theorem Uy {l:List dJ} (h:∀ v∈l,v.k < 18446744073709551616/\v.p < 18446744073709551616):Qs (vW l):=by
 intro p hp
 unfold vW at hp
 rw [List.mem_flatMap] at hp
 obtain ⟨v,hv,hp⟩:=hp
 simp only [List.mem_cons,List.not_mem_nil,or_false] at hp
 rcases hp with rfl | rfl
 ·exact (h v hv).1
 ·exact (h v hv).2
theorem Yx (l:List dJ):∀ p∈vW l,p.b=[]:=by
 intro p hp
 unfold vW at hp
 rw [List.mem_flatMap] at hp
 obtain ⟨v,hv,hp⟩:=hp
 simp only [List.mem_cons,List.not_mem_nil,or_false] at hp
 rcases hp with rfl | rfl <;> rfl
theorem aaP (l:List dw):uni 3 (l.map vC)=true:=Cn (s:=3) (f:=vC) (fun _=>rfl) l
theorem lT (l:List dJ) (hl:l.length<=500000) (hn:∀ v∈l,v.k < 18446744073709551616/\v.p < 18446744073709551616):PureD Tryz.prog 49 [.i (valsI l)] (.i (bI (bW l))):=by
 refine ak fun R hR=>?_
 refine aa 25 Tryz.func49 rfl rfl rfl (fun _ _=>rfl) ?_
 refine wkl ?_
 clear hR; intro hR
 repeat' (intro _)
 refine aZ (ι:=Nat) (fun i=>i<=l.length)
  (fun i=>ek [(6,.i (valsI l)),(7,intD l.length),(8,intD i),(3,.os 100 3 0 (vW (l.take i)).length)] [(100,.arr 3 ((vW (l.take i)).map vC))]) (fun i=>l.length - i) 0 (Nat.zero_le _) ?_ ?_
 ·simp only [List.take_zero,show vW []=[] from rfl]
  exact dP [] []
 ·rintro i hi RL hL
  rw [au]
  by_cases h:i < l.length
  ·have e1:=aH (f:=jZ) h
   have hs:=Km h
   have hlen:=FP (l.take i)
   have hlt:(l.take i).length=i:=by rw [List.length_take]; omega
   have c1:=yX l[i].k
   have c2:=yX l[i].p
   have hu:=aaP (vW (l.take i))
   rw [hlt] at hlen
   generalize l[i]=v at *
   generalize hP':vW (l.take (i+1))=P' at *
   generalize vW (l.take i)=P at *
   subst hs
   have b1:P.length<=140737488355326:=by omega
   have b3:(P.length+2) * 40<=140737488355328:=by omega
   have hL2:=fun σ'=>hL (i+1) σ' h
   rw [hP'] at hL2
   have b4:=fun σ'=>bk [] [(100,2288)] (hL2 σ')
   clear hR hlen hlt hL hL2
   exact wkl trivial
  ·have ht:l.take i=l:=List.take_of_length_le (by omega)
   have c1:=Bl (vW l) (by rw [FP]; omega) (fun p hp=>by rw [Yx l p hp]; simp) (Uy hn)
   have c2:=PP (cu (vW l)).1 (by have:=mr (vW l); omega)
   unfold bW at hR
   rw [ht]
   generalize (cu (vW l)).1=W at *
   generalize vW l=P at *
   exact wkl trivial
attribute [local simp,local go_sem] intD boolD sD bI bO valsI votesI jZ IG Pi TG pX fD
def Uv (l:List dJ) (i:Nat):Option dJ:=if i=0 then none else l[i - 1]?
theorem Dy (l:List dJ) (hl:l.length<=1048576):PureD Tryz.prog 98 [.i (valsI l)] (intD (jJ l)):=by
 refine ak fun R hR=>?_
 unfold jJ at hR
 refine aa 42 Tryz.func98 rfl rfl rfl (fun _ _=>rfl) ?_
 refine wkl ?_
 clear hR; intro hR
 repeat' (intro _)
 have hR':Hr (intD (xm (Uv l 0) (l.drop 0))) R:=by assumption
 clear hR
 refine aZ (ι:=Nat) (fun i=>i<=l.length/\Hr (intD (xm (Uv l i) (l.drop i))) R)
  (fun i=>ek [(0,.i (valsI l)),(13,.i (valsI l)),(14,intD l.length),(15,intD i)] []) (fun i=>l.length - i) 0 ⟨Nat.zero_le _,hR'⟩ ?_ ?_
 ·exact dP [] []
 ·rintro i ⟨hi,hR⟩ RL hL
  clear hR'
  rw [au]
  by_cases h:i < l.length
  ·have e1:=aH (f:=jZ) h
   rw [List.drop_eq_getElem_cons h,xm] at hR
   have hnx:Uv l (i+1)=some l[i]:=by simp [Uv,h]
   rw [<- hnx] at hR
   cases i with
   | zero =>
    have hp:Uv l 0=none:=rfl
    rw [hp] at hR
    simp only [Option.any_none,Bool.false_eq_true,if_false] at hR
    have hg0:¬ ((0:Int) < ((0:Nat):Int)):=by omega
    have b1:=fun σ' (hq:Hr _ R)=>bk [] [] (hL (0+1) σ' ⟨h,hq⟩)
    clear hp hL
    generalize l[0]=v at *
    clear hnx
    exact wkl trivial
   | succ j =>
    have hj:j < l.length:=by omega
    have hp:Uv l (j+1)=some l[j]:=by simp [Uv,hj]
    have e2:=aH (f:=jZ) hj
    rw [hp] at hR
    simp only [Option.any_some,decide_eq_true_eq] at hR
    have hg0:(0:Int) < ((j+1:Nat):Int):=by omega
    have w0:IntKind.i64.wrap (((j+1:Nat):Int) - 1)=(j:Int):=by rw [aD (by omega) (by omega)]; omega
    have b1:=fun σ' (hq:Hr _ R)=>bk [] [] (hL (j+1+1) σ' ⟨h,hq⟩)
    clear hL
    generalize l[j+1]=v at *
    generalize l[j]=q at *
    clear hnx hp
    exact wkl trivial
  ·rw [List.drop_eq_nil_of_le (by omega),xm] at hR
   clear hL
   exact wkl trivial
theorem Gm (h:lm):PureD Tryz.prog 97 [Pi h] (intD (fq h)):=by
 refine ak fun R hR=>?_
 have c1:=Dz h.c
 have c2:=rJ h.h
 have c3:=rJ h.t
 unfold fq at hR
 refine aa 41 Tryz.func97 rfl rfl rfl (fun _ _=>rfl) ?_
 exact wkl trivial
theorem tF (h:lm) (h0:h.c.size<=1048576) (h1:h.root.length<=1048576) (h2:h.vals.length<=1048576) (h3:h.next.length<=1048576):PureD Tryz.prog 102 [Pi h] (.i (bI (bQ h))):=by
 refine ak fun R hR=>?_
 have c1:=Gn (unB h.c)
 have c2:=yX (u64 h.h)
 have c3:=yX (u64 h.t)
 have c4:=Gn h.root
 have c5:=Gn h.vals
 have c6:=Gn h.next
 have hsz:h.c.size<=140737488355328:=by omega
 have c7:=Bl (Uz h) (by simp [Uz]) (by intro p hp; simp only [Uz,Kh,jh,List.mem_cons,List.not_mem_nil,or_false] at hp; rcases hp with rfl | rfl | rfl | rfl | rfl | rfl <;> simp only [unB_len,List.length_nil] <;> omega)
  (by intro p hp; simp only [Uz,Kh,jh,List.mem_cons,List.not_mem_nil,or_false] at hp; rcases hp with rfl | rfl | rfl | rfl | rfl | rfl <;> first | exact u64_lt _ | (simp only; omega))
 unfold bQ at hR
 generalize (cu (Uz h)).1=W at *
 simp only [Uz,Kh,jh,List.map_cons,List.map_nil,vC] at c7
 clear h0 h1 h2 h3
 have x1:=JL h.c
 have x2:=Jr
 refine aa 26 Tryz.func102 rfl rfl rfl (fun _ _=>rfl) ?_
 exact wkl trivial
theorem Zl (h:lm) (h1:h.root.length<=1048576) (h2:h.vals.length<=1048576) (h3:h.next.length<=1048576):PureD Tryz.prog 99 [Pi h] (Pi h):=by
 refine ak fun R hR=>?_
 have c1:=dZ h.root (by omega)
 have c2:=dZ h.vals (by omega)
 have c3:=dZ h.next (by omega)
 refine aa 16 Tryz.func99 rfl rfl rfl (fun _ _=>rfl) ?_
 exact wkl trivial
theorem tT {α β:Type} {l:List α} {m:List β} {i:Nat} (h:i < l.length) (h':i < m.length):(l.zip m)[i]'(by rw [List.length_zip]; omega)=(l[i],m[i]):=by simp
theorem SG {l:List dJ} (h:nH l) (m:List lh) (i:Nat):Jk ((l.zip m).take i)<=10000000:=by
 have h1:=rz (f:=Px) (k:=1000000) (l:=(l.zip m).take i) (xJ fun q hq=>by
  obtain ⟨v,x⟩:=q
  have:=h.pow v (List.of_mem_zip hq).1
  show (if x.is=true then v.p else 0)<=_
  split <;> omega)
 have h2:=h.len
 have h3:((l.zip m).take i).length<=10:=by rw [List.length_take,List.length_zip]; omega
 unfold Jk
 have:((l.zip m).take i).length * 1000000<=10 * 1000000:=Nat.mul_le_mul_right _ h3
 omega
structure Sv (h:lm):Prop where
 c:h.c.size<=1048576
 root:h.root.length<=1048576
 vals:h.vals.length<=1048576
 next:h.next.length<=1048576
theorem wR (h:lm):(bQ h).length<=20000:=mr _
theorem QY (s:gQ) (hs:Sv s.hdr) (hv:nH s.vals) (hl:s.votes.length=s.vals.length) (hk:∀ v∈s.vals,v.k < 18446744073709551616) (hx:∀ x∈s.votes,x.r < 18446744073709551616/\x.s < 18446744073709551616) :
  PureD Tryz.prog 194 [.rp (TG s) 0] (.tup [bO (sumP s.vals),bO (Jk (s.vals.zip s.votes)),boolD (Pm (bQ s.hdr) (s.vals.zip s.votes))]):=by
 refine ak fun R hR=>?_
 have c1:=tF s.hdr hs.c hs.root hs.vals hs.next
 have hbl:=wR s.hdr
 have hlz:(s.vals.zip s.votes).length=s.vals.length:=by rw [List.length_zip]; omega
 have hle:=hv.len
 refine aa 57 Tryz.func194 rfl rfl rfl (fun _ _=>rfl) ?_
 refine wkl ?_
 clear hR; intro hR
 repeat' (intro _)
 refine aZ (ι:=Nat) (fun i=>i<=s.vals.length)
  (fun i=>ek [(0,.rp (TG s) 0),(5,.i (bI (bQ s.hdr))),(2,bO (sumP (s.vals.take i))),(3,bO (Jk ((s.vals.zip s.votes).take i))),(4,boolD (Pm (bQ s.hdr) ((s.vals.zip s.votes).take i))),(16,.i (valsI s.vals)),(17,intD s.vals.length),(18,intD i)] []) (fun i=>s.vals.length - i) 0 (Nat.zero_le _) ?_ ?_
 ·simp only [List.take_zero,show sumP []=0 from rfl,show Jk []=0 from rfl,show Pm (bQ s.hdr) []=false from rfl]
  exact dP [] []
 ·rintro i hi RL hL
  rw [au]
  by_cases h:i < s.vals.length
  ·have h2:i < s.votes.length:=by omega
   have e1:=aH (f:=jZ) h
   have e2:=aH (f:=IG) h2
   have t1:sumP (s.vals.take (i+1))=sumP (s.vals.take i)+s.vals[i].p:=oF h
   have t2:Jk ((s.vals.zip s.votes).take (i+1))=Jk ((s.vals.zip s.votes).take i)+Px (s.vals.zip s.votes)[i]:=oF (by omega)
   have t3:Pm (bQ s.hdr) ((s.vals.zip s.votes).take (i+1))=(Pm (bQ s.hdr) ((s.vals.zip s.votes).take i) || WH (bQ s.hdr) (s.vals.zip s.votes)[i]):=Sj (by omega)
   have b1:=xK hv i
   have b2:=SG hv s.votes i
   have b3:=hv.pow s.vals[i] (List.getElem_mem h)
   have c2:=Zm s.vals[i].k (bQ s.hdr) s.votes[i].r s.votes[i].s (hk _ (List.getElem_mem h)) (hx _ (List.getElem_mem h2)).1 (hx _ (List.getElem_mem h2)).2 (by omega)
   rw [tT h h2] at t2 t3
   have hL2:=fun σ'=>hL (i+1) σ' h
   rw [t1,t2,t3] at hL2
   clear hL t1 t2 t3
   unfold Px WH at hL2
   simp only at hL2
   generalize s.vals[i]=v at *
   generalize s.votes[i]=x at *
   generalize sumP (s.vals.take i)=A at *
   generalize Jk ((s.vals.zip s.votes).take i)=B at *
   generalize Pm (bQ s.hdr) ((s.vals.zip s.votes).take i)=C at *
   have w1:IntKind.u64.wrap ((A:Int)+(v.p:Int))=((A+v.p:Nat):Int):=by rw [IntKind.wrap_u64]; omega
   have w2:IntKind.u64.wrap ((B:Int)+(v.p:Int))=((B+v.p:Nat):Int):=by rw [IntKind.wrap_u64]; omega
   clear hR b1 b2 b3 hlz hbl hv hk hx
   generalize bQ s.hdr=M at *
   generalize yZ v.k M x.r x.s=G at *
   obtain ⟨xi,xr,xs⟩:=x
   have b1:=fun σ'=>bk [] [] (hL2 σ')
   clear hL2
   cases xi <;> cases G <;> simp only [Bool.or_false,Bool.or_true,Bool.false_eq_true,if_false,if_true,Nat.add_zero,Bool.not_true,Bool.not_false,Bool.and_true,Bool.and_false,Bool.true_and,Bool.false_and] at b1
   all_goals
    exact wkl trivial
  ·have ht:s.vals.take i=s.vals:=List.take_of_length_le (by omega)
   have ht2:(s.vals.zip s.votes).take i=s.vals.zip s.votes:=List.take_of_length_le (by omega)
   rw [ht,ht2]
   clear hL
   exact wkl trivial
structure WS (s:gQ):Prop where
 h:Sv s.hdr
 len:s.vals.length<=1048576
 k:∀ v∈s.vals,v.k < 18446744073709551616/\v.p < 18446744073709551616
 x:∀ x∈s.votes,x.r < 18446744073709551616/\x.s < 18446744073709551616
theorem QZ (s:gQ) (hs:WS s):PureD Tryz.prog 158 [pX s] (intD (kg s)):=by
 refine ak fun R hR=>?_
 have c1:=Gm s.hdr
 have c2:=Dy s.vals (by have:=hs.len; omega)
 have c4:=gN (bW s.vals) s.hdr.vals
 unfold kg at hR
 by_cases hv:jJ s.vals=0
 ·have ok:=gY.1 hv
  have c3:=lT s.vals (by have:=ok.len; omega) hs.k
  by_cases hl:s.votes.length=s.vals.length
  ·have c5:=QY s hs.h ok hl (fun v h=>(hs.k v h).1) hs.x
   have b1:=xK ok s.vals.length
   have b2:=SG ok s.votes (s.vals.zip s.votes).length
   rw [List.take_length] at b1 b2
   have hl':(s.votes.length:Int)=s.vals.length:=by omega
   rw [hv] at hR c2
   generalize sumP s.vals=A at *
   generalize Jk (s.vals.zip s.votes)=B at *
   generalize Pm (bQ s.hdr) (s.vals.zip s.votes)=C at *
   have w1:IntKind.u64.wrap (3 * (B:Int))=3 * (B:Int):=by rw [IntKind.wrap_u64]; omega
   have w2:IntKind.u64.wrap (2 * (A:Int))=2 * (A:Int):=by rw [IntKind.wrap_u64]; omega
   generalize bW s.vals=X at *
   generalize hW:fq s.hdr=Wr at *
   clear b1 b2 hv ok hl hW hs
   simp only [hl',if_true] at hR
   cases C
   all_goals
    refine aa 50 Tryz.func158 rfl rfl rfl (fun _ _=>rfl) ?_
    exact wkl trivial
  ·have hl':¬ (s.votes.length:Int)=s.vals.length:=by omega
   rw [hv] at hR c2
   clear hs hv ok
   simp only [hl',if_false] at hR
   generalize bW s.vals=X at *
   generalize hW:fq s.hdr=Wr at *
   clear hW hl
   refine aa 50 Tryz.func158 rfl rfl rfl (fun _ _=>rfl) ?_
   exact wkl trivial
 ·clear c4
  generalize hW:fq s.hdr=Wr at *
  generalize jJ s.vals=V at *
  clear hW hs
  simp only [hv,if_false] at hR
  refine aa 50 Tryz.func158 rfl rfl rfl (fun _ _=>rfl) ?_
  exact wkl trivial
attribute [local simp,local go_sem] intD boolD sD bI bbI bO valsI votesI jZ IG Pi TG Xw pX fD Ps XB
theorem Tu {z:List (dJ × lh)} {t:dJ} (ht:t.p<=1000000) (hz:z.length<=10) (i:Nat):Ph (z.take i) t<=10000000:=by
 have h1:=rz (f:=Ma t) (k:=1000000) (l:=z.take i) (fun q _=>by unfold Ma; split <;> omega)
 have h3:(z.take i).length<=10:=by rw [List.length_take]; omega
 unfold Ph
 have:(z.take i).length * 1000000<=10 * 1000000:=Nat.mul_le_mul_right _ h3
 omega
theorem L_ {z:List (dJ × lh)} {tr:List dJ} (ht:nH tr) (hz:z.length<=10) (j:Nat):yY z (tr.take j)<=100000000:=by
 have h1:=rz (f:=Ph z) (k:=10000000) (l:=tr.take j) (xJ fun t h=>by
  have:=Tu (t:=t) (ht.pow t h).2 hz z.length
  rw [List.take_length] at this; exact this)
 have h2:=ht.len
 have h3:(tr.take j).length<=10:=by rw [List.length_take]; omega
 unfold yY
 have:(tr.take j).length * 10000000<=10 * 10000000:=Nat.mul_le_mul_right _ h3
 omega
theorem VQ (tr:List dJ) (s:gQ) (ht:nH tr) (hv:nH s.vals) (hl:s.votes.length=s.vals.length):PureD Tryz.prog 159 [.i (valsI tr),pX s] (boolD (Qk tr s)):=by
 refine ak fun R hR=>?_
 have hlen:=ht.len
 have hlz:(s.vals.zip s.votes).length=s.vals.length:=by rw [List.length_zip]; omega
 have hz10:(s.vals.zip s.votes).length<=10:=by have:=hv.len; omega
 have hsl:=hv.len
 unfold Qk at hR
 generalize hz:s.vals.zip s.votes=z at *
 refine aa 52 Tryz.func159 rfl rfl rfl (fun _ _=>rfl) ?_
 refine wkl ?_
 clear hR; intro hR
 repeat' (intro _)
 refine aZ (ι:=Nat) (fun j=>j<=tr.length)
  (fun j=>ek [(3,.pt 100 0 0 0),(5,bO (sumP (tr.take j))),(6,bO (yY z (tr.take j))),(11,.i (valsI tr)),(12,intD tr.length),(13,intD j)] [(100,.box ((TG s).map .i))]) (fun j=>tr.length - j) 0 (Nat.zero_le _) ?_ ?_
 ·simp only [List.take_zero,show sumP []=0 from rfl,show yY z []=0 from rfl]
  exact dP [] [(100,1000)]
 ·rintro j hj RL hL
  rw [au]
  by_cases h:j < tr.length
  ·have e1:=aH (f:=jZ) h
   have b1:=xK ht j
   have b2:=L_ ht hz10 j
   have b3:=ht.pow tr[j] (List.getElem_mem h)
   have t1:sumP (tr.take (j+1))=sumP (tr.take j)+tr[j].p:=oF h
   have t2:yY z (tr.take (j+1))=yY z (tr.take j)+Ph z tr[j]:=oF h
   have hL2:=fun σ'=>hL (j+1) σ' h
   rw [t1,t2] at hL2
   clear hL t1 t2
   generalize tr[j]=t at *
   generalize sumP (tr.take j)=A at *
   generalize yY z (tr.take j)=B at *
   have w1:IntKind.u64.wrap ((A:Int)+(t.p:Int))=((A+t.p:Nat):Int):=by rw [IntKind.wrap_u64]; omega
   refine wkl ?_
   clear hR; intro hR
   repeat' (intro _)
   refine aZ (ι:=Nat) (fun i=>i<=s.vals.length)
    (fun i=>ek [(3,.pt 100 0 0 0),(8,.pt 101 0 0 0),(5,bO (A+t.p)),(6,bO (B+Ph (z.take i) t)),(11,.i (valsI tr)),(12,intD tr.length),(13,intD j),(22,.i (valsI s.vals)),(23,intD s.vals.length),(24,intD i)] [(100,.box ((TG s).map .i)),(101,.box [.i (.s (.int .u64 t.k)),.i (.s (.int .u64 t.p))])]) (fun i=>s.vals.length - i) 0 (Nat.zero_le _) ?_ ?_
   ·simp only [List.take_zero,show Ph [] t=0 from rfl]
    exact dP [] [(100,100),(101,2026)]
   ·rintro i hi RI hI
    rw [au]
    by_cases h':i < s.vals.length
    ·have h2:i < s.votes.length:=by omega
     have e1:=aH (f:=jZ) h'
     have e2:=aH (f:=IG) h2
     have b4:=Tu (t:=t) b3.2 hz10 i
     have t3:Ph (z.take (i+1)) t=Ph (z.take i) t+Ma t (z[i]'(by omega)):=oF (by omega)
     have hzi:z[i]'(by omega)=(s.vals[i],s.votes[i]):=by subst hz; exact tT h' h2
     rw [hzi] at t3
     clear hzi
     have hI2:=fun σ'=>hI (i+1) σ' h'
     rw [t3] at hI2
     clear hI t3 hL2
     generalize s.vals[i]=v at *
     generalize s.votes[i]=x at *
     generalize Ph (z.take i) t=C at *
     rw [show Ma t (v,x)=if v.k=t.k/\x.is=true then t.p else 0 from rfl] at hI2
     rw [<- Nat.add_assoc] at hI2
     have w2:IntKind.u64.wrap (((B+C:Nat):Int)+(t.p:Int))=((B+C+t.p:Nat):Int):=by rw [IntKind.wrap_u64]; omega
     have k1:((v.k:Int)=(t.k:Int))=(v.k=t.k):=propext (by omega)
     have b1:=fun σ'=>bk [] [(100,100),(101,101)] (hI2 σ')
     clear hR b2 b3 b4 hlz hlen ht hv w1 hz hz10 hI2
     obtain ⟨xi,xr,xs⟩:=x
     by_cases hk:v.k=t.k <;> cases xi <;> simp only [hk,true_and,Bool.false_eq_true,if_false,if_true,and_self,false_and,and_false,Nat.add_zero] at b1
     all_goals
      exact wkl trivial
    ·have hti:z.take i=z:=List.take_of_length_le (by omega)
     rw [hti]
     clear b1
     have b1:=fun σ'=>bk [] [(100,100)] (hL2 σ')
     clear hR b2 b3 ht hv hlz hz10 hti w1 hL2 hI
     exact wkl trivial
  ·have htj:tr.take j=tr:=List.take_of_length_le (by omega)
   have b1:=xK ht j
   have b2:=L_ ht hz10 j
   rw [htj] at b1 b2 ⊢
   generalize sumP tr=A at *
   generalize yY z tr=B at *
   have w1:IntKind.u64.wrap (3 * (B:Int))=((3 * B:Nat):Int):=by rw [IntKind.wrap_u64]; omega
   have k1:decide ((A:Int) < ((3 * B:Nat):Int))=decide (A < 3 * B):=by congr 1; exact propext (by omega)
   clear b1 b2 ht hv hlz hz10 htj hL
   exact wkl trivial
def eG (h:lm) (seeds:List (List UInt8)) (vals:List dJ) (j i:Nat):List lh:=(vals.take i).map (eH h (seeds.take (j+1)))++(vals.drop i).map (eH h (seeds.take j))
theorem Ie {h:lm} {seeds:List (List UInt8)} {v:dJ} {j:Nat} (hj:j < seeds.length):eH h (seeds.take (j+1)) v=if v.k=keyF seeds[j] then ⟨true,Af seeds[j] (bQ h),sigS seeds[j] (bQ h)⟩ else eH h (seeds.take j) v:=by
 unfold eH
 rw [List.take_succ_eq_append_getElem hj,List.foldl_append]; rfl
theorem Ce (h:lm) (seeds:List (List UInt8)) (vals:List dJ) (j:Nat):eG h seeds vals j vals.length=eG h seeds vals (j+1) 0:=by
 simp [eG]
theorem Cb {h:lm} {seeds:List (List UInt8)} {vals:List dJ} {j i:Nat} (hi:i < vals.length):eG h seeds vals j (i+1)=(eG h seeds vals j i).set i (eH h (seeds.take (j+1)) vals[i]):=by
 unfold eG
 have hl:((vals.take i).map (eH h (seeds.take (j+1)))).length=i:=by simp; omega
 rw [List.set_append_right _ _ (by omega),hl,Nat.sub_self,List.take_succ_eq_append_getElem hi,List.map_append,List.drop_eq_getElem_cons hi,List.map_cons,List.map_cons,List.map_nil,List.set_cons_zero,List.append_assoc]
 rfl
theorem Cc {h:lm} {seeds:List (List UInt8)} {vals:List dJ} {j i:Nat} (hi:i < vals.length):(eG h seeds vals j i)[i]?=some (eH h (seeds.take j) vals[i]):=by
 unfold eG
 have hl:((vals.take i).map (eH h (seeds.take (j+1)))).length=i:=by simp; omega
 rw [List.getElem?_append_right (by omega),hl,Nat.sub_self,List.drop_eq_getElem_cons hi]
 rfl
theorem Ak (h:lm) (seeds:List (List UInt8)) (vals:List dJ):eG h seeds vals 0 0=List.replicate vals.length ⟨false,0,0⟩:=by
 unfold eG eH
 simp only [List.take_zero,List.map_nil,List.drop_zero,List.nil_append,List.foldl_nil]
 induction vals with
 | nil=>rfl
 | cons a t ih=>rw [List.map_cons,ih,List.length_cons,List.replicate_succ]
theorem Cf (h:lm) (seeds:List (List UInt8)) (vals:List dJ):eG h seeds vals seeds.length 0=vals.map (eH h seeds):=by
 unfold eG
 simp
theorem PW {α:Type} {l:List α} {i:Nat} {x:α} (h:l[i]?=some x):l.set i x=l:=by
 apply List.ext_getElem?
 intro k
 rw [List.getElem?_set]
 split
 ·rename_i e; subst e; rw [h]; simp
  have:=(List.getElem?_eq_some_iff.1 h).1
  exact this
 ·rfl
structure WT (l:List (List UInt8)):Prop where
 len:l.length<=1048576
 b:∀ s∈l,s.length<=1048576
theorem VP (h:lm) (vals:List dJ) (seeds:List (List UInt8)) (hs:Sv h) (hl:vals.length<=1048576) (hk:∀ v∈vals,v.k < 18446744073709551616/\v.p < 18446744073709551616) (hd:WT seeds) :
  PureD Tryz.prog 51 [Pi h,.i (valsI vals),.i (bbI seeds)] (.tup [pX (jO h vals seeds).1,intD (jO h vals seeds).2]):=by
 refine ak fun R hR=>?_
 have c1:=Gm h
 have c2:=Dy vals (by omega)
 have c4:=gN (bW vals) h.vals
 have c5:=Zl h hs.root hs.vals hs.next
 unfold jO at hR
 by_cases hok:jJ vals=0/\bW vals=h.vals/\fq h=0
 rotate_left
 ·clear c5
  by_cases h1:fq h=0
  ·by_cases h2:jJ vals=0
   ·have c3:=lT vals (by have:=(gY.1 h2).len; omega) hk
    generalize fq h=Wr at *
    generalize jJ vals=V at *
    generalize bW vals=X at *
    clear hs hl hk hd
    have h3:¬ X=h.vals:=fun e=>hok ⟨h2,e,h1⟩
    clear hok
    refine aa 74 Tryz.func51 rfl rfl rfl (fun _ _=>rfl) ?_
    exact wkl trivial
   ·clear hok hs hl hk hd c4
    generalize fq h=Wr at *
    generalize jJ vals=V at *
    refine aa 74 Tryz.func51 rfl rfl rfl (fun _ _=>rfl) ?_
    exact wkl trivial
  ·clear hok hs hl hk hd c4 c2
   generalize fq h=Wr at *
   refine aa 74 Tryz.func51 rfl rfl rfl (fun _ _=>rfl) ?_
   exact wkl trivial
 obtain ⟨h1,h2,h3⟩:=hok
 have ok:=gY.1 h1
 have hvl:=ok.len
 have c3:=lT vals (by omega) hk
 rw [if_pos h3,if_pos h1,if_pos h2] at hR
 rw [h3] at c1
 rw [h1] at c2
 simp only at hR
 have b1:vals.length<=140737488355328:=by omega
 have b2:vals.length * 16<=140737488355328:=by omega
 have b3:vals.length * 24<=140737488355328:=by omega
 have b4:(vals.length:Int) < 140737488355328:=by omega
 have b5:(vals.length:Int) * 24<=140737488355328:=by omega
 have hu:uni 2 (vals.map jZ)=true:=Cn (s:=2) (f:=jZ) (fun _=>rfl) vals
 have hsl:=hd.len
 rw [h2] at c3 c4
 rw [decide_eq_true (rfl:h.vals=h.vals)] at c4
 clear h1 h2 h3
 have hmk:=fun {H:Nat->Ob} {id:Nat}=>YQ (H:=H) (id:=id) (s:=2) (by_:=24) (z:=[.i (.s (.bool false)),.i (.s (.int .u64 0)),.i (.s (.int .u64 0))]) (xs:=[.s (.bool false),.s (.int .u64 0),.s (.int .u64 0)]) (l:=vals.length) (by omega) (by omega) rfl rfl
 refine aa 74 Tryz.func51 rfl rfl rfl (fun _ _=>rfl) ?_
 refine wkl ?_
 clear hR; intro hR
 repeat' (intro _)
 clear hmk c1 c2 c3 c4 c5 b1 b2 b3 b4 b5 hu
 have hz0:List.replicate vals.length [I.s (.bool false),I.s (.int .u64 0),I.s (.int .u64 0)]=(eG h seeds vals 0 0).map IG:=by
  rw [Ak,List.map_replicate]; rfl
 refine aZ (ι:=Nat) (fun j=>j<=seeds.length)
  (fun j=>ek [(1,.i (valsI vals)),(3,.pt 100 0 0 0),(6,.pt 101 0 0 0),(10,.pt 104 0 0 0),(43,.i (bbI seeds)),(44,intD seeds.length),(45,intD j)]
   [(100,.box ((Xw h).map .i)),(101,.box [.i (.s (.string ⟨#[]⟩)),.i (.s (.int .i64 0)),.i (.s (.int .i64 0)),.i (.s (.slice none 0 0)),.i (.s (.slice none 0 0)),.i (.s (.slice none 0 0)),.i (.s (.slice none 0 0)),.i (.s (.slice none 0 0))]),(102,.arr 2 (vals.map jZ)),(103,.arr 3 ((eG h seeds vals j 0).map IG)),
    (104,.box ((Xw h).map .i++[.os 102 2 0 vals.length,.os 103 3 0 vals.length]))]) (fun j=>seeds.length - j) 0 (Nat.zero_le _) ?_ ?_
 ·rw [<- hz0]
  exact dP [] [(100,1000),(101,1001),(102,3307),(103,3310),(104,3312)]
 ·rintro j hj RL hL
  clear hz0
  rw [au]
  by_cases h1:j < seeds.length
  ·have e1:(seeds.map fun b=>[bI b])[j]?=some [bI seeds[j]]:=aH (f:=fun b=>[bI b]) h1
   have hsm:=hd.b _ (List.getElem_mem h1)
   have c1:=QN seeds[j] (by omega)
   have c2:=tF h hs.c hs.root hs.vals hs.next
   have c3:=XV seeds[j] (bQ h) (by omega) (by have:=wR h; omega)
   have hvs:=fun (v:dJ)=>Ie (h:=h) (v:=v) h1
   generalize hsd:seeds[j]=sd at *
   refine wkl ?_
   clear hR; intro hR
   repeat' (intro _)
   refine aZ (ι:=Nat) (fun i=>i<=vals.length)
    (fun i=>ek [(1,.i (valsI vals)),(3,.pt 100 0 0 0),(6,.pt 101 0 0 0),(10,.pt 104 0 0 0),(43,.i (bbI seeds)),(44,intD seeds.length),(45,intD j),(12,.i (bI sd)),(13,bO (keyF sd)),(51,.i (valsI vals)),(52,intD vals.length),(53,intD i)]
     [(100,.box ((Xw h).map .i)),(101,.box [.i (.s (.string ⟨#[]⟩)),.i (.s (.int .i64 0)),.i (.s (.int .i64 0)),.i (.s (.slice none 0 0)),.i (.s (.slice none 0 0)),.i (.s (.slice none 0 0)),.i (.s (.slice none 0 0)),.i (.s (.slice none 0 0))]),(102,.arr 2 (vals.map jZ)),(103,.arr 3 ((eG h seeds vals j i).map IG)),
      (104,.box ((Xw h).map .i++[.os 102 2 0 vals.length,.os 103 3 0 vals.length]))]) (fun i=>vals.length - i) 0 (Nat.zero_le _) ?_ ?_
   ·exact dP [] [(100,100),(101,101),(102,102),(103,103),(104,104)]
   ·rintro i hi RI hI
    rw [au]
    by_cases h2:i < vals.length
    ·have e2:=aH (f:=jZ) h2
     have hst:=Cb (h:=h) (seeds:=seeds) (j:=j) h2
     have hge:=Cc (h:=h) (seeds:=seeds) (j:=j) h2
     rw [hvs] at hst
     have e3:((eG h seeds vals j i).map IG)[i]?=some (IG (eH h (seeds.take j) vals[i])):=by rw [List.getElem?_map,hge]; rfl
     have k1:((vals[i].k:Int)=(keyF sd:Int))=(vals[i].k=keyF sd):=propext (by omega)
     generalize vals[i]=v at *
     generalize eH h (seeds.take j) v=x0 at *
     by_cases hk1:v.k=keyF sd
     ·rw [if_pos hk1] at hst
      have hst':((eG h seeds vals j i).map IG).set i [.s (.bool true),.s (.int .u64 (Af sd (bQ h))),.s (.int .u64 (sigS sd (bQ h)))]=(eG h seeds vals j (i+1)).map IG:=by rw [hst,List.map_set]; rfl
      have hI2:=fun σ'=>hI (i+1) σ' h2
      rw [<- hst'] at hI2
      have b1:=fun σ'=>bk [] [(100,100),(101,101),(102,102),(103,103),(104,104)] (hI2 σ')
      clear hst hst' hI hI2 hL
      generalize eG h seeds vals j i=V at *
      clear hge hR hs hl hk hd ok hvs c1
      exact wkl trivial
     ·rw [if_neg hk1,PW hge] at hst
      have hI2:=fun σ'=>hI (i+1) σ' h2
      rw [hst] at hI2
      have b1:=fun σ'=>bk [] [(100,100),(101,101),(102,102),(103,103),(104,104)] (hI2 σ')
      clear hge hR hs hl hk hd ok hvs c1 e3 c2 c3 hst hI hI2 hL
      exact wkl trivial
    ·obtain rfl:i=vals.length:=by omega
     rw [Ce]
     have b1:=fun σ'=>bk [] [(100,100),(101,101),(102,102),(103,103),(104,104)] (hL (j+1) σ' h1)
     clear hR hs hl hk hd ok hvs c1 c2 c3 hL hI
     exact wkl trivial
  ·obtain rfl:j=seeds.length:=by omega
   rw [Cf]
   clear hs hl hk hd ok hL
   exact wkl trivial
structure WQ (u:Ab):Prop where
 s:WS u.sg
 l:u.tr.length<=1048576
 k:∀ v∈u.tr,v.k < 18446744073709551616/\v.p < 18446744073709551616
 n:u.sg.hdr.next.length<=1048576
theorem qL (c:aG) (u:Ab) (now:Int) (hc:BN c) (hu:WQ u) (hn:0<=now/\now<=1000000000000) :
  PureD Tryz.prog 103 [.rp (gW c) 0,.rp (aax u) 0,intD now] (intD (beE c u now)):=by
 refine ak fun R hR=>?_
 have c1:=QZ u.sg hu.s
 have c2:=Wv c u.fr hc.sm
 unfold beE at hR
 by_cases h1:kg u.sg=0
 ·rw [if_pos h1] at hR
  rw [h1] at c1
  obtain ⟨hv,hl,hw⟩:=check_vals h1
  unfold atR at c2
  cases h2:atC c u.fr with
  | none =>
   rw [h2] at hR c2
   simp only [Ai] at c2
   clear hu h1 h2
   refine aa 127 Tryz.func103 rfl rfl rfl (fun _ _=>rfl) ?_
   exact wkl trivial
  | some k =>
   rw [h2] at hR c2
   simp only at hR c2
   have hk:=hc.k k (at_mem h2).1
   have k1:=hk.h
   have k2:=hk.t
   have w1:IntKind.i64.wrap (now - k.t)=now - k.t:=aD (by omega) (by omega)
   have w2:IntKind.i64.wrap (now+10)=now+10:=aD (by omega) (by omega)
   have w3:IntKind.i64.wrap (k.h+1)=k.h+1:=aD (by omega) (by omega)
   have c3:=gN u.sg.hdr.vals k.next
   have c4:=Dy u.tr hu.l
   unfold aaz abG at hR
   by_cases h3:jJ u.tr=0
   ·have ho:=gY.1 h3
    rw [h3] at c4
    rw [if_pos h3] at hR
    have c5:=lT u.tr (by have:=ho.len; omega) hu.k
    have c6:=gN (bW u.tr) k.next
    have c7:=VQ u.tr u.sg ho hv hl
    clear hu h1 h2 h3 ho hv hl hw hk
    generalize bW u.tr=X at *
    generalize Qk u.tr u.sg=V at *
    refine aa 127 Tryz.func103 rfl rfl rfl (fun _ _=>rfl) ?_
    exact wkl trivial
   ·rw [if_neg h3] at hR
    generalize jJ u.tr=W at *
    clear hu h1 h2 hv hl hw hk
    refine aa 127 Tryz.func103 rfl rfl rfl (fun _ _=>rfl) ?_
    exact wkl trivial
 ·rw [if_neg h1] at hR
  generalize kg u.sg=W at *
  clear hu c2
  refine aa 127 Tryz.func103 rfl rfl rfl (fun _ _=>rfl) ?_
  exact wkl trivial
theorem sG:(type_of% @Ty.T3)/\(type_of% @Ty.T4)/\(type_of% @Ty.T5)/\(type_of% @Ty.T29)/\(type_of% @Ty.T35)/\(type_of% @Ty.T72):=⟨@Ty.T3,@Ty.T4,@Ty.T5,@Ty.T29,@Ty.T35,@Ty.T72⟩
theorem CJ {G:Nat->Ob} {o o2 off off2 len len2 cap:Nat} {es es2:List (List I)} (ho:G o=.arr 4 es) (ho2:G o2=.arr 4 es2) (hne:o≠o2) (h1:0 < len) (h2:0 < len2) :
  Sw Tryz.prog 160 [.os o2 4 off2 len2,.oc o 4 off len cap] G (boolD false) G:=by
 intro K0 T K vs hr hrd
 obtain ⟨hs,hg⟩:=hrd
 have e:vs=#[vs.getD 0 undef,vs.getD 1 undef]:=by
  apply Array.ext
  ·simpa using hs
  ·intro i h1 h2
   simp at hs
   have:i=0\/i=1:=by omega
   rcases this with rfl | rfl <;> simp [Array.getD,hs]
 have hrun:=lK (P:=Tryz.prog) (t:=35) (tR:=4) (s:=4) Tryz.underlying35 (eQ (by kernel_rfl)) hr (hg 0 _ rfl) (hg 1 _ rfl) ho ho2 hne h1 h2
 rw [e]
 refine ⟨.bool false,K,?_,Ext.refl K,hr,.i (.s _ rfl)⟩
 rw [run_callFunc_extern Tryz.func160 (by kernel_rfl) (by kernel_rfl) (by kernel_rfl) (e:=Extern.SlicesOverlaps.overlaps #[35,35] #[4]) (by kernel_rfl),hrun]
 rfl
theorem LU (es:List (List I)) (p:List I) (i:Nat) (hi:i<=es.length) (hl:es.length<=1048576) (hu:∀ e∈es,e.length=4) (hp:p.length=4) :
  aN Tryz.prog 106 [.os 0 4 0 es.length,intD i,.os 2 4 0 1] (hF [(0,.arr 4 es),(2,.arr 4 [p])]) (.os 1 4 0 (es.length+1))
   (hOf (hF [(0,.arr 4 es),(2,.arr 4 [p])]) [(1,.arr 4 (es.take i++p :: es.drop i))]):=by
 have hu2:=uN hu
 by_cases hin:i=es.length
 ·subst hin
  have e3:es.length+1<=140737488355328:=by omega
  have e4:(es.length+1) * 64<=140737488355328:=by omega
  refine aa 95 Tryz.func106 rfl rfl rfl (fun o ho=>by simp [hF,lk,show o≠0 by omega,show o≠1 by omega,show o≠2 by omega,show o≠3 by omega,show o≠4 by omega,show o≠5 by omega]) ?_
  refine gx (an (an (an (an (an (an (an sG @intD.eq_1) e3) e4) @hp) hu2) @Int.le_refl) @Nat.sub_self) ?_
  refine dG [(1,.arr 4 (es++[p]))] [] [(1,2794)] rfl ?_ ?_ rfl ?_ rfl
  ·simp [cv,cv1,cv0,upd,iP,hF,lk]
  ·simp [bE,iP,lk,cvO,frz,upd,hF]
  ·simp [hF,lk]
 ·have hlt:i < es.length:=by omega
  refine uE (by omega) fun c hc=>?_
  have g1:decide ((i:Int)=(es.length:Int))=false:=decide_eq_false (by omega)
  have w1:IntKind.i64.wrap ((es.length:Int)+1)=((es.length+1:Nat):Int):=by rw [aD (by omega) (by omega)]; omega
  have w2:IntKind.i64.wrap ((i:Int)+1)=((i+1:Nat):Int):=by rw [aD (by omega) (by omega)]; omega
  have l1:(i<=es.length)=True:=eq_true (by omega)
  have l2:(es.length<=c)=True:=eq_true (by omega)
  have l3:(i<=es.length+1)=True:=eq_true (by omega)
  have l6:(i<=c)=True:=eq_true (by omega)
  have l4:(i+1<=es.length+1)=True:=eq_true (by omega)
  have m2:i+(es.length - i)=es.length:=by omega
  have m4:min 1 (es.length+1 - i)=1:=by omega
  have l7:(es.length - i<=es.length+1 - i)=True:=eq_true (by omega)
  have l8:(i+1<=es.length)=True:=eq_true (by omega)
  have tk:(es.drop i).take (es.length - i)=es.drop i:=List.take_of_length_le (by simp)
  have hu3:uni 4 (es.drop i)=true:=uN fun e he=>hu e (List.mem_of_mem_drop he)
  by_cases hroom:es.length+1<=c
  ·have g2:decide ((c:Int) < ((es.length+1:Nat):Int))=false:=decide_eq_false (by omega)
   have l5:(es.length+1<=c)=True:=eq_true (by omega)
   have m1:min (es.length+1 - i) (es.length+1 - (i+1))=es.length - i:=by omega
   have l9:(i<=(over es (i+1) (es.drop i)).length)=True:=eq_true (by unfold over; simp; omega)
   have hos:=uU (p:=p) hlt
   refine aa 95 Tryz.func106 rfl rfl rfl (fun o ho=>by simp [hF,lk,show o≠0 by omega,show o≠1 by omega,show o≠2 by omega,show o≠3 by omega,show o≠4 by omega,show o≠5 by omega]) ?_
   (repeat (first | (simp -implicitDefEqProofs only [ev,mixed,Nat.reduceLT,Nat.reduceAdd,Nat.reduceMul,reduceIte,Nat.reduceEqDiff,reduceCtorEq,Nat.reducePow,Nat.reduceLeDiff,Int.reduceLE,Int.reduceLT,Int.reduceToNat,Int.reduceEq,Nat.reduceBEq,dV,gdA,af,il,kE,ixQ,ldH,aF,aj,bC,faQ,exQ,kU,dO,bS,slQ,stH,kV,kW,aS,bq,ae,D.one,jP,dH,dX,cvH,sG,intD,slX,GX,Bb,g1,g2,w1,w2,l1,l2,l3,l4,l5,true_or,Nat.sub_zero,Nat.zero_le,l6,hp,hu2]) | (with_reducible refine ⟨?_,?_⟩; (· first | (obtain ⟨rfl⟩:=‹Hq _ _›; with_reducible refine chk_ok ?_; kernel_rfl) | kernel_rfl)) | (with_reducible intro ops hops)))
   refine ⟨_,_,.inr (CJ (len:=es.length+1 - (i+1)) (len2:=1) (by simp [hF,lk]; rfl) (by simp [hF,lk]; rfl) (by decide) (by omega) (by omega)),?_⟩
   (repeat (first | (simp -implicitDefEqProofs only [ev,mixed,Nat.reduceLT,Nat.reduceAdd,Nat.reduceMul,reduceIte,Nat.reduceEqDiff,reduceCtorEq,Nat.reducePow,Nat.reduceLeDiff,Int.reduceLE,Int.reduceLT,Int.reduceToNat,Int.reduceEq,Nat.reduceBEq,dV,gdA,af,il,kE,ixQ,ldH,aF,aj,bC,faQ,exQ,kU,dO,bS,slQ,stH,kV,kW,aS,bq,ae,D.one,jP,dH,dX,cvH,sG,boolD,intD,slX,GX,Bb,cpX,BU,BS,sM,w1,w2,l1,l2,l3,l4,l5,true_or,Nat.sub_zero,Nat.zero_le,l6,hp,hu2,m1,m2,m4,l7,l8,l9,tk,hu3]) | (with_reducible refine ⟨?_,?_⟩; (· first | (obtain ⟨rfl⟩:=‹Hq _ _›; with_reducible refine chk_ok ?_; kernel_rfl) | kernel_rfl)) | (with_reducible intro ops hops)))
   have hos2:(over (over es (i+1) (es.drop i)) i [p]).take (es.length+1)=es.take i++p :: es.drop i:=by rw [hos]; exact List.take_of_length_le (by simp; omega)
   rw [<- hos2]
   exact Bq (o:=0) (cap:=c) rfl (by simp [upd]) (by simp [upd,hF,lk]) (by simp [upd,hF,lk]) (by simp [hF,lk]) (by simp [hF,lk])
  ·have g2:decide ((c:Int) < ((es.length+1:Nat):Int))=true:=decide_eq_true (by omega)
   have l5:(c < es.length+1)=True:=eq_true (by omega)
   have s1:i+(es.length+1 - i)=es.length+1:=by omega
   have e3:es.length+1<=140737488355328:=by omega
   have e4:(es.length+1) * 64<=140737488355328:=by omega
   have m1:min (es.length - i) (es.length+1 - (i+1))=es.length - i:=by omega
   have L1:((i:Int)<=((es.length+1:Nat):Int))=True:=eq_true (by omega)
   have L2:(((i+1:Nat):Int)<=((es.length+1:Nat):Int))=True:=eq_true (by omega)
   have hti:(es.take i).length=i:=by simp; omega
   have l9:(i+1<=(over (es.take i++List.replicate (es.length+1 - i) [I.s (.int .i64 0),I.s (.int .i64 0),I.sl [],I.sl []]) i [p]).length)=True:=eq_true (by rw [yh (by simp; omega)]; simp; omega)
   have hos:=yU (es:=es) (R:=List.replicate (es.length+1 - i) [I.s (.int .i64 0),I.s (.int .i64 0),I.sl [],I.sl []]) (p:=p) hlt (by simp)
   have w3:IntKind.i64.wrap (((es.length+1:Nat):Int) - (i:Int))=((es.length+1 - i:Nat):Int):=by rw [aD (by omega) (by omega)]; omega
   refine aa 95 Tryz.func106 rfl rfl rfl (fun o ho=>by simp [hF,lk,show o≠0 by omega,show o≠1 by omega,show o≠2 by omega,show o≠3 by omega,show o≠4 by omega,show o≠5 by omega]) ?_
   (repeat (first | (simp -implicitDefEqProofs only [ev,mixed,Nat.reduceLT,Nat.reduceAdd,Nat.reduceMul,reduceIte,Nat.reduceEqDiff,reduceCtorEq,Nat.reducePow,Nat.reduceLeDiff,Int.reduceLE,Int.reduceLT,Int.reduceToNat,Int.reduceEq,Nat.reduceBEq,dV,gdA,af,il,kE,ixQ,ldH,aF,aj,bC,faQ,exQ,kU,dO,bS,slQ,stH,kV,kW,aS,bq,ae,D.one,jP,dH,dX,cvH,sG,intD,slX,GX,Bb,apX,cpX,BU,BS,sM,g1,g2,w1,w2,w3,l1,l2,l3,l4,l5,true_or,Nat.sub_zero,Nat.zero_le,l6,hp,hu2,s1,e3,e4,L1,L2,m4,m1,m2,hti,l7,l8,l9,tk,hu3]) | (with_reducible refine ⟨?_,?_⟩; (· first | (obtain ⟨rfl⟩:=‹Hq _ _›; with_reducible refine chk_ok ?_; kernel_rfl) | kernel_rfl)) | (with_reducible intro ops hops)))
   refine dG [(1,.arr 4 (es.take i++p :: es.drop i))] [] [(1,3312)] rfl ?_ ?_ rfl ?_ rfl
   ·simp [cv,cv1,cv0,upd,iP,hF,lk]
   ·simp [bE,iP,lk,cvO,frz,upd,hF,hos]
   ·simp [hF,lk]
theorem Ns (k:aU) (h:Int) (hk:TQ k) (hh:1<=h/\h<=1000000000000):PureD Tryz.prog 105 [Bc k,intD h] (intD (k.h - h)):=by
 refine ak fun R hR=>?_
 have k1:=hk.h
 have w1:IntKind.i64.wrap (k.h - h)=k.h - h:=aD (by omega) (by omega)
 refine aa 9 Tryz.func105 rfl rfl rfl (fun _ _=>rfl) ?_
 exact wkl trivial
theorem MR (l:List aU) (h:Int) (p:Nat) (hl:l.length<=1048576) (hp:p<=l.length) (hk:∀ k∈l,TQ k) (hh:1<=h/\h<=1000000000000) (hm:∀ a (ha:a < l.length),l[a].h < h↔a < p) :
  PureD Tryz.prog 104 [.i (lQ l),intD h,.fn 105 []]
   (.tup [intD p,boolD (if ha:p < l.length then decide (l[p].h=h) else false)]):=by
 refine ak fun R hR=>?_
 refine aa 49 Tryz.func104 rfl rfl rfl (fun _ _=>rfl) ?_
 refine wkl ?_
 clear hR; intro hR
 refine aZ (ι:=Nat × Nat) (fun q=>q.1<=p/\p<=q.2/\q.2<=l.length)
  (fun q=>ek [(0,.i (lQ l)),(1,intD h),(2,.fn 105 []),(8,intD l.length),(9,intD q.1),(10,intD q.2)] []) (fun q=>q.2 - q.1) (0,l.length) ⟨Nat.zero_le _,hp,Nat.le_refl _⟩ ?_ ?_
 ·exact dP [] []
 ·rintro ⟨i,j⟩ ⟨h1,h2,h3⟩ RL hL
  simp only at h1 h2 h3
  rw [au]
  by_cases hij:i < j
  ·have hml:(i+j) / 2 < l.length:=by omega
   have s0:=aH (f:=jw) hml
   have hmm:=hm _ hml
   have c1:=Ns _ h (hk _ (List.getElem_mem hml)) hh
   have w1:IntKind.i64.wrap ((i:Int)+(j:Int))=((i+j:Nat):Int):=by rw [aD (by omega) (by omega)]; omega
   have w2:IntKind.u64.wrap ((i+j:Nat):Int)=((i+j:Nat):Int):=by rw [IntKind.wrap_u64]; omega
   have w3:((i+j:Nat):Int).fdiv (2 ^ min 1 64)=(((i+j) / 2:Nat):Int):=by
    rw [show min 1 64=1 from rfl,Int.fdiv_eq_ediv_of_nonneg _ (by decide)]; omega
   have w4:IntKind.i64.wrap (((i+j) / 2:Nat):Int)=(((i+j) / 2:Nat):Int):=by rw [aD (by omega) (by omega)]
   have hmid1:i<=(i+j) / 2:=by omega
   have hmid2:(i+j) / 2 < j:=by omega
   generalize l[(i+j) / 2]=q at *
   by_cases hq:q.h < h
   ·have b1:=fun σ'=>bk [] [] (hL ((i+j) / 2+1,j) σ' ⟨hmm.1 hq,h2,h3⟩)
    clear hL
    simp only at b1
    generalize (i+j) / 2=m at *
    have hq':q.h - h < 0:=by omega
    clear hm hmm hk hR
    exact wkl trivial
   ·have b1:=fun σ'=>bk [] [] (hL (i,(i+j) / 2) σ' ⟨h1,by have:=fun e=>hq (hmm.2 e); omega,by omega⟩)
    clear hL
    simp only at b1
    generalize (i+j) / 2=m at *
    have hq':¬ q.h - h < 0:=by omega
    clear hm hmm hk hR
    exact wkl trivial
  ·have hi:i=p:=by omega
   subst hi
   clear hL hm
   by_cases hlt:i < l.length
   ·have s0:=aH (f:=jw) hlt
    have c1:=Ns _ h (hk _ (List.getElem_mem hlt)) hh
    rw [dif_pos hlt] at hR
    clear hk
    generalize l[i]=q at *
    have he:decide (q.h - h=0)=decide (q.h=h):=decide_eq_decide.2 (by omega)
    exact wkl trivial
   ·rw [dif_neg hlt] at hR
    clear hk
    exact wkl trivial
theorem ZR (c:aG) (hc:aap c):aN Tryz.prog 96 [fF c] noH (.agg [.i (.s (.string c.c)),.i (.s (.int .i64 c.trust)),.i (.s (.bool c.frozen)),.os 1 4 0 c.known.length]) (hOf noH [(1,.arr 4 (c.known.map jw))]):=by
 refine gX fun R R' hR hR'=>?_
 have hcl:=hc.l
 have e1:=zO c.known hcl
 refine aa 35 Tryz.func96 rfl rfl rfl (fun _ _=>rfl) ?_
 refine wkl ?_
 clear hR; intro hR
 refine aZ (ι:=Nat) (fun i=>i<=c.known.length)
  (fun i=>ek [(1,.pt 100 0 0 0),(2,.pt 101 0 0 0),(10,.os 102 4 0 c.known.length),(11,intD c.known.length),(12,intD i)] [(100,.box [.i (.s (.string c.c)),.i (.s (.int .i64 c.trust)),.i (.s (.bool c.frozen)),.os 102 4 0 c.known.length]),(101,.box ((gW jQ).map .i)),(102,.arr 4 (c.known.map jw))])
  (fun i=>c.known.length - i) 0 (Nat.zero_le _) ?_ ?_
 ·exact dP [] [(100,1000),(101,1001),(102,901)]
 ·rintro i hi RL hL
  rw [au]
  by_cases h:i < c.known.length
  ·have s0:=aH (f:=jw) h
   have s1:=p_ (f:=jw) h
   have hk:=hc.k _ (List.getElem_mem h)
   have c1:=dZ c.known[i].root (by have:=hk.r; omega)
   have c2:=dZ c.known[i].next (by have:=hk.n; omega)
   have b1:=fun σ'=>bk [] [(100,100),(101,101),(102,102)] (hL (i+1) σ' h)
   clear hL e1 hk
   generalize c.known[i]=k at *
   simp only [jw,bI] at s0 s1
   exact wkl trivial
  ·have d1:iN [] [(1,102)]:=⟨trivial⟩
   obtain ⟨rfl⟩:=hR'
   exact wkl trivial
theorem uK (l:List aU):∀ e∈l.map jw,e.length=4:=by simp [jw]
theorem aaf {l:List aU} {p:Nat} {k:aU}:(WI l p k=true)=((0 < p/\∃ h:p - 1 < l.length,k.t<=l[p - 1].t)\/∃ h:p < l.length,l[p].t<=k.t):=by
 unfold WI
 by_cases h1:p - 1 < l.length <;> by_cases h2:p < l.length <;> simp [h1,h2]
theorem Nq (c:aG) (u:Ab) (now:Int) (hl:c.known.length<=1048576) (hu:WQ u) :
  PureD Tryz.prog 52 [fF c,aaq u,intD now] (.tup [fF (gM c u now).1,intD (gM c u now).2]):=by
 refine ak fun R hR=>?_
 have c1:=tL c now hl
 unfold gM at hR
 by_cases h1:eU c now=0
 ·obtain ⟨ok,hn,hfz⟩:=asked_zero.1 h1
  have c2:=qL c u now ok hu hn
  rw [if_pos h1] at hR
  rw [h1] at c1
  by_cases h2:beE c u now=0
  ·rw [if_pos h2] at hR
   rw [h2] at c2
   obtain ⟨hk,hv⟩:=be_hdr h2
   have e1:=ZR c ok.sm
   have k1:=hk.r
   have k2:=hk.n
   have c3:=dZ u.sg.hdr.root (by simp only [ofH] at k1; omega)
   have c4:=dZ u.sg.hdr.next (by simp only [ofH] at k2; omega)
   have c5:=MR c.known u.sg.hdr.h (ja c.known u.sg.hdr.h) hl (Tk _ _) ok.k hk.h (qx ok.rise)
   have hlen:=ok.len
   have hle:=Tk c.known u.sg.hdr.h
   unfold Ag at hR
   rcases low_case u.sg.hdr.h ok.rise with ⟨hp,hk0,hat⟩ | ⟨hno,hat⟩
   ·rw [dif_pos hp,decide_eq_true hk0] at c5
    simp only [ofH,hat] at hR
    have s0:=aH (f:=jw) hp
    clear hu h1 h2 hk hv k1 k2 hk0 hat ok hle
    generalize c.known[ja c.known u.sg.hdr.h]=o at *
    generalize ja c.known u.sg.hdr.h=p at *
    have c6:=gN o.root u.sg.hdr.root
    have c7:=gN o.next u.sg.hdr.next
    unfold aar at hR
    by_cases a1:o.t=u.sg.hdr.t <;> by_cases a2:o.root=u.sg.hdr.root <;> by_cases a3:o.next=u.sg.hdr.next <;> simp [a1,a2,a3] at hR c6 c7
    all_goals
     refine aa 131 Tryz.func52 rfl rfl rfl (fun _ _=>rfl) ?_
     exact wkl trivial
   ·have c5':PureD Tryz.prog 104 [.i (lQ c.known),intD u.sg.hdr.h,.fn 105 []] (.tup [intD (ja c.known u.sg.hdr.h),boolD false]):=by
     have e:(if ha:ja c.known u.sg.hdr.h < c.known.length then decide (c.known[ja c.known u.sg.hdr.h].h=u.sg.hdr.h) else false)=false:=by
      split
      ·rename_i ha; exact decide_eq_false (hno ha)
      ·rfl
     rw [e] at c5; exact c5
    clear c5
    have c5:=c5'
    clear c5'
    simp only [ofH,hat] at hR
    have hbad:=@aaf c.known (ja c.known u.sg.hdr.h) ⟨u.sg.hdr.h,u.sg.hdr.t,u.sg.hdr.root,u.sg.hdr.next⟩
    simp only [hbad] at hR
    have e2:=LU (c.known.map jw) (jw ⟨u.sg.hdr.h,u.sg.hdr.t,u.sg.hdr.root,u.sg.hdr.next⟩) (ja c.known u.sg.hdr.h) (by simpa using hle) (by simpa using hl) (uK c.known) rfl
    rw [<- List.map_take,<- List.map_drop,<- List.map_cons,<- List.map_append,List.length_map] at e2
    have hne:∃ a L,c.known.take (ja c.known u.sg.hdr.h)++(⟨u.sg.hdr.h,u.sg.hdr.t,u.sg.hdr.root,u.sg.hdr.next⟩:aU) :: c.known.drop (ja c.known u.sg.hdr.h)=a :: L/\L.length=c.known.length:=by
     have hll:(c.known.take (ja c.known u.sg.hdr.h)++(⟨u.sg.hdr.h,u.sg.hdr.t,u.sg.hdr.root,u.sg.hdr.next⟩:aU) :: c.known.drop (ja c.known u.sg.hdr.h)).length=c.known.length+1:=by simp; omega
     revert hll
     cases c.known.take (ja c.known u.sg.hdr.h)++(⟨u.sg.hdr.h,u.sg.hdr.t,u.sg.hdr.root,u.sg.hdr.next⟩:aU) :: c.known.drop (ja c.known u.sg.hdr.h) with
     | nil=>intro h; simp at h
     | cons a L=>intro h; exact ⟨a,L,rfl,by simpa using h⟩
    obtain ⟨a,L,hL,hLl⟩:=hne
    rw [hL] at e2 hR
    have s0:=fun h=>aH (f:=jw) (l:=c.known) (i:=ja c.known u.sg.hdr.h - 1) h
    have s1:=fun h=>aH (f:=jw) (l:=c.known) (i:=ja c.known u.sg.hdr.h) h
    clear hu h1 h2 hk hv k1 k2 hat ok hno hL hbad
    generalize ja c.known u.sg.hdr.h=p at *
    have hcut:IK (a :: L)=if (30:Int) < ((c.known.length+1:Nat):Int) then L else a :: L:=by
     unfold IK; rw [List.length_cons,hLl]; rfl
    rw [hcut] at hR
    simp only [jw,bI,intD] at e2
    have z1:(a :: L).map jw=jw a :: L.map jw:=rfl
    clear hcut
    have z2:(L.map jw).take c.known.length=L.map jw:=by rw [<- hLl]; exact fB
    by_cases q1:0 < p <;> by_cases q2:p < c.known.length
    ·have a0:=s0 (by omega)
     have a1:=s1 q2
     have hc:((0 < p/\∃ h:p - 1 < c.known.length,u.sg.hdr.t<=c.known[p - 1].t)\/∃ h:p < c.known.length,c.known[p].t<=u.sg.hdr.t)=(u.sg.hdr.t<=c.known[p - 1].t\/c.known[p].t<=u.sg.hdr.t):=by simp [q1,q2,show p - 1 < c.known.length by omega]
     simp only [hc] at hR
     have w1:IntKind.i64.wrap ((p:Int) - 1)=((p - 1:Nat):Int):=by rw [aD (by omega) (by omega)]; omega
     clear hc s0 s1
     generalize c.known[p - 1]=x at *
     generalize c.known[p]=y at *
     refine aa 131 Tryz.func52 rfl rfl rfl (fun _ _=>rfl) ?_
     exact wkl trivial
    ·have a0:=s0 (by omega)
     have hc:((0 < p/\∃ h:p - 1 < c.known.length,u.sg.hdr.t<=c.known[p - 1].t)\/∃ h:p < c.known.length,c.known[p].t<=u.sg.hdr.t)=(u.sg.hdr.t<=c.known[p - 1].t):=by simp [q1,q2,show p - 1 < c.known.length by omega]
     simp only [hc] at hR
     have w1:IntKind.i64.wrap ((p:Int) - 1)=((p - 1:Nat):Int):=by rw [aD (by omega) (by omega)]; omega
     clear hc s0 s1
     generalize c.known[p - 1]=x at *
     refine aa 131 Tryz.func52 rfl rfl rfl (fun _ _=>rfl) ?_
     exact wkl trivial
    ·have a1:=s1 q2
     have hc:((0 < p/\∃ h:p - 1 < c.known.length,u.sg.hdr.t<=c.known[p - 1].t)\/∃ h:p < c.known.length,c.known[p].t<=u.sg.hdr.t)=(c.known[p].t<=u.sg.hdr.t):=by simp [q1,q2]
     simp only [hc] at hR
     clear hc s0 s1
     generalize c.known[p]=y at *
     obtain rfl:p=0:=by omega
     refine aa 131 Tryz.func52 rfl rfl rfl (fun _ _=>rfl) ?_
     exact wkl trivial
    ·omega
  ·rw [if_neg h2] at hR
   generalize beE c u now=W at *
   clear hu ok hn hfz h1
   refine aa 131 Tryz.func52 rfl rfl rfl (fun _ _=>rfl) ?_
   exact wkl trivial
 ·rw [if_neg h1] at hR
  generalize eU c now=W at *
  clear hu
  refine aa 131 Tryz.func52 rfl rfl rfl (fun _ _=>rfl) ?_
  exact wkl trivial
def Ww (V W:Int) (E:aG × Int):Nat->aG × Int
 | 0=>if V=0 then (if W=0 then E else (jQ,W)) else (jQ,V)
 | 1=>if W=0 then E else (jQ,W)
 | _=>E
theorem RN (c:aG) (a b:Ab) (now:Int) (hl:c.known.length<=1048576) (ha:WQ a) (hb:WQ b) :
  PureD Tryz.prog 204 [fF c,aaq a,aaq b,intD now] (.tup [fF (nG c a b now).1,intD (nG c a b now).2]):=by
 refine ak fun R hR=>?_
 have c1:=tL c now hl
 have r1:=aac (P:=Tryz.prog) (t:=346) (e:=202) (by kernel_rfl) (by kernel_rfl) (by kernel_rfl)
 unfold nG at hR
 by_cases h1:eU c now=0
 ·obtain ⟨ok,hn,hfz⟩:=asked_zero.1 h1
  have c2:=qL c a now ok ha hn
  have c3:=qL c b now ok hb hn
  rw [if_pos h1] at hR
  rw [h1] at c1
  have c4:=tF a.sg.hdr ha.s.h.c ha.s.h.root ha.s.h.vals ha.s.h.next
  have c5:=tF b.sg.hdr hb.s.h.c hb.s.h.root hb.s.h.vals hb.s.h.next
  have c6:=gN (bQ a.sg.hdr) (bQ b.sg.hdr)
  have c7:=MU c ok.sm
  clear ha hb ok hfz h1 hl
  generalize bQ a.sg.hdr=X at *
  generalize bQ b.sg.hdr=Y at *
  generalize beE c a now=V at *
  generalize beE c b now=W at *
  refine aa 60 Tryz.func204 rfl rfl rfl (fun _ _=>rfl) ?_
  refine wkl ?_
  clear hR; intro hR
  have hR':Hr (.tup [fF (Ww V W (if a.sg.hdr.h=b.sg.hdr.h/\¬ X=Y then ({ c with frozen:=true },0) else (jQ,8)) 0).1,intD (Ww V W (if a.sg.hdr.h=b.sg.hdr.h/\¬ X=Y then ({ c with frozen:=true },0) else (jQ,8)) 0).2]) R:=hR
  clear hR
  refine aZ (ι:=Nat) (fun i=>i<=2/\Hr (.tup [fF (Ww V W (if a.sg.hdr.h=b.sg.hdr.h/\¬ X=Y then ({ c with frozen:=true },0) else (jQ,8)) i).1,intD (Ww V W (if a.sg.hdr.h=b.sg.hdr.h/\¬ X=Y then ({ c with frozen:=true },0) else (jQ,8)) i).2]) R)
   (fun i=>ek [(3,intD now),(4,.pt 100 0 0 0),(5,.pt 101 0 0 0),(6,.pt 102 0 0 0),(8,.pt 103 0 0 0),(23,.bs 104 0 2),(24,intD 2),(25,intD i)]
    [(100,.box ((gW c).map .i)),(101,.box ((aax a).map .i)),(102,.box ((aax b).map .i)),(103,.box ((gW jQ).map .i)),(104,.box [.pt 101 0 0 0,.pt 102 0 0 0])]) (fun i=>2 - i) 0 ⟨Nat.zero_le _,hR'⟩ ?_ ?_
  ·exact dP [] [(100,1000),(101,1001),(102,1002),(103,1003),(104,2024)]
  ·rintro i ⟨hi,hR⟩ RL hL
   clear hR'
   rw [au]
   have b1:=fun σ' (h:i+1<=2) hq=>bk [] [(100,100),(101,101),(102,102),(103,103),(104,104)] (hL (i+1) σ' ⟨h,hq⟩)
   clear hL
   match i,hi with
   | 0,_ =>
    have b1:=fun σ' (hq:Hr _ R)=>b1 σ' (by omega) hq
    simp only [Ww] at hR b1
    exact wkl trivial
   | 1,_ =>
    have b1:=fun σ' (hq:Hr _ R)=>b1 σ' (by omega) hq
    simp only [Ww] at hR b1
    exact wkl trivial
   | 2,_ =>
    clear b1
    simp only [Ww] at hR
    by_cases hx:X=Y
    ·rw [decide_eq_true hx] at c6
     simp only [hx,not_true,and_false,if_false] at hR
     exact wkl trivial
    ·rw [decide_eq_false hx] at c6
     simp only [hx,not_false_eq_true,and_true] at hR
     exact wkl trivial
 ·rw [if_neg h1] at hR
  generalize eU c now=W at *
  clear ha hb
  refine aa 60 Tryz.func204 rfl rfl rfl (fun _ _=>rfl) ?_
  exact wkl trivial
end Go.Proofs.YtfenipelcpmkpaaGreatDoor
