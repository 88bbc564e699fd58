/- Clash, plain: who shows what is not so has two lists of bytes with one digest. No program here. -/
import Derived.Test.YtdmeldhlbpdeeaaGreatDoorGProof
set_option linter.all false
namespace Go.Proofs.YtdmeldhlbpdeeaaGreatDoor
theorem IP {a b:Nat}(ha:a<4294967296)(hb:b<4294967296)(h:four a=four b):a=b:=by simp only[four,aQ,List.cons.injEq,and_true]at h;obtain⟨h1,h2,h3,h4⟩:=h;have h1:=congrArg UInt8.toNat h1;have h2:=congrArg UInt8.toNat h2;have h3:=congrArg UInt8.toNat h3;have h4:=congrArg UInt8.toNat h4;simp only[UInt8.toNat_ofNat',Nat.div_one]at h1 h2 h3 h4;omega
def l_ (k v:List UInt8):List UInt8:=0::(four k.length++(k++v))
def fH (a b:List UInt8):List UInt8:=1::(a++b)
def qf (n:Nat)(t:List UInt8):List UInt8:=2::(four n++t)
theorem OB {k v k' v':List UInt8}(h1:k.length<4294967296)(h2:k'.length<4294967296)(h:l_ k v=l_ k' v'):k=k'/\v=v':=by simp only[l_,List.cons.injEq,true_and]at h;obtain⟨a,b⟩:=List.append_inj h rfl;exact List.append_inj b (IP h1 h2 a)
abbrev CR:=List UInt8×List UInt8×Bool
def zX (p:b_):List aN->CR
 |[]=>([],[],false)
 |q::_=>if l_ q.k q.v=l_ p.k p.v then([],[],false)else(l_ q.k q.v,l_ p.k p.v,true)
def iw (p:b_):List aN->Nat->List (List UInt8)->CR
 |l,_,[]=>zX p l
 |l,i,d::r =>
  if 2<=l.length then
   if i<ae l.length then
    if fH (aZ (l.take (ae l.length))) (aZ (l.drop (ae l.length)))=fH (bV (dU p.k p.v) i (ae l.length) r).1 d then iw p (l.take (ae l.length)) i r
    else(fH (aZ (l.take (ae l.length))) (aZ (l.drop (ae l.length))),fH (bV (dU p.k p.v) i (ae l.length) r).1 d,true)
   else
    if fH (aZ (l.take (ae l.length))) (aZ (l.drop (ae l.length)))=fH d (bV (dU p.k p.v) (i-ae l.length) (l.length-ae l.length) r).1 then iw p (l.drop (ae l.length)) (i-ae l.length) r
    else(fH (aZ (l.take (ae l.length))) (aZ (l.drop (ae l.length))),fH d (bV (dU p.k p.v) (i-ae l.length) (l.length-ae l.length) r).1,true)
  else zX p l
def jr (l:List aN)(p:b_):CR :=
 if(dQ l).1=0 then
  if dV (h_ l) p then
   if qf l.length (aZ l)=qf p.n.toNat (eZ p).1 then iw p l p.i.toNat p.path.reverse
   else(qf l.length (aZ l),qf p.n.toNat (eZ p).1,true)
  else([],[],false)
 else([],[],false)
def ahj (r:CR)(so:Prop):Prop:=(r.2.2=true->r.1≠r.2.1/\sha r.1=sha r.2.1)/\(r.2.2=false->so)
theorem IR {leaf:List UInt8}(hl:leaf.length=32):∀(r:List (List UInt8))(i n:Nat),(bV leaf i n r).2=true->(bV leaf i n r).1.length=32:=by
 intro r;induction r with
 |nil =>
  intro i n h;simp only[bV]at h⊢;split
  ·exact hl
  ·rename_i h1;rw[if_neg h1]at h;cases h
 |cons d r ih =>
  intro i n h;simp only[bV]at h⊢;split
  ·exact hl
  ·split<;>exact bg _
theorem Dc (p:b_)(hpk:p.k.length<=60):∀(rev:List (List UInt8))(l:List aN)(i:Nat)(hi:i<l.length),(∀q∈l,q.k.length<=60)->(∀d∈rev,d.length=32)->l.length<4294967296 ->
  bV (dU p.k p.v) i l.length rev=(aZ l,true)->ahj (iw p l i rev) (l[i].k=p.k/\l[i].v=p.v):=by
 have last:∀(q:aN),q.k.length<=60->dU p.k p.v=dU q.k q.v->ahj (zX p [q]) (q.k=p.k/\q.v=p.v):=by
  intro q hq h;simp only[zX];by_cases he:l_ q.k q.v=l_ p.k p.v
  ·rw[if_pos he];exact⟨λh=>(by cases h),λ_=>OB (by omega) (by omega) he⟩
  ·rw[if_neg he];exact⟨λ_=>⟨he,h.symm⟩,λh=>by cases h⟩
 intro rev;induction rev with
 |nil =>
  intro l i hi hk _ _ hf;simp only[bV]at hf;by_cases h1:l.length=1
  ·obtain⟨q,rfl⟩:=List.length_eq_one_iff.1 h1;have:i=0:=by simpa using hi
   subst this;rw[if_pos h1,qc]at hf;exact last q (hk q (by simp)) (by simpa using hf)
  ·rw[if_neg h1]at hf;simp at hf
 |cons d r ih =>
  intro l i hi hk hd hl hf;simp only[bV]at hf;by_cases h1:l.length=1
  ·rw[if_pos h1]at hf;simp at hf
  ·rw[if_neg h1]at hf;have h2:2<=l.length:=by omega
   have hs:=fT h2;have n1:l.take (ae l.length)≠[]:=by intro hc;have:=congrArg List.length hc;simp only[List.length_take,List.length_drop,List.length_nil]at this;omega
   have n2:l.drop (ae l.length)≠[]:=by intro hc;have:=congrArg List.length hc;simp only[List.length_take,List.length_drop,List.length_nil]at this;omega
   have l1:=fP _ n1;have l2:=fP _ n2;have hd0:=hd d (by simp);have hk1:(l.take (ae l.length)).length=ae l.length:=by simp;omega
   have hk2:(l.drop (ae l.length)).length=l.length-ae l.length:=by simp
   simp only[iw,if_pos h2];rw[qb h2]at hf;by_cases hc:i<ae l.length
   ·rw[if_pos hc]at hf⊢;simp only[Prod.mk.injEq]at hf;obtain⟨f1,f2⟩:=hf;have ft:=IR (bg _) r i (ae l.length) f2;split
    ·rename_i he;simp only[fH,List.cons.injEq,true_and]at he;obtain⟨a,b⟩:=List.append_inj he (l1.trans ft.symm);have hih:=ih (l.take (ae l.length)) i (by omega) (λq hq=>hk q (List.mem_of_mem_take hq)) (λx hx=>hd x (by simp[hx])) (by omega) (by rw[hk1];exact Prod.ext a.symm f2);have e:(l.take (ae l.length))[i]'(by omega)=l[i]:=by simp
     rw[e]at hih;exact hih
    ·rename_i he;exact⟨λ_=>⟨he,f1.symm⟩,λh=>by cases h⟩
   ·rw[if_neg hc]at hf⊢;simp only[Prod.mk.injEq]at hf;obtain⟨f1,f2⟩:=hf;have ft:=IR (bg _) r (i-ae l.length) (l.length-ae l.length) f2;split
    ·rename_i he;simp only[fH,List.cons.injEq,true_and]at he;obtain⟨a,b⟩:=List.append_inj he (l1.trans hd0.symm);have hih:=ih (l.drop (ae l.length)) (i-ae l.length) (by omega) (λq hq=>hk q (List.mem_of_mem_drop hq)) (λx hx=>hd x (by simp[hx])) (by omega) (by rw[hk2];exact Prod.ext b.symm f2);have e:(l.drop (ae l.length))[i-ae l.length]'(by omega)=l[i]:=by rw[List.getElem_drop];congr 1;omega
     rw[e]at hih;exact hih
    ·rename_i he;exact⟨λ_=>⟨he,f1.symm⟩,λh=>by cases h⟩
theorem top_same {l:List aN}{p:b_}(hl:l.length<4294967296)(hp:p.n.toNat<4294967296)(h:qf l.length (aZ l)=qf p.n.toNat (eZ p).1):l.length=p.n.toNat/\aZ l=(eZ p).1:=by simp only[qf,List.cons.injEq,true_and]at h;obtain⟨a,b⟩:=List.append_inj h rfl;exact⟨IP hl hp a,b⟩
theorem shownF_all {r:List UInt8}{p:b_}(h:dV r p=true):pz p=true/\(eZ p).2=true/\Gc p.n.toNat (eZ p).1=r:=by unfold dV at h;simp only[Bool.and_eq_true,decide_eq_true_eq]at h;exact⟨h.1.1,h.1.2,h.2⟩
theorem clash_told {l:List aN}{p:b_}(hr:xC l)(h:dV (h_ l) p=true):
  ahj (jr l p) (p.n=l.length/\∃hi:p.i.toNat<l.length,l[p.i.toNat].k=p.k/\l[p.i.toNat].v=p.v):=by
 obtain⟨hf,ht,htop⟩:=shownF_all h;obtain⟨a1,a2,a3,a4,a5,a6,a7,a8⟩:=formF_yes hf;have hll:=hr.len;unfold jr;rw[if_pos (by rw[gN hr]),if_pos h];split
 ·rename_i he;obtain⟨b1,b2⟩:=top_same (by omega) (by omega) he;have hi:p.i.toNat<l.length:=by omega
  have hg:=Dc p (by omega) p.path.reverse l p.i.toNat hi (λq hq=>(hr.big q hq).1) (λd hd=>a8 d (by simpa using hd)) (by omega) (by rw[b1];unfold eZ at b2 ht;exact Prod.ext b2.symm ht)
  exact⟨hg.1,λh=>⟨by omega,hi,hg.2 h⟩⟩
 ·rename_i he;exact⟨λ_=>⟨he,htop.symm⟩,λh=>by cases h⟩
theorem Db {l:List aN}{p:b_}(h:¬((dQ l).1=0/\dV (h_ l) p=true)):jr l p=([],[],false):=by
 unfold jr;split
 ·split
  ·exact absurd ⟨‹_›,‹_›⟩ h
  ·rfl
 ·rfl
end Go.Proofs.YtdmeldhlbpdeeaaGreatDoor
