/- Merged texts: HdB, HdC, HdD, ClC, InsKn, ClD, ClE. -/
import Derived.Test.YtdmeldhlbpdeeaaGreatDoorGMk
set_option linter.all false
set_option maxHeartbeats 4000000
set_option maxRecDepth 20000
namespace Go.Proofs.YtdmeldhlbpdeeaaGreatDoor
open Go Go.Abs Go.RowKit Go.Proofs.YtdmeldhlbpdeeaaGreatDoor.Ty
attribute [local simp,local go_sem] intD boolD sD bI dI valsI bW wM jh oU
theorem Cy (l:List bC)(hl:l.length<=1048576)(hb:∀p∈l,p.b.length<=1048576)(hn:KM l):PureD Tryz.prog 71 [.i (.sl (l.map wM))] (.i (bI (bD l).1)):=by have c1:=yP l hl hb hn;refine ai λR hR=>?_;generalize bD l=W at*;refine aa 11 Tryz.func71 ?_;exact wkl trivial
theorem Ad (n:Nat):PureD Tryz.prog 70 [dI n] (.agg [.i (.s (.int .i64 1)),.i (.s (.int .u64 n)),.i (.sl [])]):=by refine ai λR hR=>?_;refine aa 5 Tryz.func70 ?_;exact wkl trivial
theorem Iw (b:List UInt8):PureD Tryz.prog 134 [.i (bI b)] (.agg [.i (.s (.int .i64 2)),.i (.s (.int .u64 0)),.i (bI b)]):=by refine ai λR hR=>?_;refine aa 5 Tryz.func134 ?_;exact wkl trivial
theorem Nn {l:List dA}{i:Nat}(h:i<l.length):xu (l.take (i+1))=xu (l.take i)++[jh l[i].k,jh l[i].p]:=by unfold xu;rw[List.take_succ_eq_append_getElem h,List.flatMap_append];simp
theorem GQ (l:List dA):(xu l).length=2*l.length:=by
 unfold xu;induction l with
 |nil=>rfl
 |cons a t ih=>rw[List.flatMap_cons,List.length_append,ih];simp;omega
theorem Zm {l:List dA}(h:∀v∈l,v.k<18446744073709551616/\v.p<18446744073709551616):KM (xu l):=by
 intro p hp;unfold xu at hp;rw[List.mem_flatMap]at hp;obtain⟨v,hv,hp⟩:=hp;simp only[List.mem_cons,List.not_mem_nil,or_false]at hp;rcases hp with rfl|rfl
 ·exact(h v hv).1
 ·exact(h v hv).2
theorem acN (l:List dA):∀p∈xu l,p.b=[]:=by intro p hp;unfold xu at hp;rw[List.mem_flatMap]at hp;obtain⟨v,hv,hp⟩:=hp;simp only[List.mem_cons,List.not_mem_nil,or_false]at hp;rcases hp with rfl|rfl<;>rfl
theorem afX (l:List bC):uni 3 (l.map wM)=true:=eG (s:=3) (f:=wM) (fun _=>rfl) l
theorem jW (l:List dA)(hl:l.length<=500000)(hn:∀v∈l,v.k<18446744073709551616/\v.p<18446744073709551616):PureD Tryz.prog 22 [.i (valsI l)] (.i (bI (digestV l))):=by
 refine ai λR hR=>?_;refine aa 25 Tryz.func22 ?_;refine wkl ?_;clear hR;intro hR
 repeat' (intro _)
 refine aS (ι:=Nat) (λi=>i<=l.length)
  (λi=>dP [(6,.i (valsI l)),(7,intD l.length),(8,intD i),(3,.os 100 3 0 (xu (l.take i)).length)] [(100,.arr 3 ((xu (l.take i)).map wM))]) (λi=>l.length-i) 0 (Nat.zero_le _) ?_ ?_
 ·simp only[List.take_zero,show xu []=[]from rfl];exact dB [] []
 ·rintro i hi RL hL;rw[ag];by_cases h:i<l.length
  ·have e1:=aI (f:=bW) h;have hs:=Nn h;have hlen:=GQ (l.take i);have hlt:(l.take i).length=i:=by rw[List.length_take];omega
   have c1:=Ad l[i].k;have c2:=Ad l[i].p;have hu:=afX (xu (l.take i));rw[hlt]at hlen;generalize l[i]=v at*;generalize hP':xu (l.take (i+1))=P' at*;generalize xu (l.take i)=P at*;subst hs;have b1:P.length<=140737488355326:=by omega
   have b3:(P.length+2)*40<=140737488355328:=by omega
   have hL2:=λσ'=>hL (i+1) σ' h;rw[hP']at hL2;have b4:=λσ'=>bk [] [(100,2288)] (hL2 σ');clear hR hlen hlt hL hL2;exact wkl trivial
  ·have ht:l.take i=l:=List.take_of_length_le (by omega);have c1:=Cy (xu l) (by rw[GQ];omega) (λp hp=>by rw[acN l p hp];simp) (Zm hn);have c2:=Kq (bD (xu l)).1 (by have:=nQ (xu l);omega);unfold digestV at hR;rw[ht];generalize(bD (xu l)).1=W at*;generalize xu l=P at*;exact wkl trivial
end Go.Proofs.YtdmeldhlbpdeeaaGreatDoor
namespace Go.Proofs.YtdmeldhlbpdeeaaGreatDoor
open Go Go.Abs Go.RowKit Go.Proofs.YtdmeldhlbpdeeaaGreatDoor.Ty
attribute [local simp,local go_sem] intD boolD sD bI dI valsI votesI bW IY LC XF mU qp
def Zj (l:List dA)(i:Nat):Option dA:=if i=0 then none else l[i-1]?
theorem EO (l:List dA)(hl:l.length<=1048576):PureD Tryz.prog 73 [.i (valsI l)] (intD (kZ l)):=by
 refine ai λR hR=>?_;unfold kZ at hR;refine aa 42 Tryz.func73 ?_;refine wkl ?_;clear hR;intro hR
 repeat' (intro _)
 have hR':Hr (intD (yS (Zj l 0) (l.drop 0))) R:=by assumption
 clear hR;refine aS (ι:=Nat) (λi=>i<=l.length/\Hr (intD (yS (Zj l i) (l.drop i))) R)
  (λi=>dP [(0,.i (valsI l)),(13,.i (valsI l)),(14,intD l.length),(15,intD i)] []) (λi=>l.length-i) 0 ⟨Nat.zero_le _,hR'⟩ ?_ ?_
 ·exact dB [] []
 ·rintro i ⟨hi,hR⟩ RL hL;clear hR';rw[ag];by_cases h:i<l.length
  ·have e1:=aI (f:=bW) h;rw[List.drop_eq_getElem_cons h,yS]at hR;have hnx:Zj l (i+1)=some l[i]:=by simp[Zj,h]
   rw[<- hnx]at hR;cases i with
   |zero =>
    have hp:Zj l 0=none:=rfl;rw[hp]at hR;simp only[Option.any_none,Bool.false_eq_true,if_false]at hR;have hg0:¬((0:Int)<((0:Nat):Int)):=by omega
    have b1:=λσ' (hq:Hr _ R)=>bk [] [] (hL (0+1) σ' ⟨h,hq⟩);clear hp hL;generalize l[0]=v at*;clear hnx;exact wkl trivial
   |succ j =>
    have hj:j<l.length:=by omega
    have hp:Zj l (j+1)=some l[j]:=by simp[Zj,hj]
    have e2:=aI (f:=bW) hj;rw[hp]at hR;simp only[Option.any_some,decide_eq_true_eq]at hR;have hg0:(0:Int)<((j+1:Nat):Int):=by omega
    have w0:IntKind.i64.wrap (((j+1:Nat):Int)-1)=(j:Int):=by rw[au (by omega) (by omega)];omega
    have b1:=λσ' (hq:Hr _ R)=>bk [] [] (hL (j+1+1) σ' ⟨h,hq⟩);clear hL;generalize l[j+1]=v at*;generalize l[j]=q at*;clear hnx hp;exact wkl trivial
  ·rw[List.drop_eq_nil_of_le (by omega),yS]at hR;clear hL;exact wkl trivial
theorem Iu (h:kv):PureD Tryz.prog 72 [LC h] (intD (fA h)):=by refine ai λR hR=>?_;have c1:=EQ h.c;have c2:=tK h.h;have c3:=tK h.t;unfold fA at hR;refine aa 41 Tryz.func72 ?_;exact wkl trivial
theorem uW (h:kv)(h0:h.c.size<=1048576)(h1:h.root.length<=1048576)(h2:h.vals.length<=1048576)(h3:h.next.length<=1048576):PureD Tryz.prog 77 [LC h] (.i (bI (a_ h))):=by
 refine ai λR hR=>?_;have c1:=Iw (unB h.c);have c2:=Ad (u64 h.h);have c3:=Ad (u64 h.t);have c4:=Iw h.root;have c5:=Iw h.vals;have c6:=Iw h.next
 have hsz:h.c.size<=140737488355328:=by omega
 have c7:=Cy (Dx h) (by simp[Dx]) (by intro p hp;simp only[Dx,El,jh,List.mem_cons,List.not_mem_nil,or_false]at hp;rcases hp with rfl|rfl|rfl|rfl|rfl|rfl<;>simp only[unB_len,List.length_nil]<;>omega)
  (by intro p hp;simp only[Dx,El,jh,List.mem_cons,List.not_mem_nil,or_false]at hp;rcases hp with rfl|rfl|rfl|rfl|rfl|rfl<;>first|exact u64_lt _|(simp only;omega))
 unfold a_ at hR;generalize(bD (Dx h)).1=W at*;simp only[Dx,El,jh,List.map_cons,List.map_nil,wM]at c7;clear h0 h1 h2 h3;have x1:=Mw h.c;have x2:=LU;refine aa 26 Tryz.func77 ?_;exact wkl trivial
theorem aen (h:kv)(h1:h.root.length<=1048576)(h2:h.vals.length<=1048576)(h3:h.next.length<=1048576):PureD Tryz.prog 74 [LC h] (LC h):=by
 refine ai λR hR=>?_;have c1:=eT h.root (by omega);have c2:=eT h.vals (by omega);have c3:=eT h.next (by omega)
 refine aa 16 Tryz.func74 ?_;exact wkl trivial
theorem vB {α β:Type}{l:List α}{m:List β}{i:Nat}(h:i<l.length)(h':i<m.length):(l.zip m)[i]'(by rw[List.length_zip];omega)=(l[i],m[i]):=by simp
theorem VW {l:List dA}(h:nM l)(m:List mP)(i:Nat):Lv ((l.zip m).take i)<=10000000:=by
 have h1:=sS (f:=Sn) (k:=1000000) (l:=(l.zip m).take i) (zl λq hq=>by obtain⟨v,x⟩:=q;have:=h.pow v (List.of_mem_zip hq).1;show(if x.is=true then v.p else 0)<=_;split<;>omega)
 have h2:=h.len;have h3:((l.zip m).take i).length<=10:=by rw[List.length_take,List.length_zip];omega
 unfold Lv;have:((l.zip m).take i).length*1000000<=10*1000000:=Nat.mul_le_mul_right _ h3;omega
structure Li (h:kv):Prop where
 c:h.c.size<=1048576
 root:h.root.length<=1048576
 vals:h.vals.length<=1048576
 next:h.next.length<=1048576
theorem yl (h:kv):(a_ h).length<=20000:=nQ _
theorem Uu (s:gG)(hs:Li s.hdr)(hv:nM s.vals)(hl:s.votes.length=s.vals.length)(hk:∀v∈s.vals,v.k<18446744073709551616)(hx:∀x∈s.votes,x.r<18446744073709551616/\x.s<18446744073709551616):
  PureD Tryz.prog 181 [.rp (XF s) 0] (.tup [dI (sumP s.vals),dI (Lv (s.vals.zip s.votes)),boolD (RZ (a_ s.hdr) (s.vals.zip s.votes))]):=by
 refine ai λR hR=>?_;have c1:=uW s.hdr hs.c hs.root hs.vals hs.next
 have hbl:=yl s.hdr;have hlz:(s.vals.zip s.votes).length=s.vals.length:=by rw[List.length_zip];omega
 have hle:=hv.len;refine aa 57 Tryz.func181 ?_;refine wkl ?_;clear hR;intro hR
 repeat' (intro _)
 refine aS (ι:=Nat) (λi=>i<=s.vals.length)
  (λi=>dP [(0,.rp (XF s) 0),(5,.i (bI (a_ s.hdr))),(2,dI (sumP (s.vals.take i))),(3,dI (Lv ((s.vals.zip s.votes).take i))),(4,boolD (RZ (a_ s.hdr) ((s.vals.zip s.votes).take i))),(16,.i (valsI s.vals)),(17,intD s.vals.length),(18,intD i)] []) (λi=>s.vals.length-i) 0 (Nat.zero_le _) ?_ ?_
 ·simp only[List.take_zero,show sumP []=0 from rfl,show Lv []=0 from rfl,show RZ (a_ s.hdr) []=false from rfl];exact dB [] []
 ·rintro i hi RL hL;rw[ag];by_cases h:i<s.vals.length
  ·have h2:i<s.votes.length:=by omega
   have e1:=aI (f:=bW) h;have e2:=aI (f:=IY) h2;have t1:sumP (s.vals.take (i+1))=sumP (s.vals.take i)+s.vals[i].p:=qh h;have t2:Lv ((s.vals.zip s.votes).take (i+1))=Lv ((s.vals.zip s.votes).take i)+Sn (s.vals.zip s.votes)[i]:=qh (by omega);have t3:RZ (a_ s.hdr) ((s.vals.zip s.votes).take (i+1))=(RZ (a_ s.hdr) ((s.vals.zip s.votes).take i)||aaW (a_ s.hdr) (s.vals.zip s.votes)[i]):=VC (by omega);have b1:=zm hv i;have b2:=VW hv s.votes i;have b3:=hv.pow s.vals[i] (List.getElem_mem h);have c2:=aer s.vals[i].k (a_ s.hdr) s.votes[i].r s.votes[i].s (hk _ (List.getElem_mem h)) (hx _ (List.getElem_mem h2)).1 (hx _ (List.getElem_mem h2)).2 (by omega);rw[vB h h2]at t2 t3;have hL2:=λσ'=>hL (i+1) σ' h;rw[t1,t2,t3]at hL2;clear hL t1 t2 t3;unfold Sn aaW at hL2;simp only at hL2;generalize s.vals[i]=v at*;generalize s.votes[i]=x at*;generalize sumP (s.vals.take i)=A at*;generalize Lv ((s.vals.zip s.votes).take i)=B at*;generalize RZ (a_ s.hdr) ((s.vals.zip s.votes).take i)=C at*;have w1:IntKind.u64.wrap ((A:Int)+(v.p:Int))=((A+v.p:Nat):Int):=by rw[IntKind.wrap_u64];omega
   have w2:IntKind.u64.wrap ((B:Int)+(v.p:Int))=((B+v.p:Nat):Int):=by rw[IntKind.wrap_u64];omega
   clear hR b1 b2 b3 hlz hbl hv hk hx;generalize a_ s.hdr=M at*;generalize Ah v.k M x.r x.s=G at*;obtain⟨xi,xr,xs⟩:=x;have b1:=λσ'=>bk [] [] (hL2 σ');clear hL2;cases xi<;>cases G<;>simp only[Bool.or_false,Bool.or_true,Bool.false_eq_true,if_false,if_true,Nat.add_zero,Bool.not_true,Bool.not_false,Bool.and_true,Bool.and_false,Bool.true_and,Bool.false_and]at b1;all_goals
    exact wkl trivial
  ·have ht:s.vals.take i=s.vals:=List.take_of_length_le (by omega);have ht2:(s.vals.zip s.votes).take i=s.vals.zip s.votes:=List.take_of_length_le (by omega);rw[ht,ht2];clear hL;exact wkl trivial
structure VJ (s:gG):Prop where
 h:Li s.hdr
 len:s.vals.length<=1048576
 k:∀v∈s.vals,v.k<18446744073709551616/\v.p<18446744073709551616
 x:∀x∈s.votes,x.r<18446744073709551616/\x.s<18446744073709551616
theorem Uv (s:gG)(hs:VJ s):PureD Tryz.prog 150 [mU s] (intD (j_ s)):=by
 refine ai λR hR=>?_;have c1:=Iu s.hdr;have c2:=EO s.vals (by have:=hs.len;omega);have c4:=iq (digestV s.vals) s.hdr.vals;unfold j_ at hR;by_cases hv:kZ s.vals=0
 ·have ok:=iD.1 hv;have c3:=jW s.vals (by have:=ok.len;omega) hs.k;by_cases hl:s.votes.length=s.vals.length
  ·have c5:=Uu s hs.h ok hl (λv h=>(hs.k v h).1) hs.x;have b1:=zm ok s.vals.length;have b2:=VW ok s.votes (s.vals.zip s.votes).length;rw[List.take_length]at b1 b2;have hl':(s.votes.length:Int)=s.vals.length:=by omega
   rw[hv]at hR c2;generalize sumP s.vals=A at*;generalize Lv (s.vals.zip s.votes)=B at*;generalize RZ (a_ s.hdr) (s.vals.zip s.votes)=C at*;have w1:IntKind.u64.wrap (3*(B:Int))=3*(B:Int):=by rw[IntKind.wrap_u64];omega
   have w2:IntKind.u64.wrap (2*(A:Int))=2*(A:Int):=by rw[IntKind.wrap_u64];omega
   generalize digestV s.vals=X at*;generalize hW:fA s.hdr=Wr at*;clear b1 b2 hv ok hl hW hs;simp only[hl',if_true]at hR;cases C;all_goals
    refine aa 50 Tryz.func150 ?_;exact wkl trivial
  ·have hl':¬(s.votes.length:Int)=s.vals.length:=by omega
   rw[hv]at hR c2;clear hs hv ok;simp only[hl',if_false]at hR;generalize digestV s.vals=X at*;generalize hW:fA s.hdr=Wr at*;clear hW hl;refine aa 50 Tryz.func150 ?_;exact wkl trivial
 ·clear c4;generalize hW:fA s.hdr=Wr at*;generalize kZ s.vals=V at*;clear hW hs;simp only[hv,if_false]at hR;refine aa 50 Tryz.func150 ?_;exact wkl trivial
end Go.Proofs.YtdmeldhlbpdeeaaGreatDoor
namespace Go.Proofs.YtdmeldhlbpdeeaaGreatDoor
open Go Go.Abs Go.RowKit Go.Proofs.YtdmeldhlbpdeeaaGreatDoor.Ty
attribute [local simp,local go_sem] intD boolD sD bI bbI dI valsI votesI bW IY LC XF abA mU qp Si abH
theorem Xk {z:List (dA×mP)}{t:dA}(ht:t.p<=1000000)(hz:z.length<=10)(i:Nat):RV (z.take i) t<=10000000:=by
 have h1:=sS (f:=Pd t) (k:=1000000) (l:=z.take i) (λq _=>by unfold Pd;split<;>omega);have h3:(z.take i).length<=10:=by rw[List.length_take];omega
 unfold RV;have:(z.take i).length*1000000<=10*1000000:=Nat.mul_le_mul_right _ h3;omega
theorem Pb {z:List (dA×mP)}{tr:List dA}(ht:nM tr)(hz:z.length<=10)(j:Nat):Af z (tr.take j)<=100000000:=by
 have h1:=sS (f:=RV z) (k:=10000000) (l:=tr.take j) (zl λt h=>by have:=Xk (t:=t) (ht.pow t h).2 hz z.length;rw[List.take_length]at this;exact this)
 have h2:=ht.len;have h3:(tr.take j).length<=10:=by rw[List.length_take];omega
 unfold Af;have:(tr.take j).length*10000000<=10*10000000:=Nat.mul_le_mul_right _ h3;omega
theorem aaj (tr:List dA)(s:gG)(ht:nM tr)(hv:nM s.vals)(hl:s.votes.length=s.vals.length):PureD Tryz.prog 151 [.i (valsI tr),mU s] (boolD (TG tr s)):=by
 refine ai λR hR=>?_;have hlen:=ht.len;have hlz:(s.vals.zip s.votes).length=s.vals.length:=by rw[List.length_zip];omega
 have hz10:(s.vals.zip s.votes).length<=10:=by have:=hv.len;omega
 have hsl:=hv.len;unfold TG at hR;generalize hz:s.vals.zip s.votes=z at*;refine aa 52 Tryz.func151 ?_;refine wkl ?_;clear hR;intro hR
 repeat' (intro _)
 refine aS (ι:=Nat) (λj=>j<=tr.length)
  (λj=>dP [(3,.pt 100 0 0 0),(5,dI (sumP (tr.take j))),(6,dI (Af z (tr.take j))),(11,.i (valsI tr)),(12,intD tr.length),(13,intD j)] [(100,.box ((XF s).map .i))]) (λj=>tr.length-j) 0 (Nat.zero_le _) ?_ ?_
 ·simp only[List.take_zero,show sumP []=0 from rfl,show Af z []=0 from rfl];exact dB [] [(100,1000)]
 ·rintro j hj RL hL;rw[ag];by_cases h:j<tr.length
  ·have e1:=aI (f:=bW) h;have b1:=zm ht j;have b2:=Pb ht hz10 j;have b3:=ht.pow tr[j] (List.getElem_mem h);have t1:sumP (tr.take (j+1))=sumP (tr.take j)+tr[j].p:=qh h;have t2:Af z (tr.take (j+1))=Af z (tr.take j)+RV z tr[j]:=qh h;have hL2:=λσ'=>hL (j+1) σ' h;rw[t1,t2]at hL2;clear hL t1 t2;generalize tr[j]=t at*;generalize sumP (tr.take j)=A at*;generalize Af z (tr.take j)=B at*;have w1:IntKind.u64.wrap ((A:Int)+(t.p:Int))=((A+t.p:Nat):Int):=by rw[IntKind.wrap_u64];omega
   refine wkl ?_;clear hR;intro hR
   repeat' (intro _)
   refine aS (ι:=Nat) (λi=>i<=s.vals.length)
    (λi=>dP [(3,.pt 100 0 0 0),(8,.pt 101 0 0 0),(5,dI (A+t.p)),(6,dI (B+RV (z.take i) t)),(11,.i (valsI tr)),(12,intD tr.length),(13,intD j),(22,.i (valsI s.vals)),(23,intD s.vals.length),(24,intD i)] [(100,.box ((XF s).map .i)),(101,.box [.i (.s (.int .u64 t.k)),.i (.s (.int .u64 t.p))])]) (λi=>s.vals.length-i) 0 (Nat.zero_le _) ?_ ?_
   ·simp only[List.take_zero,show RV [] t=0 from rfl];exact dB [] [(100,100),(101,2026)]
   ·rintro i hi RI hI;rw[ag];by_cases h':i<s.vals.length
    ·have h2:i<s.votes.length:=by omega
     have e1:=aI (f:=bW) h';have e2:=aI (f:=IY) h2;have b4:=Xk (t:=t) b3.2 hz10 i;have t3:RV (z.take (i+1)) t=RV (z.take i) t+Pd t (z[i]'(by omega)):=qh (by omega);have hzi:z[i]'(by omega)=(s.vals[i],s.votes[i]):=by subst hz;exact vB h' h2
     rw[hzi]at t3;clear hzi;have hI2:=λσ'=>hI (i+1) σ' h';rw[t3]at hI2;clear hI t3 hL2;generalize s.vals[i]=v at*;generalize s.votes[i]=x at*;generalize RV (z.take i) t=C at*;rw[show Pd t (v,x)=if v.k=t.k/\x.is=true then t.p else 0 from rfl]at hI2;rw[<- Nat.add_assoc]at hI2;have w2:IntKind.u64.wrap (((B+C:Nat):Int)+(t.p:Int))=((B+C+t.p:Nat):Int):=by rw[IntKind.wrap_u64];omega
     have k1:((v.k:Int)=(t.k:Int))=(v.k=t.k):=propext (by omega);have b1:=λσ'=>bk [] [(100,100),(101,101)] (hI2 σ');clear hR b2 b3 b4 hlz hlen ht hv w1 hz hz10 hI2;obtain⟨xi,xr,xs⟩:=x;by_cases hk:v.k=t.k<;>cases xi<;>simp only[hk,true_and,Bool.false_eq_true,if_false,if_true,and_self,false_and,and_false,Nat.add_zero]at b1;all_goals
      exact wkl trivial
    ·have hti:z.take i=z:=List.take_of_length_le (by omega);rw[hti];clear b1;have b1:=λσ'=>bk [] [(100,100)] (hL2 σ');clear hR b2 b3 ht hv hlz hz10 hti w1 hL2 hI;exact wkl trivial
  ·have htj:tr.take j=tr:=List.take_of_length_le (by omega);have b1:=zm ht j;have b2:=Pb ht hz10 j;rw[htj]at b1 b2⊢;generalize sumP tr=A at*;generalize Af z tr=B at*;have w1:IntKind.u64.wrap (3*(B:Int))=((3*B:Nat):Int):=by rw[IntKind.wrap_u64];omega
   have k1:decide ((A:Int)<((3*B:Nat):Int))=decide (A<3*B):=by congr 1;exact propext (by omega)
   clear b1 b2 ht hv hlz hz10 htj hL;exact wkl trivial
def fu (h:kv)(seeds:List (List UInt8))(vals:List dA)(j i:Nat):List mP:=(vals.take i).map (eO h (seeds.take (j+1)))++(vals.drop i).map (eO h (seeds.take j))
theorem Ki {h:kv}{seeds:List (List UInt8)}{v:dA}{j:Nat}(hj:j<seeds.length):eO h (seeds.take (j+1)) v=if v.k=keyF seeds[j]then⟨true,Bb seeds[j] (a_ h),sigS seeds[j] (a_ h)⟩else eO h (seeds.take j) v:=by unfold eO;rw[List.take_succ_eq_append_getElem hj,List.foldl_append];rfl
theorem DU (h:kv)(seeds:List (List UInt8))(vals:List dA)(j:Nat):fu h seeds vals j vals.length=fu h seeds vals (j+1) 0:=by simp[fu]
theorem DR {h:kv}{seeds:List (List UInt8)}{vals:List dA}{j i:Nat}(hi:i<vals.length):fu h seeds vals j (i+1)=(fu h seeds vals j i).set i (eO h (seeds.take (j+1)) vals[i]):=by
 unfold fu;have hl:((vals.take i).map (eO h (seeds.take (j+1)))).length=i:=by simp;omega
 rw[List.set_append_right _ _ (by omega),hl,Nat.sub_self,List.take_succ_eq_append_getElem hi,List.map_append,List.drop_eq_getElem_cons hi,List.map_cons,List.map_cons,List.map_nil,List.set_cons_zero,List.append_assoc];rfl
theorem DT {h:kv}{seeds:List (List UInt8)}{vals:List dA}{j i:Nat}(hi:i<vals.length):(fu h seeds vals j i)[i]?=some (eO h (seeds.take j) vals[i]):=by
 unfold fu;have hl:((vals.take i).map (eO h (seeds.take (j+1)))).length=i:=by simp;omega
 rw[List.getElem?_append_right (by omega),hl,Nat.sub_self,List.drop_eq_getElem_cons hi];rfl
theorem Bl (h:kv)(seeds:List (List UInt8))(vals:List dA):fu h seeds vals 0 0=List.replicate vals.length ⟨false,0,0⟩:=by
 unfold fu eO;simp only[List.take_zero,List.map_nil,List.drop_zero,List.nil_append,List.foldl_nil];induction vals with
 |nil=>rfl
 |cons a t ih=>rw[List.map_cons,ih,List.length_cons,List.replicate_succ]
theorem DW (h:kv)(seeds:List (List UInt8))(vals:List dA):fu h seeds vals seeds.length 0=vals.map (eO h seeds):=by unfold fu;simp
theorem Te {α:Type}{l:List α}{i:Nat}{x:α}(h:l[i]?=some x):l.set i x=l:=by
 apply List.ext_getElem?;intro k;rw[List.getElem?_set];split
 ·rename_i e;subst e;rw[h];simp;have:=(List.getElem?_eq_some_iff.1 h).1;exact this
 ·rfl
structure Rl (l:List (List UInt8)):Prop where
 len:l.length<=1048576
 b:∀s∈l,s.length<=1048576
theorem EP (h:kv)(vals:List dA)(seeds:List (List UInt8))(hs:Li h)(hl:vals.length<=1048576)(hk:∀v∈vals,v.k<18446744073709551616/\v.p<18446744073709551616)(hd:Rl seeds):
  PureD Tryz.prog 24 [LC h,.i (valsI vals),.i (bbI seeds)] (.tup [mU (kU h vals seeds).1,intD (kU h vals seeds).2]):=by
 refine ai λR hR=>?_;have c1:=Iu h;have c2:=EO vals (by omega);have c4:=iq (digestV vals) h.vals;have c5:=aen h hs.root hs.vals hs.next
 unfold kU at hR;by_cases hok:kZ vals=0/\digestV vals=h.vals/\fA h=0
 rotate_left
 ·clear c5;by_cases h1:fA h=0
  ·by_cases h2:kZ vals=0
   ·have c3:=jW vals (by have:=(iD.1 h2).len;omega) hk;generalize fA h=Wr at*;generalize kZ vals=V at*;generalize digestV vals=X at*;clear hs hl hk hd;have h3:¬X=h.vals:=λe=>hok ⟨h2,e,h1⟩;clear hok;refine aa 74 Tryz.func24 ?_;exact wkl trivial
   ·clear hok hs hl hk hd c4;generalize fA h=Wr at*;generalize kZ vals=V at*;refine aa 74 Tryz.func24 ?_;exact wkl trivial
  ·clear hok hs hl hk hd c4 c2;generalize fA h=Wr at*;refine aa 74 Tryz.func24 ?_;exact wkl trivial
 obtain⟨h1,h2,h3⟩:=hok;have ok:=iD.1 h1;have hvl:=ok.len;have c3:=jW vals (by omega) hk;rw[if_pos h3,if_pos h1,if_pos h2]at hR;rw[h3]at c1;rw[h1]at c2;simp only at hR;have b1:vals.length<=140737488355328:=by omega
 have b2:vals.length*16<=140737488355328:=by omega
 have b3:vals.length*24<=140737488355328:=by omega
 have b4:(vals.length:Int)<140737488355328:=by omega
 have b5:(vals.length:Int)*24<=140737488355328:=by omega
 have hu:uni 2 (vals.map bW)=true:=eG (s:=2) (f:=bW) (λ_=>rfl) vals;have hsl:=hd.len;rw[h2]at c3 c4;rw[decide_eq_true (rfl:h.vals=h.vals)]at c4;clear h1 h2 h3;have hmk:=λ{H:Nat->Ob}{id:Nat}=>adq (H:=H) (id:=id) (s:=2) (by_:=24) (z:=[.i (.s (.bool false)),.i (.s (.int .u64 0)),.i (.s (.int .u64 0))]) (xs:=[.s (.bool false),.s (.int .u64 0),.s (.int .u64 0)]) (l:=vals.length) (by omega) (by omega) rfl rfl;refine aa 74 Tryz.func24 ?_;refine wkl ?_;clear hR;intro hR
 repeat' (intro _)
 clear hmk c1 c2 c3 c4 c5 b1 b2 b3 b4 b5 hu;have hz0:List.replicate vals.length [I.s (.bool false),I.s (.int .u64 0),I.s (.int .u64 0)]=(fu h seeds vals 0 0).map IY:=by rw[Bl,List.map_replicate];rfl
 refine aS (ι:=Nat) (λj=>j<=seeds.length)
  (λj=>dP [(1,.i (valsI vals)),(3,.pt 100 0 0 0),(6,.pt 101 0 0 0),(10,.pt 104 0 0 0),(43,.i (bbI seeds)),(44,intD seeds.length),(45,intD j)]
   [(100,.box ((abA h).map .i)),(101,.box [.i (.s (.string ⟨#[]⟩)),.i (.s (.int .i64 0)),.i (.s (.int .i64 0)),.i (.s (.slice none 0 0)),.i (.s (.slice none 0 0)),.i (.s (.slice none 0 0)),.i (.s (.slice none 0 0)),.i (.s (.slice none 0 0))]),(102,.arr 2 (vals.map bW)),(103,.arr 3 ((fu h seeds vals j 0).map IY)),
    (104,.box ((abA h).map .i++[.os 102 2 0 vals.length,.os 103 3 0 vals.length]))]) (λj=>seeds.length-j) 0 (Nat.zero_le _) ?_ ?_
 ·rw[<- hz0];exact dB [] [(100,1000),(101,1001),(102,3307),(103,3310),(104,3312)]
 ·rintro j hj RL hL;clear hz0;rw[ag];by_cases h1:j<seeds.length
  ·have e1:(seeds.map λb=>[bI b])[j]?=some [bI seeds[j]]:=aI (f:=λb=>[bI b]) h1;have hsm:=hd.b _ (List.getElem_mem h1);have c1:=Z_ seeds[j] (by omega);have c2:=uW h hs.c hs.root hs.vals hs.next
   have c3:=acg seeds[j] (a_ h) (by omega) (by have:=yl h;omega);have hvs:=λ(v:dA)=>Ki (h:=h) (v:=v) h1;generalize hsd:seeds[j]=sd at*;refine wkl ?_;clear hR;intro hR
   repeat' (intro _)
   refine aS (ι:=Nat) (λi=>i<=vals.length)
    (λi=>dP [(1,.i (valsI vals)),(3,.pt 100 0 0 0),(6,.pt 101 0 0 0),(10,.pt 104 0 0 0),(43,.i (bbI seeds)),(44,intD seeds.length),(45,intD j),(12,.i (bI sd)),(13,dI (keyF sd)),(51,.i (valsI vals)),(52,intD vals.length),(53,intD i)]
     [(100,.box ((abA h).map .i)),(101,.box [.i (.s (.string ⟨#[]⟩)),.i (.s (.int .i64 0)),.i (.s (.int .i64 0)),.i (.s (.slice none 0 0)),.i (.s (.slice none 0 0)),.i (.s (.slice none 0 0)),.i (.s (.slice none 0 0)),.i (.s (.slice none 0 0))]),(102,.arr 2 (vals.map bW)),(103,.arr 3 ((fu h seeds vals j i).map IY)),
      (104,.box ((abA h).map .i++[.os 102 2 0 vals.length,.os 103 3 0 vals.length]))]) (λi=>vals.length-i) 0 (Nat.zero_le _) ?_ ?_
   ·exact dB [] [(100,100),(101,101),(102,102),(103,103),(104,104)]
   ·rintro i hi RI hI;rw[ag];by_cases h2:i<vals.length
    ·have e2:=aI (f:=bW) h2;have hst:=DR (h:=h) (seeds:=seeds) (j:=j) h2;have hge:=DT (h:=h) (seeds:=seeds) (j:=j) h2;rw[hvs]at hst;have e3:((fu h seeds vals j i).map IY)[i]?=some (IY (eO h (seeds.take j) vals[i])):=by rw[List.getElem?_map,hge];rfl
     have k1:((vals[i].k:Int)=(keyF sd:Int))=(vals[i].k=keyF sd):=propext (by omega);generalize vals[i]=v at*;generalize eO h (seeds.take j) v=x0 at*;by_cases hk1:v.k=keyF sd
     ·rw[if_pos hk1]at hst;have hst':((fu h seeds vals j i).map IY).set i [.s (.bool true),.s (.int .u64 (Bb sd (a_ h))),.s (.int .u64 (sigS sd (a_ h)))]=(fu h seeds vals j (i+1)).map IY:=by rw[hst,List.map_set];rfl
      have hI2:=λσ'=>hI (i+1) σ' h2;rw[<- hst']at hI2;have b1:=λσ'=>bk [] [(100,100),(101,101),(102,102),(103,103),(104,104)] (hI2 σ');clear hst hst' hI hI2 hL;generalize fu h seeds vals j i=V at*;clear hge hR hs hl hk hd ok hvs c1;exact wkl trivial
     ·rw[if_neg hk1,Te hge]at hst;have hI2:=λσ'=>hI (i+1) σ' h2;rw[hst]at hI2;have b1:=λσ'=>bk [] [(100,100),(101,101),(102,102),(103,103),(104,104)] (hI2 σ');clear hge hR hs hl hk hd ok hvs c1 e3 c2 c3 hst hI hI2 hL;exact wkl trivial
    ·obtain rfl:i=vals.length:=by omega
     rw[DU];have b1:=λσ'=>bk [] [(100,100),(101,101),(102,102),(103,103),(104,104)] (hL (j+1) σ' h1);clear hR hs hl hk hd ok hvs c1 c2 c3 hL hI;exact wkl trivial
  ·obtain rfl:j=seeds.length:=by omega
   rw[DW];clear hs hl hk hd ok hL;exact wkl trivial
end Go.Proofs.YtdmeldhlbpdeeaaGreatDoor
namespace Go.Proofs.YtdmeldhlbpdeeaaGreatDoor
open Go Go.Abs Go.RowKit Go.Proofs.YtdmeldhlbpdeeaaGreatDoor.Ty
structure Yo (u:yI):Prop where
 s:VJ u.sg
 l:u.tr.length<=1048576
 k:∀v∈u.tr,v.k<18446744073709551616/\v.p<18446744073709551616
 n:u.sg.hdr.next.length<=1048576
theorem su (c:aD)(u:yI)(now:Int)(hc:xD c)(hu:Yo u)(hn:0<=now/\now<=1000000000000):
  PureD Tryz.prog 96 [.rp (gF c) 0,.rp (afI u) 0,intD now] (intD (beE c u now)):=by
 refine ai λR hR=>?_;have c1:=Uv u.sg hu.s;have c2:=aaL c u.fr hc.sm;unfold beE at hR;by_cases h1:j_ u.sg=0
 ·rw[if_pos h1]at hR;rw[h1]at c1;obtain⟨hv,hl,hw⟩:=check_vals h1;unfold atR at c2;cases h2:atC c u.fr with
  |none =>rw[h2]at hR c2;simp only[Bg]at c2;clear hu h1 h2;refine aa 127 Tryz.func96 ?_;exact wkl trivial
  |some k =>
   rw[h2]at hR c2;simp only at hR c2;have hk:=hc.k k (at_mem h2).1;have k1:=hk.h;have k2:=hk.t;have w1:IntKind.i64.wrap (now-k.t)=now-k.t:=au (by omega) (by omega);have w2:IntKind.i64.wrap (now+10)=now+10:=au (by omega) (by omega);have w3:IntKind.i64.wrap (k.h+1)=k.h+1:=au (by omega) (by omega);have c3:=iq u.sg.hdr.vals k.next
   have c4:=EO u.tr hu.l;unfold abD afg at hR;by_cases h3:kZ u.tr=0
   ·have ho:=iD.1 h3;rw[h3]at c4;rw[if_pos h3]at hR;have c5:=jW u.tr (by have:=ho.len;omega) hu.k;have c6:=iq (digestV u.tr) k.next
    have c7:=aaj u.tr u.sg ho hv hl;clear hu h1 h2 h3 ho hv hl hw hk;generalize digestV u.tr=X at*;generalize TG u.tr u.sg=V at*;refine aa 127 Tryz.func96 ?_;exact wkl trivial
   ·rw[if_neg h3]at hR;generalize kZ u.tr=W at*;clear hu h1 h2 hv hl hw hk;refine aa 127 Tryz.func96 ?_;exact wkl trivial
 ·rw[if_neg h1]at hR;generalize j_ u.sg=W at*;clear hu c2;refine aa 127 Tryz.func96 ?_;exact wkl trivial
def uF:=an6 @Ty.T3 @Ty.T4 @Ty.T5 @Ty.T29 @Ty.T35 @Ty.T76
theorem Ev {G:Nat->Ob}{o o2 off off2 len len2 cap:Nat}{es es2:List (List I)}(ho:G o=.arr 4 es)(ho2:G o2=.arr 4 es2)(hne:o≠o2)(h1:0<len)(h2:0<len2):
  Sg Tryz.prog 152 [.os o2 4 off2 len2,.oc o 4 off len cap] G (boolD false) G:=by
 intro K0 T K vs hr hrd;obtain⟨hs,hg⟩:=hrd;have e:vs=#[vs.getD 0 undef,vs.getD 1 undef]:=by
  apply Array.ext
  ·simpa using hs
  ·intro i h1 h2;simp at hs;have:i=0\/i=1:=by omega
   rcases this with rfl|rfl<;>simp[Array.getD,hs]
 have hrun:=nz (P:=Tryz.prog) (t:=35) (tR:=4) (s:=4) Tryz.underlying35 (fD (by kernel_rfl)) hr (hg 0 _ rfl) (hg 1 _ rfl) ho ho2 hne h1 h2;rw[e];refine⟨.bool false,K,?_,Ext.refl K,hr,.i (.s _ rfl)⟩;rw[run_callFunc_extern Tryz.func152 (by kernel_rfl) (by kernel_rfl) (by kernel_rfl) (e:=Extern.SlicesOverlaps.overlaps #[35,35] #[4]) (by kernel_rfl),hrun];rfl
theorem OW (es:List (List I))(p:List I)(i:Nat)(hi:i<=es.length)(hl:es.length<=1048576)(hu:∀e∈es,e.length=4)(hp:p.length=4):
  aL Tryz.prog 99 [.os 0 4 0 es.length,intD i,.os 2 4 0 1] (hF [(0,.arr 4 es),(2,.arr 4 [p])]) (.os 1 4 0 (es.length+1))
   (hOf (hF [(0,.arr 4 es),(2,.arr 4 [p])]) [(1,.arr 4 (es.take i++p::es.drop i))]):=by
 have hu2:=uN hu;by_cases hin:i=es.length
 ·subst hin;have e3:es.length+1<=140737488355328:=by omega
  have e4:(es.length+1)*64<=140737488355328:=by omega
  refine aP 95 Tryz.func99 rfl rfl rfl (λo ho=>by simp[hF,lk,show o≠0 by omega,show o≠1 by omega,show o≠2 by omega,show o≠3 by omega,show o≠4 by omega,show o≠5 by omega]) ?_;refine gx (an8 uF @intD.eq_1 e3 e4 @hp hu2 @Int.le_refl @Nat.sub_self) ?_;refine dN [(1,.arr 4 (es++[p]))] [] [(1,2794)] rfl ?_ ?_ rfl ?_ rfl
  ·simp[cv,cv1,cv0,upd,jc,hF,lk]
  ·simp[aX,jc,lk,cvO,frz,upd,hF]
  ·simp[hF,lk]
 ·have hlt:i<es.length:=by omega
  refine wz (by omega) λc hc=>?_;have g1:decide ((i:Int)=(es.length:Int))=false:=decide_eq_false (by omega);have w1:IntKind.i64.wrap ((es.length:Int)+1)=((es.length+1:Nat):Int):=by rw[au (by omega) (by omega)];omega
  have w2:IntKind.i64.wrap ((i:Int)+1)=((i+1:Nat):Int):=by rw[au (by omega) (by omega)];omega
  have l1:(i<=es.length)=True:=eq_true (by omega);have l2:(es.length<=c)=True:=eq_true (by omega);have l3:(i<=es.length+1)=True:=eq_true (by omega);have l6:(i<=c)=True:=eq_true (by omega);have l4:(i+1<=es.length+1)=True:=eq_true (by omega);have m2:i+(es.length-i)=es.length:=by omega
  have m4:min 1 (es.length+1-i)=1:=by omega
  have l7:(es.length-i<=es.length+1-i)=True:=eq_true (by omega);have l8:(i+1<=es.length)=True:=eq_true (by omega);have tk:(es.drop i).take (es.length-i)=es.drop i:=List.take_of_length_le (by simp);have hu3:uni 4 (es.drop i)=true:=uN λe he=>hu e (List.mem_of_mem_drop he);by_cases hroom:es.length+1<=c
  ·have g2:decide ((c:Int)<((es.length+1:Nat):Int))=false:=decide_eq_false (by omega);have l5:(es.length+1<=c)=True:=eq_true (by omega);have m1:min (es.length+1-i) (es.length+1-(i+1))=es.length-i:=by omega
   have l9:(i<=(over es (i+1) (es.drop i)).length)=True:=eq_true (by unfold over;simp;omega);have hos:=wG (p:=p) hlt;refine aP 95 Tryz.func99 rfl rfl rfl (λo ho=>by simp[hF,lk,show o≠0 by omega,show o≠1 by omega,show o≠2 by omega,show o≠3 by omega,show o≠4 by omega,show o≠5 by omega]) ?_;refine gx2 (an9 uF @intD.eq_1 g1 g2 w1 w2 l1 l2 (an9 l3 l4 l5 @true_or @Nat.sub_zero @Nat.zero_le l6 @hp hu2)) ?_;refine⟨_,_,.inr (Ev (len:=es.length+1-(i+1)) (len2:=1) (by simp[hF,lk];rfl) (by simp[hF,lk];rfl) (by decide) (by omega) (by omega)),?_⟩;refine gx2 (an9 uF @boolD.eq_1 @intD.eq_1 w1 w2 l1 l2 l3 (an9 l4 l5 @true_or @Nat.sub_zero @Nat.zero_le l6 @hp hu2 (an8 @m1 @m2 @m4 l7 l8 l9 @tk hu3))) ?_;have hos2:(over (over es (i+1) (es.drop i)) i [p]).take (es.length+1)=es.take i++p::es.drop i:=by rw[hos];exact List.take_of_length_le (by simp;omega)
   rw[<- hos2];exact CO (o:=0) (cap:=c) rfl (by simp[upd]) (by simp[upd,hF,lk]) (by simp[upd,hF,lk]) (by simp[hF,lk]) (by simp[hF,lk])
  ·have g2:decide ((c:Int)<((es.length+1:Nat):Int))=true:=decide_eq_true (by omega);have l5:(c<es.length+1)=True:=eq_true (by omega);have s1:i+(es.length+1-i)=es.length+1:=by omega
   have e3:es.length+1<=140737488355328:=by omega
   have e4:(es.length+1)*64<=140737488355328:=by omega
   have m1:min (es.length-i) (es.length+1-(i+1))=es.length-i:=by omega
   have L1:((i:Int)<=((es.length+1:Nat):Int))=True:=eq_true (by omega);have L2:(((i+1:Nat):Int)<=((es.length+1:Nat):Int))=True:=eq_true (by omega);have hti:(es.take i).length=i:=by simp;omega
   have l9:(i+1<=(over (es.take i++List.replicate (es.length+1-i) [I.s (.int .i64 0),I.s (.int .i64 0),I.sl [],I.sl []]) i [p]).length)=True:=eq_true (by rw[zK (by simp;omega)];simp;omega);have hos:=Ac (es:=es) (R:=List.replicate (es.length+1-i) [I.s (.int .i64 0),I.s (.int .i64 0),I.sl [],I.sl []]) (p:=p) hlt (by simp);have w3:IntKind.i64.wrap (((es.length+1:Nat):Int)-(i:Int))=((es.length+1-i:Nat):Int):=by rw[au (by omega) (by omega)];omega
   refine aP 95 Tryz.func99 rfl rfl rfl (λo ho=>by simp[hF,lk,show o≠0 by omega,show o≠1 by omega,show o≠2 by omega,show o≠3 by omega,show o≠4 by omega,show o≠5 by omega]) ?_;refine gx2 (an9 uF @intD.eq_1 g1 g2 w1 w2 w3 l1 (an9 l2 l3 l4 l5 @true_or @Nat.sub_zero @Nat.zero_le l6 (an9 @hp hu2 @s1 e3 e4 @L1 @L2 @m4 (an8 @m1 @m2 @hti l7 l8 l9 @tk hu3)))) ?_;refine dN [(1,.arr 4 (es.take i++p::es.drop i))] [] [(1,3312)] rfl ?_ ?_ rfl ?_ rfl
   ·simp[cv,cv1,cv0,upd,jc,hF,lk]
   ·simp[aX,jc,lk,cvO,frz,upd,hF,hos]
   ·simp[hF,lk]
theorem Qz (k:aT)(h:Int)(hk:VM k)(hh:1<=h/\h<=1000000000000):PureD Tryz.prog 98 [xU k,intD h] (intD (k.h-h)):=by refine ai λR hR=>?_;have k1:=hk.h;have w1:IntKind.i64.wrap (k.h-h)=k.h-h:=au (by omega) (by omega);refine aa 9 Tryz.func98 ?_;exact wkl trivial
theorem PX (l:List aT)(h:Int)(p:Nat)(hl:l.length<=1048576)(hp:p<=l.length)(hk:∀k∈l,VM k)(hh:1<=h/\h<=1000000000000)(hm:∀a (ha:a<l.length),l[a].h<h↔a<p):
  PureD Tryz.prog 97 [.i (jT l),intD h,.fn 98 []]
   (.tup [intD p,boolD (if ha:p<l.length then decide (l[p].h=h)else false)]):=by
 refine ai λR hR=>?_;refine aa 49 Tryz.func97 ?_;refine wkl ?_;clear hR;intro hR;refine aS (ι:=Nat×Nat) (λq=>q.1<=p/\p<=q.2/\q.2<=l.length)
  (λq=>dP [(0,.i (jT l)),(1,intD h),(2,.fn 98 []),(8,intD l.length),(9,intD q.1),(10,intD q.2)] []) (λq=>q.2-q.1) (0,l.length) ⟨Nat.zero_le _,hp,Nat.le_refl _⟩ ?_ ?_
 ·exact dB [] []
 ·rintro⟨i,j⟩ ⟨h1,h2,h3⟩ RL hL;simp only at h1 h2 h3;rw[ag];by_cases hij:i<j
  ·have hml:(i+j)/2<l.length:=by omega
   have s0:=aI (f:=gL) hml;have hmm:=hm _ hml;have c1:=Qz _ h (hk _ (List.getElem_mem hml)) hh;have w1:IntKind.i64.wrap ((i:Int)+(j:Int))=((i+j:Nat):Int):=by rw[au (by omega) (by omega)];omega
   have w2:IntKind.u64.wrap ((i+j:Nat):Int)=((i+j:Nat):Int):=by rw[IntKind.wrap_u64];omega
   have w3:((i+j:Nat):Int).fdiv (2^min 1 64)=(((i+j)/2:Nat):Int):=by rw[show min 1 64=1 from rfl,Int.fdiv_eq_ediv_of_nonneg _ (by decide)];omega
   have w4:IntKind.i64.wrap (((i+j)/2:Nat):Int)=(((i+j)/2:Nat):Int):=by rw[au (by omega) (by omega)]
   have hmid1:i<=(i+j)/2:=by omega
   have hmid2:(i+j)/2<j:=by omega
   generalize l[(i+j)/2]=q at*;by_cases hq:q.h<h
   ·have b1:=λσ'=>bk [] [] (hL ((i+j)/2+1,j) σ' ⟨hmm.1 hq,h2,h3⟩);clear hL;simp only at b1;generalize(i+j)/2=m at*;have hq':q.h-h<0:=by omega
    clear hm hmm hk hR;exact wkl trivial
   ·have b1:=λσ'=>bk [] [] (hL (i,(i+j)/2) σ' ⟨h1,by have:=λe=>hq (hmm.2 e);omega,by omega⟩);clear hL;simp only at b1;generalize(i+j)/2=m at*;have hq':¬q.h-h<0:=by omega
    clear hm hmm hk hR;exact wkl trivial
  ·have hi:i=p:=by omega
   subst hi;clear hL hm;by_cases hlt:i<l.length
   ·have s0:=aI (f:=gL) hlt;have c1:=Qz _ h (hk _ (List.getElem_mem hlt)) hh;rw[dif_pos hlt]at hR;clear hk;generalize l[i]=q at*;have he:decide (q.h-h=0)=decide (q.h=h):=decide_eq_decide.2 (by omega);exact wkl trivial
   ·rw[dif_neg hlt]at hR;clear hk;exact wkl trivial
theorem aeS (c:aD)(hc:abG c):aL Tryz.prog 95 [eU c] noH (.agg [.i (.s (.string c.c)),.i (.s (.int .i64 c.trust)),.i (.s (.bool c.frozen)),.os 1 4 0 c.known.length]) (hOf noH [(1,.arr 4 (c.known.map gL))]):=by
 refine ik λR R' hR hR'=>?_
 have hcl:=hc.l
 have e1:=AA c.known hcl
 refine aa 35 Tryz.func95 ?_
 refine wkl ?_
 clear hR;intro hR
 refine aS (ι:=Nat) (λi=>i<=c.known.length)
  (λi=>dP [(1,.pt 100 0 0 0),(2,.pt 101 0 0 0),(10,.os 102 4 0 c.known.length),(11,intD c.known.length),(12,intD i)] [(100,.box [.i (.s (.string c.c)),.i (.s (.int .i64 c.trust)),.i (.s (.bool c.frozen)),.os 102 4 0 c.known.length]),(101,.box ((gF kw).map .i)),(102,.arr 4 (c.known.map gL))])
  (λi=>c.known.length-i) 0 (Nat.zero_le _) ?_ ?_
 ·exact dB [] [(100,1000),(101,1001),(102,901)]
 ·rintro i hi RL hL
  rw[ag]
  by_cases h:i<c.known.length
  ·have s0:=aI (f:=gL) h
   have s1:=rE (f:=gL) h
   have hk:=hc.k _ (List.getElem_mem h)
   have c1:=eT c.known[i].root (by have:=hk.r;omega)
   have c2:=eT c.known[i].next (by have:=hk.n;omega)
   have b1:=λσ'=>bk [] [(100,100),(101,101),(102,102)] (hL (i+1) σ' h)
   clear hL e1 hk
   generalize c.known[i]=k at*
   simp only[gL,bI]at s0 s1
   exact wkl trivial
  ·have d1:iY [] [(1,102)]:=⟨trivial⟩
   obtain⟨rfl⟩:=hR'
   exact wkl trivial
theorem uK (l:List aT):∀e∈l.map gL,e.length=4:=by simp[gL]
theorem afi {l:List aT}{p:Nat}{k:aT}:(aaX l p k=true)=((0<p/\∃h:p-1<l.length,k.t<=l[p-1].t)\/∃h:p<l.length,l[p].t<=k.t):=by unfold aaX;by_cases h1:p-1<l.length<;>by_cases h2:p<l.length<;>simp[h1,h2]
theorem Dh (c:aD)(u:yI)(now:Int)(hl:c.known.length<=1048576)(hu:Yo u):
  PureD Tryz.prog 42 [eU c,YM u,intD now] (.tup [eU (fw c u now).1,intD (fw c u now).2]):=by
 refine ai λR hR=>?_;have c1:=vg c now hl;unfold fw at hR;by_cases h1:dJ c now=0
 ·obtain⟨ok,hn,hfz⟩:=asked_zero.1 h1;have c2:=su c u now ok hu hn;rw[if_pos h1]at hR;rw[h1]at c1;by_cases h2:beE c u now=0
  ·rw[if_pos h2]at hR;rw[h2]at c2;obtain⟨hk,hv⟩:=be_hdr h2;have e1:=aeS c ok.sm;have k1:=hk.r;have k2:=hk.n;have c3:=eT u.sg.hdr.root (by simp only[ofH]at k1;omega);have c4:=eT u.sg.hdr.next (by simp only[ofH]at k2;omega)
   have c5:=PX c.known u.sg.hdr.h (jI c.known u.sg.hdr.h) hl (Xb _ _) ok.k hk.h (rX ok.rise);have hlen:=ok.len;have hle:=Xb c.known u.sg.hdr.h;unfold Bc at hR;rcases low_case u.sg.hdr.h ok.rise with⟨hp,hk0,hat⟩|⟨hno,hat⟩
   ·rw[dif_pos hp,decide_eq_true hk0]at c5;simp only[ofH,hat]at hR;have s0:=aI (f:=gL) hp;clear hu h1 h2 hk hv k1 k2 hk0 hat ok hle;generalize c.known[jI c.known u.sg.hdr.h]=o at*;generalize jI c.known u.sg.hdr.h=p at*;have c6:=iq o.root u.sg.hdr.root;have c7:=iq o.next u.sg.hdr.next
    unfold afF at hR;by_cases a1:o.t=u.sg.hdr.t<;>by_cases a2:o.root=u.sg.hdr.root<;>by_cases a3:o.next=u.sg.hdr.next<;>simp[a1,a2,a3]at hR c6 c7
    all_goals
     refine aa 131 Tryz.func42 ?_;exact wkl trivial
   ·have c5':PureD Tryz.prog 97 [.i (jT c.known),intD u.sg.hdr.h,.fn 98 []] (.tup [intD (jI c.known u.sg.hdr.h),boolD false]):=by
     have e:(if ha:jI c.known u.sg.hdr.h<c.known.length then decide (c.known[jI c.known u.sg.hdr.h].h=u.sg.hdr.h)else false)=false:=by
      split
      ·rename_i ha;exact decide_eq_false (hno ha)
      ·rfl
     rw[e]at c5;exact c5
    clear c5;have c5:=c5';clear c5';simp only[ofH,hat]at hR;have hbad:=@afi c.known (jI c.known u.sg.hdr.h) ⟨u.sg.hdr.h,u.sg.hdr.t,u.sg.hdr.root,u.sg.hdr.next⟩;simp only[hbad]at hR;have e2:=OW (c.known.map gL) (gL ⟨u.sg.hdr.h,u.sg.hdr.t,u.sg.hdr.root,u.sg.hdr.next⟩) (jI c.known u.sg.hdr.h) (by simpa using hle) (by simpa using hl) (uK c.known) rfl;rw[<- List.map_take,<- List.map_drop,<- List.map_cons,<- List.map_append,List.length_map]at e2;have hne:∃a L,c.known.take (jI c.known u.sg.hdr.h)++(⟨u.sg.hdr.h,u.sg.hdr.t,u.sg.hdr.root,u.sg.hdr.next⟩:aT)::c.known.drop (jI c.known u.sg.hdr.h)=a::L/\L.length=c.known.length:=by
     have hll:(c.known.take (jI c.known u.sg.hdr.h)++(⟨u.sg.hdr.h,u.sg.hdr.t,u.sg.hdr.root,u.sg.hdr.next⟩:aT)::c.known.drop (jI c.known u.sg.hdr.h)).length=c.known.length+1:=by simp;omega
     revert hll;cases c.known.take (jI c.known u.sg.hdr.h)++(⟨u.sg.hdr.h,u.sg.hdr.t,u.sg.hdr.root,u.sg.hdr.next⟩:aT)::c.known.drop (jI c.known u.sg.hdr.h)with
     |nil=>intro h;simp at h
     |cons a L=>intro h;exact⟨a,L,rfl,by simpa using h⟩
    obtain⟨a,L,hL,hLl⟩:=hne;rw[hL]at e2 hR;have s0:=λh=>aI (f:=gL) (l:=c.known) (i:=jI c.known u.sg.hdr.h-1) h;have s1:=λh=>aI (f:=gL) (l:=c.known) (i:=jI c.known u.sg.hdr.h) h;clear hu h1 h2 hk hv k1 k2 hat ok hno hL hbad;generalize jI c.known u.sg.hdr.h=p at*;have hcut:KV (a::L)=if(30:Int)<((c.known.length+1:Nat):Int)then L else a::L:=by unfold KV;rw[List.length_cons,hLl];rfl
    rw[hcut]at hR;simp only[gL,bI,intD]at e2;have z1:(a::L).map gL=gL a::L.map gL:=rfl;clear hcut;have z2:(L.map gL).take c.known.length=L.map gL:=by rw[<- hLl];exact fQ
    by_cases q1:0<p<;>by_cases q2:p<c.known.length
    ·have a0:=s0 (by omega);have a1:=s1 q2;have hc:((0<p/\∃h:p-1<c.known.length,u.sg.hdr.t<=c.known[p-1].t)\/∃h:p<c.known.length,c.known[p].t<=u.sg.hdr.t)=(u.sg.hdr.t<=c.known[p-1].t\/c.known[p].t<=u.sg.hdr.t):=by simp[q1,q2,show p-1<c.known.length by omega]
     simp only[hc]at hR;have w1:IntKind.i64.wrap ((p:Int)-1)=((p-1:Nat):Int):=by rw[au (by omega) (by omega)];omega
     clear hc s0 s1;generalize c.known[p-1]=x at*;generalize c.known[p]=y at*;refine aa 131 Tryz.func42 ?_;exact wkl trivial
    ·have a0:=s0 (by omega);have hc:((0<p/\∃h:p-1<c.known.length,u.sg.hdr.t<=c.known[p-1].t)\/∃h:p<c.known.length,c.known[p].t<=u.sg.hdr.t)=(u.sg.hdr.t<=c.known[p-1].t):=by simp[q1,q2,show p-1<c.known.length by omega]
     simp only[hc]at hR;have w1:IntKind.i64.wrap ((p:Int)-1)=((p-1:Nat):Int):=by rw[au (by omega) (by omega)];omega
     clear hc s0 s1;generalize c.known[p-1]=x at*;refine aa 131 Tryz.func42 ?_;exact wkl trivial
    ·have a1:=s1 q2;have hc:((0<p/\∃h:p-1<c.known.length,u.sg.hdr.t<=c.known[p-1].t)\/∃h:p<c.known.length,c.known[p].t<=u.sg.hdr.t)=(c.known[p].t<=u.sg.hdr.t):=by simp[q1,q2]
     simp only[hc]at hR;clear hc s0 s1;generalize c.known[p]=y at*;obtain rfl:p=0:=by omega
     refine aa 131 Tryz.func42 ?_;exact wkl trivial
    ·omega
  ·rw[if_neg h2]at hR;generalize beE c u now=W at*;clear hu ok hn hfz h1;refine aa 131 Tryz.func42 ?_;exact wkl trivial
 ·rw[if_neg h1]at hR;generalize dJ c now=W at*;clear hu;refine aa 131 Tryz.func42 ?_;exact wkl trivial
def aaM (V W:Int)(E:aD×Int):Nat->aD×Int
 |0=>if V=0 then(if W=0 then E else(kw,W))else(kw,V)
 |1=>if W=0 then E else(kw,W)
 |_=>E
theorem Vh (c:aD)(a b:yI)(now:Int)(hl:c.known.length<=1048576)(ha:Yo a)(hb:Yo b):
  PureD Tryz.prog 194 [eU c,YM a,YM b,intD now] (.tup [eU (kg c a b now).1,intD (kg c a b now).2]):=by
 refine ai λR hR=>?_;have c1:=vg c now hl;have r1:=afc (P:=Tryz.prog) (t:=332) (e:=193) (by kernel_rfl) (by kernel_rfl) (by kernel_rfl);unfold kg at hR;by_cases h1:dJ c now=0
 ·obtain⟨ok,hn,hfz⟩:=asked_zero.1 h1;have c2:=su c a now ok ha hn;have c3:=su c b now ok hb hn;rw[if_pos h1]at hR;rw[h1]at c1;have c4:=uW a.sg.hdr ha.s.h.c ha.s.h.root ha.s.h.vals ha.s.h.next
  have c5:=uW b.sg.hdr hb.s.h.c hb.s.h.root hb.s.h.vals hb.s.h.next
  have c6:=iq (a_ a.sg.hdr) (a_ b.sg.hdr);have c7:=PZ c ok.sm;clear ha hb ok hfz h1 hl;generalize a_ a.sg.hdr=X at*;generalize a_ b.sg.hdr=Y at*;generalize beE c a now=V at*;generalize beE c b now=W at*;refine aa 60 Tryz.func194 ?_;refine wkl ?_;clear hR;intro hR;have hR':Hr (.tup [eU (aaM V W (if a.sg.hdr.h=b.sg.hdr.h/\¬X=Y then({c with frozen:=true},0)else(kw,8)) 0).1,intD (aaM V W (if a.sg.hdr.h=b.sg.hdr.h/\¬X=Y then({c with frozen:=true},0)else(kw,8)) 0).2]) R:=hR;clear hR;refine aS (ι:=Nat) (λi=>i<=2/\Hr (.tup [eU (aaM V W (if a.sg.hdr.h=b.sg.hdr.h/\¬X=Y then({c with frozen:=true},0)else(kw,8)) i).1,intD (aaM V W (if a.sg.hdr.h=b.sg.hdr.h/\¬X=Y then({c with frozen:=true},0)else(kw,8)) i).2]) R)
   (λi=>dP [(3,intD now),(4,.pt 100 0 0 0),(5,.pt 101 0 0 0),(6,.pt 102 0 0 0),(8,.pt 103 0 0 0),(23,.bs 104 0 2),(24,intD 2),(25,intD i)]
    [(100,.box ((gF c).map .i)),(101,.box ((afI a).map .i)),(102,.box ((afI b).map .i)),(103,.box ((gF kw).map .i)),(104,.box [.pt 101 0 0 0,.pt 102 0 0 0])]) (λi=>2-i) 0 ⟨Nat.zero_le _,hR'⟩ ?_ ?_
  ·exact dB [] [(100,1000),(101,1001),(102,1002),(103,1003),(104,2024)]
  ·rintro i ⟨hi,hR⟩ RL hL;clear hR';rw[ag];have b1:=λσ' (h:i+1<=2) hq=>bk [] [(100,100),(101,101),(102,102),(103,103),(104,104)] (hL (i+1) σ' ⟨h,hq⟩);clear hL
   match i,hi with
   |0,_ =>have b1:=λσ' (hq:Hr _ R)=>b1 σ' (by omega) hq;simp only[aaM]at hR b1;exact wkl trivial
   |1,_ =>have b1:=λσ' (hq:Hr _ R)=>b1 σ' (by omega) hq;simp only[aaM]at hR b1;exact wkl trivial
   |2,_ =>
    clear b1;simp only[aaM]at hR;by_cases hx:X=Y
    ·rw[decide_eq_true hx]at c6;simp only[hx,not_true,and_false,if_false]at hR;exact wkl trivial
    ·rw[decide_eq_false hx]at c6;simp only[hx,not_false_eq_true,and_true]at hR;exact wkl trivial
 ·rw[if_neg h1]at hR;generalize dJ c now=W at*;clear ha hb;refine aa 60 Tryz.func194 ?_;exact wkl trivial
end Go.Proofs.YtdmeldhlbpdeeaaGreatDoor
