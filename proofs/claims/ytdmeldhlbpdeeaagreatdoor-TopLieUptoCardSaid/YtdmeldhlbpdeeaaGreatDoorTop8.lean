/- The law TopLie: the walk. -/
import Derived.Test.YtdmeldhlbpdeeaaGreatDoorTlP
import Derived.Test.YtdmeldhlbpdeeaaGreatDoorLaw5C
set_option linter.all false
set_option maxHeartbeats 16000000
set_option maxRecDepth 20000
namespace Go.Proofs.YtdmeldhlbpdeeaaGreatDoor
open Go Go.Abs Go.RowKit Go.Proofs.YtdmeldhlbpdeeaaGreatDoor.Ty
attribute [local go_sem] List.map_cons List.map_nil
attribute [local simp,local go_sem] psI bu crD
theorem walk_TopLie (y0:List I)(s:StateD)(e0:y0=encSt s/\∀p∈s.pus,p.n<18446744073709551616)(y1:I)(key:List UInt8)(e1:y1=bI key)(y2:I)(val:List UInt8)(e2:y2=bI val)(y3:List I)(p:b_)(e3:y3=qM p)(hb:bkL y0+bkI y1+bkI y2+bkL y3<=1048576):
  ∃Ds,PureD Tryz.prog 4 Ds (.i (.s (.bool true)))/\Ds=[.agg (y0.map .i),.i y1,.i y2,.agg (y3.map .i)]:=by
 obtain⟨rfl,_⟩:=e0;subst e1;subst e2;subst e3;refine⟨_,?_,rfl⟩;rw[Wo,BR];have hs:=acd (s:=s) (n:=1048576) (by omega) (by omega);clear hb;refine ai λR hR=>?_;have c1:=zY;have c2:=JD s hs;unfold fM at c2;by_cases h:bq s=0
 rotate_left
 ·rw[if_neg h]at c2;generalize bq s=W at*;clear hs;obtain⟨pi,pn,pk,pv,pq⟩:=p;simp only[bR];refine aa 77 Tryz.func4 ?_;exact wkl trivial
 have ok:=aC.1 h;rw[if_pos h]at c2;have c3:=Mo s hs ok;have hr:=book_right ok;have hl2:(sortP (rawS s)).length<=1048576:=by have:=hr.len;omega
 have hcl:(cT (dW s).1).known.length<=1048576:=by show 2<=1048576;decide
 have c4:=jZ (cT (dW s).1) 3 2 key val p hcl;have hto:=Mq ok (K:=key) (v:=val) (p:=p);have hbig:=hr.big;have k5:=abo (sortP (rawS s)) p hl2;obtain⟨z1,z2⟩:=clash_small (l:=sortP (rawS s)) (p:=p);generalize jr (sortP (rawS s)) p=C at*;clear h ok hs hr;generalize sortP (rawS s)=L at*;generalize bF (cT (dW s).1) 3 2 key val p=E at*;generalize cT (dW s).1=Cl at*;obtain⟨cc,ct,cf,ck⟩:=Cl;obtain⟨pi,pn,pk,pv,pq⟩:=p;obtain⟨X,Y,okc⟩:=C;simp only[bR,crD]at*;by_cases hE:E=0
 rotate_left
 ·clear hto hbig k5 z1 z2;refine aa 77 Tryz.func4 ?_;exact wkl trivial
 subst hE;refine aa 77 Tryz.func4 ?_;refine wkl ?_;clear hR c1 c2 c3 c4;intro hR;intros;refine aS (ι:=Nat) (λi=>i<=L.length/\∀j (q:j<L.length),j<i->¬(L[j].k=key/\L[j].v=val))
  (λi=>dP [(1,.i (bI key)),(2,.i (bI val)),(7,.pt 100 0 0 0),(9,.i (.sl (L.map bu))),(39,.i (.sl (L.map bu))),(40,intD L.length),(41,intD i)]
   [(100,.box [.i (.s (.int .i64 pi)),.i (.s (.int .i64 pn)),.i (bI pk),.i (bI pv),.i (bbI pq)])]) (λi=>L.length-i) 0 ⟨Nat.zero_le _,λj q h=>absurd h (Nat.not_lt_zero _)⟩ ?_ ?_
 ·exact dB [] [(100,1001)]
 ·rintro i ⟨hi,hno⟩ RL hL;rw[ag];by_cases h:i<L.length
  ·have s0:=aI (f:=bu) h;have hbi:=hbig _ (List.getElem_mem h);have c1:=BH L[i].k key (by omega);have c2:=BH L[i].v val (by omega);have b1:=λ(q:¬(L[i].k=key/\L[i].v=val)) σ'=>bk [] [(100,100)] (hL (i+1) σ' ⟨h,λj qj hj=>by
    rcases Nat.lt_or_ge j i with a|a
    ·exact hno j qj a
    ·have:j=i:=by omega
     subst this;exact q⟩)
   clear hL hno hbig hto k5 z1 z2;generalize L[i]=x at*;by_cases m1:x.k=key
   ·by_cases m2:x.v=val
    ·simp only[m1,m2,decide_true]at c1 c2;clear b1;exact wkl trivial
    ·have b1:=b1 (λq=>m2 q.2);simp only[m1,decide_true]at c1;rw[decide_eq_false m2]at c2;exact wkl trivial
   ·have b1:=b1 (λq=>m1 q.1);rw[decide_eq_false m1]at c1;exact wkl trivial
  ·have hn2:∀q∈L,¬(q.k=key/\q.v=val):=λq hq=>by
    obtain⟨j,hj,e⟩:=List.getElem_of_mem hq;have:=hno j hj (by omega);rw[e]at this;exact this
   obtain⟨t1,t2,t3⟩:=hto rfl hn2;try simp only at t1 t2 t3
   subst t1;have hii:i=L.length:=by omega
   subst hii;have c1:=k5;have c2:=BH X Y (by omega);have c3:=Kq X (by omega);have c4:=Kq Y (by omega);have c5:=BH (sha X) (sha Y) (by rw[bg];decide);rw[decide_eq_false t2]at c2;rw[<- t3]at c4 c5;simp only[decide_true]at c5;clear hL hno hbig hto k5 hn2 t3;generalize sha X=SX at*;exact wkl trivial
end Go.Proofs.YtdmeldhlbpdeeaaGreatDoor
