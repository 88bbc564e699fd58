/- The law TopShown: the walk. -/
import Derived.Test.YtdmeldhlbpdeeaaGreatDoorTsP
set_option linter.all false
set_option maxHeartbeats 16000000
set_option maxRecDepth 20000
namespace Go.Proofs.YtdmeldhlbpdeeaaGreatDoor
open Go Go.Abs Go.RowKit Go.Proofs.YtdmeldhlbpdeeaaGreatDoor.Ty
attribute [local go_sem] List.map_cons List.map_nil
attribute [local simp,local go_sem] psI bu
theorem walk_TopShown (y0:List I)(s:StateD)(e0:y0=encSt s/\∀p∈s.pus,p.n<18446744073709551616)(y1:I)(key:List UInt8)(e1:y1=bI key)(hb:bkL y0+bkI y1<=1048576):
  ∃Ds,PureD Tryz.prog 3 Ds (.i (.s (.bool true)))/\Ds=[.agg (y0.map .i),.i y1]:=by
 obtain⟨rfl,_⟩:=e0;subst e1;refine⟨_,?_,rfl⟩;rw[Wo];have hs:=acd (s:=s) (n:=1048576) (by omega) (by omega);clear hb;refine ai λR hR=>?_;have c1:=zY;have c2:=JD s hs;unfold fM at c2;by_cases h:bq s=0
 rotate_left
 ·rw[if_neg h]at c2;generalize bq s=W at*;clear hs;refine aa 71 Tryz.func3 ?_;exact wkl trivial
 have ok:=aC.1 h;rw[if_pos h]at c2;have c3:=Mo s hs ok;have l1:=ok.lcn;have l2:=ok.lch;have l3:=ok.lsent;have l4:=ok.lgot;have l5:=ok.lacks;have hl:(sortP (rawS s)).length=s.cns.length+2*s.chs.length+s.sent.length+s.got.length+s.acks.length:=by rw[qm,uO]
 have hl2:(sortP (rawS s)).length<=1048576:=by omega
 have hsh:∀i (q:i<(sortP (rawS s)).length),(iQ (sortP (rawS s)) (sortP (rawS s))[i].k).2=0/\bF (cT (dW s).1) 3 2 (sortP (rawS s))[i].k (sortP (rawS s))[i].v (iQ (sortP (rawS s)) (sortP (rawS s))[i].k).1=0:=λi q=>YQ ok (List.getElem_mem q);have hgp:=YR ok key;have hcl:(cT (dW s).1).known.length<=1048576:=by show 2<=1048576;decide
 clear l1 l2 l3 l4 l5 hl h ok hs;generalize sortP (rawS s)=L at*;generalize cT (dW s).1=C at*;have k6:=aet L key hl2;have k7:=yj C 3 2 key (LD L key).1 hcl;obtain⟨cc,ct,cf,ck⟩:=C;refine aa 71 Tryz.func3 ?_;refine wkl ?_;clear hR c1 c2 c3;intro hR;intros;refine aS (ι:=Nat) (λi=>i<=L.length)
  (λi=>dP [(1,.i (bI key)),(5,.i (.sl (L.map bu))),(7,.pt 100 0 0 0),(30,.i (.sl (L.map bu))),(31,intD L.length),(32,intD i)]
   [(100,.box [.i (.s (.string cc)),.i (.s (.int .i64 ct)),.i (.s (.bool cf)),.i (.sl (ck.map gL))])]) (λi=>L.length-i) 0 (Nat.zero_le _) ?_ ?_
 ·exact dB [] [(100,2541)]
 ·rintro i hi RL hL;rw[ag];by_cases h:i<L.length
  ·have s0:=aI (f:=bu) h;obtain⟨w1,w2⟩:=hsh i h;have c1:=Wq L L[i].k hl2;have c2:=jZ ⟨cc,ct,cf,ck⟩ 3 2 L[i].k L[i].v (iQ L L[i].k).1 hcl;rw[w1]at c1;rw[w2]at c2;have b1:=λσ'=>bk [] [(100,100)] (hL (i+1) σ' h);clear hL hsh hgp k6 k7 w1 w2;generalize(iQ L L[i].k).1=pf at*;obtain⟨pi,pn,pk,pv,pq⟩:=pf;generalize L[i]=x at*;simp only[bR]at c1 c2;exact wkl trivial
  ·have hii:i=L.length:=by omega
   subst hii;clear hL hsh;generalize LD L key=G at*;obtain⟨g,e⟩:=G;simp only at hgp k6 k7;rcases hgp with q|q
   ·have q2:¬(e:Int)=0:=by omega
    generalize kI _ 3 2 key g=M at*;have c1:=k6;have c2:=k7;clear k6 k7;exact wkl trivial
   ·rw[q]at k7;by_cases q0:e=0
    ·subst q0;have c1:=k6;have c2:=k7;clear k6 k7;exact wkl trivial
    ·have q2:¬(e:Int)=0:=by omega
     have c1:=k6;have c2:=k7;clear k6 k7;exact wkl trivial
end Go.Proofs.YtdmeldhlbpdeeaaGreatDoor
