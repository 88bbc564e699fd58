/- Merged texts: BrS, WkF, BrC, BrD, BrL. -/
import Derived.Test.YtdmeldhlbpdeeaaGreatDoorGBr
set_option linter.all false
set_option maxHeartbeats 32000000
set_option maxRecDepth 20000
namespace Go.Abs
open Go Go.RowKit
attribute [local simp] fnd
theorem dK {P:Program}{f:FuncId}{ds gs:List D}{r:D}{objs objs':List (Nat×Ob)}{n:Nat}{σ:St}{ks:List Fr}{Q:Ex->St->Prop}{rid:Nat}{rest:List It}{dst:Option Nat}(ρ ρ':List (Nat×Nat))(new:List (Nat×Ob))(hL:aL P f ds (hF objs) r (hOf (hF objs) objs'))(h:Ro P n rid rest (St.put ⟨σ.sl,D_ new σ.H⟩ dst r) ks Q)
  (hgs:cvs σ.H [] (fnd ρ) gs ds:=by simp[and_assoc,cvs,fnd]) (ho:∀p∈objs,∃o,fnd ρ p.1=some o/\cvO σ.H [] (fnd ρ) (σ.H o) p.2:=by simp[fnd,and_assoc,hF,lk]) (hk:(ρ.all λq=>objs.any λp=>p.1==q.1)=true:=by rfl)
  (hinj:(ρ.all λp=>ρ.all λq=>p.2 != q.2||p.1==q.1)=true:=by rfl)
  (hn:∀p∈new,∃l,fnd ρ' p.1=some l/\cvO (hOf (hF objs) objs') [] (fnd ρ') (hOf (hF objs) objs' l) p.2:=by simp[fnd,and_assoc,hF,hOf,lk]) (hk':(ρ'.all λq=>new.any λp=>p.1==q.1)=true:=by rfl)
  (hinj':(ρ'.all λp=>ρ'.all λq=>p.2 != q.2||p.1==q.1)=true:=by rfl) (hr':cv (hOf (hF objs) objs') [] (fnd ρ') r r:=by simp)
  (hback:(ρ.all λp=>fnd ρ' p.2==some p.1)=true:=by simp[fnd]) (hnew:∀q∈ρ',fnd ρ q.2=some q.1\/σ.H q.1=.fresh:=by simp[fnd,hF,lk,noH]):Call P n rid f gs dst rest σ ks Q :=
 vz ρ ρ' new r hL h hgs ho hk hinj hn hk' hinj' hr' hback hnew
theorem fin_e {P:Program}{sl:Nat->D}{H H0:Nat->Ob}{fn:Func}{r:D}{rs:List ResultVar}{objs:List (Nat×Ob)}{F:List Nat}{src:List (Nat×Nat)}(d:iY F src)(h:fn.results=rs.toArray)
  (hv:UD (Gr P ⟨sl,H⟩ rs) H F (jc H0 src) r:=by(try simp only[go_sem,Nat.reduceLT,Nat.reduceAdd,Nat.reduceMul,reduceIte,Nat.reduceEqDiff,reduceCtorEq,Nat.reducePow,Nat.reduceLeDiff,Int.reduceLE,Int.reduceLT,Int.reduceToNat,Int.reduceEq,Nat.reduceBEq]);simp[*]) (ho:∀p∈objs,aX H F (jc H0 src) p:=by simp[*])
  (hk:(src.all λp=>objs.any λq=>q.1==p.1)=true:=by rfl) (hf:∀p∈src,H0 p.2=.fresh:=by simp[*]) (hinj:(src.all λp=>src.all λq=>p.2 != q.2||p.1==q.1)=true:=by rfl):Fin P fn H0 r (hOf H0 objs) .ret ⟨sl,H⟩ :=
 fin_d d h hv ho hk hf hinj
end Go.Abs
namespace Go.Proofs.YtdmeldhlbpdeeaaGreatDoor
open Go Go.Abs Go.RowKit Go.Proofs.YtdmeldhlbpdeeaaGreatDoor.Ty
def aaJ (c:ay):List (Nat×Ob):=[(0,.box (oJ c 1)),(1,.arr 18 (c.past.map bM))]
def RN (c o:ay):List (Nat×Ob):=[(0,.box (oJ c 1)),(1,.arr 18 (c.past.map bM)),(2,.box (oJ o 3)),(3,.arr 18 (o.past.map bM))]
attribute [simp,go_sem] aaJ RN
def ul (l:List EndD):List aT:=l.map λe=>ofH e.sg.hdr
def ahE (e:EndD):D:=.agg [.i (.s (.string e.sg.hdr.c)),.i (.s (.int .i64 e.sg.hdr.h)),.i (.s (.int .i64 e.sg.hdr.t)),.i (bI e.sg.hdr.root),.i (bI e.sg.hdr.vals),.i (bI e.sg.hdr.next),.i (valsI e.sg.vals),.i (votesI e.sg.votes),
 .i (.s (.string e.st.name)),.i (.s (.int .i64 e.st.h)),.i (.s (.int .i64 e.st.t)),.i (.sl (e.st.cls.map gF)),.i (.sl (e.st.cns.map d_)),.i (.sl (e.st.chs.map bK)),.i (.sl (e.st.sent.map bJ)),.i (.sl (e.st.got.map bJ)),.i (.sl (e.st.acks.map bJ)),.i (.sl (e.st.pus.map bf))]
attribute [simp,go_sem] ahE
theorem atB_case (o:ay)(h:Int):(atB o h=none/\ixK (ul o.past) h=-1)\/∃i,∃hi:i<o.past.length,ixK (ul o.past) h=i/\atB o h=some o.past[i]:=by
 unfold atB ixK mG ul;rw[List.drop_zero,List.findIdx?_map];have e0:((λk:aT=>decide (k.h=h)) ∘ λe:EndD=>ofH e.sg.hdr)=λe:EndD=>decide (e.sg.hdr.h=h):=rfl;rw[e0];cases e:o.past.findIdx? (λe:EndD=>decide (e.sg.hdr.h=h))with
 |none =>left;rw[List.findIdx?_eq_none_iff]at e;exact⟨List.find?_eq_none.2 λx hx=>by simpa using e x hx,rfl⟩
 |some i =>right;obtain⟨hi,h1,h2⟩:=List.findIdx?_eq_some_iff_getElem.1 e;refine⟨i,hi,by simp,?_⟩;rw[List.find?_eq_some_iff_getElem];exact⟨h1,i,hi,rfl,λj hj=>by simpa using h2 j hj⟩
theorem aaR (e:EndD)(h:Int):PureD Tryz.prog 123 [ahE e,.rp [.s (.int .i64 h)] 0] (boolD (decide (e.sg.hdr.h=h))):=by refine ai λR hR=>?_;refine aa 10 Tryz.func123 ?_;exact wkl trivial
theorem Vt (l:List EndD)(h:Int)(hl:l.length<=1048576):PureD Tryz.prog 122 [.i (.sl (l.map bM)),.fn 123 [.rp [.s (.int .i64 h)] 0]] (intD (ixK (ul l) h)):=by
 refine ai λR hR=>?_
 have hlen:(ul l).length=l.length:=by simp[ul]
 refine aa 19 Tryz.func122 ?_
 refine wkl ?_
 clear hR;intro hR
 have hR':Hr (intD (mG (ul l) h 0)) R:=hR
 clear hR
 refine aS (ι:=Nat) (λi=>i<=l.length/\Hr (intD (mG (ul l) h i)) R)
  (λi=>dP [(0,.i (.sl (l.map bM))),(1,.fn 123 [.rp [.s (.int .i64 h)] 0]),(7,intD l.length),(8,intD i)] [])
  (λi=>l.length-i) 0 ⟨Nat.zero_le _,hR'⟩ ?_ ?_
 ·exact dB [] []
 ·rintro i ⟨hi,hR⟩ RL hL
  clear hR'
  rw[ag]
  by_cases hlt:i<l.length
  ·have s0:=aI (f:=bM) hlt
   have e1:((ul l)[i]'(by omega)).h=l[i].sg.hdr.h:=by simp[ul,ofH]
   rw[Cs (l:=ul l) (by omega),e1]at hR
   have c1:=aaR l[i] h
   have b1:=λσ' (hq:Hr _ R)=>bk [] [] (hL (i+1) σ' ⟨hlt,hq⟩)
   clear hL e1 hlen
   generalize l[i]=k at*
   exact wkl trivial
  ·rw[Ct (l:=ul l) (by omega)]at hR
   exact wkl trivial
theorem wX (s:StateD)(ok:StOk s):(fM s).1.length<=1048576:=by unfold fM;rw[if_pos (aC.2 ok)];have h1:=uO s;have:=ok.lcn;have:=ok.lch;have:=ok.lsent;have:=ok.lgot;have:=ok.lacks;simp only[qm];omega
theorem QK (c o:ay)(ok:StOk c.s)(hl:o.past.length<=1048576)(hp:∀e∈o.past,StOk e.st)(m:MsgD)(hm:Rq m):
  aL Tryz.prog 67 [.pt 0 0 0 0,.pt 2 0 0 0,ZH m] (hF (RN c o)) (ZH (showB c o m)) (hOf (hF (RN c o)) (RN c o)):=by
 refine ik λR R' hR hR'=>?_;have d1:iY [] []:=⟨trivial⟩
 obtain⟨rfl⟩:=hR';have hD:=aaV c ok {m with sh:=zSh} ⟨hm.oend,hm.fr,hm.de,hm.seq⟩;have hlc:=ok.lcl;unfold showB vM at hR;generalize hA:iA c {m with sh:=zSh}=A at*;obtain⟨cli,key,gap,ask⟩:=A;simp only at hD hR;refine aP 130 Tryz.func67 rfl rfl rfl (λo ho=>by simp[hF,lk,show o≠0 by omega,show o≠1 by omega,show o≠2 by omega,show o≠3 by omega,show o≠4 by omega,show o≠5 by omega]) ?_;refine wkl ?_;intro _;refine dK [(0,0),(1,1),(2,1000)] [(0,0),(1,1),(1000,2)] [(0,.box (oJ c 1)),(1,.arr 18 (c.past.map bM)),(1000,.box ((encMsg {m with sh:=zSh}).map .i))] hD ?_;clear hD;by_cases h1:ask=false\/cli<0\/(c.s.cls.length:Int)<=cli
 ·rw[if_pos h1]at hR;clear hm hp ok hA;rcases h1 with rfl|h1|h1
  ·first|exact wkl trivial|(refine wkl ?_;clear hR;intro hR;repeat' (intro _);obtain⟨rfl⟩:=hR;exact fin_e d1 rfl)
  ·cases ask;all_goals
    first|exact wkl trivial|(refine wkl ?_;clear hR;intro hR;repeat' (intro _);obtain⟨rfl⟩:=hR;exact fin_e d1 rfl)
  ·by_cases h1b:cli<0
   ·cases ask;all_goals
     first|exact wkl trivial|(refine wkl ?_;clear hR;intro hR;repeat' (intro _);obtain⟨rfl⟩:=hR;exact fin_e d1 rfl)
   ·cases ask;all_goals
     first|exact wkl trivial|(refine wkl ?_;clear hR;intro hR;repeat' (intro _);obtain⟨rfl⟩:=hR;exact fin_e d1 rfl)
 ·rw[if_neg h1]at hR;obtain rfl:ask=true:=by cases ask;exact absurd (.inl rfl) h1;rfl
  have hi:cli.toNat<c.s.cls.length:=by omega
  have s0:=aI (f:=gF) hi;have hk:=(ok.cls _ (List.getElem_mem hi)).len;rw[(gz (s:=c.s) (i:=cli) (by omega)).1]at hR;have hb:0<=cli/\cli<(c.s.cls.length:Int):=by omega
  clear hA hm;generalize c.s.cls[cli.toNat]=x at*;clear ok h1;obtain⟨hlt,hlast⟩:=last_get hk.1;have s1:=aI (f:=gL) hlt;rw[<- hlast]at s1;have hn:((x.known.length-1:Nat):Int)=(x.known.length:Int)-1:=by omega
  have w1:IntKind.i64.wrap ((x.known.length:Int)-1)=((x.known.length-1:Nat):Int):=by rw[au (by omega) (by omega)];omega
  have c2:=Vt o.past (ky x).h hl;clear hn hlast;generalize ky x=k at*;rcases atB_case o k.h with⟨h2,h3⟩|⟨i,hi2,h2,h3⟩
  ·rw[h3]at c2;rw[h2]at hR;simp only at hR;clear h2 h3 hp;first|exact wkl trivial|(refine wkl ?_;clear hR;intro hR;repeat' (intro _);obtain⟨rfl⟩:=hR;exact fin_e d1 rfl)
  ·rw[h2]at c2;rw[h3]at hR;simp only at hR;have hst:=hp _ (List.getElem_mem hi2);have s2:=aI (f:=bM) hi2;have gi:¬(i:Int)<0:=by omega
   clear h2 h3 hp;generalize o.past[i]=e at*;have c3:=JD e.st hst.sm;have c4:=Wq (fM e.st).1 key (wX e.st hst);have c5:=aet (fM e.st).1 key (wX e.st hst);have hch:=hst.lch;simp only[psI,bR,LG]at c4 c5;cases gap
   ·simp only[Bool.false_eq_true,if_false]at hR;clear c5;unfold ZA at hR;by_cases h4:m.kind=17/\0<=m.pk.de/\m.pk.de<(e.st.chs.length:Int)
    ·obtain⟨h5,h6⟩:=h4;have hj:m.pk.de.toNat<e.st.chs.length:=by omega
     have s3:=aI (f:=bK) hj;simp only[if_pos (show m.kind=17/\0<=m.pk.de/\m.pk.de<(e.st.chs.length:Int)from⟨h5,h6⟩)]at hR;rw[(dD (s:=e.st) (i:=m.pk.de) (by omega)).1]at hR;clear hst;generalize e.st.chs[m.pk.de.toNat]=y at*;generalize fM e.st=B at*;generalize iQ B.1 key=S at*;first|exact wkl trivial|(refine wkl ?_;clear hR;intro hR;repeat' (intro _);obtain⟨rfl⟩:=hR;exact fin_e d1 rfl)
    ·simp only[if_neg h4]at hR;generalize fM e.st=B at*;generalize iQ B.1 key=S at*;clear hst;by_cases h5:m.kind=17
     ·have h6:m.pk.de<0\/(e.st.chs.length:Int)<=m.pk.de:=by
       by_cases h7:m.pk.de<0
       ·exact .inl h7
       ·exact .inr (Int.not_lt.1 λh8=>h4 ⟨h5,Int.not_lt.1 h7,h8⟩)
      clear h4;first|exact wkl trivial|(refine wkl ?_;clear hR;intro hR;repeat' (intro _);obtain⟨rfl⟩:=hR;exact fin_e d1 rfl)
     ·clear h4;first|exact wkl trivial|(refine wkl ?_;clear hR;intro hR;repeat' (intro _);obtain⟨rfl⟩:=hR;exact fin_e d1 rfl)
   ·simp only[if_true]at hR;clear c4 hst;generalize fM e.st=B at*;generalize LD B.1 key=G at*;first|exact wkl trivial|(refine wkl ?_;clear hR;intro hR;repeat' (intro _);obtain⟨rfl⟩:=hR;exact fin_e d1 rfl)
end Go.Proofs.YtdmeldhlbpdeeaaGreatDoor
namespace Go.Abs
open Go Go.RowKit
theorem wkf {G Q:Prop}(g:G)(h:PLift G->Q:=by
 intro hgo
 repeat' (first
  |(simp(maxSteps:=2000000) -implicitDefEqProofs only[go_sem,Nat.reduceLT,Nat.reduceAdd,Nat.reduceMul,reduceIte,Nat.reduceEqDiff,reduceCtorEq,Nat.reducePow,Nat.reduceLeDiff,Int.reduceLE,Int.reduceLT,Int.reduceToNat,Int.reduceEq,Nat.reduceBEq,lgc,not_true_eq_false,aaQ, *])
  |(with_reducible refine⟨?_,?_⟩;(· first|(obtain⟨rfl⟩:=‹Hq _ _›;with_reducible refine chk_ok ?_;kernel_rfl)|kernel_rfl))
  |(with_reducible intro opz hopz)
  |(simp -implicitDefEqProofs (disch:=omega)only[afQ,YD,aI,ltc,ltf,lec,lef,agE,agF])
  |((with_reducible first|refine Fy ?_|refine AL ?_);(first|refine wkA c1 ?_|refine wkA c2 ?_|refine wkA c3 ?_|refine wkA c4 ?_|refine wkA c5 ?_|refine wkA c6 ?_|refine wkA c7 ?_|refine wkA c8 ?_|refine wkA c9 ?_|refine wkA c10 ?_|refine wkA c11 ?_|refine wkA c12 ?_|refine wkB e1 ?_|refine wkB e2 ?_|refine wkB e3 ?_|refine wkB e4 ?_|refine wkB e5 ?_|refine wkC c1 ?_|refine wkC c2 ?_|refine wkC c3 ?_|refine wkC c4 ?_|refine wkC c5 ?_|refine wkC c6 ?_|refine wkC c7 ?_|refine wkC c8 ?_|refine wkC c9 ?_|refine wkC c10 ?_|refine wkC c11 ?_|refine wkC c12 ?_))
  |((first|refine aK (λhg=>?_) (λhg=>?_)|refine xh (λhg=>?_) (λhg=>?_)|refine xk (λhg=>?_) (λhg=>?_))<;>(try simp only[nrm,eq_self,not_true_eq_false]at hg)<;>(try simp only[hg,lgc,reduceIte,reduceCtorEq]at hR)<;>(try(exfalso;omega)))
  |exact wkD b1|exact wkD b2|exact wkD b3|exact wkD b4|exact wkD b5
  |((try simp only[*,lgc,reduceIte,reduceCtorEq]at hR);(try obtain⟨rfl⟩:=hR);refine fin_q rfl ?_;(try simp only[go_sem,Nat.reduceLT,Nat.reduceAdd,Nat.reduceMul,reduceIte,Nat.reduceEqDiff,reduceCtorEq,Nat.reducePow,Nat.reduceLeDiff,Int.reduceLE,Int.reduceLT,Int.reduceToNat,Int.reduceEq,Nat.reduceBEq]);(first|(simp;done)|(simp;omega)|(simp[*];done)|(simp[*];omega)))
  |((try simp only[*,lgc,reduceIte,reduceCtorEq]at hR);(try obtain⟨rfl⟩:=hR);refine fin_d d1 rfl ?_ ?_ rfl ?_ rfl<;>(try simp only[go_sem,Nat.reduceLT,Nat.reduceAdd,Nat.reduceMul,reduceIte,Nat.reduceEqDiff,reduceCtorEq,Nat.reducePow,Nat.reduceLeDiff,Int.reduceLE,Int.reduceLT,Int.reduceToNat,Int.reduceEq,Nat.reduceBEq])<;>(simp;done)))
 all_goals(repeat(revert hg))
 all_goals(try(have hR:=hR;revert hR))
 all_goals(try(revert hopz;revert opz))
 all_goals exact hgo.down):Q:=h ⟨g⟩
attribute [local simp] fnd
theorem FU {j:Nat}{G:Nat->Ob}:∀{l:List (Nat×Ob)},j ∉ l.map (·.1)->D_ l G j=G j
 |[],_=>rfl
 |(a,x)::t,h=>by simp only[List.map_cons,List.mem_cons,not_or]at h;simp only[D_];rw[upd_ne _ _ h.1];exact FU h.2
theorem Ma {j:Nat}{G G':Nat->Ob}:∀{l:List (Nat×Ob)},j∈l.map (·.1)->D_ l G j=D_ l G' j
 |(a,x)::t,h=>by
  simp only[D_];by_cases e:j=a
  ·subst e;rw[upd_same,upd_same]
  ·rw[upd_ne _ _ e,upd_ne _ _ e];simp only[List.map_cons,List.mem_cons]at h;exact Ma (h.resolve_left e)
theorem Ls {P:Program}{f:FuncId}{ds gs:List D}{r:D}{objs objs':List (Nat×Ob)}{n:Nat}{σ:St}{ks:List Fr}{Q:Ex->St->Prop}{rid k:Nat}{ops:Array Oper}{rest:List It}{acc:Acc}{dst:Option Nat}(ρ ρ':List (Nat×Nat))(new:List (Nat×Ob))(hL:aL P f ds (hF objs) r (hOf (hF objs) objs'))
  (h:Rd P n rid ops rest ((k,new.map (·.1),new.map (·.1))::acc) (St.put ⟨σ.sl,D_ new σ.H⟩ dst r) ks Q)
  (hgs:∀G,mo (new.map (·.1)) G σ.H->cvs G [] (fnd ρ) gs ds:=by intro G hG;simp at hG;simp[hG,and_assoc,cvs,fnd])
  (ho:∀G,mo (new.map (·.1)) G σ.H->∀p∈objs,∃o,fnd ρ p.1=some o/\cvO G [] (fnd ρ) (G o) p.2:=by intro G hG;simp[hF,lk]at hG;simp[hG,fnd,and_assoc,hF,lk]) (hk:(ρ.all λq=>objs.any λp=>p.1==q.1)=true:=by rfl)
  (hinj:(ρ.all λp=>ρ.all λq=>p.2 != q.2||p.1==q.1)=true:=by rfl)
  (hn:∀p∈new,∃l,fnd ρ' p.1=some l/\cvO (hOf (hF objs) objs') [] (fnd ρ') (hOf (hF objs) objs' l) p.2:=by simp[fnd,and_assoc,hF,hOf,lk]) (hk':(ρ'.all λq=>new.any λp=>p.1==q.1)=true:=by rfl)
  (hinj':(ρ'.all λp=>ρ'.all λq=>p.2 != q.2||p.1==q.1)=true:=by rfl) (hr':cv (hOf (hF objs) objs') [] (fnd ρ') r r:=by simp)
  (hback:(ρ.all λp=>fnd ρ' p.2==some p.1)=true:=by simp[fnd]) (hnew:∀G,mo (new.map (·.1)) G σ.H->∀q∈ρ',fnd ρ q.2=some q.1\/G q.1=.fresh:=by intro G hG;simp[fnd,hF,lk,noH]):mr P n rid ops f gs k dst rest acc σ ks Q :=
 ⟨⟨r,new.map (·.1),new.map (·.1),λG=>D_ new G⟩,⟨⟨λ_ h=>h,λG j hj=>FU hj,λG G' _ j hj=>Ma hj⟩,λG hG=>.inl (JA ρ ρ' hL (hgs G hG) (ho G hG) hk hinj hn hk' hinj' hr' hback (hnew G hG))⟩,h⟩
end Go.Abs
namespace Go.Proofs.YtdmeldhlbpdeeaaGreatDoor
open Go Go.Abs Go.RowKit Go.Proofs.YtdmeldhlbpdeeaaGreatDoor.Ty
theorem Lc (c:ay)(ok:StOk c.s)(h64:P64 c.s.pus)(m:MsgD)(hm:sO m):
  aL Tryz.prog 66 [.pt 0 0 0 0,ZH m] (hF (aaJ c)) (Ff (kX c m).2) (hOf (hF (aaJ c)) (aaJ (kX c m).1)):=by
 refine ik λR R' hR hR'=>?_;have c1:=afl c.s ok.sm h64 m hm;unfold kX at hR hR';by_cases e:(doS c.s m).2.err=0
 ·simp only[if_pos e]at hR hR';generalize doS c.s m=X at*;clear ok h64 hm;have d1:iY [] []:=⟨trivial⟩
  obtain⟨rfl⟩:=hR';refine aP 24 Tryz.func66 rfl rfl rfl (λo ho=>by simp[hF,lk,show o≠0 by omega,show o≠1 by omega,show o≠2 by omega,show o≠3 by omega,show o≠4 by omega,show o≠5 by omega]) ?_;first|exact wkl trivial|refine wkl ?_
  all_goals(clear hR;intro hR)
  all_goals(repeat' (intro _))
  all_goals(obtain⟨rfl⟩:=hR)
  all_goals(refine fin_d d1 rfl ?_ ?_ rfl ?_ rfl)
  all_goals(try simp only[go_sem,Nat.reduceLT,Nat.reduceAdd,Nat.reduceMul,reduceIte,Nat.reduceEqDiff,reduceCtorEq,Nat.reducePow,Nat.reduceLeDiff,Int.reduceLE,Int.reduceLT,Int.reduceToNat,Int.reduceEq,Nat.reduceBEq])
  all_goals simp[*]
 ·simp only[if_neg e]at hR hR';generalize doS c.s m=X at*;clear ok h64 hm;have d1:iY [] []:=⟨trivial⟩
  obtain⟨rfl⟩:=hR';refine aP 24 Tryz.func66 rfl rfl rfl (λo ho=>by simp[hF,lk,show o≠0 by omega,show o≠1 by omega,show o≠2 by omega,show o≠3 by omega,show o≠4 by omega,show o≠5 by omega]) ?_;first|exact wkl trivial|refine wkl ?_
  all_goals(clear hR;intro hR)
  all_goals(repeat' (intro _))
  all_goals(obtain⟨rfl⟩:=hR)
  all_goals(refine fin_d d1 rfl ?_ ?_ rfl ?_ rfl)
  all_goals(try simp only[go_sem,Nat.reduceLT,Nat.reduceAdd,Nat.reduceMul,reduceIte,Nat.reduceEqDiff,reduceCtorEq,Nat.reducePow,Nat.reduceLeDiff,Int.reduceLE,Int.reduceLT,Int.reduceToNat,Int.reduceEq,Nat.reduceBEq])
  all_goals simp[*]
structure nO (c:ay):Prop where
 ok:StOk c.s
 p64:P64 c.s.pus
 len:c.past.length<=1000
 st:∀e∈c.past,StOk e.st
 sg:∀e∈c.past,VJ e.sg/\e.sg.hdr.next.length<=1048576
 vl:c.vals.length<=1000
 vk:∀v∈c.vals,v.k<18446744073709551616/\v.p<18446744073709551616
 sl:c.seeds.length<=1000
 sk:∀s∈c.seeds,s.length<=1000
theorem last_pastB {o:ay}(h:¬o.past.length=0):∃hi:o.past.length-1<o.past.length,lastB o=o.past[o.past.length-1] :=
 ⟨by omega,by unfold lastB;rw[List.getLastD_eq_getLast?,List.getLast?_eq_getElem?,List.getElem?_eq_getElem (by omega)];rfl⟩
theorem zeroMsg_sm:sO zeroMsg:=⟨⟨by decide,by decide⟩,FJ,FJ,by decide,by decide,by decide,by decide,by unfold gT;decide,by unfold gT;decide,by decide,by decide⟩
theorem Qr {o:ay}(ho:nO o)(h:¬o.past.length=0)(t:Int):sO (cliMsg o t):=by obtain⟨hi,e⟩:=last_pastB h;have hg:=ho.sg _ (List.getElem_mem hi);rw[<- e]at hg;have z:=zeroMsg_sm;exact⟨⟨hg.1.h.root,hg.2⟩,z.up,z.up2,z.tn,z.td,z.ts,z.tr,z.fr,z.de,z.data,z.ack⟩
theorem Py {c o:ay}(ho:nO o)(h:¬o.past.length=0)(i:Int):sO (folMsg c o i):=by obtain⟨hi,e⟩:=last_pastB h;have hg:=ho.sg _ (List.getElem_mem hi);rw[<- e]at hg;have z:=zeroMsg_sm;exact⟨z.kn,⟨hg.1,Nat.le_trans ho.vl (by decide),ho.vk,hg.2⟩,z.up2,z.tn,z.td,z.ts,z.tr,z.fr,z.de,z.data,z.ack⟩
theorem Dp (c o:ay)(hc:nO c)(ho:nO o)(trust:Int):
  aL Tryz.prog 64 [.pt 0 0 0 0,.pt 2 0 0 0,intD trust] (hF (RN c o)) (Ff (dH c o trust).2) (hOf (hF (RN c o)) (RN (dH c o trust).1 o)):=by
 refine ik λR R' hR hR'=>?_;unfold dH at hR hR';have hl:=ho.len;have d1:iY [] []:=⟨trivial⟩
 by_cases h:o.past.length=0
 ·simp only[if_pos h]at hR hR';clear hc ho;obtain⟨rfl⟩:=hR';refine aP 44 Tryz.func64 rfl rfl rfl (λo ho=>by simp[hF,lk,show o≠0 by omega,show o≠1 by omega,show o≠2 by omega,show o≠3 by omega,show o≠4 by omega,show o≠5 by omega]) ?_;first|exact wkl trivial|refine wkl ?_
  all_goals(clear hR;intro hR)
  all_goals(repeat' (intro _))
  all_goals(obtain⟨rfl⟩:=hR)
  all_goals(refine fin_d d1 rfl ?_ ?_ rfl ?_ rfl)
  all_goals(try simp only[go_sem,Nat.reduceLT,Nat.reduceAdd,Nat.reduceMul,reduceIte,Nat.reduceEqDiff,reduceCtorEq,Nat.reducePow,Nat.reduceLeDiff,Int.reduceLE,Int.reduceLT,Int.reduceToNat,Int.reduceEq,Nat.reduceBEq])
  all_goals simp[*]
 ·simp only[if_neg h]at hR hR';have hD:=Lc c hc.ok hc.p64 (cliMsg o trust) (Qr ho h trust);obtain⟨hi,e⟩:=last_pastB h;have s0:=aI (f:=bM) hi;rw[<- e]at s0;have w1:IntKind.i64.wrap ((o.past.length:Int)-1)=((o.past.length-1:Nat):Int):=by rw[au (by omega) (by omega)];omega
  generalize kX c (cliMsg o trust)=X at hD hR hR';simp only[cliMsg,ofH]at hD;clear hc ho e;generalize lastB o=z at*;obtain⟨rfl⟩:=hR';refine aP 44 Tryz.func64 rfl rfl rfl (λo ho=>by simp[hF,lk,show o≠0 by omega,show o≠1 by omega,show o≠2 by omega,show o≠3 by omega,show o≠4 by omega,show o≠5 by omega]) ?_;refine wkl ?_;clear hR;intro hR
  repeat' (intro _)
  refine dK [(0,0),(1,1)] [(0,0),(1,1)] [(0,.box (oJ X.1 1)),(1,.arr 18 (X.1.past.map bM))] hD ?_;clear hD;first|exact wkl trivial|refine wkl ?_
  all_goals(clear hR;intro hR)
  all_goals(repeat' (intro _))
  all_goals(obtain⟨rfl⟩:=hR)
  all_goals(refine fin_d d1 rfl ?_ ?_ rfl ?_ rfl)
  all_goals(try simp only[go_sem,Nat.reduceLT,Nat.reduceAdd,Nat.reduceMul,reduceIte,Nat.reduceEqDiff,reduceCtorEq,Nat.reducePow,Nat.reduceLeDiff,Int.reduceLE,Int.reduceLT,Int.reduceToNat,Int.reduceEq,Nat.reduceBEq])
  all_goals simp[*]
theorem Dn (c o:ay)(hc:nO c)(ho:nO o)(i:Int):
  aL Tryz.prog 65 [.pt 0 0 0 0,.pt 2 0 0 0,intD i] (hF (RN c o)) (Ff (dw c o i).2) (hOf (hF (RN c o)) (RN (dw c o i).1 o)):=by
 refine ik λR R' hR hR'=>?_;unfold dw at hR hR';have hl:=ho.len;have hlc:=hc.ok.lcl;have d1:iY [] []:=⟨trivial⟩
 by_cases h:o.past.length=0\/i<0\/(c.s.cls.length:Int)<=i
 ·simp only[if_pos h]at hR hR';clear hc ho;obtain⟨rfl⟩:=hR';by_cases p0:((o.past.length:Nat):Int)=0
  ·clear h;refine aP 67 Tryz.func65 rfl rfl rfl (λo ho=>by simp[hF,lk,show o≠0 by omega,show o≠1 by omega,show o≠2 by omega,show o≠3 by omega,show o≠4 by omega,show o≠5 by omega]) ?_;first|exact wkl trivial|refine wkl ?_
   all_goals(clear hR;intro hR)
   all_goals(repeat' (intro _))
   all_goals(obtain⟨rfl⟩:=hR)
   all_goals(refine fin_d d1 rfl ?_ ?_ rfl ?_ rfl)
   all_goals(try simp only[go_sem,Nat.reduceLT,Nat.reduceAdd,Nat.reduceMul,reduceIte,Nat.reduceEqDiff,reduceCtorEq,Nat.reducePow,Nat.reduceLeDiff,Int.reduceLE,Int.reduceLT,Int.reduceToNat,Int.reduceEq,Nat.reduceBEq])
   all_goals simp[*]
  ·by_cases p1:i<0
   ·clear h;refine aP 67 Tryz.func65 rfl rfl rfl (λo ho=>by simp[hF,lk,show o≠0 by omega,show o≠1 by omega,show o≠2 by omega,show o≠3 by omega,show o≠4 by omega,show o≠5 by omega]) ?_;first|exact wkl trivial|refine wkl ?_
    all_goals(clear hR;intro hR)
    all_goals(repeat' (intro _))
    all_goals(obtain⟨rfl⟩:=hR)
    all_goals(refine fin_d d1 rfl ?_ ?_ rfl ?_ rfl)
    all_goals(try simp only[go_sem,Nat.reduceLT,Nat.reduceAdd,Nat.reduceMul,reduceIte,Nat.reduceEqDiff,reduceCtorEq,Nat.reducePow,Nat.reduceLeDiff,Int.reduceLE,Int.reduceLT,Int.reduceToNat,Int.reduceEq,Nat.reduceBEq])
    all_goals simp[*]
   ·have p2:(c.s.cls.length:Int)<=i:=by omega
    clear h;refine aP 67 Tryz.func65 rfl rfl rfl (λo ho=>by simp[hF,lk,show o≠0 by omega,show o≠1 by omega,show o≠2 by omega,show o≠3 by omega,show o≠4 by omega,show o≠5 by omega]) ?_;first|exact wkl trivial|refine wkl ?_
    all_goals(clear hR;intro hR)
    all_goals(repeat' (intro _))
    all_goals(obtain⟨rfl⟩:=hR)
    all_goals(refine fin_d d1 rfl ?_ ?_ rfl ?_ rfl)
    all_goals(try simp only[go_sem,Nat.reduceLT,Nat.reduceAdd,Nat.reduceMul,reduceIte,Nat.reduceEqDiff,reduceCtorEq,Nat.reducePow,Nat.reduceLeDiff,Int.reduceLE,Int.reduceLT,Int.reduceToNat,Int.reduceEq,Nat.reduceBEq])
    all_goals simp[*]
 ·simp only[if_neg h]at hR hR';have h0:¬o.past.length=0:=λe=>h (.inl e);have hD:=Lc c hc.ok hc.p64 (folMsg c o i) (Py ho h0 i);obtain⟨hi,e⟩:=last_pastB h0;have s0:=aI (f:=bM) hi;rw[<- e]at s0;have w1:IntKind.i64.wrap ((o.past.length:Int)-1)=((o.past.length-1:Nat):Int):=by rw[au (by omega) (by omega)];omega
  have hj:i.toNat<c.s.cls.length:=by omega
  have s1:=aI (f:=gF) hj;have hk:=(hc.ok.cls _ (List.getElem_mem hj)).len;have ecl:=(gz (s:=c.s) (i:=i) (by omega)).1;rw[<- ecl]at s1 hk;obtain⟨hlt,hlast⟩:=last_get hk.1;have s2:=aI (f:=gL) hlt;rw[<- hlast]at s2;have w2:IntKind.i64.wrap (((gU c.s i).known.length:Int)-1)=(((gU c.s i).known.length-1:Nat):Int):=by rw[au (by omega) (by omega)];omega
  generalize kX c (folMsg c o i)=X at hD hR hR';simp only[folMsg]at hD;have p0:¬((o.past.length:Nat):Int)=0:=by omega
  have p1:¬i<0:=by omega
  have p2:¬(c.s.cls.length:Int)<=i:=by omega
  clear hc ho e ecl hlast h;generalize lastB o=z at*;generalize gU c.s i=x at*;generalize ky x=k at*;obtain⟨rfl⟩:=hR';refine aP 67 Tryz.func65 rfl rfl rfl (λo ho=>by simp[hF,lk,show o≠0 by omega,show o≠1 by omega,show o≠2 by omega,show o≠3 by omega,show o≠4 by omega,show o≠5 by omega]) ?_;refine wkf ?_;intro ops hops _
  repeat' (intro _)
  refine Ls [(0,0),(1,1)] [(0,0),(1,1)] [(0,.box (oJ X.1 1)),(1,.arr 18 (X.1.past.map bM))] hD ?_;clear hD;first|exact wkl trivial|refine wkl ?_
  all_goals(clear hR;intro hR)
  all_goals(repeat' (intro _))
  all_goals(obtain⟨rfl⟩:=hR)
  all_goals(refine fin_d d1 rfl ?_ ?_ rfl ?_ rfl)
  all_goals(try simp only[go_sem,Nat.reduceLT,Nat.reduceAdd,Nat.reduceMul,reduceIte,Nat.reduceEqDiff,reduceCtorEq,Nat.reducePow,Nat.reduceLeDiff,Int.reduceLE,Int.reduceLT,Int.reduceToNat,Int.reduceEq,Nat.reduceBEq])
  all_goals simp[*]
theorem QM (s:StateD)(hs:StSm s):PureD Tryz.prog 40 [stateD s] (.tup [.i (bI (dW s).1),intD (dW s).2]):=by
 refine ai λR hR=>?_;have c1:=JD s hs;unfold dW at hR;by_cases h:bq s=0
 ·have h2:(fM s).2=0:=by unfold fM;rw[if_pos h]
  have c2:=Wv (fM s).1 (wX s (aC.1 h));rw[if_pos h2]at hR;rw[h2]at c1;simp only[psI,lQ]at c2;simp only at hR;generalize zA (fM s).1=X at*;generalize dQ (fM s).1=Y at*;generalize(fM s).1=B at*;clear h h2 hs;refine aa 24 Tryz.func40 ?_;exact wkl trivial
 ·have h2:fM s=([],bq s):=by unfold fM;rw[if_neg h]
  rw[h2]at c1 hR;simp only[if_neg h]at hR c1;generalize bq s=W at*;clear h2 hs;refine aa 24 Tryz.func40 ?_;exact wkl trivial
theorem Pf (c:ay)(ok:StOk c.s)(h:(dW c.s).2=0):Li (Ag c):=by
 have hd:(digestV c.vals).length=32:=bg _;have hn:c.s.name.size<=1048576:=by have:=ok.name;unfold ic at this;simp at this;omega
 have hr:(dW c.s).1.length<=1048576:=by
  unfold dW;split
  ·unfold zA h_ Gc;split
   ·rw[bg];omega
   ·simp
  ·simp
 exact⟨hn,hr,by rw[show(Ag c).vals=digestV c.vals from rfl,hd];omega,by rw[show(Ag c).next=digestV c.vals from rfl,hd];omega⟩
theorem JH (c:ay)(hc:nO c)(later:Int):
  aL Tryz.prog 63 [.pt 0 0 0 0,intD later] (hF (aaJ c)) (Ff (aV c later).2) (hOf (hF (aaJ c)) (if(aV c later).2.err=0 then[(0,.box (oJ (aV c later).1 2)),(1,.dead),(2,.arr 18 ((aV c later).1.past.map bM))]else aaJ c)):=by
 refine ik λR R' hR hR'=>?_;have c1:=VB c.s hc.ok.sm later;have c2:=QM c.s hc.ok.sm;have hl:=hc.len;have hvl:=hc.vl;unfold aV at hR hR';by_cases h1:(kV c.s later).2=0
 ·simp only[if_pos h1]at hR hR';rw[h1]at c1;by_cases h2:(dW c.s).2=0
  ·simp only[if_pos h2]at hR hR';have c3:=jW c.vals (by omega) hc.vk;have c4:=EP (Ag c) c.vals c.seeds (Pf c hc.ok h2) (by omega) hc.vk ⟨by have:=hc.sl;omega,λs hs=>by have:=hc.sk s hs;omega⟩;have c5:=MF c.s hc.ok.sm;rw[h2]at c2;by_cases h3:(kU (Ag c) c.vals c.seeds).2=0
   ·simp only[if_pos h3]at hR hR';rw[h3]at c4;generalize(kU (Ag c) c.vals c.seeds).1=sg at*;simp only[Ag,LC]at c4;have m1:c.past.map bM++[bM (⟨sg,c.s⟩:EndD)]=(c.past++[(⟨sg,c.s⟩:EndD)]).map bM:=by simp
    have m2:c.past.length+1=(c.past++[(⟨sg,c.s⟩:EndD)]).length:=by simp
    simp only[bM,valsI,votesI,bI]at m1;generalize c.past++[(⟨sg,c.s⟩:EndD)]=L at*;generalize(kV c.s later).1=N at*;generalize dW c.s=Ro at*;generalize digestV c.vals=D at*;have d1:iY [] [(2,3829)]:=⟨trivial⟩
    clear hc h1 h2 h3;obtain⟨rfl⟩:=hR';refine aP 101 Tryz.func63 rfl rfl rfl (λo ho=>by simp[hF,lk,show o≠0 by omega,show o≠1 by omega,show o≠2 by omega,show o≠3 by omega,show o≠4 by omega,show o≠5 by omega]) ?_;first|exact wkl trivial|refine wkl ?_
    all_goals(clear hR;intro hR)
    all_goals(repeat' (intro _))
    all_goals(obtain⟨rfl⟩:=hR)
    all_goals(refine fin_d d1 rfl ?_ ?_ rfl ?_ rfl)
    all_goals(try simp only[go_sem,Nat.reduceLT,Nat.reduceAdd,Nat.reduceMul,reduceIte,Nat.reduceEqDiff,reduceCtorEq,Nat.reducePow,Nat.reduceLeDiff,Int.reduceLE,Int.reduceLT,Int.reduceToNat,Int.reduceEq,Nat.reduceBEq])
    all_goals simp[*]
   ·simp only[if_neg h3]at hR hR';generalize kU (Ag c) c.vals c.seeds=S at*;simp only[Ag,LC]at c4;simp only[dE,if_neg h3]at hR hR';generalize kV c.s later=N at*;generalize dW c.s=Ro at*;generalize digestV c.vals=D at*;have d1:iY [] []:=⟨trivial⟩
    clear hc h1 h2 c5;obtain⟨rfl⟩:=hR';refine aP 101 Tryz.func63 rfl rfl rfl (λo ho=>by simp[hF,lk,show o≠0 by omega,show o≠1 by omega,show o≠2 by omega,show o≠3 by omega,show o≠4 by omega,show o≠5 by omega]) ?_;first|exact wkl trivial|refine wkl ?_
    all_goals(clear hR;intro hR)
    all_goals(repeat' (intro _))
    all_goals(obtain⟨rfl⟩:=hR)
    all_goals(refine fin_d d1 rfl ?_ ?_ rfl ?_ rfl)
    all_goals(try simp only[go_sem,Nat.reduceLT,Nat.reduceAdd,Nat.reduceMul,reduceIte,Nat.reduceEqDiff,reduceCtorEq,Nat.reducePow,Nat.reduceLeDiff,Int.reduceLE,Int.reduceLT,Int.reduceToNat,Int.reduceEq,Nat.reduceBEq])
    all_goals simp[*]
  ·simp only[if_neg h2]at hR hR';simp only[dE,if_neg h2]at hR hR';generalize kV c.s later=N at*;generalize dW c.s=Ro at*;have d1:iY [] []:=⟨trivial⟩
   clear hc h1;obtain⟨rfl⟩:=hR';refine aP 101 Tryz.func63 rfl rfl rfl (λo ho=>by simp[hF,lk,show o≠0 by omega,show o≠1 by omega,show o≠2 by omega,show o≠3 by omega,show o≠4 by omega,show o≠5 by omega]) ?_;first|exact wkl trivial|refine wkl ?_
   all_goals(clear hR;intro hR)
   all_goals(repeat' (intro _))
   all_goals(obtain⟨rfl⟩:=hR)
   all_goals(refine fin_d d1 rfl ?_ ?_ rfl ?_ rfl)
   all_goals(try simp only[go_sem,Nat.reduceLT,Nat.reduceAdd,Nat.reduceMul,reduceIte,Nat.reduceEqDiff,reduceCtorEq,Nat.reducePow,Nat.reduceLeDiff,Int.reduceLE,Int.reduceLT,Int.reduceToNat,Int.reduceEq,Nat.reduceBEq])
   all_goals simp[*]
 ·simp only[if_neg h1]at hR hR';simp only[dE,if_neg h1]at hR hR';generalize kV c.s later=N at*;have d1:iY [] []:=⟨trivial⟩
  clear hc c2;obtain⟨rfl⟩:=hR';refine aP 101 Tryz.func63 rfl rfl rfl (λo ho=>by simp[hF,lk,show o≠0 by omega,show o≠1 by omega,show o≠2 by omega,show o≠3 by omega,show o≠4 by omega,show o≠5 by omega]) ?_;first|exact wkl trivial|refine wkl ?_
  all_goals(clear hR;intro hR)
  all_goals(repeat' (intro _))
  all_goals(obtain⟨rfl⟩:=hR)
  all_goals(refine fin_d d1 rfl ?_ ?_ rfl ?_ rfl)
  all_goals(try simp only[go_sem,Nat.reduceLT,Nat.reduceAdd,Nat.reduceMul,reduceIte,Nat.reduceEqDiff,reduceCtorEq,Nat.reducePow,Nat.reduceLeDiff,Int.reduceLE,Int.reduceLT,Int.reduceToNat,Int.reduceEq,Nat.reduceBEq])
  all_goals simp[*]
theorem acj (s m:List UInt8):Bb s m<18446744073709551616:=Nat.lt_trans (Nat.mod_lt _ (by decide)) (show pN<18446744073709551616 by decide)
theorem aci (s m:List UInt8):sigS s m<18446744073709551616:=Nat.lt_trans (Nat.mod_lt _ (by decide)) (show qN<18446744073709551616 by decide)
theorem aaa (s:List UInt8):keyF s<18446744073709551616:=Nat.lt_trans (Nat.mod_lt _ (by decide)) (show pN<18446744073709551616 by decide)
theorem yR (h:kv)(v:dA):∀seeds:List (List UInt8),(eO h seeds v).r<18446744073709551616/\(eO h seeds v).s<18446744073709551616:=by
 have key:∀(seeds:List (List UInt8)) (x:mP),(x.r<18446744073709551616/\x.s<18446744073709551616)->(seeds.foldl (λx s=>if v.k=keyF s then(⟨true,Bb s (a_ h),sigS s (a_ h)⟩:mP)else x) x).r<18446744073709551616/\(seeds.foldl (λx s=>if v.k=keyF s then(⟨true,Bb s (a_ h),sigS s (a_ h)⟩:mP)else x) x).s<18446744073709551616:=by
  intro seeds;induction seeds with
  |nil=>exact λx hx=>hx
  |cons a t ih =>
   intro x hx;rw[List.foldl_cons];refine ih _ ?_;split
   ·exact⟨acj _ _,aci _ _⟩
   ·exact hx
 exact λseeds=>key seeds ⟨false,0,0⟩ ⟨by decide,by decide⟩
theorem sign_fst {h:kv}{vals:List dA}{seeds:List (List UInt8)}(e:(kU h vals seeds).2=0):(kU h vals seeds).1=⟨h,vals,vals.map (eO h seeds)⟩/\fA h=0/\kZ vals=0/\digestV vals=h.vals:=by
 unfold kU at e⊢;split at e
 ·rename_i a;rw[if_pos a];split at e
  ·rename_i b;rw[if_pos b];split at e
   ·rename_i d;rw[if_pos d];exact⟨rfl,a,b,d⟩
   ·cases e
  ·exact absurd e ‹_›
 ·exact absurd e ‹_›
theorem JO {c:ay}(hc:nO c)(m:MsgD):nO (kX c m).1:=by
 unfold kX;split
 ·rename_i h;have hs:=Ja hc.p64 h;exact⟨hs.ok,hs.p64,hc.len,hc.st,hc.sg,hc.vl,hc.vk,hc.sl,hc.sk⟩
 ·exact hc
theorem nextS_ok {s:StateD}{later:Int}(h:(kV s later).2=0):StOk s/\(1<=later/\later<=1000000000000)/\kV s later=({s with h:=s.h+1,t:=s.t+later},0)/\StOk (kV s later).1:=by
 unfold kV at h⊢;by_cases h1:bq s=0
 ·rw[if_pos h1]at h⊢;by_cases h2:later<1\/1000000000000<later\/1000000000000<s.t+later\/s.h=1000000000000
  ·rw[if_pos h2]at h;cases h
  ·rw[if_neg h2];have ok:=aC.1 h1;have a:=ok.h;have b:=ok.t;unfold N12 at a b;exact⟨ok,by omega,rfl,⟨ok.name,by unfold N12;simp only;omega,by unfold N12;simp only;omega,ok.lcl,ok.lcn,ok.lch,ok.lsent,ok.lgot,ok.lacks,ok.lpus,ok.cls,ok.cns,ok.chs,ok.sent,ok.got,ok.acks,ok.pus⟩⟩
 ·rw[if_neg h1]at h;exact absurd h h1
theorem block_done {c:ay}{later:Int}(h:(aV c later).2.err=0):(kV c.s later).2=0/\(dW c.s).2=0/\(kU (Ag c) c.vals c.seeds).2=0 /\
  aV c later=({c with s:=(kV c.s later).1,past:=c.past++[⟨(kU (Ag c) c.vals c.seeds).1,c.s⟩]},⟨0,((c.past.length+1:Nat):Int),zeroPk⟩):=by
 unfold aV at h⊢;by_cases h1:(kV c.s later).2=0
 ·rw[if_pos h1]at h⊢;by_cases h2:(dW c.s).2=0
  ·rw[if_pos h2]at h⊢;by_cases h3:(kU (Ag c) c.vals c.seeds).2=0
   ·rw[if_pos h3];exact⟨h1,h2,h3,rfl⟩
   ·rw[if_neg h3]at h;exact absurd h h3
  ·rw[if_neg h2]at h;exact absurd h h2
 ·rw[if_neg h1]at h;exact absurd h h1
theorem qY {c:ay}{later:Int}(h:¬(aV c later).2.err=0):(aV c later).1=c:=by
 unfold aV at h⊢;by_cases h1:(kV c.s later).2=0
 ·rw[if_pos h1]at h⊢;by_cases h2:(dW c.s).2=0
  ·rw[if_pos h2]at h⊢;by_cases h3:(kU (Ag c) c.vals c.seeds).2=0
   ·rw[if_pos h3]at h;exact absurd rfl h
   ·rw[if_neg h3]
  ·rw[if_neg h2]
 ·rw[if_neg h1]
theorem Vs {c:ay}(hc:nO c)(later:Int)(hl:c.past.length<1000):nO (aV c later).1:=by
 by_cases h:(aV c later).2.err=0
 ·obtain⟨h1,h2,h3,e⟩:=block_done h;rw[e];obtain⟨a,b,d,f⟩:=nextS_ok h1;obtain⟨g,_⟩:=sign_fst h3;have hh:=Pf c hc.ok h2;refine⟨f,by rw[d];exact hc.p64,by simp;omega,λx hx=>?_,λx hx=>?_,hc.vl,hc.vk,hc.sl,hc.sk⟩
  ·rcases List.mem_append.1 hx with hx|hx
   ·exact hc.st x hx
   ·rw[List.mem_singleton.1 hx];exact hc.ok
  ·rcases List.mem_append.1 hx with hx|hx
   ·exact hc.sg x hx
   ·rw[List.mem_singleton.1 hx,g];refine⟨⟨hh,by have:=hc.vl;simp only;omega,hc.vk,λy hy=>?_⟩,hh.next⟩;obtain⟨v,_,rfl⟩:=List.mem_map.1 hy;exact yR _ v _
 ·rw[qY h];exact hc
theorem WE {c o:ay}(hc:nO c)(hl:c.past.length<1000)(e:EvD):nO (oneB c o e).1:=by
 unfold oneB dH dw;split
 ·exact Vs hc _ hl
 ·split
  ·split
   ·exact hc
   ·exact JO hc _
  ·split
   ·split
    ·exact hc
    ·exact JO hc _
   ·split
    ·exact JO hc _
    ·split
     ·exact JO hc _
     ·exact hc
theorem act_past (c:ay)(m:MsgD):(kX c m).1.past=c.past/\(kX c m).1.vals=c.vals/\(kX c m).1.seeds=c.seeds:=by unfold kX;split<;>exact⟨rfl,rfl,rfl⟩
theorem Lb (c:ay)(later:Int):(aV c later).1.past.length<=c.past.length+1/\(aV c later).1.vals=c.vals/\(aV c later).1.seeds=c.seeds:=by
 by_cases h:(aV c later).2.err=0
 ·rw[(block_done h).2.2.2];exact⟨by simp,rfl,rfl⟩
 ·rw[qY h];exact⟨by omega,rfl,rfl⟩
theorem GZ (c o:ay)(e:EvD):(oneB c o e).1.past.length<=c.past.length+1/\(oneB c o e).1.vals=c.vals/\(oneB c o e).1.seeds=c.seeds:=by
 have ha:∀m,(kX c m).1.past.length<=c.past.length+1/\(kX c m).1.vals=c.vals/\(kX c m).1.seeds=c.seeds:=λm=>by obtain⟨a,b,d⟩:=act_past c m;rw[a,b,d];exact⟨by omega,rfl,rfl⟩
 have hn:c.past.length<=c.past.length+1/\c.vals=c.vals/\c.seeds=c.seeds:=⟨by omega,rfl,rfl⟩
 unfold oneB dH dw;split
 ·exact Lb c _
 ·split
  ·split
   ·exact hn
   ·exact ha _
  ·split
   ·split
    ·exact hn
    ·exact ha _
   ·split
    ·exact ha _
    ·split
     ·exact ha _
     ·exact hn
theorem MH {c o:ay}{m:MsgD}(hm:sO m):sO (showB c o m):=by
 have key:∀(w:bH) (n:Int),sO {m with sh:=w,next:=n}:=λw n=>⟨hm.kn,hm.up,hm.up2,hm.tn,hm.td,hm.ts,hm.tr,hm.fr,hm.de,hm.data,hm.ack⟩
 unfold showB vM;split
 ·exact key _ _
 ·split
  ·exact key _ _
  ·split
   ·exact key _ _
   ·exact key _ _
structure Lg (w:kY) (n:Nat):Prop where
 a:nO w.1
 b:nO w.2
 la:w.1.past.length<=n
 lb:w.2.past.length<=n
theorem Ee {w:kY}{n:Nat}(h:Lg w n)(hn:n<1000)(e:EvD):Lg (iF w e).1 (n+1):=by
 have la:=h.la;have lb:=h.lb;unfold iF;split
 ·have:=(GZ w.1 w.2 e).1;exact⟨WE h.a (by omega) e,h.b,by simp only;omega,by simp only;omega⟩
 ·split
  ·have:=(GZ w.2 w.1 e).1;exact⟨h.a,WE h.b (by omega) e,by simp only;omega,by simp only;omega⟩
  ·exact⟨h.a,h.b,by simp only;omega,by simp only;omega⟩
theorem Wu:∀(l:List EvD){w:kY}{n:Nat},Lg w n->n+l.length<=1000->Lg (gJ w l).1 (n+l.length)
 |[],w,n,h,_=>h
 |e::t,w,n,h,hn=>by simp only[List.length_cons]at hn;have:=Wu t (Ee h (by omega) e) (by omega);simp only[gJ,List.length_cons];rw[show n+(t.length+1)=n+1+t.length by omega];exact this
theorem insV_mem {v x:dA}:∀{l:List dA},x∈Uo v l->x=v\/x∈l
 |[],h=>by simp[Uo]at h;exact .inl h
 |a::t,h=>by
  simp only[Uo]at h;split at h
  ·rcases List.mem_cons.1 h with h|h
   ·exact .inl h
   ·exact .inr h
  ·rcases List.mem_cons.1 h with h|h
   ·exact .inr (List.mem_cons.2 (.inl h))
   ·rcases insV_mem h with h|h
    ·exact .inl h
    ·exact .inr (List.mem_cons.2 (.inr h))
theorem Ip (v:dA):∀l:List dA,(Uo v l).length=l.length+1
 |[]=>rfl
 |a::t=>by simp only[Uo];split<;>simp[Ip v t]
theorem YK (name:ByteArray):∀v∈eY name,v.k<18446744073709551616/\v.p<18446744073709551616:=by
 intro v hv;have h1:∀s,keyF s<18446744073709551616:=aaa;rcases insV_mem hv with rfl|hv
 ·exact⟨h1 _,by show(1:Nat)<_;decide⟩
 ·rcases insV_mem hv with rfl|hv
  ·exact⟨h1 _,by show(1:Nat)<_;decide⟩
  ·rw[List.mem_singleton.1 hv];exact⟨h1 _,by show(1:Nat)<_;decide⟩
theorem JE {name owner denom:ByteArray}(hn:ic name=true)(hs:name.size<=20)(ho:1<=owner.size/\owner.size<=40)(hd:1<=denom.size/\denom.size<=40):nO (bZ name owner denom):=by
 refine⟨⟨hn,(show N12 0 1 by unfold N12;decide),(show N12 0 1 by unfold N12;decide),by simp[bZ],by simp[bZ],by simp[bZ],by simp[bZ],by simp[bZ],by simp[bZ],by simp[bZ],by simp[bZ],by simp[bZ],by simp[bZ],⟨by simp[bZ],List.Pairwise.nil⟩,⟨by simp[bZ],List.Pairwise.nil⟩,⟨by simp[bZ],List.Pairwise.nil⟩,⟨λp hp=>?_,List.pairwise_singleton ..⟩⟩,?_,by simp[bZ],by simp[bZ],by simp[bZ],by simp[bZ,eY,Ip],YK name,by simp[bZ],λs hs'=>?_⟩
 ·simp only[bZ,List.mem_singleton]at hp;subst hp;exact⟨ho,hd,(show(1000:Nat)≠0 by decide)⟩
 ·intro p hp;simp only[bZ,List.mem_singleton]at hp;subst hp;show(1000:Nat)<_;decide
 ·have hb:∀i:Nat,i<10->(seedB name i).length<=1000:=λi hi=>by
   have:=Lib.itoa_length_le (i:Int) (by omega) (by omega);have hz:name.data.toList.length=name.size:=rfl;simp only[seedB,List.length_append];omega
  simp only[bZ,List.mem_cons,List.not_mem_nil,or_false]at hs';rcases hs' with rfl|rfl|rfl<;>exact hb _ (by decide)
def nmA:ByteArray:=⟨#[97]⟩
def nmB:ByteArray:=⟨#[98]⟩
def xn:ByteArray:=⟨#[97,110,110]⟩
def B_:ByteArray:=⟨#[98,111,98]⟩
def il:ByteArray:=⟨#[103,111,108,100]⟩
def uh:ByteArray:=⟨#[115,105,108,118,101,114]⟩
def kr:kY:=(bZ nmA xn il,bZ nmB B_ uh)
theorem lL:Lg kr 0:=⟨JE (by decide) (by decide) (by decide) (by decide),JE (by decide) (by decide) (by decide) (by decide),Nat.le_refl _,Nat.le_refl _⟩
def nu (l:List EvD):kY×List jE:=gJ kr l
def FL (w:kY):D:=.agg [.i (.s (.string w.1.s.name)),.i (.s (.int .i64 w.1.s.h)),.i (.s (.int .i64 w.1.s.t)),.i (.sl (w.1.s.cls.map gF)),.i (.sl (w.1.s.cns.map d_)),.i (.sl (w.1.s.chs.map bK)),.i (.sl (w.1.s.sent.map bJ)),.i (.sl (w.1.s.got.map bJ)),.i (.sl (w.1.s.acks.map bJ)),.i (.sl (w.1.s.pus.map bf)),
 .i (.s (.string w.2.s.name)),.i (.s (.int .i64 w.2.s.h)),.i (.s (.int .i64 w.2.s.t)),.i (.sl (w.2.s.cls.map gF)),.i (.sl (w.2.s.cns.map d_)),.i (.sl (w.2.s.chs.map bK)),.i (.sl (w.2.s.sent.map bJ)),.i (.sl (w.2.s.got.map bJ)),.i (.sl (w.2.s.acks.map bJ)),.i (.sl (w.2.s.pus.map bf))]
end Go.Proofs.YtdmeldhlbpdeeaaGreatDoor
