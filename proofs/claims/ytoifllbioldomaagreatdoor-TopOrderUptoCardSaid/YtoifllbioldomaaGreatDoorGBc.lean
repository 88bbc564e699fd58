/- Merged texts: BrS, WkF, BrC, BrD, BrL. -/
import Derived.Test.YtoifllbioldomaaGreatDoorGBr
set_option linter.all false
set_option maxHeartbeats 32000000
set_option maxRecDepth 20000
namespace Go.Abs
open Go Go.RowKit
attribute [local simp] fnd
theorem cK {P:Program}{f:FuncId}{ds gs:List D}{r:D}{objs objs':List (Nat×Ob)}{n:Nat}{σ:St}{ks:List Fr}{Q:Ex->St->Prop}{rid:Nat}{rest:List It}{dst:Option Nat}(ρ ρ':List (Nat×Nat))(new:List (Nat×Ob))(hL:aI P f ds (hF objs) r (hOf (hF objs) objs'))(h:Ro P n rid rest (St.put ⟨σ.sl,DN new σ.H⟩ dst r) ks Q)
  (hgs:cvs σ.H [] (fnd ρ) gs ds:=by simp[and_assoc,cvs,fnd]) (ho:∀p∈objs,∃o,fnd ρ p.1=some o/\cvO σ.H [] (fnd ρ) (σ.H o) p.2:=by simp[fnd,and_assoc,hF,lk]) (hk:(ρ.all λq=>objs.any λp=>p.1==q.1)=true:=by rfl)
  (hinj:(ρ.all λp=>ρ.all λq=>p.2 != q.2||p.1==q.1)=true:=by rfl)
  (hn:∀p∈new,∃l,fnd ρ' p.1=some l/\cvO (hOf (hF objs) objs') [] (fnd ρ') (hOf (hF objs) objs' l) p.2:=by simp[fnd,and_assoc,hF,hOf,lk]) (hk':(ρ'.all λq=>new.any λp=>p.1==q.1)=true:=by rfl)
  (hinj':(ρ'.all λp=>ρ'.all λq=>p.2 != q.2||p.1==q.1)=true:=by rfl) (hr':cv (hOf (hF objs) objs') [] (fnd ρ') r r:=by simp)
  (hback:(ρ.all λp=>fnd ρ' p.2==some p.1)=true:=by simp[fnd]) (hnew:∀q∈ρ',fnd ρ q.2=some q.1\/σ.H q.1=.fresh:=by simp[fnd,hF,lk,noH]):Call P n rid f gs dst rest σ ks Q :=
 vE ρ ρ' new r hL h hgs ho hk hinj hn hk' hinj' hr' hback hnew
theorem fin_e {P:Program}{sl:Nat->D}{H H0:Nat->Ob}{fn:Func}{r:D}{rs:List ResultVar}{objs:List (Nat×Ob)}{F:List Nat}{src:List (Nat×Nat)}(d:jl F src)(h:fn.results=rs.toArray)
  (hv:T_ (Gc P ⟨sl,H⟩ rs) H F (jd H0 src) r:=by(try simp only[go_sem,Nat.reduceLT,Nat.reduceAdd,Nat.reduceMul,reduceIte,Nat.reduceEqDiff,reduceCtorEq,Nat.reducePow,Nat.reduceLeDiff,Int.reduceLE,Int.reduceLT,Int.reduceToNat,Int.reduceEq,Nat.reduceBEq]);simp[*]) (ho:∀p∈objs,aV H F (jd H0 src) p:=by simp[*])
  (hk:(src.all λp=>objs.any λq=>q.1==p.1)=true:=by rfl) (hf:∀p∈src,H0 p.2=.fresh:=by simp[*]) (hinj:(src.all λp=>src.all λq=>p.2 != q.2||p.1==q.1)=true:=by rfl):Fin P fn H0 r (hOf H0 objs) .ret ⟨sl,H⟩ :=
 fin_d d h hv ho hk hf hinj
end Go.Abs
namespace Go.Proofs.YtoifllbioldomaaGreatDoor
open Go Go.Abs Go.RowKit Go.Proofs.YtoifllbioldomaaGreatDoor.Ty
def ZQ (c:av):List (Nat×Ob):=[(0,.box (oW c 1)),(1,.arr 18 (c.past.map bC))]
def Rh (c o:av):List (Nat×Ob):=[(0,.box (oW c 1)),(1,.arr 18 (c.past.map bC)),(2,.box (oW o 3)),(3,.arr 18 (o.past.map bC))]
attribute [simp,go_sem] ZQ Rh
def ut (l:List EndD):List aH:=l.map λe=>ofH e.sg.hdr
def agz (e:EndD):D:=.agg [.i (.s (.string e.sg.hdr.c)),.i (.s (.int .i64 e.sg.hdr.h)),.i (.s (.int .i64 e.sg.hdr.t)),.i (bI e.sg.hdr.root),.i (bI e.sg.hdr.vals),.i (bI e.sg.hdr.next),.i (valsI e.sg.vals),.i (votesI e.sg.votes),
 .i (.s (.string e.st.name)),.i (.s (.int .i64 e.st.h)),.i (.s (.int .i64 e.st.t)),.i (.sl (e.st.cls.map gJ)),.i (.sl (e.st.cns.map dN)),.i (.sl (e.st.chs.map bA)),.i (.sl (e.st.sent.map bB)),.i (.sl (e.st.got.map bB)),.i (.sl (e.st.acks.map bB)),.i (.sl (e.st.pus.map aZ))]
attribute [simp,go_sem] agz
theorem atB_case (o:av)(h:Int):(atB o h=none/\ixK (ut o.past) h=-1)\/∃i,∃hi:i<o.past.length,ixK (ut o.past) h=i/\atB o h=some o.past[i]:=by
 unfold atB ixK mM ut;rw[List.drop_zero,List.findIdx?_map];have e0:((λk:aH=>decide (k.h=h)) ∘ λe:EndD=>ofH e.sg.hdr)=λe:EndD=>decide (e.sg.hdr.h=h):=rfl;rw[e0];cases e:o.past.findIdx? (λe:EndD=>decide (e.sg.hdr.h=h))with
 |none =>left;rw[List.findIdx?_eq_none_iff]at e;exact⟨List.find?_eq_none.2 λx hx=>by simpa using e x hx,rfl⟩
 |some i =>right;obtain⟨hi,h1,h2⟩:=List.findIdx?_eq_some_iff_getElem.1 e;refine⟨i,hi,by simp,?_⟩;rw[List.find?_eq_some_iff_getElem];exact⟨h1,i,hi,rfl,λj hj=>by simpa using h2 j hj⟩
theorem ZX (e:EndD)(h:Int):PureD Tryz.prog 51 [agz e,.rp [.s (.int .i64 h)] 0] (boolD (decide (e.sg.hdr.h=h))):=by refine af λR hR=>?_;refine aa 10 Tryz.func51 ?_;exact wkl trivial
theorem UK (l:List EndD)(h:Int)(hl:l.length<=1048576):PureD Tryz.prog 50 [.i (.sl (l.map bC)),.fn 51 [.rp [.s (.int .i64 h)] 0]] (intD (ixK (ut l) h)):=by
 refine af λR hR=>?_
 have hlen:(ut l).length=l.length:=by simp[ut]
 refine aa 19 Tryz.func50 ?_
 refine wkl ?_
 clear hR;intro hR
 have hR':Hr (intD (mM (ut l) h 0)) R:=hR
 clear hR
 refine aF (ι:=Nat) (λi=>i<=l.length/\Hr (intD (mM (ut l) h i)) R)
  (λi=>cO [(0,.i (.sl (l.map bC))),(1,.fn 51 [.rp [.s (.int .i64 h)] 0]),(7,intD l.length),(8,intD i)] [])
  (λi=>l.length-i) 0 ⟨Nat.zero_le _,hR'⟩ ?_ ?_
 ·exact bO [] []
 ·rintro i ⟨hi,hR⟩ RL hL
  clear hR'
  rw[ae]
  by_cases hlt:i<l.length
  ·have s0:=ay (f:=bC) hlt
   have e1:((ut l)[i]'(by omega)).h=l[i].sg.hdr.h:=by simp[ut,ofH]
   rw[Ck (l:=ut l) (by omega),e1]at hR
   have c1:=ZX l[i] h
   have b1:=λσ' (hq:Hr _ R)=>bk [] [] (hL (i+1) σ' ⟨hlt,hq⟩)
   clear hL e1 hlen
   generalize l[i]=k at*
   exact wkl trivial
  ·rw[Cm (l:=ut l) (by omega)]at hR
   exact wkl trivial
theorem xk (s:StateD)(ok:StOk s):(dW s).1.length<=1048576:=by unfold dW;rw[if_pos (az.2 ok)];have h1:=zH s;have:=ok.lcn;have:=ok.lch;have:=ok.lsent;have:=ok.lgot;have:=ok.lacks;simp only[vP];omega
theorem Qk (c o:av)(ok:StOk c.s)(hl:o.past.length<=1048576)(hp:∀e∈o.past,StOk e.st)(m:MsgD)(hm:QQ m):
  aI Tryz.prog 25 [.pt 0 0 0 0,.pt 2 0 0 0,YO m] (hF (Rh c o)) (YO (showB c o m)) (hOf (hF (Rh c o)) (Rh c o)):=by
 refine il λR R' hR hR'=>?_;have d1:jl [] []:=⟨trivial⟩
 obtain⟨rfl⟩:=hR';have hD:=Z_ c ok {m with sh:=zSh} ⟨hm.oend,hm.fr,hm.de,hm.seq⟩;have hlc:=ok.lcl;unfold showB tO at hR;generalize hA:gm c {m with sh:=zSh}=A at*;obtain⟨cli,key,gap,ask⟩:=A;simp only at hD hR;refine aK 130 Tryz.func25 rfl rfl rfl (λo ho=>by simp[hF,lk,show o≠0 by omega,show o≠1 by omega,show o≠2 by omega,show o≠3 by omega,show o≠4 by omega,show o≠5 by omega]) ?_;refine wkl ?_;intro _;refine cK [(0,0),(1,1),(2,1000)] [(0,0),(1,1),(1000,2)] [(0,.box (oW c 1)),(1,.arr 18 (c.past.map bC)),(1000,.box ((encMsg {m with sh:=zSh}).map .i))] hD ?_;clear hD;by_cases h1:ask=false\/cli<0\/(c.s.cls.length:Int)<=cli
 ·rw[if_pos h1]at hR;clear hm hp ok hA;rcases h1 with rfl|h1|h1
  ·first|exact wkl trivial|(refine wkl ?_;clear hR;intro hR;repeat' (intro _);obtain⟨rfl⟩:=hR;exact fin_e d1 rfl)
  ·cases ask;all_goals
    first|exact wkl trivial|(refine wkl ?_;clear hR;intro hR;repeat' (intro _);obtain⟨rfl⟩:=hR;exact fin_e d1 rfl)
  ·by_cases h1b:cli<0
   ·cases ask;all_goals
     first|exact wkl trivial|(refine wkl ?_;clear hR;intro hR;repeat' (intro _);obtain⟨rfl⟩:=hR;exact fin_e d1 rfl)
   ·cases ask;all_goals
     first|exact wkl trivial|(refine wkl ?_;clear hR;intro hR;repeat' (intro _);obtain⟨rfl⟩:=hR;exact fin_e d1 rfl)
 ·rw[if_neg h1]at hR;obtain rfl:ask=true:=by cases ask;exact absurd (.inl rfl) h1;rfl
  have hi:cli.toNat<c.s.cls.length:=by omega
  have s0:=ay (f:=gJ) hi;have hk:=(ok.cls _ (List.getElem_mem hi)).len;rw[(fH (s:=c.s) (i:=cli) (by omega)).1]at hR;have hb:0<=cli/\cli<(c.s.cls.length:Int):=by omega
  clear hA hm;generalize c.s.cls[cli.toNat]=x at*;clear ok h1;obtain⟨hlt,hlast⟩:=last_get hk.1;have s1:=ay (f:=jL) hlt;rw[<- hlast]at s1;have hn:((x.known.length-1:Nat):Int)=(x.known.length:Int)-1:=by omega
  have w1:IntKind.i64.wrap ((x.known.length:Int)-1)=((x.known.length-1:Nat):Int):=by rw[ai (by omega) (by omega)];omega
  have c2:=UK o.past (kE x).h hl;clear hn hlast;generalize kE x=k at*;rcases atB_case o k.h with⟨h2,h3⟩|⟨i,hi2,h2,h3⟩
  ·rw[h3]at c2;rw[h2]at hR;simp only at hR;clear h2 h3 hp;first|exact wkl trivial|(refine wkl ?_;clear hR;intro hR;repeat' (intro _);obtain⟨rfl⟩:=hR;exact fin_e d1 rfl)
  ·rw[h2]at c2;rw[h3]at hR;simp only at hR;have hst:=hp _ (List.getElem_mem hi2);have s2:=ay (f:=bC) hi2;have gi:¬(i:Int)<0:=by omega
   clear h2 h3 hp;generalize o.past[i]=e at*;have c3:=Xx e.st hst.sm;have c4:=abh (dW e.st).1 key (xk e.st hst);have c5:=afK (dW e.st).1 key (xk e.st hst);have hch:=hst.lch;simp only[psI,fC,K_]at c4 c5;cases gap
   ·simp only[Bool.false_eq_true,if_false]at hR;clear c5;unfold NH at hR;by_cases h4:m.kind=17/\0<=m.pk.de/\m.pk.de<(e.st.chs.length:Int)
    ·obtain⟨h5,h6⟩:=h4;have hj:m.pk.de.toNat<e.st.chs.length:=by omega
     have s3:=ay (f:=bA) hj;simp only[if_pos (show m.kind=17/\0<=m.pk.de/\m.pk.de<(e.st.chs.length:Int)from⟨h5,h6⟩)]at hR;rw[(bZ (s:=e.st) (i:=m.pk.de) (by omega)).1]at hR;clear hst;generalize e.st.chs[m.pk.de.toNat]=y at*;generalize dW e.st=B at*;generalize kD B.1 key=S at*;first|exact wkl trivial|(refine wkl ?_;clear hR;intro hR;repeat' (intro _);obtain⟨rfl⟩:=hR;exact fin_e d1 rfl)
    ·simp only[if_neg h4]at hR;generalize dW e.st=B at*;generalize kD B.1 key=S at*;clear hst;by_cases h5:m.kind=17
     ·have h6:m.pk.de<0\/(e.st.chs.length:Int)<=m.pk.de:=by
       by_cases h7:m.pk.de<0
       ·exact .inl h7
       ·exact .inr (Int.not_lt.1 λh8=>h4 ⟨h5,Int.not_lt.1 h7,h8⟩)
      clear h4;first|exact wkl trivial|(refine wkl ?_;clear hR;intro hR;repeat' (intro _);obtain⟨rfl⟩:=hR;exact fin_e d1 rfl)
     ·clear h4;first|exact wkl trivial|(refine wkl ?_;clear hR;intro hR;repeat' (intro _);obtain⟨rfl⟩:=hR;exact fin_e d1 rfl)
   ·simp only[if_true]at hR;clear c4 hst;generalize dW e.st=B at*;generalize Rp B.1 key=G at*;first|exact wkl trivial|(refine wkl ?_;clear hR;intro hR;repeat' (intro _);obtain⟨rfl⟩:=hR;exact fin_e d1 rfl)
end Go.Proofs.YtoifllbioldomaaGreatDoor
namespace Go.Abs
open Go Go.RowKit
theorem wkf {G Q:Prop}(g:G)(h:PLift G->Q:=by
 intro hgo
 repeat' (first
  |(simp(maxSteps:=2000000) -implicitDefEqProofs only[go_sem,Nat.reduceLT,Nat.reduceAdd,Nat.reduceMul,reduceIte,Nat.reduceEqDiff,reduceCtorEq,Nat.reducePow,Nat.reduceLeDiff,Int.reduceLE,Int.reduceLT,Int.reduceToNat,Int.reduceEq,Nat.reduceBEq,lgc,not_true_eq_false,ZW, *])
  |(with_reducible refine⟨?_,?_⟩;(· first|(obtain⟨rfl⟩:=‹Hq _ _›;with_reducible refine chk_ok ?_;kernel_rfl)|kernel_rfl))
  |(with_reducible intro opz hopz)
  |(simp -implicitDefEqProofs (disch:=omega)only[aeZ,XN,ay,ltc,ltf,lec,lef,afD,afE])
  |((with_reducible first|refine Fg ?_|refine AA ?_);(first|refine wkA c1 ?_|refine wkA c2 ?_|refine wkA c3 ?_|refine wkA c4 ?_|refine wkA c5 ?_|refine wkA c6 ?_|refine wkA c7 ?_|refine wkA c8 ?_|refine wkA c9 ?_|refine wkA c10 ?_|refine wkA c11 ?_|refine wkA c12 ?_|refine wkB e1 ?_|refine wkB e2 ?_|refine wkB e3 ?_|refine wkB e4 ?_|refine wkB e5 ?_|refine wkC c1 ?_|refine wkC c2 ?_|refine wkC c3 ?_|refine wkC c4 ?_|refine wkC c5 ?_|refine wkC c6 ?_|refine wkC c7 ?_|refine wkC c8 ?_|refine wkC c9 ?_|refine wkC c10 ?_|refine wkC c11 ?_|refine wkC c12 ?_))
  |((first|refine aM (λhg=>?_) (λhg=>?_)|refine xy (λhg=>?_) (λhg=>?_)|refine xz (λhg=>?_) (λhg=>?_))<;>(try simp only[nrm,eq_self,not_true_eq_false]at hg)<;>(try simp only[hg,lgc,reduceIte,reduceCtorEq]at hR)<;>(try(exfalso;omega)))
  |exact wkD b1|exact wkD b2|exact wkD b3|exact wkD b4|exact wkD b5
  |((try simp only[*,lgc,reduceIte,reduceCtorEq]at hR);(try obtain⟨rfl⟩:=hR);refine fin_q rfl ?_;(try simp only[go_sem,Nat.reduceLT,Nat.reduceAdd,Nat.reduceMul,reduceIte,Nat.reduceEqDiff,reduceCtorEq,Nat.reducePow,Nat.reduceLeDiff,Int.reduceLE,Int.reduceLT,Int.reduceToNat,Int.reduceEq,Nat.reduceBEq]);(first|(simp;done)|(simp;omega)|(simp[*];done)|(simp[*];omega)))
  |((try simp only[*,lgc,reduceIte,reduceCtorEq]at hR);(try obtain⟨rfl⟩:=hR);refine fin_d d1 rfl ?_ ?_ rfl ?_ rfl<;>(try simp only[go_sem,Nat.reduceLT,Nat.reduceAdd,Nat.reduceMul,reduceIte,Nat.reduceEqDiff,reduceCtorEq,Nat.reducePow,Nat.reduceLeDiff,Int.reduceLE,Int.reduceLT,Int.reduceToNat,Int.reduceEq,Nat.reduceBEq])<;>(simp;done)))
 all_goals(repeat(revert hg))
 all_goals(try(have hR:=hR;revert hR))
 all_goals(try(revert hopz;revert opz))
 all_goals exact hgo.down):Q:=h ⟨g⟩
attribute [local simp] fnd
theorem FK {j:Nat}{G:Nat->Ob}:∀{l:List (Nat×Ob)},j ∉ l.map (·.1)->DN l G j=G j
 |[],_=>rfl
 |(a,x)::t,h=>by simp only[List.map_cons,List.mem_cons,not_or]at h;simp only[DN];rw[upd_ne _ _ h.1];exact FK h.2
theorem Ls {j:Nat}{G G':Nat->Ob}:∀{l:List (Nat×Ob)},j∈l.map (·.1)->DN l G j=DN l G' j
 |(a,x)::t,h=>by
  simp only[DN];by_cases e:j=a
  ·subst e;rw[upd_same,upd_same]
  ·rw[upd_ne _ _ e,upd_ne _ _ e];simp only[List.map_cons,List.mem_cons]at h;exact Ls (h.resolve_left e)
theorem KR {P:Program}{f:FuncId}{ds gs:List D}{r:D}{objs objs':List (Nat×Ob)}{n:Nat}{σ:St}{ks:List Fr}{Q:Ex->St->Prop}{rid k:Nat}{ops:Array Oper}{rest:List It}{acc:Acc}{dst:Option Nat}(ρ ρ':List (Nat×Nat))(new:List (Nat×Ob))(hL:aI P f ds (hF objs) r (hOf (hF objs) objs'))
  (h:Rd P n rid ops rest ((k,new.map (·.1),new.map (·.1))::acc) (St.put ⟨σ.sl,DN new σ.H⟩ dst r) ks Q)
  (hgs:∀G,mG (new.map (·.1)) G σ.H->cvs G [] (fnd ρ) gs ds:=by intro G hG;simp at hG;simp[hG,and_assoc,cvs,fnd])
  (ho:∀G,mG (new.map (·.1)) G σ.H->∀p∈objs,∃o,fnd ρ p.1=some o/\cvO G [] (fnd ρ) (G o) p.2:=by intro G hG;simp[hF,lk]at hG;simp[hG,fnd,and_assoc,hF,lk]) (hk:(ρ.all λq=>objs.any λp=>p.1==q.1)=true:=by rfl)
  (hinj:(ρ.all λp=>ρ.all λq=>p.2 != q.2||p.1==q.1)=true:=by rfl)
  (hn:∀p∈new,∃l,fnd ρ' p.1=some l/\cvO (hOf (hF objs) objs') [] (fnd ρ') (hOf (hF objs) objs' l) p.2:=by simp[fnd,and_assoc,hF,hOf,lk]) (hk':(ρ'.all λq=>new.any λp=>p.1==q.1)=true:=by rfl)
  (hinj':(ρ'.all λp=>ρ'.all λq=>p.2 != q.2||p.1==q.1)=true:=by rfl) (hr':cv (hOf (hF objs) objs') [] (fnd ρ') r r:=by simp)
  (hback:(ρ.all λp=>fnd ρ' p.2==some p.1)=true:=by simp[fnd]) (hnew:∀G,mG (new.map (·.1)) G σ.H->∀q∈ρ',fnd ρ q.2=some q.1\/G q.1=.fresh:=by intro G hG;simp[fnd,hF,lk,noH]):mH P n rid ops f gs k dst rest acc σ ks Q :=
 ⟨⟨r,new.map (·.1),new.map (·.1),λG=>DN new G⟩,⟨⟨λ_ h=>h,λG j hj=>FK hj,λG G' _ j hj=>Ls hj⟩,λG hG=>.inl (Jg ρ ρ' hL (hgs G hG) (ho G hG) hk hinj hn hk' hinj' hr' hback (hnew G hG))⟩,h⟩
end Go.Abs
namespace Go.Proofs.YtoifllbioldomaaGreatDoor
open Go Go.Abs Go.RowKit Go.Proofs.YtoifllbioldomaaGreatDoor.Ty
theorem KD (c:av)(ok:StOk c.s)(h64:P64 c.s.pus)(m:MsgD)(hm:tH m):
  aI Tryz.prog 24 [.pt 0 0 0 0,YO m] (hF (ZQ c)) (ET (mU c m).2) (hOf (hF (ZQ c)) (ZQ (mU c m).1)):=by
 refine il λR R' hR hR'=>?_;have c1:=aes c.s ok.sm h64 m hm;unfold mU at hR hR';by_cases e:(doS c.s m).2.err=0
 ·simp only[if_pos e]at hR hR';generalize doS c.s m=X at*;clear ok h64 hm;have d1:jl [] []:=⟨trivial⟩
  obtain⟨rfl⟩:=hR';refine aK 24 Tryz.func24 rfl rfl rfl (λo ho=>by simp[hF,lk,show o≠0 by omega,show o≠1 by omega,show o≠2 by omega,show o≠3 by omega,show o≠4 by omega,show o≠5 by omega]) ?_;first|exact wkl trivial|refine wkl ?_
  all_goals(clear hR;intro hR)
  all_goals(repeat' (intro _))
  all_goals(obtain⟨rfl⟩:=hR)
  all_goals(refine fin_d d1 rfl ?_ ?_ rfl ?_ rfl)
  all_goals(try simp only[go_sem,Nat.reduceLT,Nat.reduceAdd,Nat.reduceMul,reduceIte,Nat.reduceEqDiff,reduceCtorEq,Nat.reducePow,Nat.reduceLeDiff,Int.reduceLE,Int.reduceLT,Int.reduceToNat,Int.reduceEq,Nat.reduceBEq])
  all_goals simp[*]
 ·simp only[if_neg e]at hR hR';generalize doS c.s m=X at*;clear ok h64 hm;have d1:jl [] []:=⟨trivial⟩
  obtain⟨rfl⟩:=hR';refine aK 24 Tryz.func24 rfl rfl rfl (λo ho=>by simp[hF,lk,show o≠0 by omega,show o≠1 by omega,show o≠2 by omega,show o≠3 by omega,show o≠4 by omega,show o≠5 by omega]) ?_;first|exact wkl trivial|refine wkl ?_
  all_goals(clear hR;intro hR)
  all_goals(repeat' (intro _))
  all_goals(obtain⟨rfl⟩:=hR)
  all_goals(refine fin_d d1 rfl ?_ ?_ rfl ?_ rfl)
  all_goals(try simp only[go_sem,Nat.reduceLT,Nat.reduceAdd,Nat.reduceMul,reduceIte,Nat.reduceEqDiff,reduceCtorEq,Nat.reducePow,Nat.reduceLeDiff,Int.reduceLE,Int.reduceLT,Int.reduceToNat,Int.reduceEq,Nat.reduceBEq])
  all_goals simp[*]
structure n_ (c:av):Prop where
 ok:StOk c.s
 p64:P64 c.s.pus
 len:c.past.length<=1000
 st:∀e∈c.past,StOk e.st
 sg:∀e∈c.past,aal e.sg/\e.sg.hdr.next.length<=1048576
 vl:c.vals.length<=1000
 vk:∀v∈c.vals,v.k<18446744073709551616/\v.p<18446744073709551616
 sl:c.seeds.length<=1000
 sk:∀s∈c.seeds,s.length<=1000
theorem last_pastB {o:av}(h:¬o.past.length=0):∃hi:o.past.length-1<o.past.length,lastB o=o.past[o.past.length-1] :=
 ⟨by omega,by unfold lastB;rw[List.getLastD_eq_getLast?,List.getLast?_eq_getElem?,List.getElem?_eq_getElem (by omega)];rfl⟩
theorem zeroMsg_sm:tH zeroMsg:=⟨⟨by decide,by decide⟩,Fy,Fy,by decide,by decide,by decide,by decide,by unfold fe;decide,by unfold fe;decide,by decide,by decide⟩
theorem PS {o:av}(ho:n_ o)(h:¬o.past.length=0)(t:Int):tH (cliMsg o t):=by obtain⟨hi,e⟩:=last_pastB h;have hg:=ho.sg _ (List.getElem_mem hi);rw[<- e]at hg;have z:=zeroMsg_sm;exact⟨⟨hg.1.h.root,hg.2⟩,z.up,z.up2,z.tn,z.td,z.ts,z.tr,z.fr,z.de,z.data,z.ack⟩
theorem OV {c o:av}(ho:n_ o)(h:¬o.past.length=0)(i:Int):tH (folMsg c o i):=by obtain⟨hi,e⟩:=last_pastB h;have hg:=ho.sg _ (List.getElem_mem hi);rw[<- e]at hg;have z:=zeroMsg_sm;exact⟨z.kn,⟨hg.1,Nat.le_trans ho.vl (by decide),ho.vk,hg.2⟩,z.up2,z.tn,z.td,z.ts,z.tr,z.fr,z.de,z.data,z.ack⟩
theorem Db (c o:av)(hc:n_ c)(ho:n_ o)(trust:Int):
  aI Tryz.prog 22 [.pt 0 0 0 0,.pt 2 0 0 0,intD trust] (hF (Rh c o)) (ET (cu c o trust).2) (hOf (hF (Rh c o)) (Rh (cu c o trust).1 o)):=by
 refine il λR R' hR hR'=>?_;unfold cu at hR hR';have hl:=ho.len;have d1:jl [] []:=⟨trivial⟩
 by_cases h:o.past.length=0
 ·simp only[if_pos h]at hR hR';clear hc ho;obtain⟨rfl⟩:=hR';refine aK 44 Tryz.func22 rfl rfl rfl (λo ho=>by simp[hF,lk,show o≠0 by omega,show o≠1 by omega,show o≠2 by omega,show o≠3 by omega,show o≠4 by omega,show o≠5 by omega]) ?_;first|exact wkl trivial|refine wkl ?_
  all_goals(clear hR;intro hR)
  all_goals(repeat' (intro _))
  all_goals(obtain⟨rfl⟩:=hR)
  all_goals(refine fin_d d1 rfl ?_ ?_ rfl ?_ rfl)
  all_goals(try simp only[go_sem,Nat.reduceLT,Nat.reduceAdd,Nat.reduceMul,reduceIte,Nat.reduceEqDiff,reduceCtorEq,Nat.reducePow,Nat.reduceLeDiff,Int.reduceLE,Int.reduceLT,Int.reduceToNat,Int.reduceEq,Nat.reduceBEq])
  all_goals simp[*]
 ·simp only[if_neg h]at hR hR';have hD:=KD c hc.ok hc.p64 (cliMsg o trust) (PS ho h trust);obtain⟨hi,e⟩:=last_pastB h;have s0:=ay (f:=bC) hi;rw[<- e]at s0;have w1:IntKind.i64.wrap ((o.past.length:Int)-1)=((o.past.length-1:Nat):Int):=by rw[ai (by omega) (by omega)];omega
  generalize mU c (cliMsg o trust)=X at hD hR hR';simp only[cliMsg,ofH]at hD;clear hc ho e;generalize lastB o=z at*;obtain⟨rfl⟩:=hR';refine aK 44 Tryz.func22 rfl rfl rfl (λo ho=>by simp[hF,lk,show o≠0 by omega,show o≠1 by omega,show o≠2 by omega,show o≠3 by omega,show o≠4 by omega,show o≠5 by omega]) ?_;refine wkl ?_;clear hR;intro hR
  repeat' (intro _)
  refine cK [(0,0),(1,1)] [(0,0),(1,1)] [(0,.box (oW X.1 1)),(1,.arr 18 (X.1.past.map bC))] hD ?_;clear hD;first|exact wkl trivial|refine wkl ?_
  all_goals(clear hR;intro hR)
  all_goals(repeat' (intro _))
  all_goals(obtain⟨rfl⟩:=hR)
  all_goals(refine fin_d d1 rfl ?_ ?_ rfl ?_ rfl)
  all_goals(try simp only[go_sem,Nat.reduceLT,Nat.reduceAdd,Nat.reduceMul,reduceIte,Nat.reduceEqDiff,reduceCtorEq,Nat.reducePow,Nat.reduceLeDiff,Int.reduceLE,Int.reduceLT,Int.reduceToNat,Int.reduceEq,Nat.reduceBEq])
  all_goals simp[*]
theorem Da (c o:av)(hc:n_ c)(ho:n_ o)(i:Int):
  aI Tryz.prog 23 [.pt 0 0 0 0,.pt 2 0 0 0,intD i] (hF (Rh c o)) (ET (b_ c o i).2) (hOf (hF (Rh c o)) (Rh (b_ c o i).1 o)):=by
 refine il λR R' hR hR'=>?_;unfold b_ at hR hR';have hl:=ho.len;have hlc:=hc.ok.lcl;have d1:jl [] []:=⟨trivial⟩
 by_cases h:o.past.length=0\/i<0\/(c.s.cls.length:Int)<=i
 ·simp only[if_pos h]at hR hR';clear hc ho;obtain⟨rfl⟩:=hR';by_cases p0:((o.past.length:Nat):Int)=0
  ·clear h;refine aK 67 Tryz.func23 rfl rfl rfl (λo ho=>by simp[hF,lk,show o≠0 by omega,show o≠1 by omega,show o≠2 by omega,show o≠3 by omega,show o≠4 by omega,show o≠5 by omega]) ?_;first|exact wkl trivial|refine wkl ?_
   all_goals(clear hR;intro hR)
   all_goals(repeat' (intro _))
   all_goals(obtain⟨rfl⟩:=hR)
   all_goals(refine fin_d d1 rfl ?_ ?_ rfl ?_ rfl)
   all_goals(try simp only[go_sem,Nat.reduceLT,Nat.reduceAdd,Nat.reduceMul,reduceIte,Nat.reduceEqDiff,reduceCtorEq,Nat.reducePow,Nat.reduceLeDiff,Int.reduceLE,Int.reduceLT,Int.reduceToNat,Int.reduceEq,Nat.reduceBEq])
   all_goals simp[*]
  ·by_cases p1:i<0
   ·clear h;refine aK 67 Tryz.func23 rfl rfl rfl (λo ho=>by simp[hF,lk,show o≠0 by omega,show o≠1 by omega,show o≠2 by omega,show o≠3 by omega,show o≠4 by omega,show o≠5 by omega]) ?_;first|exact wkl trivial|refine wkl ?_
    all_goals(clear hR;intro hR)
    all_goals(repeat' (intro _))
    all_goals(obtain⟨rfl⟩:=hR)
    all_goals(refine fin_d d1 rfl ?_ ?_ rfl ?_ rfl)
    all_goals(try simp only[go_sem,Nat.reduceLT,Nat.reduceAdd,Nat.reduceMul,reduceIte,Nat.reduceEqDiff,reduceCtorEq,Nat.reducePow,Nat.reduceLeDiff,Int.reduceLE,Int.reduceLT,Int.reduceToNat,Int.reduceEq,Nat.reduceBEq])
    all_goals simp[*]
   ·have p2:(c.s.cls.length:Int)<=i:=by omega
    clear h;refine aK 67 Tryz.func23 rfl rfl rfl (λo ho=>by simp[hF,lk,show o≠0 by omega,show o≠1 by omega,show o≠2 by omega,show o≠3 by omega,show o≠4 by omega,show o≠5 by omega]) ?_;first|exact wkl trivial|refine wkl ?_
    all_goals(clear hR;intro hR)
    all_goals(repeat' (intro _))
    all_goals(obtain⟨rfl⟩:=hR)
    all_goals(refine fin_d d1 rfl ?_ ?_ rfl ?_ rfl)
    all_goals(try simp only[go_sem,Nat.reduceLT,Nat.reduceAdd,Nat.reduceMul,reduceIte,Nat.reduceEqDiff,reduceCtorEq,Nat.reducePow,Nat.reduceLeDiff,Int.reduceLE,Int.reduceLT,Int.reduceToNat,Int.reduceEq,Nat.reduceBEq])
    all_goals simp[*]
 ·simp only[if_neg h]at hR hR';have h0:¬o.past.length=0:=λe=>h (.inl e);have hD:=KD c hc.ok hc.p64 (folMsg c o i) (OV ho h0 i);obtain⟨hi,e⟩:=last_pastB h0;have s0:=ay (f:=bC) hi;rw[<- e]at s0;have w1:IntKind.i64.wrap ((o.past.length:Int)-1)=((o.past.length-1:Nat):Int):=by rw[ai (by omega) (by omega)];omega
  have hj:i.toNat<c.s.cls.length:=by omega
  have s1:=ay (f:=gJ) hj;have hk:=(hc.ok.cls _ (List.getElem_mem hj)).len;have ecl:=(fH (s:=c.s) (i:=i) (by omega)).1;rw[<- ecl]at s1 hk;obtain⟨hlt,hlast⟩:=last_get hk.1;have s2:=ay (f:=jL) hlt;rw[<- hlast]at s2;have w2:IntKind.i64.wrap (((iL c.s i).known.length:Int)-1)=(((iL c.s i).known.length-1:Nat):Int):=by rw[ai (by omega) (by omega)];omega
  generalize mU c (folMsg c o i)=X at hD hR hR';simp only[folMsg]at hD;have p0:¬((o.past.length:Nat):Int)=0:=by omega
  have p1:¬i<0:=by omega
  have p2:¬(c.s.cls.length:Int)<=i:=by omega
  clear hc ho e ecl hlast h;generalize lastB o=z at*;generalize iL c.s i=x at*;generalize kE x=k at*;obtain⟨rfl⟩:=hR';refine aK 67 Tryz.func23 rfl rfl rfl (λo ho=>by simp[hF,lk,show o≠0 by omega,show o≠1 by omega,show o≠2 by omega,show o≠3 by omega,show o≠4 by omega,show o≠5 by omega]) ?_;refine wkf ?_;intro ops hops _
  repeat' (intro _)
  refine KR [(0,0),(1,1)] [(0,0),(1,1)] [(0,.box (oW X.1 1)),(1,.arr 18 (X.1.past.map bC))] hD ?_;clear hD;first|exact wkl trivial|refine wkl ?_
  all_goals(clear hR;intro hR)
  all_goals(repeat' (intro _))
  all_goals(obtain⟨rfl⟩:=hR)
  all_goals(refine fin_d d1 rfl ?_ ?_ rfl ?_ rfl)
  all_goals(try simp only[go_sem,Nat.reduceLT,Nat.reduceAdd,Nat.reduceMul,reduceIte,Nat.reduceEqDiff,reduceCtorEq,Nat.reducePow,Nat.reduceLeDiff,Int.reduceLE,Int.reduceLT,Int.reduceToNat,Int.reduceEq,Nat.reduceBEq])
  all_goals simp[*]
theorem Qm (s:StateD)(hs:StSm s):PureD Tryz.prog 33 [stateD s] (.tup [.i (bI (fG s).1),intD (fG s).2]):=by
 refine af λR hR=>?_;have c1:=Xx s hs;unfold fG at hR;by_cases h:bf s=0
 ·have h2:(dW s).2=0:=by unfold dW;rw[if_pos h]
  have c2:=abl (dW s).1 (xk s (az.1 h));rw[if_pos h2]at hR;rw[h2]at c1;simp only[psI,rH]at c2;simp only at hR;generalize JX (dW s).1=X at*;generalize dQ (dW s).1=Y at*;generalize(dW s).1=B at*;clear h h2 hs;refine aa 24 Tryz.func33 ?_;exact wkl trivial
 ·have h2:dW s=([],bf s):=by unfold dW;rw[if_neg h]
  rw[h2]at c1 hR;simp only[if_neg h]at hR c1;generalize bf s=W at*;clear h2 hs;refine aa 24 Tryz.func33 ?_;exact wkl trivial
theorem Oz (c:av)(ok:StOk c.s)(h:(fG c.s).2=0):QV (Ag c):=by
 have hd:(bF c.vals).length=32:=bX _;have hn:c.s.name.size<=1048576:=by have:=ok.name;unfold fO at this;simp at this;omega
 have hr:(fG c.s).1.length<=1048576:=by
  unfold fG;split
  ·unfold JX pU JQ;split
   ·rw[bX];omega
   ·simp
  ·simp
 exact⟨hn,hr,by rw[show(Ag c).vals=bF c.vals from rfl,hd];omega,by rw[show(Ag c).next=bF c.vals from rfl,hd];omega⟩
theorem Jo (c:av)(hc:n_ c)(later:Int):
  aI Tryz.prog 21 [.pt 0 0 0 0,intD later] (hF (ZQ c)) (ET (aR c later).2) (hOf (hF (ZQ c)) (if(aR c later).2.err=0 then[(0,.box (oW (aR c later).1 2)),(1,.dead),(2,.arr 18 ((aR c later).1.past.map bC))]else ZQ c)):=by
 refine il λR R' hR hR'=>?_;have c1:=UW c.s hc.ok.sm later;have c2:=Qm c.s hc.ok.sm;have hl:=hc.len;have hvl:=hc.vl;unfold aR at hR hR';by_cases h1:(kZ c.s later).2=0
 ·simp only[if_pos h1]at hR hR';rw[h1]at c1;by_cases h2:(fG c.s).2=0
  ·simp only[if_pos h2]at hR hR';have c3:=lM c.vals (by omega) hc.vk;have c4:=Ou (Ag c) c.vals c.seeds (Oz c hc.ok h2) (by omega) hc.vk ⟨by have:=hc.sl;omega,λs hs=>by have:=hc.sk s hs;omega⟩;have c5:=LZ c.s hc.ok.sm;rw[h2]at c2;by_cases h3:(lD (Ag c) c.vals c.seeds).2=0
   ·simp only[if_pos h3]at hR hR';rw[h3]at c4;generalize(lD (Ag c) c.vals c.seeds).1=sg at*;simp only[Ag,Oy]at c4;have m1:c.past.map bC++[bC (⟨sg,c.s⟩:EndD)]=(c.past++[(⟨sg,c.s⟩:EndD)]).map bC:=by simp
    have m2:c.past.length+1=(c.past++[(⟨sg,c.s⟩:EndD)]).length:=by simp
    simp only[bC,valsI,votesI,bI]at m1;generalize c.past++[(⟨sg,c.s⟩:EndD)]=L at*;generalize(kZ c.s later).1=N at*;generalize fG c.s=Ro at*;generalize bF c.vals=D at*;have d1:jl [] [(2,3829)]:=⟨trivial⟩
    clear hc h1 h2 h3;obtain⟨rfl⟩:=hR';refine aK 101 Tryz.func21 rfl rfl rfl (λo ho=>by simp[hF,lk,show o≠0 by omega,show o≠1 by omega,show o≠2 by omega,show o≠3 by omega,show o≠4 by omega,show o≠5 by omega]) ?_;first|exact wkl trivial|refine wkl ?_
    all_goals(clear hR;intro hR)
    all_goals(repeat' (intro _))
    all_goals(obtain⟨rfl⟩:=hR)
    all_goals(refine fin_d d1 rfl ?_ ?_ rfl ?_ rfl)
    all_goals(try simp only[go_sem,Nat.reduceLT,Nat.reduceAdd,Nat.reduceMul,reduceIte,Nat.reduceEqDiff,reduceCtorEq,Nat.reducePow,Nat.reduceLeDiff,Int.reduceLE,Int.reduceLT,Int.reduceToNat,Int.reduceEq,Nat.reduceBEq])
    all_goals simp[*]
   ·simp only[if_neg h3]at hR hR';generalize lD (Ag c) c.vals c.seeds=S at*;simp only[Ag,Oy]at c4;simp only[dE,if_neg h3]at hR hR';generalize kZ c.s later=N at*;generalize fG c.s=Ro at*;generalize bF c.vals=D at*;have d1:jl [] []:=⟨trivial⟩
    clear hc h1 h2 c5;obtain⟨rfl⟩:=hR';refine aK 101 Tryz.func21 rfl rfl rfl (λo ho=>by simp[hF,lk,show o≠0 by omega,show o≠1 by omega,show o≠2 by omega,show o≠3 by omega,show o≠4 by omega,show o≠5 by omega]) ?_;first|exact wkl trivial|refine wkl ?_
    all_goals(clear hR;intro hR)
    all_goals(repeat' (intro _))
    all_goals(obtain⟨rfl⟩:=hR)
    all_goals(refine fin_d d1 rfl ?_ ?_ rfl ?_ rfl)
    all_goals(try simp only[go_sem,Nat.reduceLT,Nat.reduceAdd,Nat.reduceMul,reduceIte,Nat.reduceEqDiff,reduceCtorEq,Nat.reducePow,Nat.reduceLeDiff,Int.reduceLE,Int.reduceLT,Int.reduceToNat,Int.reduceEq,Nat.reduceBEq])
    all_goals simp[*]
  ·simp only[if_neg h2]at hR hR';simp only[dE,if_neg h2]at hR hR';generalize kZ c.s later=N at*;generalize fG c.s=Ro at*;have d1:jl [] []:=⟨trivial⟩
   clear hc h1;obtain⟨rfl⟩:=hR';refine aK 101 Tryz.func21 rfl rfl rfl (λo ho=>by simp[hF,lk,show o≠0 by omega,show o≠1 by omega,show o≠2 by omega,show o≠3 by omega,show o≠4 by omega,show o≠5 by omega]) ?_;first|exact wkl trivial|refine wkl ?_
   all_goals(clear hR;intro hR)
   all_goals(repeat' (intro _))
   all_goals(obtain⟨rfl⟩:=hR)
   all_goals(refine fin_d d1 rfl ?_ ?_ rfl ?_ rfl)
   all_goals(try simp only[go_sem,Nat.reduceLT,Nat.reduceAdd,Nat.reduceMul,reduceIte,Nat.reduceEqDiff,reduceCtorEq,Nat.reducePow,Nat.reduceLeDiff,Int.reduceLE,Int.reduceLT,Int.reduceToNat,Int.reduceEq,Nat.reduceBEq])
   all_goals simp[*]
 ·simp only[if_neg h1]at hR hR';simp only[dE,if_neg h1]at hR hR';generalize kZ c.s later=N at*;have d1:jl [] []:=⟨trivial⟩
  clear hc c2;obtain⟨rfl⟩:=hR';refine aK 101 Tryz.func21 rfl rfl rfl (λo ho=>by simp[hF,lk,show o≠0 by omega,show o≠1 by omega,show o≠2 by omega,show o≠3 by omega,show o≠4 by omega,show o≠5 by omega]) ?_;first|exact wkl trivial|refine wkl ?_
  all_goals(clear hR;intro hR)
  all_goals(repeat' (intro _))
  all_goals(obtain⟨rfl⟩:=hR)
  all_goals(refine fin_d d1 rfl ?_ ?_ rfl ?_ rfl)
  all_goals(try simp only[go_sem,Nat.reduceLT,Nat.reduceAdd,Nat.reduceMul,reduceIte,Nat.reduceEqDiff,reduceCtorEq,Nat.reducePow,Nat.reduceLeDiff,Int.reduceLE,Int.reduceLT,Int.reduceToNat,Int.reduceEq,Nat.reduceBEq])
  all_goals simp[*]
theorem abg (s m:List UInt8):A_ s m<18446744073709551616:=Nat.lt_trans (Nat.mod_lt _ (by decide)) (show pN<18446744073709551616 by decide)
theorem abf (s m:List UInt8):sigS s m<18446744073709551616:=Nat.lt_trans (Nat.mod_lt _ (by decide)) (show qN<18446744073709551616 by decide)
theorem Zg (s:List UInt8):keyF s<18446744073709551616:=Nat.lt_trans (Nat.mod_lt _ (by decide)) (show pN<18446744073709551616 by decide)
theorem FI (h:mX)(v:bW):∀seeds:List (List UInt8),(dV h seeds v).r<18446744073709551616/\(dV h seeds v).s<18446744073709551616:=by
 have key:∀(seeds:List (List UInt8)) (x:mV),(x.r<18446744073709551616/\x.s<18446744073709551616)->(seeds.foldl (λx s=>if v.k=keyF s then(⟨true,A_ s (bJ h),sigS s (bJ h)⟩:mV)else x) x).r<18446744073709551616/\(seeds.foldl (λx s=>if v.k=keyF s then(⟨true,A_ s (bJ h),sigS s (bJ h)⟩:mV)else x) x).s<18446744073709551616:=by
  intro seeds;induction seeds with
  |nil=>exact λx hx=>hx
  |cons a t ih =>
   intro x hx;rw[List.foldl_cons];refine ih _ ?_;split
   ·exact⟨abg _ _,abf _ _⟩
   ·exact hx
 exact λseeds=>key seeds ⟨false,0,0⟩ ⟨by decide,by decide⟩
theorem sign_fst {h:mX}{vals:List bW}{seeds:List (List UInt8)}(e:(lD h vals seeds).2=0):(lD h vals seeds).1=⟨h,vals,vals.map (dV h seeds)⟩/\fJ h=0/\lw vals=0/\bF vals=h.vals:=by
 unfold lD at e⊢;split at e
 ·rename_i a;rw[if_pos a];split at e
  ·rename_i b;rw[if_pos b];split at e
   ·rename_i d;rw[if_pos d];exact⟨rfl,a,b,d⟩
   ·cases e
  ·exact absurd e ‹_›
 ·exact absurd e ‹_›
theorem Jv {c:av}(hc:n_ c)(m:MsgD):n_ (mU c m).1:=by
 unfold mU;split
 ·rename_i h;have hs:=IC hc.p64 h;exact⟨hs.ok,hs.p64,hc.len,hc.st,hc.sg,hc.vl,hc.vk,hc.sl,hc.sk⟩
 ·exact hc
theorem nextS_ok {s:StateD}{later:Int}(h:(kZ s later).2=0):StOk s/\(1<=later/\later<=1000000000000)/\kZ s later=({s with h:=s.h+1,t:=s.t+later},0)/\StOk (kZ s later).1:=by
 unfold kZ at h⊢;by_cases h1:bf s=0
 ·rw[if_pos h1]at h⊢;by_cases h2:later<1\/1000000000000<later\/1000000000000<s.t+later\/s.h=1000000000000
  ·rw[if_pos h2]at h;cases h
  ·rw[if_neg h2];have ok:=az.1 h1;have a:=ok.h;have b:=ok.t;unfold N12 at a b;exact⟨ok,by omega,rfl,⟨ok.name,by unfold N12;simp only;omega,by unfold N12;simp only;omega,ok.lcl,ok.lcn,ok.lch,ok.lsent,ok.lgot,ok.lacks,ok.lpus,ok.cls,ok.cns,ok.chs,ok.sent,ok.got,ok.acks,ok.pus⟩⟩
 ·rw[if_neg h1]at h;exact absurd h h1
theorem block_done {c:av}{later:Int}(h:(aR c later).2.err=0):(kZ c.s later).2=0/\(fG c.s).2=0/\(lD (Ag c) c.vals c.seeds).2=0 /\
  aR c later=({c with s:=(kZ c.s later).1,past:=c.past++[⟨(lD (Ag c) c.vals c.seeds).1,c.s⟩]},⟨0,((c.past.length+1:Nat):Int),zeroPk⟩):=by
 unfold aR at h⊢;by_cases h1:(kZ c.s later).2=0
 ·rw[if_pos h1]at h⊢;by_cases h2:(fG c.s).2=0
  ·rw[if_pos h2]at h⊢;by_cases h3:(lD (Ag c) c.vals c.seeds).2=0
   ·rw[if_pos h3];exact⟨h1,h2,h3,rfl⟩
   ·rw[if_neg h3]at h;exact absurd h h3
  ·rw[if_neg h2]at h;exact absurd h h2
 ·rw[if_neg h1]at h;exact absurd h h1
theorem rA {c:av}{later:Int}(h:¬(aR c later).2.err=0):(aR c later).1=c:=by
 unfold aR at h⊢;by_cases h1:(kZ c.s later).2=0
 ·rw[if_pos h1]at h⊢;by_cases h2:(fG c.s).2=0
  ·rw[if_pos h2]at h⊢;by_cases h3:(lD (Ag c) c.vals c.seeds).2=0
   ·rw[if_pos h3]at h;exact absurd rfl h
   ·rw[if_neg h3]
  ·rw[if_neg h2]
 ·rw[if_neg h1]
theorem UJ {c:av}(hc:n_ c)(later:Int)(hl:c.past.length<1000):n_ (aR c later).1:=by
 by_cases h:(aR c later).2.err=0
 ·obtain⟨h1,h2,h3,e⟩:=block_done h;rw[e];obtain⟨a,b,d,f⟩:=nextS_ok h1;obtain⟨g,_⟩:=sign_fst h3;have hh:=Oz c hc.ok h2;refine⟨f,by rw[d];exact hc.p64,by simp;omega,λx hx=>?_,λx hx=>?_,hc.vl,hc.vk,hc.sl,hc.sk⟩
  ·rcases List.mem_append.1 hx with hx|hx
   ·exact hc.st x hx
   ·rw[List.mem_singleton.1 hx];exact hc.ok
  ·rcases List.mem_append.1 hx with hx|hx
   ·exact hc.sg x hx
   ·rw[List.mem_singleton.1 hx,g];refine⟨⟨hh,by have:=hc.vl;simp only;omega,hc.vk,λy hy=>?_⟩,hh.next⟩;obtain⟨v,_,rfl⟩:=List.mem_map.1 hy;exact FI _ v _
 ·rw[rA h];exact hc
theorem VK {c o:av}(hc:n_ c)(hl:c.past.length<1000)(e:EvD):n_ (oneB c o e).1:=by
 unfold oneB cu b_;split
 ·exact UJ hc _ hl
 ·split
  ·split
   ·exact hc
   ·exact Jv hc _
  ·split
   ·split
    ·exact hc
    ·exact Jv hc _
   ·split
    ·exact Jv hc _
    ·split
     ·exact Jv hc _
     ·exact hc
theorem act_past (c:av)(m:MsgD):(mU c m).1.past=c.past/\(mU c m).1.vals=c.vals/\(mU c m).1.seeds=c.seeds:=by unfold mU;split<;>exact⟨rfl,rfl,rfl⟩
theorem KC (c:av)(later:Int):(aR c later).1.past.length<=c.past.length+1/\(aR c later).1.vals=c.vals/\(aR c later).1.seeds=c.seeds:=by
 by_cases h:(aR c later).2.err=0
 ·rw[(block_done h).2.2.2];exact⟨by simp,rfl,rfl⟩
 ·rw[rA h];exact⟨by omega,rfl,rfl⟩
theorem GA (c o:av)(e:EvD):(oneB c o e).1.past.length<=c.past.length+1/\(oneB c o e).1.vals=c.vals/\(oneB c o e).1.seeds=c.seeds:=by
 have ha:∀m,(mU c m).1.past.length<=c.past.length+1/\(mU c m).1.vals=c.vals/\(mU c m).1.seeds=c.seeds:=λm=>by obtain⟨a,b,d⟩:=act_past c m;rw[a,b,d];exact⟨by omega,rfl,rfl⟩
 have hn:c.past.length<=c.past.length+1/\c.vals=c.vals/\c.seeds=c.seeds:=⟨by omega,rfl,rfl⟩
 unfold oneB cu b_;split
 ·exact KC c _
 ·split
  ·split
   ·exact hn
   ·exact ha _
  ·split
   ·split
    ·exact hn
    ·exact ha _
   ·split
    ·exact ha _
    ·split
     ·exact ha _
     ·exact hn
theorem Mc {c o:av}{m:MsgD}(hm:tH m):tH (showB c o m):=by
 have key:∀(w:bn) (n:Int),tH {m with sh:=w,next:=n}:=λw n=>⟨hm.kn,hm.up,hm.up2,hm.tn,hm.td,hm.ts,hm.tr,hm.fr,hm.de,hm.data,hm.ack⟩
 unfold showB tO;split
 ·exact key _ _
 ·split
  ·exact key _ _
  ·split
   ·exact key _ _
   ·exact key _ _
structure KI (w:jw) (n:Nat):Prop where
 a:n_ w.1
 b:n_ w.2
 la:w.1.past.length<=n
 lb:w.2.past.length<=n
theorem DV {w:jw}{n:Nat}(h:KI w n)(hn:n<1000)(e:EvD):KI (fK w e).1 (n+1):=by
 have la:=h.la;have lb:=h.lb;unfold fK;split
 ·have:=(GA w.1 w.2 e).1;exact⟨VK h.a (by omega) e,h.b,by simp only;omega,by simp only;omega⟩
 ·split
  ·have:=(GA w.2 w.1 e).1;exact⟨h.a,VK h.b (by omega) e,by simp only;omega,by simp only;omega⟩
  ·exact⟨h.a,h.b,by simp only;omega,by simp only;omega⟩
theorem Vx:∀(l:List EvD){w:jw}{n:Nat},KI w n->n+l.length<=1000->KI (fV w l).1 (n+l.length)
 |[],w,n,h,_=>h
 |e::t,w,n,h,hn=>by simp only[List.length_cons]at hn;have:=Vx t (DV h (by omega) e) (by omega);simp only[fV,List.length_cons];rw[show n+(t.length+1)=n+1+t.length by omega];exact this
theorem insV_mem {v x:bW}:∀{l:List bW},x∈TK v l->x=v\/x∈l
 |[],h=>by simp[TK]at h;exact .inl h
 |a::t,h=>by
  simp only[TK]at h;split at h
  ·rcases List.mem_cons.1 h with h|h
   ·exact .inl h
   ·exact .inr h
  ·rcases List.mem_cons.1 h with h|h
   ·exact .inr (List.mem_cons.2 (.inl h))
   ·rcases insV_mem h with h|h
    ·exact .inl h
    ·exact .inr (List.mem_cons.2 (.inr h))
theorem HV (v:bW):∀l:List bW,(TK v l).length=l.length+1
 |[]=>rfl
 |a::t=>by simp only[TK];split<;>simp[HV v t]
theorem XU (name:ByteArray):∀v∈pQ name,v.k<18446744073709551616/\v.p<18446744073709551616:=by
 intro v hv;have h1:∀s,keyF s<18446744073709551616:=Zg;rcases insV_mem hv with rfl|hv
 ·exact⟨h1 _,by show(1:Nat)<_;decide⟩
 ·rcases insV_mem hv with rfl|hv
  ·exact⟨h1 _,by show(1:Nat)<_;decide⟩
  ·rw[List.mem_singleton.1 hv];exact⟨h1 _,by show(1:Nat)<_;decide⟩
theorem Jl {name owner denom:ByteArray}(hn:fO name=true)(hs:name.size<=20)(ho:1<=owner.size/\owner.size<=40)(hd:1<=denom.size/\denom.size<=40):n_ (bQ name owner denom):=by
 refine⟨⟨hn,(show N12 0 1 by unfold N12;decide),(show N12 0 1 by unfold N12;decide),by simp[bQ],by simp[bQ],by simp[bQ],by simp[bQ],by simp[bQ],by simp[bQ],by simp[bQ],by simp[bQ],by simp[bQ],by simp[bQ],⟨by simp[bQ],List.Pairwise.nil⟩,⟨by simp[bQ],List.Pairwise.nil⟩,⟨by simp[bQ],List.Pairwise.nil⟩,⟨λp hp=>?_,List.pairwise_singleton ..⟩⟩,?_,by simp[bQ],by simp[bQ],by simp[bQ],by simp[bQ,pQ,HV],XU name,by simp[bQ],λs hs'=>?_⟩
 ·simp only[bQ,List.mem_singleton]at hp;subst hp;exact⟨ho,hd,(show(1000:Nat)≠0 by decide)⟩
 ·intro p hp;simp only[bQ,List.mem_singleton]at hp;subst hp;show(1000:Nat)<_;decide
 ·have hb:∀i:Nat,i<10->(seedB name i).length<=1000:=λi hi=>by
   have:=Lib.itoa_length_le (i:Int) (by omega) (by omega);have hz:name.data.toList.length=name.size:=rfl;simp only[seedB,List.length_append];omega
  simp only[bQ,List.mem_cons,List.not_mem_nil,or_false]at hs';rcases hs' with rfl|rfl|rfl<;>exact hb _ (by decide)
def nmA:ByteArray:=⟨#[97]⟩
def nmB:ByteArray:=⟨#[98]⟩
def ownA:ByteArray:=⟨#[97,110,110]⟩
def zO:ByteArray:=⟨#[98,111,98]⟩
def goldA:ByteArray:=⟨#[103,111,108,100]⟩
def qD:ByteArray:=⟨#[115,105,108,118,101,114]⟩
def ja:jw:=(bQ nmA ownA goldA,bQ nmB zO qD)
theorem iZ:KI ja 0:=⟨Jl (by decide) (by decide) (by decide) (by decide),Jl (by decide) (by decide) (by decide) (by decide),Nat.le_refl _,Nat.le_refl _⟩
def mh (l:List EvD):jw×List jm:=fV ja l
def FB (w:jw):D:=.agg [.i (.s (.string w.1.s.name)),.i (.s (.int .i64 w.1.s.h)),.i (.s (.int .i64 w.1.s.t)),.i (.sl (w.1.s.cls.map gJ)),.i (.sl (w.1.s.cns.map dN)),.i (.sl (w.1.s.chs.map bA)),.i (.sl (w.1.s.sent.map bB)),.i (.sl (w.1.s.got.map bB)),.i (.sl (w.1.s.acks.map bB)),.i (.sl (w.1.s.pus.map aZ)),
 .i (.s (.string w.2.s.name)),.i (.s (.int .i64 w.2.s.h)),.i (.s (.int .i64 w.2.s.t)),.i (.sl (w.2.s.cls.map gJ)),.i (.sl (w.2.s.cns.map dN)),.i (.sl (w.2.s.chs.map bA)),.i (.sl (w.2.s.sent.map bB)),.i (.sl (w.2.s.got.map bB)),.i (.sl (w.2.s.acks.map bB)),.i (.sl (w.2.s.pus.map aZ))]
end Go.Proofs.YtoifllbioldomaaGreatDoor
