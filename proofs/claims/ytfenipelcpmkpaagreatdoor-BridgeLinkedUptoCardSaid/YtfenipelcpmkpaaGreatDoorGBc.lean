/- Merged texts: BrS, WkF, BrC, BrD, BrL. -/
import Derived.Test.YtfenipelcpmkpaaGreatDoorGBr
set_option linter.all false
set_option maxHeartbeats 32000000
set_option maxRecDepth 20000
namespace Go.Abs
open Go Go.RowKit
attribute [local simp] fnd
theorem dz {P:Program} {f:FuncId} {ds gs:List D} {r:D} {objs objs':List (Nat × Ob)} {n:Nat} {σ:St} {ks:List Fr} {Q:Ex->St->Prop} {rid:Nat} {rest:List It} {dst:Option Nat} (ρ ρ':List (Nat × Nat)) (new:List (Nat × Ob)) (hL:aN P f ds (hF objs) r (hOf (hF objs) objs')) (h:Ro P n rid rest (St.put ⟨σ.sl,Ci new σ.H⟩ dst r) ks Q)
  (hgs:cvs σ.H [] (fnd ρ) gs ds:=by simp [and_assoc,cvs,fnd]) (ho:∀ p∈objs,∃ o,fnd ρ p.1=some o/\cvO σ.H [] (fnd ρ) (σ.H o) p.2:=by simp [fnd,and_assoc,hF,lk]) (hk:(ρ.all fun q=>objs.any fun p=>p.1 == q.1)=true:=by rfl)
  (hinj:(ρ.all fun p=>ρ.all fun q=>p.2 != q.2 || p.1 == q.1)=true:=by rfl)
  (hn:∀ p∈new,∃ l,fnd ρ' p.1=some l/\cvO (hOf (hF objs) objs') [] (fnd ρ') (hOf (hF objs) objs' l) p.2:=by simp [fnd,and_assoc,hF,hOf,lk]) (hk':(ρ'.all fun q=>new.any fun p=>p.1 == q.1)=true:=by rfl)
  (hinj':(ρ'.all fun p=>ρ'.all fun q=>p.2 != q.2 || p.1 == q.1)=true:=by rfl) (hr':cv (hOf (hF objs) objs') [] (fnd ρ') r r:=by simp)
  (hback:(ρ.all fun p=>fnd ρ' p.2 == some p.1)=true:=by simp [fnd]) (hnew:∀ q∈ρ',fnd ρ q.2=some q.1\/σ.H q.1=.fresh:=by simp [fnd,hF,lk,noH]):Call P n rid f gs dst rest σ ks Q :=
 tQ ρ ρ' new r hL h hgs ho hk hinj hn hk' hinj' hr' hback hnew
theorem fin_e {P:Program} {sl:Nat->D} {H H0:Nat->Ob} {fn:Func} {r:D} {rs:List ResultVar} {objs:List (Nat × Ob)} {F:List Nat} {src:List (Nat × Nat)} (d:iN F src) (h:fn.results=rs.toArray)
  (hv:Rf (Fz P ⟨sl,H⟩ rs) H F (iP H0 src) r:=by (try simp only [go_sem,Nat.reduceLT,Nat.reduceAdd,Nat.reduceMul,reduceIte,Nat.reduceEqDiff,reduceCtorEq,Nat.reducePow,Nat.reduceLeDiff,Int.reduceLE,Int.reduceLT,Int.reduceToNat,Int.reduceEq,Nat.reduceBEq]); simp [*]) (ho:∀ p∈objs,bE H F (iP H0 src) p:=by simp [*])
  (hk:(src.all fun p=>objs.any fun q=>q.1 == p.1)=true:=by rfl) (hf:∀ p∈src,H0 p.2=.fresh:=by simp [*]) (hinj:(src.all fun p=>src.all fun q=>p.2 != q.2 || p.1 == q.1)=true:=by rfl):Fin P fn H0 r (hOf H0 objs) .ret ⟨sl,H⟩ :=
 fin_d d h hv ho hk hf hinj
end Go.Abs
namespace Go.Proofs.YtfenipelcpmkpaaGreatDoor
open Go Go.Abs Go.RowKit Go.Proofs.YtfenipelcpmkpaaGreatDoor.Ty
def Wu (c:aA):List (Nat × Ob):=[(0,.box (nk c 1)),(1,.arr 18 (c.past.map bG))]
def OZ (c o:aA):List (Nat × Ob):=[(0,.box (nk c 1)),(1,.arr 18 (c.past.map bG)),(2,.box (nk o 3)),(3,.arr 18 (o.past.map bG))]
attribute [simp,go_sem] Wu OZ
def rW (l:List EndD):List aU:=l.map fun e=>ofH e.sg.hdr
def acm (e:EndD):D:=.agg [.i (.s (.string e.sg.hdr.c)),.i (.s (.int .i64 e.sg.hdr.h)),.i (.s (.int .i64 e.sg.hdr.t)),.i (bI e.sg.hdr.root),.i (bI e.sg.hdr.vals),.i (bI e.sg.hdr.next),.i (valsI e.sg.vals),.i (votesI e.sg.votes),
 .i (.s (.string e.st.name)),.i (.s (.int .i64 e.st.h)),.i (.s (.int .i64 e.st.t)),.i (.sl (e.st.cls.map gW)),.i (.sl (e.st.cns.map dW)),.i (.sl (e.st.chs.map bM)),.i (.sl (e.st.sent.map bN)),.i (.sl (e.st.got.map bN)),.i (.sl (e.st.acks.map bN)),.i (.sl (e.st.pus.map a_))]
attribute [simp,go_sem] acm
theorem atB_case (o:aA) (h:Int):(atB o h=none/\ixK (rW o.past) h=-1)\/∃ i,∃ hi:i < o.past.length,ixK (rW o.past) h=i/\atB o h=some o.past[i]:=by
 unfold atB ixK kQ rW
 rw [List.drop_zero,List.findIdx?_map]
 have e0:((fun k:aU=>decide (k.h=h)) ∘ fun e:EndD=>ofH e.sg.hdr)=fun e:EndD=>decide (e.sg.hdr.h=h):=rfl
 rw [e0]
 cases e:o.past.findIdx? (fun e:EndD=>decide (e.sg.hdr.h=h)) with
 | none =>
  left
  rw [List.findIdx?_eq_none_iff] at e
  exact ⟨List.find?_eq_none.2 fun x hx=>by simpa using e x hx,rfl⟩
 | some i =>
  right
  obtain ⟨hi,h1,h2⟩:=List.findIdx?_eq_some_iff_getElem.1 e
  refine ⟨i,hi,by simp,?_⟩
  rw [List.find?_eq_some_iff_getElem]
  exact ⟨h1,i,hi,rfl,fun j hj=>by simpa using h2 j hj⟩
theorem WA (e:EndD) (h:Int):PureD Tryz.prog 125 [acm e,.rp [.s (.int .i64 h)] 0] (boolD (decide (e.sg.hdr.h=h))):=by
 refine ak fun R hR=>?_
 refine aa 10 Tryz.func125 rfl rfl rfl (fun _ _=>rfl) ?_
 exact wkl trivial
theorem RX (l:List EndD) (h:Int) (hl:l.length<=1048576):PureD Tryz.prog 124 [.i (.sl (l.map bG)),.fn 125 [.rp [.s (.int .i64 h)] 0]] (intD (ixK (rW l) h)):=by
 refine ak fun R hR=>?_
 have hlen:(rW l).length=l.length:=by simp [rW]
 refine aa 19 Tryz.func124 rfl rfl rfl (fun _ _=>rfl) ?_
 refine wkl ?_
 clear hR; intro hR
 have hR':Hr (intD (kQ (rW l) h 0)) R:=hR
 clear hR
 refine aZ (ι:=Nat) (fun i=>i<=l.length/\Hr (intD (kQ (rW l) h i)) R)
  (fun i=>ek [(0,.i (.sl (l.map bG))),(1,.fn 125 [.rp [.s (.int .i64 h)] 0]),(7,intD l.length),(8,intD i)] [])
  (fun i=>l.length - i) 0 ⟨Nat.zero_le _,hR'⟩ ?_ ?_
 ·exact dP [] []
 ·rintro i ⟨hi,hR⟩ RL hL
  clear hR'
  rw [au]
  by_cases hlt:i < l.length
  ·have s0:=aH (f:=bG) hlt
   have e1:((rW l)[i]'(by omega)).h=l[i].sg.hdr.h:=by simp [rW,ofH]
   rw [Be (l:=rW l) (by omega),e1] at hR
   have c1:=WA l[i] h
   have b1:=fun σ' (hq:Hr _ R)=>bk [] [] (hL (i+1) σ' ⟨hlt,hq⟩)
   clear hL e1 hlen
   generalize l[i]=k at *
   exact wkl trivial
  ·rw [Bf (l:=rW l) (by omega)] at hR
   exact wkl trivial
theorem vL (s:StateD) (ok:StOk s):(fG s).1.length<=1048576:=by
 unfold fG
 rw [if_pos (aB.2 ok)]
 have h1:=xV s
 have:=ok.lcn; have:=ok.lch; have:=ok.lsent; have:=ok.lgot; have:=ok.lacks
 simp only [uh]
 omega
theorem NC (c o:aA) (ok:StOk c.s) (hl:o.past.length<=1048576) (hp:∀ e∈o.past,StOk e.st) (m:MsgD) (hm:OE m) :
  aN Tryz.prog 67 [.pt 0 0 0 0,.pt 2 0 0 0,Xq m] (hF (OZ c o)) (Xq (showB c o m)) (hOf (hF (OZ c o)) (OZ c o)):=by
 refine gX fun R R' hR hR'=>?_
 have d1:iN [] []:=⟨trivial⟩
 obtain ⟨rfl⟩:=hR'
 have hD:=WG c ok { m with sh:=zSh } ⟨hm.oend,hm.fr,hm.de,hm.seq⟩
 have hlc:=ok.lcl
 unfold showB Au at hR
 generalize hA:iM c { m with sh:=zSh }=A at *
 obtain ⟨cli,key,gap,ask⟩:=A
 simp only at hD hR
 refine aa 130 Tryz.func67 rfl rfl rfl (fun o ho=>by simp [hF,lk,show o≠0 by omega,show o≠1 by omega,show o≠2 by omega,show o≠3 by omega,show o≠4 by omega,show o≠5 by omega]) ?_
 refine wkl ?_
 intro _
 refine dz [(0,0),(1,1),(2,1000)] [(0,0),(1,1),(1000,2)] [(0,.box (nk c 1)),(1,.arr 18 (c.past.map bG)),(1000,.box ((encMsg { m with sh:=zSh }).map .i))] hD ?_
 clear hD
 by_cases h1:ask=false\/cli < 0\/(c.s.cls.length:Int)<=cli
 ·rw [if_pos h1] at hR
  clear hm hp ok hA
  rcases h1 with rfl | h1 | h1
  ·first | exact wkl trivial | (refine wkl ?_; clear hR; intro hR; repeat' (intro _); obtain ⟨rfl⟩:=hR; exact fin_e d1 rfl)
  ·cases ask
   all_goals
    first | exact wkl trivial | (refine wkl ?_; clear hR; intro hR; repeat' (intro _); obtain ⟨rfl⟩:=hR; exact fin_e d1 rfl)
  ·by_cases h1b:cli < 0
   ·cases ask
    all_goals
     first | exact wkl trivial | (refine wkl ?_; clear hR; intro hR; repeat' (intro _); obtain ⟨rfl⟩:=hR; exact fin_e d1 rfl)
   ·cases ask
    all_goals
     first | exact wkl trivial | (refine wkl ?_; clear hR; intro hR; repeat' (intro _); obtain ⟨rfl⟩:=hR; exact fin_e d1 rfl)
 ·rw [if_neg h1] at hR
  obtain rfl:ask=true:=by cases ask; exact absurd (.inl rfl) h1; rfl
  have hi:cli.toNat < c.s.cls.length:=by omega
  have s0:=aH (f:=gW) hi
  have hk:=(ok.cls _ (List.getElem_mem hi)).len
  rw [(fM (s:=c.s) (i:=cli) (by omega)).1] at hR
  have hb:0<=cli/\cli < (c.s.cls.length:Int):=by omega
  clear hA hm
  generalize c.s.cls[cli.toNat]=x at *
  clear ok h1
  obtain ⟨hlt,hlast⟩:=last_get hk.1
  have s1:=aH (f:=jw) hlt
  rw [<- hlast] at s1
  have hn:((x.known.length - 1:Nat):Int)=(x.known.length:Int) - 1:=by omega
  have w1:IntKind.i64.wrap ((x.known.length:Int) - 1)=((x.known.length - 1:Nat):Int):=by rw [aD (by omega) (by omega)]; omega
  have c2:=RX o.past (jy x).h hl
  clear hn hlast
  generalize jy x=k at *
  rcases atB_case o k.h with ⟨h2,h3⟩ | ⟨i,hi2,h2,h3⟩
  ·rw [h3] at c2
   rw [h2] at hR
   simp only at hR
   clear h2 h3 hp
   first | exact wkl trivial | (refine wkl ?_; clear hR; intro hR; repeat' (intro _); obtain ⟨rfl⟩:=hR; exact fin_e d1 rfl)
  ·rw [h2] at c2
   rw [h3] at hR
   simp only at hR
   have hst:=hp _ (List.getElem_mem hi2)
   have s2:=aH (f:=bG) hi2
   have gi:¬ (i:Int) < 0:=by omega
   clear h2 h3 hp
   generalize o.past[i]=e at *
   have c3:=TM e.st hst.sm
   have c4:=XY (fG e.st).1 key (vL e.st hst)
   have c5:=abw (fG e.st).1 key (vL e.st hst)
   have hch:=hst.lch
   simp only [psI,ay,Jn] at c4 c5
   cases gap
   ·simp only [Bool.false_eq_true,if_false] at hR
    clear c5
    unfold UY at hR
    by_cases h4:m.kind=17/\0<=m.pk.de/\m.pk.de < (e.st.chs.length:Int)
    ·obtain ⟨h5,h6⟩:=h4
     have hj:m.pk.de.toNat < e.st.chs.length:=by omega
     have s3:=aH (f:=bM) hj
     simp only [if_pos (show m.kind=17/\0<=m.pk.de/\m.pk.de < (e.st.chs.length:Int) from ⟨h5,h6⟩)] at hR
     rw [(cO (s:=e.st) (i:=m.pk.de) (by omega)).1] at hR
     clear hst
     generalize e.st.chs[m.pk.de.toNat]=y at *
     generalize fG e.st=B at *
     generalize kX B.1 key=S at *
     first | exact wkl trivial | (refine wkl ?_; clear hR; intro hR; repeat' (intro _); obtain ⟨rfl⟩:=hR; exact fin_e d1 rfl)
    ·simp only [if_neg h4] at hR
     generalize fG e.st=B at *
     generalize kX B.1 key=S at *
     clear hst
     by_cases h5:m.kind=17
     ·have h6:m.pk.de < 0\/(e.st.chs.length:Int)<=m.pk.de:=by
       by_cases h7:m.pk.de < 0
       ·exact .inl h7
       ·exact .inr (Int.not_lt.1 fun h8=>h4 ⟨h5,Int.not_lt.1 h7,h8⟩)
      clear h4
      first | exact wkl trivial | (refine wkl ?_; clear hR; intro hR; repeat' (intro _); obtain ⟨rfl⟩:=hR; exact fin_e d1 rfl)
     ·clear h4
      first | exact wkl trivial | (refine wkl ?_; clear hR; intro hR; repeat' (intro _); obtain ⟨rfl⟩:=hR; exact fin_e d1 rfl)
   ·simp only [if_true] at hR
    clear c4 hst
    generalize fG e.st=B at *
    generalize Zn B.1 key=G at *
    first | exact wkl trivial | (refine wkl ?_; clear hR; intro hR; repeat' (intro _); obtain ⟨rfl⟩:=hR; exact fin_e d1 rfl)
end Go.Proofs.YtfenipelcpmkpaaGreatDoor
namespace Go.Abs
open Go Go.RowKit
theorem wkf {G Q:Prop} (g:G) (h:PLift G->Q:=by
 intro hgo
 repeat' (first
  | (simp (maxSteps:=2000000) -implicitDefEqProofs only [go_sem,Nat.reduceLT,Nat.reduceAdd,Nat.reduceMul,reduceIte,Nat.reduceEqDiff,reduceCtorEq,Nat.reducePow,Nat.reduceLeDiff,Int.reduceLE,Int.reduceLT,Int.reduceToNat,Int.reduceEq,Nat.reduceBEq,lgc,not_true_eq_false,Wz, *])
  | (with_reducible refine ⟨?_,?_⟩; (· first | (obtain ⟨rfl⟩:=‹Hq _ _›; with_reducible refine chk_ok ?_; kernel_rfl) | kernel_rfl))
  | (with_reducible intro opz hopz)
  | (simp -implicitDefEqProofs (disch:=omega) only [aaI,TT,aH,ltc,ltf,lec,lef,abk,abl])
  | ((with_reducible first | refine EC ?_ | refine zR ?_); (first | refine wkA c1 ?_ | refine wkA c2 ?_ | refine wkA c3 ?_ | refine wkA c4 ?_ | refine wkA c5 ?_ | refine wkA c6 ?_ | refine wkA c7 ?_ | refine wkA c8 ?_ | refine wkA c9 ?_ | refine wkA c10 ?_ | refine wkB e1 ?_ | refine wkB e2 ?_ | refine wkB e3 ?_ | refine wkB e4 ?_ | refine wkB e5 ?_ | refine wkC c1 ?_ | refine wkC c2 ?_ | refine wkC c3 ?_ | refine wkC c4 ?_ | refine wkC c5 ?_ | refine wkC c6 ?_ | refine wkC c7 ?_ | refine wkC c8 ?_ | refine wkC c9 ?_ | refine wkC c10 ?_))
  | ((first | refine bi (fun hg=>?_) (fun hg=>?_) | refine vR (fun hg=>?_) (fun hg=>?_) | refine vS (fun hg=>?_) (fun hg=>?_)) <;> (try simp only [nrm,eq_self,not_true_eq_false] at hg) <;> (try simp only [hg,lgc,reduceIte,reduceCtorEq] at hR) <;> (try (exfalso; omega)))
  | exact wkD b1 | exact wkD b2 | exact wkD b3 | exact wkD b4 | exact wkD b5
  | ((try simp only [*,lgc,reduceIte,reduceCtorEq] at hR); (try obtain ⟨rfl⟩:=hR); refine fin_q rfl ?_; (try simp only [go_sem,Nat.reduceLT,Nat.reduceAdd,Nat.reduceMul,reduceIte,Nat.reduceEqDiff,reduceCtorEq,Nat.reducePow,Nat.reduceLeDiff,Int.reduceLE,Int.reduceLT,Int.reduceToNat,Int.reduceEq,Nat.reduceBEq]); (first | (simp; done) | (simp; omega) | (simp [*]; done) | (simp [*]; omega)))
  | ((try simp only [*,lgc,reduceIte,reduceCtorEq] at hR); (try obtain ⟨rfl⟩:=hR); refine fin_d d1 rfl ?_ ?_ rfl ?_ rfl <;> (try simp only [go_sem,Nat.reduceLT,Nat.reduceAdd,Nat.reduceMul,reduceIte,Nat.reduceEqDiff,reduceCtorEq,Nat.reducePow,Nat.reduceLeDiff,Int.reduceLE,Int.reduceLT,Int.reduceToNat,Int.reduceEq,Nat.reduceBEq]) <;> (simp; done)))
 all_goals (repeat (revert hg))
 all_goals (try (have hR:=hR; revert hR))
 all_goals (try (revert hopz; revert opz))
 all_goals exact hgo.down):Q:=h ⟨g⟩
attribute [local simp] fnd
theorem Fe {j:Nat} {G:Nat->Ob}:∀ {l:List (Nat × Ob)},j ∉ l.map (·.1)->Ci l G j=G j
 | [],_=>rfl
 | (a,x) :: t,h=>by
  simp only [List.map_cons,List.mem_cons,not_or] at h
  simp only [Ci]; rw [upd_ne _ _ h.1]; exact Fe h.2
theorem Jz {j:Nat} {G G':Nat->Ob}:∀ {l:List (Nat × Ob)},j∈l.map (·.1)->Ci l G j=Ci l G' j
 | (a,x) :: t,h=>by
  simp only [Ci]
  by_cases e:j=a
  ·subst e; rw [upd_same,upd_same]
  ·rw [upd_ne _ _ e,upd_ne _ _ e]
   simp only [List.map_cons,List.mem_cons] at h
   exact Jz (h.resolve_left e)
theorem Jh {P:Program} {f:FuncId} {ds gs:List D} {r:D} {objs objs':List (Nat × Ob)} {n:Nat} {σ:St} {ks:List Fr} {Q:Ex->St->Prop} {rid k:Nat} {ops:Array Oper} {rest:List It} {acc:Acc} {dst:Option Nat} (ρ ρ':List (Nat × Nat)) (new:List (Nat × Ob)) (hL:aN P f ds (hF objs) r (hOf (hF objs) objs'))
  (h:Rd P n rid ops rest ((k,new.map (·.1),new.map (·.1)) :: acc) (St.put ⟨σ.sl,Ci new σ.H⟩ dst r) ks Q)
  (hgs:∀ G,kK (new.map (·.1)) G σ.H->cvs G [] (fnd ρ) gs ds:=by intro G hG; simp at hG; simp [hG,and_assoc,cvs,fnd])
  (ho:∀ G,kK (new.map (·.1)) G σ.H->∀ p∈objs,∃ o,fnd ρ p.1=some o/\cvO G [] (fnd ρ) (G o) p.2:=by intro G hG; simp [hF,lk] at hG; simp [hG,fnd,and_assoc,hF,lk]) (hk:(ρ.all fun q=>objs.any fun p=>p.1 == q.1)=true:=by rfl)
  (hinj:(ρ.all fun p=>ρ.all fun q=>p.2 != q.2 || p.1 == q.1)=true:=by rfl)
  (hn:∀ p∈new,∃ l,fnd ρ' p.1=some l/\cvO (hOf (hF objs) objs') [] (fnd ρ') (hOf (hF objs) objs' l) p.2:=by simp [fnd,and_assoc,hF,hOf,lk]) (hk':(ρ'.all fun q=>new.any fun p=>p.1 == q.1)=true:=by rfl)
  (hinj':(ρ'.all fun p=>ρ'.all fun q=>p.2 != q.2 || p.1 == q.1)=true:=by rfl) (hr':cv (hOf (hF objs) objs') [] (fnd ρ') r r:=by simp)
  (hback:(ρ.all fun p=>fnd ρ' p.2 == some p.1)=true:=by simp [fnd]) (hnew:∀ G,kK (new.map (·.1)) G σ.H->∀ q∈ρ',fnd ρ q.2=some q.1\/G q.1=.fresh:=by intro G hG; simp [fnd,hF,lk,noH]):kM P n rid ops f gs k dst rest acc σ ks Q :=
 ⟨⟨r,new.map (·.1),new.map (·.1),fun G=>Ci new G⟩,⟨⟨fun _ h=>h,fun G j hj=>Fe hj,fun G G' _ j hj=>Jz hj⟩,fun G hG=>.inl (G_ ρ ρ' hL (hgs G hG) (ho G hG) hk hinj hn hk' hinj' hr' hback (hnew G hG))⟩,h⟩
end Go.Abs
namespace Go.Proofs.YtfenipelcpmkpaaGreatDoor
open Go Go.Abs Go.RowKit Go.Proofs.YtfenipelcpmkpaaGreatDoor.Ty
theorem IY (c:aA) (ok:StOk c.s) (h64:P64 c.s.pus) (m:MsgD) (hm:rq m) :
  aN Tryz.prog 66 [.pt 0 0 0 0,Xq m] (hF (Wu c)) (Ed (ny c m).2) (hOf (hF (Wu c)) (Wu (ny c m).1)):=by
 refine gX fun R R' hR hR'=>?_
 have c1:=aai c.s ok.sm h64 m hm
 unfold ny at hR hR'
 by_cases e:(doS c.s m).2.err=0
 ·simp only [if_pos e] at hR hR'
  generalize doS c.s m=X at *
  clear ok h64 hm
  have d1:iN [] []:=⟨trivial⟩
  obtain ⟨rfl⟩:=hR'
  refine aa 24 Tryz.func66 rfl rfl rfl (fun o ho=>by simp [hF,lk,show o≠0 by omega,show o≠1 by omega,show o≠2 by omega,show o≠3 by omega,show o≠4 by omega,show o≠5 by omega]) ?_
  first | exact wkl trivial | refine wkl ?_
  all_goals (clear hR; intro hR)
  all_goals (repeat' (intro _))
  all_goals (obtain ⟨rfl⟩:=hR)
  all_goals (refine fin_d d1 rfl ?_ ?_ rfl ?_ rfl)
  all_goals (try simp only [go_sem,Nat.reduceLT,Nat.reduceAdd,Nat.reduceMul,reduceIte,Nat.reduceEqDiff,reduceCtorEq,Nat.reducePow,Nat.reduceLeDiff,Int.reduceLE,Int.reduceLT,Int.reduceToNat,Int.reduceEq,Nat.reduceBEq])
  all_goals simp [*]
 ·simp only [if_neg e] at hR hR'
  generalize doS c.s m=X at *
  clear ok h64 hm
  have d1:iN [] []:=⟨trivial⟩
  obtain ⟨rfl⟩:=hR'
  refine aa 24 Tryz.func66 rfl rfl rfl (fun o ho=>by simp [hF,lk,show o≠0 by omega,show o≠1 by omega,show o≠2 by omega,show o≠3 by omega,show o≠4 by omega,show o≠5 by omega]) ?_
  first | exact wkl trivial | refine wkl ?_
  all_goals (clear hR; intro hR)
  all_goals (repeat' (intro _))
  all_goals (obtain ⟨rfl⟩:=hR)
  all_goals (refine fin_d d1 rfl ?_ ?_ rfl ?_ rfl)
  all_goals (try simp only [go_sem,Nat.reduceLT,Nat.reduceAdd,Nat.reduceMul,reduceIte,Nat.reduceEqDiff,reduceCtorEq,Nat.reducePow,Nat.reduceLeDiff,Int.reduceLE,Int.reduceLT,Int.reduceToNat,Int.reduceEq,Nat.reduceBEq])
  all_goals simp [*]
structure mq (c:aA):Prop where
 ok:StOk c.s
 p64:P64 c.s.pus
 len:c.past.length<=1000
 st:∀ e∈c.past,StOk e.st
 sg:∀ e∈c.past,WS e.sg/\e.sg.hdr.next.length<=1048576
 vl:c.vals.length<=1000
 vk:∀ v∈c.vals,v.k < 18446744073709551616/\v.p < 18446744073709551616
 sl:c.seeds.length<=1000
 sk:∀ s∈c.seeds,s.length<=1000
theorem last_pastB {o:aA} (h:¬ o.past.length=0):∃ hi:o.past.length - 1 < o.past.length,lastB o=o.past[o.past.length - 1] :=
 ⟨by omega,by unfold lastB; rw [List.getLastD_eq_getLast?,List.getLast?_eq_getElem?,List.getElem?_eq_getElem (by omega)]; rfl⟩
theorem b_:rq zeroMsg:=⟨⟨by decide,by decide⟩,EY,EY,by decide,by decide,by decide,by decide,by unfold iG; decide,by unfold iG; decide,by decide,by decide⟩
theorem Ni {o:aA} (ho:mq o) (h:¬ o.past.length=0) (t:Int):rq (cliMsg o t):=by
 obtain ⟨hi,e⟩:=last_pastB h
 have hg:=ho.sg _ (List.getElem_mem hi)
 rw [<- e] at hg
 have z:=b_
 exact ⟨⟨hg.1.h.root,hg.2⟩,z.up,z.up2,z.tn,z.td,z.ts,z.tr,z.fr,z.de,z.data,z.ack⟩
theorem Mx {c o:aA} (ho:mq o) (h:¬ o.past.length=0) (i:Int):rq (folMsg c o i):=by
 obtain ⟨hi,e⟩:=last_pastB h
 have hg:=ho.sg _ (List.getElem_mem hi)
 rw [<- e] at hg
 have z:=b_
 exact ⟨z.kn,⟨hg.1,Nat.le_trans ho.vl (by decide),ho.vk,hg.2⟩,z.up2,z.tn,z.td,z.ts,z.tr,z.fr,z.de,z.data,z.ack⟩
theorem BH (c o:aA) (hc:mq c) (ho:mq o) (trust:Int) :
  aN Tryz.prog 64 [.pt 0 0 0 0,.pt 2 0 0 0,intD trust] (hF (OZ c o)) (Ed (dh c o trust).2) (hOf (hF (OZ c o)) (OZ (dh c o trust).1 o)):=by
 refine gX fun R R' hR hR'=>?_
 unfold dh at hR hR'
 have hl:=ho.len
 have d1:iN [] []:=⟨trivial⟩
 by_cases h:o.past.length=0
 ·simp only [if_pos h] at hR hR'
  clear hc ho
  obtain ⟨rfl⟩:=hR'
  refine aa 44 Tryz.func64 rfl rfl rfl (fun o ho=>by simp [hF,lk,show o≠0 by omega,show o≠1 by omega,show o≠2 by omega,show o≠3 by omega,show o≠4 by omega,show o≠5 by omega]) ?_
  first | exact wkl trivial | refine wkl ?_
  all_goals (clear hR; intro hR)
  all_goals (repeat' (intro _))
  all_goals (obtain ⟨rfl⟩:=hR)
  all_goals (refine fin_d d1 rfl ?_ ?_ rfl ?_ rfl)
  all_goals (try simp only [go_sem,Nat.reduceLT,Nat.reduceAdd,Nat.reduceMul,reduceIte,Nat.reduceEqDiff,reduceCtorEq,Nat.reducePow,Nat.reduceLeDiff,Int.reduceLE,Int.reduceLT,Int.reduceToNat,Int.reduceEq,Nat.reduceBEq])
  all_goals simp [*]
 ·simp only [if_neg h] at hR hR'
  have hD:=IY c hc.ok hc.p64 (cliMsg o trust) (Ni ho h trust)
  obtain ⟨hi,e⟩:=last_pastB h
  have s0:=aH (f:=bG) hi
  rw [<- e] at s0
  have w1:IntKind.i64.wrap ((o.past.length:Int) - 1)=((o.past.length - 1:Nat):Int):=by rw [aD (by omega) (by omega)]; omega
  generalize ny c (cliMsg o trust)=X at hD hR hR'
  simp only [cliMsg,ofH] at hD
  clear hc ho e
  generalize lastB o=z at *
  obtain ⟨rfl⟩:=hR'
  refine aa 44 Tryz.func64 rfl rfl rfl (fun o ho=>by simp [hF,lk,show o≠0 by omega,show o≠1 by omega,show o≠2 by omega,show o≠3 by omega,show o≠4 by omega,show o≠5 by omega]) ?_
  refine wkl ?_
  clear hR; intro hR
  repeat' (intro _)
  refine dz [(0,0),(1,1)] [(0,0),(1,1)] [(0,.box (nk X.1 1)),(1,.arr 18 (X.1.past.map bG))] hD ?_
  clear hD
  first | exact wkl trivial | refine wkl ?_
  all_goals (clear hR; intro hR)
  all_goals (repeat' (intro _))
  all_goals (obtain ⟨rfl⟩:=hR)
  all_goals (refine fin_d d1 rfl ?_ ?_ rfl ?_ rfl)
  all_goals (try simp only [go_sem,Nat.reduceLT,Nat.reduceAdd,Nat.reduceMul,reduceIte,Nat.reduceEqDiff,reduceCtorEq,Nat.reducePow,Nat.reduceLeDiff,Int.reduceLE,Int.reduceLT,Int.reduceToNat,Int.reduceEq,Nat.reduceBEq])
  all_goals simp [*]
theorem BG (c o:aA) (hc:mq c) (ho:mq o) (i:Int) :
  aN Tryz.prog 65 [.pt 0 0 0 0,.pt 2 0 0 0,intD i] (hF (OZ c o)) (Ed (cZ c o i).2) (hOf (hF (OZ c o)) (OZ (cZ c o i).1 o)):=by
 refine gX fun R R' hR hR'=>?_
 unfold cZ at hR hR'
 have hl:=ho.len
 have hlc:=hc.ok.lcl
 have d1:iN [] []:=⟨trivial⟩
 by_cases h:o.past.length=0\/i < 0\/(c.s.cls.length:Int)<=i
 ·simp only [if_pos h] at hR hR'
  clear hc ho
  obtain ⟨rfl⟩:=hR'
  by_cases p0:((o.past.length:Nat):Int)=0
  ·clear h
   refine aa 67 Tryz.func65 rfl rfl rfl (fun o ho=>by simp [hF,lk,show o≠0 by omega,show o≠1 by omega,show o≠2 by omega,show o≠3 by omega,show o≠4 by omega,show o≠5 by omega]) ?_
   first | exact wkl trivial | refine wkl ?_
   all_goals (clear hR; intro hR)
   all_goals (repeat' (intro _))
   all_goals (obtain ⟨rfl⟩:=hR)
   all_goals (refine fin_d d1 rfl ?_ ?_ rfl ?_ rfl)
   all_goals (try simp only [go_sem,Nat.reduceLT,Nat.reduceAdd,Nat.reduceMul,reduceIte,Nat.reduceEqDiff,reduceCtorEq,Nat.reducePow,Nat.reduceLeDiff,Int.reduceLE,Int.reduceLT,Int.reduceToNat,Int.reduceEq,Nat.reduceBEq])
   all_goals simp [*]
  ·by_cases p1:i < 0
   ·clear h
    refine aa 67 Tryz.func65 rfl rfl rfl (fun o ho=>by simp [hF,lk,show o≠0 by omega,show o≠1 by omega,show o≠2 by omega,show o≠3 by omega,show o≠4 by omega,show o≠5 by omega]) ?_
    first | exact wkl trivial | refine wkl ?_
    all_goals (clear hR; intro hR)
    all_goals (repeat' (intro _))
    all_goals (obtain ⟨rfl⟩:=hR)
    all_goals (refine fin_d d1 rfl ?_ ?_ rfl ?_ rfl)
    all_goals (try simp only [go_sem,Nat.reduceLT,Nat.reduceAdd,Nat.reduceMul,reduceIte,Nat.reduceEqDiff,reduceCtorEq,Nat.reducePow,Nat.reduceLeDiff,Int.reduceLE,Int.reduceLT,Int.reduceToNat,Int.reduceEq,Nat.reduceBEq])
    all_goals simp [*]
   ·have p2:(c.s.cls.length:Int)<=i:=by omega
    clear h
    refine aa 67 Tryz.func65 rfl rfl rfl (fun o ho=>by simp [hF,lk,show o≠0 by omega,show o≠1 by omega,show o≠2 by omega,show o≠3 by omega,show o≠4 by omega,show o≠5 by omega]) ?_
    first | exact wkl trivial | refine wkl ?_
    all_goals (clear hR; intro hR)
    all_goals (repeat' (intro _))
    all_goals (obtain ⟨rfl⟩:=hR)
    all_goals (refine fin_d d1 rfl ?_ ?_ rfl ?_ rfl)
    all_goals (try simp only [go_sem,Nat.reduceLT,Nat.reduceAdd,Nat.reduceMul,reduceIte,Nat.reduceEqDiff,reduceCtorEq,Nat.reducePow,Nat.reduceLeDiff,Int.reduceLE,Int.reduceLT,Int.reduceToNat,Int.reduceEq,Nat.reduceBEq])
    all_goals simp [*]
 ·simp only [if_neg h] at hR hR'
  have h0:¬ o.past.length=0:=fun e=>h (.inl e)
  have hD:=IY c hc.ok hc.p64 (folMsg c o i) (Mx ho h0 i)
  obtain ⟨hi,e⟩:=last_pastB h0
  have s0:=aH (f:=bG) hi
  rw [<- e] at s0
  have w1:IntKind.i64.wrap ((o.past.length:Int) - 1)=((o.past.length - 1:Nat):Int):=by rw [aD (by omega) (by omega)]; omega
  have hj:i.toNat < c.s.cls.length:=by omega
  have s1:=aH (f:=gW) hj
  have hk:=(hc.ok.cls _ (List.getElem_mem hj)).len
  have ecl:=(fM (s:=c.s) (i:=i) (by omega)).1
  rw [<- ecl] at s1 hk
  obtain ⟨hlt,hlast⟩:=last_get hk.1
  have s2:=aH (f:=jw) hlt
  rw [<- hlast] at s2
  have w2:IntKind.i64.wrap (((iQ c.s i).known.length:Int) - 1)=(((iQ c.s i).known.length - 1:Nat):Int):=by rw [aD (by omega) (by omega)]; omega
  generalize ny c (folMsg c o i)=X at hD hR hR'
  simp only [folMsg] at hD
  have p0:¬ ((o.past.length:Nat):Int)=0:=by omega
  have p1:¬ i < 0:=by omega
  have p2:¬ (c.s.cls.length:Int)<=i:=by omega
  clear hc ho e ecl hlast h
  generalize lastB o=z at *
  generalize iQ c.s i=x at *
  generalize jy x=k at *
  obtain ⟨rfl⟩:=hR'
  refine aa 67 Tryz.func65 rfl rfl rfl (fun o ho=>by simp [hF,lk,show o≠0 by omega,show o≠1 by omega,show o≠2 by omega,show o≠3 by omega,show o≠4 by omega,show o≠5 by omega]) ?_
  refine wkf ?_
  intro ops hops _
  repeat' (intro _)
  refine Jh [(0,0),(1,1)] [(0,0),(1,1)] [(0,.box (nk X.1 1)),(1,.arr 18 (X.1.past.map bG))] hD ?_
  clear hD
  first | exact wkl trivial | refine wkl ?_
  all_goals (clear hR; intro hR)
  all_goals (repeat' (intro _))
  all_goals (obtain ⟨rfl⟩:=hR)
  all_goals (refine fin_d d1 rfl ?_ ?_ rfl ?_ rfl)
  all_goals (try simp only [go_sem,Nat.reduceLT,Nat.reduceAdd,Nat.reduceMul,reduceIte,Nat.reduceEqDiff,reduceCtorEq,Nat.reducePow,Nat.reduceLeDiff,Int.reduceLE,Int.reduceLT,Int.reduceToNat,Int.reduceEq,Nat.reduceBEq])
  all_goals simp [*]
theorem WB (s:StateD) (hs:StSm s):PureD Tryz.prog 31 [stateD s] (.tup [.i (bI (g_ s).1),intD (g_ s).2]):=by
 refine ak fun R hR=>?_
 have c1:=TM s hs
 unfold g_ at hR
 by_cases h:bu s=0
 ·have h2:(fG s).2=0:=by unfold fG; rw [if_pos h]
  have c2:=X_ (fG s).1 (vL s (aB.1 h))
  rw [if_pos h2] at hR
  rw [h2] at c1
  simp only [psI,dF] at c2
  simp only at hR
  generalize Cv (fG s).1=X at *
  generalize dQ (fG s).1=Y at *
  generalize (fG s).1=B at *
  clear h h2 hs
  refine aa 24 Tryz.func31 rfl rfl rfl (fun _ _=>rfl) ?_
  exact wkl trivial
 ·have h2:fG s=([],bu s):=by unfold fG; rw [if_neg h]
  rw [h2] at c1 hR
  simp only [if_neg h] at hR c1
  generalize bu s=W at *
  clear h2 hs
  refine aa 24 Tryz.func31 rfl rfl rfl (fun _ _=>rfl) ?_
  exact wkl trivial
theorem Md (c:aA) (ok:StOk c.s) (h:(g_ c.s).2=0):Sv (rM c):=by
 have hd:(bW c.vals).length=32:=cz _
 have hn:c.s.name.size<=1048576:=by
  have:=ok.name
  unfold iy at this
  simp at this
  omega
 have hr:(g_ c.s).1.length<=1048576:=by
  unfold g_
  split
  ·unfold Cv oJ Fu
   split
   ·rw [cz]; omega
   ·simp
  ·simp
 exact ⟨hn,hr,by rw [show (rM c).vals=bW c.vals from rfl,hd]; omega,by rw [show (rM c).next=bW c.vals from rfl,hd]; omega⟩
theorem Hl (c:aA) (hc:mq c) (later:Int) :
  aN Tryz.prog 63 [.pt 0 0 0 0,intD later] (hF (Wu c)) (Ed (aQ c later).2) (hOf (hF (Wu c)) (if (aQ c later).2.err=0 then [(0,.box (nk (aQ c later).1 2)),(1,.dead),(2,.arr 18 ((aQ c later).1.past.map bG))] else Wu c)):=by
 refine gX fun R R' hR hR'=>?_
 have c1:=Si c.s hc.ok.sm later
 have c2:=WB c.s hc.ok.sm
 have hl:=hc.len
 have hvl:=hc.vl
 unfold aQ at hR hR'
 by_cases h1:(ji c.s later).2=0
 ·simp only [if_pos h1] at hR hR'
  rw [h1] at c1
  by_cases h2:(g_ c.s).2=0
  ·simp only [if_pos h2] at hR hR'
   have c3:=lT c.vals (by omega) hc.vk
   have c4:=VP (rM c) c.vals c.seeds (Md c hc.ok h2) (by omega) hc.vk ⟨by have:=hc.sl; omega,fun s hs=>by have:=hc.sk s hs; omega⟩
   have c5:=JP c.s hc.ok.sm
   rw [h2] at c2
   by_cases h3:(jO (rM c) c.vals c.seeds).2=0
   ·simp only [if_pos h3] at hR hR'
    rw [h3] at c4
    generalize (jO (rM c) c.vals c.seeds).1=sg at *
    simp only [rM,Pi] at c4
    have m1:c.past.map bG++[bG (⟨sg,c.s⟩:EndD)]=(c.past++[(⟨sg,c.s⟩:EndD)]).map bG:=by simp
    have m2:c.past.length+1=(c.past++[(⟨sg,c.s⟩:EndD)]).length:=by simp
    simp only [bG,valsI,votesI,bI] at m1
    generalize c.past++[(⟨sg,c.s⟩:EndD)]=L at *
    generalize (ji c.s later).1=N at *
    generalize g_ c.s=Ro at *
    generalize bW c.vals=D at *
    have d1:iN [] [(2,3829)]:=⟨trivial⟩
    clear hc h1 h2 h3
    obtain ⟨rfl⟩:=hR'
    refine aa 101 Tryz.func63 rfl rfl rfl (fun o ho=>by simp [hF,lk,show o≠0 by omega,show o≠1 by omega,show o≠2 by omega,show o≠3 by omega,show o≠4 by omega,show o≠5 by omega]) ?_
    first | exact wkl trivial | refine wkl ?_
    all_goals (clear hR; intro hR)
    all_goals (repeat' (intro _))
    all_goals (obtain ⟨rfl⟩:=hR)
    all_goals (refine fin_d d1 rfl ?_ ?_ rfl ?_ rfl)
    all_goals (try simp only [go_sem,Nat.reduceLT,Nat.reduceAdd,Nat.reduceMul,reduceIte,Nat.reduceEqDiff,reduceCtorEq,Nat.reducePow,Nat.reduceLeDiff,Int.reduceLE,Int.reduceLT,Int.reduceToNat,Int.reduceEq,Nat.reduceBEq])
    all_goals simp [*]
   ·simp only [if_neg h3] at hR hR'
    generalize jO (rM c) c.vals c.seeds=S at *
    simp only [rM,Pi] at c4
    simp only [dE,if_neg h3] at hR hR'
    generalize ji c.s later=N at *
    generalize g_ c.s=Ro at *
    generalize bW c.vals=D at *
    have d1:iN [] []:=⟨trivial⟩
    clear hc h1 h2 c5
    obtain ⟨rfl⟩:=hR'
    refine aa 101 Tryz.func63 rfl rfl rfl (fun o ho=>by simp [hF,lk,show o≠0 by omega,show o≠1 by omega,show o≠2 by omega,show o≠3 by omega,show o≠4 by omega,show o≠5 by omega]) ?_
    first | exact wkl trivial | refine wkl ?_
    all_goals (clear hR; intro hR)
    all_goals (repeat' (intro _))
    all_goals (obtain ⟨rfl⟩:=hR)
    all_goals (refine fin_d d1 rfl ?_ ?_ rfl ?_ rfl)
    all_goals (try simp only [go_sem,Nat.reduceLT,Nat.reduceAdd,Nat.reduceMul,reduceIte,Nat.reduceEqDiff,reduceCtorEq,Nat.reducePow,Nat.reduceLeDiff,Int.reduceLE,Int.reduceLT,Int.reduceToNat,Int.reduceEq,Nat.reduceBEq])
    all_goals simp [*]
  ·simp only [if_neg h2] at hR hR'
   simp only [dE,if_neg h2] at hR hR'
   generalize ji c.s later=N at *
   generalize g_ c.s=Ro at *
   have d1:iN [] []:=⟨trivial⟩
   clear hc h1
   obtain ⟨rfl⟩:=hR'
   refine aa 101 Tryz.func63 rfl rfl rfl (fun o ho=>by simp [hF,lk,show o≠0 by omega,show o≠1 by omega,show o≠2 by omega,show o≠3 by omega,show o≠4 by omega,show o≠5 by omega]) ?_
   first | exact wkl trivial | refine wkl ?_
   all_goals (clear hR; intro hR)
   all_goals (repeat' (intro _))
   all_goals (obtain ⟨rfl⟩:=hR)
   all_goals (refine fin_d d1 rfl ?_ ?_ rfl ?_ rfl)
   all_goals (try simp only [go_sem,Nat.reduceLT,Nat.reduceAdd,Nat.reduceMul,reduceIte,Nat.reduceEqDiff,reduceCtorEq,Nat.reducePow,Nat.reduceLeDiff,Int.reduceLE,Int.reduceLT,Int.reduceToNat,Int.reduceEq,Nat.reduceBEq])
   all_goals simp [*]
 ·simp only [if_neg h1] at hR hR'
  simp only [dE,if_neg h1] at hR hR'
  generalize ji c.s later=N at *
  have d1:iN [] []:=⟨trivial⟩
  clear hc c2
  obtain ⟨rfl⟩:=hR'
  refine aa 101 Tryz.func63 rfl rfl rfl (fun o ho=>by simp [hF,lk,show o≠0 by omega,show o≠1 by omega,show o≠2 by omega,show o≠3 by omega,show o≠4 by omega,show o≠5 by omega]) ?_
  first | exact wkl trivial | refine wkl ?_
  all_goals (clear hR; intro hR)
  all_goals (repeat' (intro _))
  all_goals (obtain ⟨rfl⟩:=hR)
  all_goals (refine fin_d d1 rfl ?_ ?_ rfl ?_ rfl)
  all_goals (try simp only [go_sem,Nat.reduceLT,Nat.reduceAdd,Nat.reduceMul,reduceIte,Nat.reduceEqDiff,reduceCtorEq,Nat.reducePow,Nat.reduceLeDiff,Int.reduceLE,Int.reduceLT,Int.reduceToNat,Int.reduceEq,Nat.reduceBEq])
  all_goals simp [*]
theorem XX (s m:List UInt8):Af s m < 18446744073709551616:=Nat.lt_trans (Nat.mod_lt _ (by decide)) (show pN < 18446744073709551616 by decide)
theorem XW (s m:List UInt8):sigS s m < 18446744073709551616:=Nat.lt_trans (Nat.mod_lt _ (by decide)) (show qN < 18446744073709551616 by decide)
theorem Vr (s:List UInt8):keyF s < 18446744073709551616:=Nat.lt_trans (Nat.mod_lt _ (by decide)) (show pN < 18446744073709551616 by decide)
theorem PE (h:lm) (v:dJ):∀ seeds:List (List UInt8),(eH h seeds v).r < 18446744073709551616/\(eH h seeds v).s < 18446744073709551616:=by
 have key:∀ (seeds:List (List UInt8)) (x:lh),(x.r < 18446744073709551616/\x.s < 18446744073709551616)->(seeds.foldl (fun x s=>if v.k=keyF s then (⟨true,Af s (bQ h),sigS s (bQ h)⟩:lh) else x) x).r < 18446744073709551616/\(seeds.foldl (fun x s=>if v.k=keyF s then (⟨true,Af s (bQ h),sigS s (bQ h)⟩:lh) else x) x).s < 18446744073709551616:=by
  intro seeds
  induction seeds with
  | nil=>exact fun x hx=>hx
  | cons a t ih =>
   intro x hx
   rw [List.foldl_cons]
   refine ih _ ?_
   split
   ·exact ⟨XX _ _,XW _ _⟩
   ·exact hx
 exact fun seeds=>key seeds ⟨false,0,0⟩ ⟨by decide,by decide⟩
theorem sign_fst {h:lm} {vals:List dJ} {seeds:List (List UInt8)} (e:(jO h vals seeds).2=0):(jO h vals seeds).1=⟨h,vals,vals.map (eH h seeds)⟩/\fq h=0/\jJ vals=0/\bW vals=h.vals:=by
 unfold jO at e ⊢
 split at e
 ·rename_i a
  rw [if_pos a]
  split at e
  ·rename_i b
   rw [if_pos b]
   split at e
   ·rename_i d
    rw [if_pos d]
    exact ⟨rfl,a,b,d⟩
   ·cases e
  ·exact absurd e ‹_›
 ·exact absurd e ‹_›
theorem Hy {c:aA} (hc:mq c) (m:MsgD):mq (ny c m).1:=by
 unfold ny
 split
 ·rename_i h
  have hs:=GD hc.p64 h
  exact ⟨hs.ok,hs.p64,hc.len,hc.st,hc.sg,hc.vl,hc.vk,hc.sl,hc.sk⟩
 ·exact hc
theorem nextS_ok {s:StateD} {later:Int} (h:(ji s later).2=0):StOk s/\(1<=later/\later<=1000000000000)/\ji s later=({ s with h:=s.h+1,t:=s.t+later },0)/\StOk (ji s later).1:=by
 unfold ji at h ⊢
 by_cases h1:bu s=0
 ·rw [if_pos h1] at h ⊢
  by_cases h2:later < 1\/1000000000000 < later\/1000000000000 < s.t+later\/s.h=1000000000000
  ·rw [if_pos h2] at h; cases h
  ·rw [if_neg h2]
   have ok:=aB.1 h1
   have a:=ok.h
   have b:=ok.t
   unfold N12 at a b
   exact ⟨ok,by omega,rfl,⟨ok.name,by unfold N12; simp only; omega,by unfold N12; simp only; omega,ok.lcl,ok.lcn,ok.lch,ok.lsent,ok.lgot,ok.lacks,ok.lpus,ok.cls,ok.cns,ok.chs,ok.sent,ok.got,ok.acks,ok.pus⟩⟩
 ·rw [if_neg h1] at h; exact absurd h h1
theorem block_done {c:aA} {later:Int} (h:(aQ c later).2.err=0):(ji c.s later).2=0/\(g_ c.s).2=0/\(jO (rM c) c.vals c.seeds).2=0 /\
  aQ c later=({ c with s:=(ji c.s later).1,past:=c.past++[⟨(jO (rM c) c.vals c.seeds).1,c.s⟩] },⟨0,((c.past.length+1:Nat):Int),zeroPk⟩):=by
 unfold aQ at h ⊢
 by_cases h1:(ji c.s later).2=0
 ·rw [if_pos h1] at h ⊢
  by_cases h2:(g_ c.s).2=0
  ·rw [if_pos h2] at h ⊢
   by_cases h3:(jO (rM c) c.vals c.seeds).2=0
   ·rw [if_pos h3]; exact ⟨h1,h2,h3,rfl⟩
   ·rw [if_neg h3] at h; exact absurd h h3
  ·rw [if_neg h2] at h; exact absurd h h2
 ·rw [if_neg h1] at h; exact absurd h h1
theorem pG {c:aA} {later:Int} (h:¬ (aQ c later).2.err=0):(aQ c later).1=c:=by
 unfold aQ at h ⊢
 by_cases h1:(ji c.s later).2=0
 ·rw [if_pos h1] at h ⊢
  by_cases h2:(g_ c.s).2=0
  ·rw [if_pos h2] at h ⊢
   by_cases h3:(jO (rM c) c.vals c.seeds).2=0
   ·rw [if_pos h3] at h; exact absurd rfl h
   ·rw [if_neg h3]
  ·rw [if_neg h2]
 ·rw [if_neg h1]
theorem RV {c:aA} (hc:mq c) (later:Int) (hl:c.past.length < 1000):mq (aQ c later).1:=by
 by_cases h:(aQ c later).2.err=0
 ·obtain ⟨h1,h2,h3,e⟩:=block_done h
  rw [e]
  obtain ⟨a,b,d,f⟩:=nextS_ok h1
  obtain ⟨g,_⟩:=sign_fst h3
  have hh:=Md c hc.ok h2
  refine ⟨f,by rw [d]; exact hc.p64,by simp; omega,fun x hx=>?_,fun x hx=>?_,hc.vl,hc.vk,hc.sl,hc.sk⟩
  ·rcases List.mem_append.1 hx with hx | hx
   ·exact hc.st x hx
   ·rw [List.mem_singleton.1 hx]; exact hc.ok
  ·rcases List.mem_append.1 hx with hx | hx
   ·exact hc.sg x hx
   ·rw [List.mem_singleton.1 hx,g]
    refine ⟨⟨hh,by have:=hc.vl; simp only; omega,hc.vk,fun y hy=>?_⟩,hh.next⟩
    obtain ⟨v,_,rfl⟩:=List.mem_map.1 hy
    exact PE _ v _
 ·rw [pG h]; exact hc
theorem Tg {c o:aA} (hc:mq c) (hl:c.past.length < 1000) (e:EvD):mq (oneB c o e).1:=by
 unfold oneB dh cZ
 split
 ·exact RV hc _ hl
 ·split
  ·split
   ·exact hc
   ·exact Hy hc _
  ·split
   ·split
    ·exact hc
    ·exact Hy hc _
   ·split
    ·exact Hy hc _
    ·split
     ·exact Hy hc _
     ·exact hc
theorem act_past (c:aA) (m:MsgD):(ny c m).1.past=c.past/\(ny c m).1.vals=c.vals/\(ny c m).1.seeds=c.seeds:=by
 unfold ny; split <;> exact ⟨rfl,rfl,rfl⟩
theorem IX (c:aA) (later:Int):(aQ c later).1.past.length<=c.past.length+1/\(aQ c later).1.vals=c.vals/\(aQ c later).1.seeds=c.seeds:=by
 by_cases h:(aQ c later).2.err=0
 ·rw [(block_done h).2.2.2]; exact ⟨by simp,rfl,rfl⟩
 ·rw [pG h]; exact ⟨by omega,rfl,rfl⟩
theorem FT (c o:aA) (e:EvD):(oneB c o e).1.past.length<=c.past.length+1/\(oneB c o e).1.vals=c.vals/\(oneB c o e).1.seeds=c.seeds:=by
 have ha:∀ m,(ny c m).1.past.length<=c.past.length+1/\(ny c m).1.vals=c.vals/\(ny c m).1.seeds=c.seeds:=fun m=>by
  obtain ⟨a,b,d⟩:=act_past c m
  rw [a,b,d]; exact ⟨by omega,rfl,rfl⟩
 have hn:c.past.length<=c.past.length+1/\c.vals=c.vals/\c.seeds=c.seeds:=⟨by omega,rfl,rfl⟩
 unfold oneB dh cZ
 split
 ·exact IX c _
 ·split
  ·split
   ·exact hn
   ·exact ha _
  ·split
   ·split
    ·exact hn
    ·exact ha _
   ·split
    ·exact ha _
    ·split
     ·exact ha _
     ·exact hn
theorem JR {c o:aA} {m:MsgD} (hm:rq m):rq (showB c o m):=by
 have key:∀ (w:bB) (n:Int),rq { m with sh:=w,next:=n }:=fun w n=>⟨hm.kn,hm.up,hm.up2,hm.tn,hm.td,hm.ts,hm.tr,hm.fr,hm.de,hm.data,hm.ack⟩
 unfold showB Au
 split
 ·exact key _ _
 ·split
  ·exact key _ _
  ·split
   ·exact key _ _
   ·exact key _ _
structure Jb (w:si) (n:Nat):Prop where
 a:mq w.1
 b:mq w.2
 la:w.1.past.length<=n
 lb:w.2.past.length<=n
theorem Cq {w:si} {n:Nat} (h:Jb w n) (hn:n < 1000) (e:EvD):Jb (lD w e).1 (n+1):=by
 have la:=h.la
 have lb:=h.lb
 unfold lD
 split
 ·have:=(FT w.1 w.2 e).1
  exact ⟨Tg h.a (by omega) e,h.b,by simp only; omega,by simp only; omega⟩
 ·split
  ·have:=(FT w.2 w.1 e).1
   exact ⟨h.a,Tg h.b (by omega) e,by simp only; omega,by simp only; omega⟩
  ·exact ⟨h.a,h.b,by simp only; omega,by simp only; omega⟩
theorem SV:∀ (l:List EvD) {w:si} {n:Nat},Jb w n->n+l.length<=1000->Jb (gV w l).1 (n+l.length)
 | [],w,n,h,_=>h
 | e :: t,w,n,h,hn=>by
  simp only [List.length_cons] at hn
  have:=SV t (Cq h (by omega) e) (by omega)
  simp only [gV,List.length_cons]
  rw [show n+(t.length+1)=n+1+t.length by omega]; exact this
theorem insV_mem {v x:dJ}:∀ {l:List dJ},x∈QT v l->x=v\/x∈l
 | [],h=>by simp [QT] at h; exact .inl h
 | a :: t,h=>by
  simp only [QT] at h
  split at h
  ·rcases List.mem_cons.1 h with h | h
   ·exact .inl h
   ·exact .inr h
  ·rcases List.mem_cons.1 h with h | h
   ·exact .inr (List.mem_cons.2 (.inl h))
   ·rcases insV_mem h with h | h
    ·exact .inl h
    ·exact .inr (List.mem_cons.2 (.inr h))
theorem Gh (v:dJ):∀ l:List dJ,(QT v l).length=l.length+1
 | []=>rfl
 | a :: t=>by simp only [QT]; split <;> simp [Gh v t]
theorem TZ (name:ByteArray):∀ v∈mX name,v.k < 18446744073709551616/\v.p < 18446744073709551616:=by
 intro v hv
 have h1:∀ s,keyF s < 18446744073709551616:=Vr
 rcases insV_mem hv with rfl | hv
 ·exact ⟨h1 _,by show (1:Nat) < _; decide⟩
 ·rcases insV_mem hv with rfl | hv
  ·exact ⟨h1 _,by show (1:Nat) < _; decide⟩
  ·rw [List.mem_singleton.1 hv]; exact ⟨h1 _,by show (1:Nat) < _; decide⟩
theorem Hf {name owner denom:ByteArray} (hn:iy name=true) (hs:name.size<=20) (ho:1<=owner.size/\owner.size<=40) (hd:1<=denom.size/\denom.size<=40):mq (aY name owner denom):=by
 refine ⟨⟨hn,(show N12 0 1 by unfold N12; decide),(show N12 0 1 by unfold N12; decide),by simp [aY],by simp [aY],by simp [aY],by simp [aY],by simp [aY],by simp [aY],by simp [aY],by simp [aY],by simp [aY],by simp [aY],⟨by simp [aY],List.Pairwise.nil⟩,⟨by simp [aY],List.Pairwise.nil⟩,⟨by simp [aY],List.Pairwise.nil⟩,⟨fun p hp=>?_,List.pairwise_singleton ..⟩⟩,?_,by simp [aY],by simp [aY],by simp [aY],by simp [aY,mX,Gh],TZ name,by simp [aY],fun s hs'=>?_⟩
 ·simp only [aY,List.mem_singleton] at hp
  subst hp
  exact ⟨ho,hd,(show (1000:Nat)≠0 by decide)⟩
 ·intro p hp
  simp only [aY,List.mem_singleton] at hp
  subst hp
  show (1000:Nat) < _; decide
 ·have hb:∀ i:Nat,i < 10->(seedB name i).length<=1000:=fun i hi=>by
   have:=Lib.itoa_length_le (i:Int) (by omega) (by omega)
   have hz:name.data.toList.length=name.size:=rfl
   simp only [seedB,List.length_append]; omega
  simp only [aY,List.mem_cons,List.not_mem_nil,or_false] at hs'
  rcases hs' with rfl | rfl | rfl <;> exact hb _ (by decide)
def nmA:ByteArray:=⟨#[97]⟩
def nmB:ByteArray:=⟨#[98]⟩
def ownA:ByteArray:=⟨#[97,110,110]⟩
def yg:ByteArray:=⟨#[98,111,98]⟩
def goldA:ByteArray:=⟨#[103,111,108,100]⟩
def xN:ByteArray:=⟨#[115,105,108,118,101,114]⟩
def rP:si:=(aY nmA ownA goldA,aY nmB yg xN)
theorem mh:Jb rP 0:=⟨Hf (by decide) (by decide) (by decide) (by decide),Hf (by decide) (by decide) (by decide) (by decide),Nat.le_refl _,Nat.le_refl _⟩
def vV (l:List EvD):si × List ll:=gV rP l
def E_ (w:si):D:=.agg [.i (.s (.string w.1.s.name)),.i (.s (.int .i64 w.1.s.h)),.i (.s (.int .i64 w.1.s.t)),.i (.sl (w.1.s.cls.map gW)),.i (.sl (w.1.s.cns.map dW)),.i (.sl (w.1.s.chs.map bM)),.i (.sl (w.1.s.sent.map bN)),.i (.sl (w.1.s.got.map bN)),.i (.sl (w.1.s.acks.map bN)),.i (.sl (w.1.s.pus.map a_)),
 .i (.s (.string w.2.s.name)),.i (.s (.int .i64 w.2.s.h)),.i (.s (.int .i64 w.2.s.t)),.i (.sl (w.2.s.cls.map gW)),.i (.sl (w.2.s.cns.map dW)),.i (.sl (w.2.s.chs.map bM)),.i (.sl (w.2.s.sent.map bN)),.i (.sl (w.2.s.got.map bN)),.i (.sl (w.2.s.acks.map bN)),.i (.sl (w.2.s.pus.map a_))]
end Go.Proofs.YtfenipelcpmkpaaGreatDoor
