/- Merged texts: BrS, WkF, BrC, BrD, BrL. -/
import Derived.Test.YtkbbipgjmoanhaaGreatDoorGBr
set_option linter.all false
set_option maxHeartbeats 32000000
set_option maxRecDepth 20000
namespace Go.Abs
open Go Go.RowKit
attribute [local simp] fnd
theorem bV {P:Program} {f:FuncId} {ds gs:List D} {r:D} {objs objs':List (Nat × Ob)} {n:Nat} {σ:St} {ks:List Fr} {Q:Ex->St->Prop} {rid:Nat} {rest:List It} {dst:Option Nat} (ρ ρ':List (Nat × Nat)) (new:List (Nat × Ob)) (hL:aN P f ds (hF objs) r (hOf (hF objs) objs')) (h:Ro P n rid rest (St.put ⟨σ.sl,Bc new σ.H⟩ dst r) ks Q)
  (hgs:cvs σ.H [] (fnd ρ) gs ds:=by simp [and_assoc,cvs,fnd]) (ho:∀ p∈objs,∃ o,fnd ρ p.1=some o/\cvO σ.H [] (fnd ρ) (σ.H o) p.2:=by simp [fnd,and_assoc,hF,lk]) (hk:(ρ.all fun q=>objs.any fun p=>p.1 == q.1)=true:=by rfl)
  (hinj:(ρ.all fun p=>ρ.all fun q=>p.2 != q.2 || p.1 == q.1)=true:=by rfl)
  (hn:∀ p∈new,∃ l,fnd ρ' p.1=some l/\cvO (hOf (hF objs) objs') [] (fnd ρ') (hOf (hF objs) objs' l) p.2:=by simp [fnd,and_assoc,hF,hOf,lk]) (hk':(ρ'.all fun q=>new.any fun p=>p.1 == q.1)=true:=by rfl)
  (hinj':(ρ'.all fun p=>ρ'.all fun q=>p.2 != q.2 || p.1 == q.1)=true:=by rfl) (hr':cv (hOf (hF objs) objs') [] (fnd ρ') r r:=by simp)
  (hback:(ρ.all fun p=>fnd ρ' p.2 == some p.1)=true:=by simp [fnd]) (hnew:∀ q∈ρ',fnd ρ q.2=some q.1\/σ.H q.1=.fresh:=by simp [fnd,hF,lk,noH]):Call P n rid f gs dst rest σ ks Q :=
 rC ρ ρ' new r hL h hgs ho hk hinj hn hk' hinj' hr' hback hnew
theorem fin_e {P:Program} {sl:Nat->D} {H H0:Nat->Ob} {fn:Func} {r:D} {rs:List ResultVar} {objs:List (Nat × Ob)} {F:List Nat} {src:List (Nat × Nat)} (d:iV F src) (h:fn.results=rs.toArray)
  (hv:Pi (Eg P ⟨sl,H⟩ rs) H F (ib H0 src) r:=by (try simp only [go_sem,Nat.reduceLT,Nat.reduceAdd,Nat.reduceMul,reduceIte,Nat.reduceEqDiff,reduceCtorEq,Nat.reducePow,Nat.reduceLeDiff,Int.reduceLE,Int.reduceLT,Int.reduceToNat,Int.reduceEq,Nat.reduceBEq]); simp [*]) (ho:∀ p∈objs,cO H F (ib H0 src) p:=by simp [*])
  (hk:(src.all fun p=>objs.any fun q=>q.1 == p.1)=true:=by rfl) (hf:∀ p∈src,H0 p.2=.fresh:=by simp [*]) (hinj:(src.all fun p=>src.all fun q=>p.2 != q.2 || p.1 == q.1)=true:=by rfl):Fin P fn H0 r (hOf H0 objs) .ret ⟨sl,H⟩ :=
 fin_d d h hv ho hk hf hinj
end Go.Abs
namespace Go.Proofs.YtkbbipgjmoanhaaGreatDoor
open Go Go.Abs Go.RowKit Go.Proofs.YtkbbipgjmoanhaaGreatDoor.Ty
def Ug (c:aQ):List (Nat × Ob):=[(0,.box (ma c 1)),(1,.arr 18 (c.past.map bA))]
def M_ (c o:aQ):List (Nat × Ob):=[(0,.box (ma c 1)),(1,.arr 18 (c.past.map bA)),(2,.box (ma o 3)),(3,.arr 18 (o.past.map bA))]
attribute [simp,go_sem] Ug M_
def qy (l:List EndD):List aP:=l.map fun e=>ofH e.sg.hdr
def Zz (e:EndD):D:=.agg [.i (.s (.string e.sg.hdr.c)),.i (.s (.int .i64 e.sg.hdr.h)),.i (.s (.int .i64 e.sg.hdr.t)),.i (bI e.sg.hdr.root),.i (bI e.sg.hdr.vals),.i (bI e.sg.hdr.next),.i (valsI e.sg.vals),.i (votesI e.sg.votes),
 .i (.s (.string e.st.name)),.i (.s (.int .i64 e.st.h)),.i (.s (.int .i64 e.st.t)),.i (.sl (e.st.cls.map fM)),.i (.sl (e.st.cns.map dA)),.i (.sl (e.st.chs.map bu)),.i (.sl (e.st.sent.map bq)),.i (.sl (e.st.got.map bq)),.i (.sl (e.st.acks.map bq)),.i (.sl (e.st.pus.map aV))]
attribute [simp,go_sem] Zz
theorem atB_case (o:aQ) (h:Int):(atB o h=none/\ixK (qy o.past) h=-1)\/∃ i,∃ hi:i < o.past.length,ixK (qy o.past) h=i/\atB o h=some o.past[i]:=by
 unfold atB ixK jZ qy
 rw [List.drop_zero,List.findIdx?_map]
 have e0:((fun k:aP=>decide (k.h=h)) ∘ fun e:EndD=>ofH e.sg.hdr)=fun e:EndD=>decide (e.sg.hdr.h=h):=rfl
 rw [e0]
 cases e:o.past.findIdx? (fun e:EndD=>decide (e.sg.hdr.h=h)) with
 | none =>
  left
  rw [List.findIdx?_eq_none_iff] at e
  exact ⟨List.find?_eq_none.2 fun x hx=>by simpa using e x hx,rfl⟩
 | some i =>
  right
  obtain ⟨hi,h1,h2⟩:=List.findIdx?_eq_some_iff_getElem.1 e
  refine ⟨i,hi,by simp,?_⟩
  rw [List.find?_eq_some_iff_getElem]
  exact ⟨h1,i,hi,rfl,fun j hj=>by simpa using h2 j hj⟩
theorem Um (e:EndD) (h:Int):PureD Tryz.prog 38 [Zz e,.rp [.s (.int .i64 h)] 0] (boolD (decide (e.sg.hdr.h=h))):=by
 refine aj fun R hR=>?_
 refine aa 10 Tryz.func38 rfl rfl rfl (fun _ _=>rfl) ?_
 exact wkl trivial
theorem PW (l:List EndD) (h:Int) (hl:l.length<=1048576):PureD Tryz.prog 37 [.i (.sl (l.map bA)),.fn 38 [.rp [.s (.int .i64 h)] 0]] (intD (ixK (qy l) h)):=by
 refine aj fun R hR=>?_
 have hlen:(qy l).length=l.length:=by simp [qy]
 refine aa 19 Tryz.func37 rfl rfl rfl (fun _ _=>rfl) ?_
 refine wkl ?_
 clear hR; intro hR
 have hR':Hr (intD (jZ (qy l) h 0)) R:=hR
 clear hR
 refine aT (ι:=Nat) (fun i=>i<=l.length/\Hr (intD (jZ (qy l) h i)) R)
  (fun i=>dW [(0,.i (.sl (l.map bA))),(1,.fn 38 [.rp [.s (.int .i64 h)] 0]),(7,intD l.length),(8,intD i)] [])
  (fun i=>l.length - i) 0 ⟨Nat.zero_le _,hR'⟩ ?_ ?_
 ·exact dF [] []
 ·rintro i ⟨hi,hR⟩ RL hL
  clear hR'
  rw [au]
  by_cases hlt:i < l.length
  ·have s0:=get_lt (f:=bA) hlt
   have e1:((qy l)[i]'(by omega)).h=l[i].sg.hdr.h:=by simp [qy,ofH]
   rw [zU (l:=qy l) (by omega),e1] at hR
   have c1:=Um l[i] h
   have b1:=fun σ' (hq:Hr _ R)=>bk [] [] (hL (i+1) σ' ⟨hlt,hq⟩)
   clear hL e1 hlen
   generalize l[i]=k at *
   exact wkl trivial
  ·rw [zV (l:=qy l) (by omega)] at hR
   exact wkl trivial
theorem uo (s:StateD) (ok:StOk s):(gU s).1.length<=1048576:=by
 unfold gU
 rw [if_pos (aG.2 ok)]
 have h1:=Ej s
 have:=ok.lcn; have:=ok.lch; have:=ok.lsent; have:=ok.lgot; have:=ok.lacks
 simp only [zq]
 omega
theorem LB (c o:aQ) (ok:StOk c.s) (hl:o.past.length<=1048576) (hp:∀ e∈o.past,StOk e.st) (m:MsgD) (hm:MI m) :
  aN Tryz.prog 20 [.pt 0 0 0 0,.pt 2 0 0 0,WE m] (hF (M_ c o)) (WE (rR c o m)) (hOf (hF (M_ c o)) (M_ c o)):=by
 refine iN fun R R' hR hR'=>?_
 have d1:iV [] []:=⟨trivial⟩
 obtain ⟨rfl⟩:=hR'
 have hD:=Us c ok { m with sh:=zSh } ⟨hm.oend,hm.fr,hm.de,hm.seq⟩
 have hlc:=ok.lcl
 unfold rR Ij at hR
 generalize hA:m_ c { m with sh:=zSh }=A at *
 obtain ⟨cq,key,gap,ask⟩:=A
 simp only at hD hR
 refine aa 130 Tryz.func20 rfl rfl rfl (fun o ho=>by simp [hF,lk,show o≠0 by omega,show o≠1 by omega,show o≠2 by omega,show o≠3 by omega,show o≠4 by omega,show o≠5 by omega]) ?_
 refine wkl ?_
 intro _
 refine bV [(0,0),(1,1),(2,1000)] [(0,0),(1,1),(1000,2)] [(0,.box (ma c 1)),(1,.arr 18 (c.past.map bA)),(1000,.box ((encMsg { m with sh:=zSh }).map .i))] hD ?_
 clear hD
 by_cases h1:ask=false\/cq < 0\/(c.s.cls.length:Int)<=cq
 ·rw [if_pos h1] at hR
  clear hm hp ok hA
  rcases h1 with rfl | h1 | h1
  ·first | exact wkl trivial | (refine wkl ?_; clear hR; intro hR; repeat' (intro _); obtain ⟨rfl⟩:=hR; exact fin_e d1 rfl)
  ·cases ask
   all_goals
    first | exact wkl trivial | (refine wkl ?_; clear hR; intro hR; repeat' (intro _); obtain ⟨rfl⟩:=hR; exact fin_e d1 rfl)
  ·by_cases h1b:cq < 0
   ·cases ask
    all_goals
     first | exact wkl trivial | (refine wkl ?_; clear hR; intro hR; repeat' (intro _); obtain ⟨rfl⟩:=hR; exact fin_e d1 rfl)
   ·cases ask
    all_goals
     first | exact wkl trivial | (refine wkl ?_; clear hR; intro hR; repeat' (intro _); obtain ⟨rfl⟩:=hR; exact fin_e d1 rfl)
 ·rw [if_neg h1] at hR
  obtain rfl:ask=true:=by cases ask; exact absurd (.inl rfl) h1; rfl
  have hi:cq.toNat < c.s.cls.length:=by omega
  have s0:=get_lt (f:=fM) hi
  have hk:=(ok.cls _ (List.getElem_mem hi)).len
  rw [(eZ (s:=c.s) (i:=cq) (by omega)).1] at hR
  have hb:0<=cq/\cq < (c.s.cls.length:Int):=by omega
  clear hA hm
  generalize c.s.cls[cq.toNat]=x at *
  clear ok h1
  obtain ⟨hlt,hlast⟩:=last_get hk.1
  have s1:=get_lt (f:=iQ) hlt
  rw [<- hlast] at s1
  have hn:((x.known.length - 1:Nat):Int)=(x.known.length:Int) - 1:=by omega
  have w1:IntKind.i64.wrap ((x.known.length:Int) - 1)=((x.known.length - 1:Nat):Int):=by rw [ay (by omega) (by omega)]; omega
  have c2:=PW o.past (kw x).h hl
  clear hn hlast
  generalize kw x=k at *
  rcases atB_case o k.h with ⟨h2,h3⟩ | ⟨i,hi2,h2,h3⟩
  ·rw [h3] at c2
   rw [h2] at hR
   simp only at hR
   clear h2 h3 hp
   first | exact wkl trivial | (refine wkl ?_; clear hR; intro hR; repeat' (intro _); obtain ⟨rfl⟩:=hR; exact fin_e d1 rfl)
  ·rw [h2] at c2
   rw [h3] at hR
   simp only at hR
   have hst:=hp _ (List.getElem_mem hi2)
   have s2:=get_lt (f:=bA) hi2
   have gi:¬ (i:Int) < 0:=by omega
   clear h2 h3 hp
   generalize o.past[i]=e at *
   have c3:=Ra e.st hst.sm
   have c4:=VH (gU e.st).1 key (uo e.st hst)
   have c5:=YV (gU e.st).1 key (uo e.st hst)
   have hch:=hst.lch
   simp only [psI,ax,GZ] at c4 c5
   cases gap
   ·simp only [Bool.false_eq_true,if_false] at hR
    clear c5
    unfold Wz at hR
    by_cases h4:m.kind=17/\0<=m.pk.de/\m.pk.de < (e.st.chs.length:Int)
    ·obtain ⟨h5,h6⟩:=h4
     have hj:m.pk.de.toNat < e.st.chs.length:=by omega
     have s3:=get_lt (f:=bu) hj
     simp only [if_pos (show m.kind=17/\0<=m.pk.de/\m.pk.de < (e.st.chs.length:Int) from ⟨h5,h6⟩)] at hR
     rw [(bR (s:=e.st) (i:=m.pk.de) (by omega)).1] at hR
     clear hst
     generalize e.st.chs[m.pk.de.toNat]=y at *
     generalize gU e.st=B at *
     generalize F_ B.1 key=S at *
     first | exact wkl trivial | (refine wkl ?_; clear hR; intro hR; repeat' (intro _); obtain ⟨rfl⟩:=hR; exact fin_e d1 rfl)
    ·simp only [if_neg h4] at hR
     generalize gU e.st=B at *
     generalize F_ B.1 key=S at *
     clear hst
     by_cases h5:m.kind=17
     ·have h6:m.pk.de < 0\/(e.st.chs.length:Int)<=m.pk.de:=by
       by_cases h7:m.pk.de < 0
       ·exact .inl h7
       ·exact .inr (Int.not_lt.1 fun h8=>h4 ⟨h5,Int.not_lt.1 h7,h8⟩)
      clear h4
      first | exact wkl trivial | (refine wkl ?_; clear hR; intro hR; repeat' (intro _); obtain ⟨rfl⟩:=hR; exact fin_e d1 rfl)
     ·clear h4
      first | exact wkl trivial | (refine wkl ?_; clear hR; intro hR; repeat' (intro _); obtain ⟨rfl⟩:=hR; exact fin_e d1 rfl)
   ·simp only [if_true] at hR
    clear c4 hst
    generalize gU e.st=B at *
    generalize Xb B.1 key=G at *
    first | exact wkl trivial | (refine wkl ?_; clear hR; intro hR; repeat' (intro _); obtain ⟨rfl⟩:=hR; exact fin_e d1 rfl)
end Go.Proofs.YtkbbipgjmoanhaaGreatDoor
namespace Go.Abs
open Go Go.RowKit
theorem wkf {G Q:Prop} (g:G) (h:PLift G->Q:=by
 intro hgo
 repeat' (first
  | (simp (maxSteps:=2000000) -implicitDefEqProofs only [go_sem,Nat.reduceLT,Nat.reduceAdd,Nat.reduceMul,reduceIte,Nat.reduceEqDiff,reduceCtorEq,Nat.reducePow,Nat.reduceLeDiff,Int.reduceLE,Int.reduceLT,Int.reduceToNat,Int.reduceEq,Nat.reduceBEq,lgc,not_true_eq_false,Ul, *])
  | (with_reducible refine ⟨?_,?_⟩; (· first | (obtain ⟨rfl⟩:=‹Hq _ _›; with_reducible refine chk_ok ?_; kernel_rfl) | kernel_rfl))
  | (with_reducible intro opz hopz)
  | (simp -implicitDefEqProofs (disch:=omega) only [wr64,wru64,get_lt,ltc,ltf,lec,lef,YJ,YK])
  | ((with_reducible first | refine call_id ?_ | refine callF_id ?_); (first | refine cl c1 ?_ | refine cl c2 ?_ | refine cl c3 ?_ | refine cl c4 ?_ | refine cl c5 ?_ | refine cl c6 ?_ | refine cl c7 ?_ | refine cl c8 ?_ | refine cl c9 ?_ | refine cl c10 ?_ | refine cd e1 ?_ | refine cd e2 ?_ | refine cd e3 ?_ | refine cd e4 ?_ | refine cd e5 ?_ | refine ck c1 ?_ | refine ck c2 ?_ | refine ck c3 ?_ | refine ck c4 ?_ | refine ck c5 ?_ | refine ck c6 ?_ | refine ck c7 ?_ | refine ck c8 ?_ | refine ck c9 ?_ | refine ck c10 ?_))
  | ((first | refine Wc_split (fun hg=>?_) (fun hg=>?_) | refine RoG_split (fun hg=>?_) (fun hg=>?_) | refine RdG_split (fun hg=>?_) (fun hg=>?_)) <;> (try simp only [nrm,eq_self,not_true_eq_false] at hg) <;> (try simp only [hg,lgc,reduceIte,reduceCtorEq] at hR) <;> (try (exfalso; omega)))
  | exact cb b1 | exact cb b2 | exact cb b3 | exact cb b4 | exact cb b5
  | ((try simp only [*,lgc,reduceIte,reduceCtorEq] at hR); (try obtain ⟨rfl⟩:=hR); refine fin_q rfl ?_; (try simp only [go_sem,Nat.reduceLT,Nat.reduceAdd,Nat.reduceMul,reduceIte,Nat.reduceEqDiff,reduceCtorEq,Nat.reducePow,Nat.reduceLeDiff,Int.reduceLE,Int.reduceLT,Int.reduceToNat,Int.reduceEq,Nat.reduceBEq]); (first | (simp; done) | (simp; omega) | (simp [*]; done) | (simp [*]; omega)))
  | ((try simp only [*,lgc,reduceIte,reduceCtorEq] at hR); (try obtain ⟨rfl⟩:=hR); refine fin_d d1 rfl ?_ ?_ rfl ?_ rfl <;> (try simp only [go_sem,Nat.reduceLT,Nat.reduceAdd,Nat.reduceMul,reduceIte,Nat.reduceEqDiff,reduceCtorEq,Nat.reducePow,Nat.reduceLeDiff,Int.reduceLE,Int.reduceLT,Int.reduceToNat,Int.reduceEq,Nat.reduceBEq]) <;> (simp; done)))
 all_goals (repeat (revert hg))
 all_goals (try (have hR:=hR; revert hR))
 all_goals (try (revert hopz; revert opz))
 all_goals exact hgo.down):Q:=h ⟨g⟩
attribute [local simp] fnd
theorem DW {j:Nat} {G:Nat->Ob}:∀ {l:List (Nat × Ob)},j ∉ l.map (·.1)->Bc l G j=G j
 | [],_=>rfl
 | (a,x) :: t,h=>by
  simp only [List.map_cons,List.mem_cons,not_or] at h
  simp only [Bc]; rw [upd_ne _ _ h.1]; exact DW h.2
theorem Ho {j:Nat} {G G':Nat->Ob}:∀ {l:List (Nat × Ob)},j∈l.map (·.1)->Bc l G j=Bc l G' j
 | (a,x) :: t,h=>by
  simp only [Bc]
  by_cases e:j=a
  ·subst e; rw [upd_same,upd_same]
  ·rw [upd_ne _ _ e,upd_ne _ _ e]
   simp only [List.map_cons,List.mem_cons] at h
   exact Ho (h.resolve_left e)
theorem GQ {P:Program} {f:FuncId} {ds gs:List D} {r:D} {objs objs':List (Nat × Ob)} {n:Nat} {σ:St} {ks:List Fr} {Q:Ex->St->Prop} {rid k:Nat} {ops:Array Oper} {rest:List It} {acc:Acc} {dst:Option Nat} (ρ ρ':List (Nat × Nat)) (new:List (Nat × Ob)) (hL:aN P f ds (hF objs) r (hOf (hF objs) objs'))
  (h:Rd P n rid ops rest ((k,new.map (·.1),new.map (·.1)) :: acc) (St.put ⟨σ.sl,Bc new σ.H⟩ dst r) ks Q)
  (hgs:∀ G,jU (new.map (·.1)) G σ.H->cvs G [] (fnd ρ) gs ds:=by intro G hG; simp at hG; simp [hG,and_assoc,cvs,fnd])
  (ho:∀ G,jU (new.map (·.1)) G σ.H->∀ p∈objs,∃ o,fnd ρ p.1=some o/\cvO G [] (fnd ρ) (G o) p.2:=by intro G hG; simp [hF,lk] at hG; simp [hG,fnd,and_assoc,hF,lk]) (hk:(ρ.all fun q=>objs.any fun p=>p.1 == q.1)=true:=by rfl)
  (hinj:(ρ.all fun p=>ρ.all fun q=>p.2 != q.2 || p.1 == q.1)=true:=by rfl)
  (hn:∀ p∈new,∃ l,fnd ρ' p.1=some l/\cvO (hOf (hF objs) objs') [] (fnd ρ') (hOf (hF objs) objs' l) p.2:=by simp [fnd,and_assoc,hF,hOf,lk]) (hk':(ρ'.all fun q=>new.any fun p=>p.1 == q.1)=true:=by rfl)
  (hinj':(ρ'.all fun p=>ρ'.all fun q=>p.2 != q.2 || p.1 == q.1)=true:=by rfl) (hr':cv (hOf (hF objs) objs') [] (fnd ρ') r r:=by simp)
  (hback:(ρ.all fun p=>fnd ρ' p.2 == some p.1)=true:=by simp [fnd]) (hnew:∀ G,jU (new.map (·.1)) G σ.H->∀ q∈ρ',fnd ρ q.2=some q.1\/G q.1=.fresh:=by intro G hG; simp [fnd,hF,lk,noH]):jV P n rid ops f gs k dst rest acc σ ks Q :=
 ⟨⟨r,new.map (·.1),new.map (·.1),fun G=>Bc new G⟩,⟨⟨fun _ h=>h,fun G j hj=>DW hj,fun G G' _ j hj=>Ho hj⟩,fun G hG=>.inl (Fq ρ ρ' hL (hgs G hG) (ho G hG) hk hinj hn hk' hinj' hr' hback (hnew G hG))⟩,h⟩
end Go.Abs
namespace Go.Proofs.YtkbbipgjmoanhaaGreatDoor
open Go Go.Abs Go.RowKit Go.Proofs.YtkbbipgjmoanhaaGreatDoor.Ty
theorem GD (c:aQ) (ok:StOk c.s) (h64:P64 c.s.pus) (m:MsgD) (hm:oh m) :
  aN Tryz.prog 19 [.pt 0 0 0 0,WE m] (hF (Ug c)) (yj (lC c m).2) (hOf (hF (Ug c)) (Ug (lC c m).1)):=by
 refine iN fun R R' hR hR'=>?_
 have c1:=XQ c.s ok.sm h64 m hm
 unfold lC at hR hR'
 by_cases e:(doS c.s m).2.err=0
 ·simp only [if_pos e] at hR hR'
  generalize doS c.s m=X at *
  clear ok h64 hm
  have d1:iV [] []:=⟨trivial⟩
  obtain ⟨rfl⟩:=hR'
  refine aa 24 Tryz.func19 rfl rfl rfl (fun o ho=>by simp [hF,lk,show o≠0 by omega,show o≠1 by omega,show o≠2 by omega,show o≠3 by omega,show o≠4 by omega,show o≠5 by omega]) ?_
  first | exact wkl trivial | refine wkl ?_
  all_goals (clear hR; intro hR)
  all_goals (repeat' (intro _))
  all_goals (obtain ⟨rfl⟩:=hR)
  all_goals (refine fin_d d1 rfl ?_ ?_ rfl ?_ rfl)
  all_goals (try simp only [go_sem,Nat.reduceLT,Nat.reduceAdd,Nat.reduceMul,reduceIte,Nat.reduceEqDiff,reduceCtorEq,Nat.reducePow,Nat.reduceLeDiff,Int.reduceLE,Int.reduceLT,Int.reduceToNat,Int.reduceEq,Nat.reduceBEq])
  all_goals simp [*]
 ·simp only [if_neg e] at hR hR'
  generalize doS c.s m=X at *
  clear ok h64 hm
  have d1:iV [] []:=⟨trivial⟩
  obtain ⟨rfl⟩:=hR'
  refine aa 24 Tryz.func19 rfl rfl rfl (fun o ho=>by simp [hF,lk,show o≠0 by omega,show o≠1 by omega,show o≠2 by omega,show o≠3 by omega,show o≠4 by omega,show o≠5 by omega]) ?_
  first | exact wkl trivial | refine wkl ?_
  all_goals (clear hR; intro hR)
  all_goals (repeat' (intro _))
  all_goals (obtain ⟨rfl⟩:=hR)
  all_goals (refine fin_d d1 rfl ?_ ?_ rfl ?_ rfl)
  all_goals (try simp only [go_sem,Nat.reduceLT,Nat.reduceAdd,Nat.reduceMul,reduceIte,Nat.reduceEqDiff,reduceCtorEq,Nat.reducePow,Nat.reduceLeDiff,Int.reduceLE,Int.reduceLT,Int.reduceToNat,Int.reduceEq,Nat.reduceBEq])
  all_goals simp [*]
structure jl (c:aQ):Prop where
 ok:StOk c.s
 p64:P64 c.s.pus
 len:c.past.length<=1000
 st:∀ e∈c.past,StOk e.st
 sg:∀ e∈c.past,UD e.sg/\e.sg.hdr.next.length<=1048576
 vl:c.vals.length<=1000
 vk:∀ v∈c.vals,v.k < 18446744073709551616/\v.p < 18446744073709551616
 sl:c.seeds.length<=1000
 sk:∀ s∈c.seeds,s.length<=1000
theorem last_pastB {o:aQ} (h:¬ o.past.length=0):∃ hi:o.past.length - 1 < o.past.length,Ch o=o.past[o.past.length - 1] :=
 ⟨by omega,by unfold Ch; rw [List.getLastD_eq_getLast?,List.getLast?_eq_getElem?,List.getElem?_eq_getElem (by omega)]; rfl⟩
theorem ou:oh rE:=⟨⟨by decide,by decide⟩,DR,DR,by decide,by decide,by decide,by decide,by unfold gK; decide,by unfold gK; decide,by decide,by decide⟩
theorem Le {o:aQ} (ho:jl o) (h:¬ o.past.length=0) (t:Int):oh (Aj o t):=by
 obtain ⟨hi,e⟩:=last_pastB h
 have hg:=ho.sg _ (List.getElem_mem hi)
 rw [<- e] at hg
 have z:=ou
 exact ⟨⟨hg.1.h.root,hg.2⟩,z.up,z.up2,z.tn,z.td,z.ts,z.tr,z.fr,z.de,z.data,z.ack⟩
theorem Kw {c o:aQ} (ho:jl o) (h:¬ o.past.length=0) (i:Int):oh (Aa c o i):=by
 obtain ⟨hi,e⟩:=last_pastB h
 have hg:=ho.sg _ (List.getElem_mem hi)
 rw [<- e] at hg
 have z:=ou
 exact ⟨z.kn,⟨hg.1,Nat.le_trans ho.vl (by decide),ho.vk,hg.2⟩,z.up2,z.tn,z.td,z.ts,z.tr,z.fr,z.de,z.data,z.ack⟩
theorem Au (c o:aQ) (hc:jl c) (ho:jl o) (trust:Int) :
  aN Tryz.prog 17 [.pt 0 0 0 0,.pt 2 0 0 0,intD trust] (hF (M_ c o)) (yj (gD c o trust).2) (hOf (hF (M_ c o)) (M_ (gD c o trust).1 o)):=by
 refine iN fun R R' hR hR'=>?_
 unfold gD at hR hR'
 have hl:=ho.len
 have d1:iV [] []:=⟨trivial⟩
 by_cases h:o.past.length=0
 ·simp only [if_pos h] at hR hR'
  clear hc ho
  obtain ⟨rfl⟩:=hR'
  refine aa 44 Tryz.func17 rfl rfl rfl (fun o ho=>by simp [hF,lk,show o≠0 by omega,show o≠1 by omega,show o≠2 by omega,show o≠3 by omega,show o≠4 by omega,show o≠5 by omega]) ?_
  first | exact wkl trivial | refine wkl ?_
  all_goals (clear hR; intro hR)
  all_goals (repeat' (intro _))
  all_goals (obtain ⟨rfl⟩:=hR)
  all_goals (refine fin_d d1 rfl ?_ ?_ rfl ?_ rfl)
  all_goals (try simp only [go_sem,Nat.reduceLT,Nat.reduceAdd,Nat.reduceMul,reduceIte,Nat.reduceEqDiff,reduceCtorEq,Nat.reducePow,Nat.reduceLeDiff,Int.reduceLE,Int.reduceLT,Int.reduceToNat,Int.reduceEq,Nat.reduceBEq])
  all_goals simp [*]
 ·simp only [if_neg h] at hR hR'
  have hD:=GD c hc.ok hc.p64 (Aj o trust) (Le ho h trust)
  obtain ⟨hi,e⟩:=last_pastB h
  have s0:=get_lt (f:=bA) hi
  rw [<- e] at s0
  have w1:IntKind.i64.wrap ((o.past.length:Int) - 1)=((o.past.length - 1:Nat):Int):=by rw [ay (by omega) (by omega)]; omega
  generalize lC c (Aj o trust)=X at hD hR hR'
  simp only [Aj,ofH] at hD
  clear hc ho e
  generalize Ch o=z at *
  obtain ⟨rfl⟩:=hR'
  refine aa 44 Tryz.func17 rfl rfl rfl (fun o ho=>by simp [hF,lk,show o≠0 by omega,show o≠1 by omega,show o≠2 by omega,show o≠3 by omega,show o≠4 by omega,show o≠5 by omega]) ?_
  refine wkl ?_
  clear hR; intro hR
  repeat' (intro _)
  refine bV [(0,0),(1,1)] [(0,0),(1,1)] [(0,.box (ma X.1 1)),(1,.arr 18 (X.1.past.map bA))] hD ?_
  clear hD
  first | exact wkl trivial | refine wkl ?_
  all_goals (clear hR; intro hR)
  all_goals (repeat' (intro _))
  all_goals (obtain ⟨rfl⟩:=hR)
  all_goals (refine fin_d d1 rfl ?_ ?_ rfl ?_ rfl)
  all_goals (try simp only [go_sem,Nat.reduceLT,Nat.reduceAdd,Nat.reduceMul,reduceIte,Nat.reduceEqDiff,reduceCtorEq,Nat.reducePow,Nat.reduceLeDiff,Int.reduceLE,Int.reduceLT,Int.reduceToNat,Int.reduceEq,Nat.reduceBEq])
  all_goals simp [*]
theorem Ar (c o:aQ) (hc:jl c) (ho:jl o) (i:Int) :
  aN Tryz.prog 18 [.pt 0 0 0 0,.pt 2 0 0 0,intD i] (hF (M_ c o)) (yj (gB c o i).2) (hOf (hF (M_ c o)) (M_ (gB c o i).1 o)):=by
 refine iN fun R R' hR hR'=>?_
 unfold gB at hR hR'
 have hl:=ho.len
 have hlc:=hc.ok.lcl
 have d1:iV [] []:=⟨trivial⟩
 by_cases h:o.past.length=0\/i < 0\/(c.s.cls.length:Int)<=i
 ·simp only [if_pos h] at hR hR'
  clear hc ho
  obtain ⟨rfl⟩:=hR'
  by_cases p0:((o.past.length:Nat):Int)=0
  ·clear h
   refine aa 67 Tryz.func18 rfl rfl rfl (fun o ho=>by simp [hF,lk,show o≠0 by omega,show o≠1 by omega,show o≠2 by omega,show o≠3 by omega,show o≠4 by omega,show o≠5 by omega]) ?_
   first | exact wkl trivial | refine wkl ?_
   all_goals (clear hR; intro hR)
   all_goals (repeat' (intro _))
   all_goals (obtain ⟨rfl⟩:=hR)
   all_goals (refine fin_d d1 rfl ?_ ?_ rfl ?_ rfl)
   all_goals (try simp only [go_sem,Nat.reduceLT,Nat.reduceAdd,Nat.reduceMul,reduceIte,Nat.reduceEqDiff,reduceCtorEq,Nat.reducePow,Nat.reduceLeDiff,Int.reduceLE,Int.reduceLT,Int.reduceToNat,Int.reduceEq,Nat.reduceBEq])
   all_goals simp [*]
  ·by_cases p1:i < 0
   ·clear h
    refine aa 67 Tryz.func18 rfl rfl rfl (fun o ho=>by simp [hF,lk,show o≠0 by omega,show o≠1 by omega,show o≠2 by omega,show o≠3 by omega,show o≠4 by omega,show o≠5 by omega]) ?_
    first | exact wkl trivial | refine wkl ?_
    all_goals (clear hR; intro hR)
    all_goals (repeat' (intro _))
    all_goals (obtain ⟨rfl⟩:=hR)
    all_goals (refine fin_d d1 rfl ?_ ?_ rfl ?_ rfl)
    all_goals (try simp only [go_sem,Nat.reduceLT,Nat.reduceAdd,Nat.reduceMul,reduceIte,Nat.reduceEqDiff,reduceCtorEq,Nat.reducePow,Nat.reduceLeDiff,Int.reduceLE,Int.reduceLT,Int.reduceToNat,Int.reduceEq,Nat.reduceBEq])
    all_goals simp [*]
   ·have p2:(c.s.cls.length:Int)<=i:=by omega
    clear h
    refine aa 67 Tryz.func18 rfl rfl rfl (fun o ho=>by simp [hF,lk,show o≠0 by omega,show o≠1 by omega,show o≠2 by omega,show o≠3 by omega,show o≠4 by omega,show o≠5 by omega]) ?_
    first | exact wkl trivial | refine wkl ?_
    all_goals (clear hR; intro hR)
    all_goals (repeat' (intro _))
    all_goals (obtain ⟨rfl⟩:=hR)
    all_goals (refine fin_d d1 rfl ?_ ?_ rfl ?_ rfl)
    all_goals (try simp only [go_sem,Nat.reduceLT,Nat.reduceAdd,Nat.reduceMul,reduceIte,Nat.reduceEqDiff,reduceCtorEq,Nat.reducePow,Nat.reduceLeDiff,Int.reduceLE,Int.reduceLT,Int.reduceToNat,Int.reduceEq,Nat.reduceBEq])
    all_goals simp [*]
 ·simp only [if_neg h] at hR hR'
  have h0:¬ o.past.length=0:=fun e=>h (.inl e)
  have hD:=GD c hc.ok hc.p64 (Aa c o i) (Kw ho h0 i)
  obtain ⟨hi,e⟩:=last_pastB h0
  have s0:=get_lt (f:=bA) hi
  rw [<- e] at s0
  have w1:IntKind.i64.wrap ((o.past.length:Int) - 1)=((o.past.length - 1:Nat):Int):=by rw [ay (by omega) (by omega)]; omega
  have hj:i.toNat < c.s.cls.length:=by omega
  have s1:=get_lt (f:=fM) hj
  have hk:=(hc.ok.cls _ (List.getElem_mem hj)).len
  have ecl:=(eZ (s:=c.s) (i:=i) (by omega)).1
  rw [<- ecl] at s1 hk
  obtain ⟨hlt,hlast⟩:=last_get hk.1
  have s2:=get_lt (f:=iQ) hlt
  rw [<- hlast] at s2
  have w2:IntKind.i64.wrap (((kC c.s i).known.length:Int) - 1)=(((kC c.s i).known.length - 1:Nat):Int):=by rw [ay (by omega) (by omega)]; omega
  generalize lC c (Aa c o i)=X at hD hR hR'
  simp only [Aa] at hD
  have p0:¬ ((o.past.length:Nat):Int)=0:=by omega
  have p1:¬ i < 0:=by omega
  have p2:¬ (c.s.cls.length:Int)<=i:=by omega
  clear hc ho e ecl hlast h
  generalize Ch o=z at *
  generalize kC c.s i=x at *
  generalize kw x=k at *
  obtain ⟨rfl⟩:=hR'
  refine aa 67 Tryz.func18 rfl rfl rfl (fun o ho=>by simp [hF,lk,show o≠0 by omega,show o≠1 by omega,show o≠2 by omega,show o≠3 by omega,show o≠4 by omega,show o≠5 by omega]) ?_
  refine wkf ?_
  intro ops hops _
  repeat' (intro _)
  refine GQ [(0,0),(1,1)] [(0,0),(1,1)] [(0,.box (ma X.1 1)),(1,.arr 18 (X.1.past.map bA))] hD ?_
  clear hD
  first | exact wkl trivial | refine wkl ?_
  all_goals (clear hR; intro hR)
  all_goals (repeat' (intro _))
  all_goals (obtain ⟨rfl⟩:=hR)
  all_goals (refine fin_d d1 rfl ?_ ?_ rfl ?_ rfl)
  all_goals (try simp only [go_sem,Nat.reduceLT,Nat.reduceAdd,Nat.reduceMul,reduceIte,Nat.reduceEqDiff,reduceCtorEq,Nat.reducePow,Nat.reduceLeDiff,Int.reduceLE,Int.reduceLT,Int.reduceToNat,Int.reduceEq,Nat.reduceBEq])
  all_goals simp [*]
theorem Un (s:StateD) (hs:StSm s):PureD Tryz.prog 31 [stateD s] (.tup [.i (bI (jN s).1),intD (jN s).2]):=by
 refine aj fun R hR=>?_
 have c1:=Ra s hs
 unfold jN at hR
 by_cases h:bg s=0
 ·have h2:(gU s).2=0:=by unfold gU; rw [if_pos h]
  have c2:=VK (gU s).1 (uo s (aG.1 h))
  rw [if_pos h2] at hR
  rw [h2] at c1
  simp only [psI,cB] at c2
  simp only at hR
  generalize Gd (gU s).1=X at *
  generalize dD (gU s).1=Y at *
  generalize (gU s).1=B at *
  clear h h2 hs
  refine aa 24 Tryz.func31 rfl rfl rfl (fun _ _=>rfl) ?_
  exact wkl trivial
 ·have h2:gU s=([],bg s):=by unfold gU; rw [if_neg h]
  rw [h2] at c1 hR
  simp only [if_neg h] at hR c1
  generalize bg s=W at *
  clear h2 hs
  refine aa 24 Tryz.func31 rfl rfl rfl (fun _ _=>rfl) ?_
  exact wkl trivial
theorem Ka (c:aQ) (ok:StOk c.s) (h:(jN c.s).2=0):Qi (tC c):=by
 have hd:(bX c.vals).length=32:=dn _
 have hn:c.s.name.size<=1048576:=by
  have:=ok.name
  unfold mi at this
  simp at this
  omega
 have hr:(jN c.s).1.length<=1048576:=by
  unfold jN
  split
  ·unfold Gd zA FW
   split
   ·rw [dn]; omega
   ·simp
  ·simp
 exact ⟨hn,hr,by rw [show (tC c).vals=bX c.vals from rfl,hd]; omega,by rw [show (tC c).next=bX c.vals from rfl,hd]; omega⟩
theorem Fx (c:aQ) (hc:jl c) (later:Int) :
  aN Tryz.prog 16 [.pt 0 0 0 0,intD later] (hF (Ug c)) (yj (dh c later).2) (hOf (hF (Ug c)) (if (dh c later).2.err=0 then [(0,.box (ma (dh c later).1 2)),(1,.dead),(2,.arr 18 ((dh c later).1.past.map bA))] else Ug c)):=by
 refine iN fun R R' hR hR'=>?_
 have c1:=Qb c.s hc.ok.sm later
 have c2:=Un c.s hc.ok.sm
 have hl:=hc.len
 have hvl:=hc.vl
 unfold dh at hR hR'
 by_cases h1:(jh c.s later).2=0
 ·simp only [if_pos h1] at hR hR'
  rw [h1] at c1
  by_cases h2:(jN c.s).2=0
  ·simp only [if_pos h2] at hR hR'
   have c3:=kU c.vals (by omega) hc.vk
   have c4:=TG (tC c) c.vals c.seeds (Ka c hc.ok h2) (by omega) hc.vk ⟨by have:=hc.sl; omega,fun s hs=>by have:=hc.sk s hs; omega⟩
   have c5:=Ih c.s hc.ok.sm
   rw [h2] at c2
   by_cases h3:(ko (tC c) c.vals c.seeds).2=0
   ·simp only [if_pos h3] at hR hR'
    rw [h3] at c4
    generalize (ko (tC c) c.vals c.seeds).1=sg at *
    simp only [tC,hdrD] at c4
    have m1:c.past.map bA++[bA (⟨sg,c.s⟩:EndD)]=(c.past++[(⟨sg,c.s⟩:EndD)]).map bA:=by simp
    have m2:c.past.length+1=(c.past++[(⟨sg,c.s⟩:EndD)]).length:=by simp
    simp only [bA,valsI,votesI,bI] at m1
    generalize c.past++[(⟨sg,c.s⟩:EndD)]=L at *
    generalize (jh c.s later).1=N at *
    generalize jN c.s=Ro at *
    generalize bX c.vals=D at *
    have d1:iV [] [(2,3829)]:=⟨trivial⟩
    clear hc h1 h2 h3
    obtain ⟨rfl⟩:=hR'
    refine aa 101 Tryz.func16 rfl rfl rfl (fun o ho=>by simp [hF,lk,show o≠0 by omega,show o≠1 by omega,show o≠2 by omega,show o≠3 by omega,show o≠4 by omega,show o≠5 by omega]) ?_
    first | exact wkl trivial | refine wkl ?_
    all_goals (clear hR; intro hR)
    all_goals (repeat' (intro _))
    all_goals (obtain ⟨rfl⟩:=hR)
    all_goals (refine fin_d d1 rfl ?_ ?_ rfl ?_ rfl)
    all_goals (try simp only [go_sem,Nat.reduceLT,Nat.reduceAdd,Nat.reduceMul,reduceIte,Nat.reduceEqDiff,reduceCtorEq,Nat.reducePow,Nat.reduceLeDiff,Int.reduceLE,Int.reduceLT,Int.reduceToNat,Int.reduceEq,Nat.reduceBEq])
    all_goals simp [*]
   ·simp only [if_neg h3] at hR hR'
    generalize ko (tC c) c.vals c.seeds=S at *
    simp only [tC,hdrD] at c4
    simp only [dE,if_neg h3] at hR hR'
    generalize jh c.s later=N at *
    generalize jN c.s=Ro at *
    generalize bX c.vals=D at *
    have d1:iV [] []:=⟨trivial⟩
    clear hc h1 h2 c5
    obtain ⟨rfl⟩:=hR'
    refine aa 101 Tryz.func16 rfl rfl rfl (fun o ho=>by simp [hF,lk,show o≠0 by omega,show o≠1 by omega,show o≠2 by omega,show o≠3 by omega,show o≠4 by omega,show o≠5 by omega]) ?_
    first | exact wkl trivial | refine wkl ?_
    all_goals (clear hR; intro hR)
    all_goals (repeat' (intro _))
    all_goals (obtain ⟨rfl⟩:=hR)
    all_goals (refine fin_d d1 rfl ?_ ?_ rfl ?_ rfl)
    all_goals (try simp only [go_sem,Nat.reduceLT,Nat.reduceAdd,Nat.reduceMul,reduceIte,Nat.reduceEqDiff,reduceCtorEq,Nat.reducePow,Nat.reduceLeDiff,Int.reduceLE,Int.reduceLT,Int.reduceToNat,Int.reduceEq,Nat.reduceBEq])
    all_goals simp [*]
  ·simp only [if_neg h2] at hR hR'
   simp only [dE,if_neg h2] at hR hR'
   generalize jh c.s later=N at *
   generalize jN c.s=Ro at *
   have d1:iV [] []:=⟨trivial⟩
   clear hc h1
   obtain ⟨rfl⟩:=hR'
   refine aa 101 Tryz.func16 rfl rfl rfl (fun o ho=>by simp [hF,lk,show o≠0 by omega,show o≠1 by omega,show o≠2 by omega,show o≠3 by omega,show o≠4 by omega,show o≠5 by omega]) ?_
   first | exact wkl trivial | refine wkl ?_
   all_goals (clear hR; intro hR)
   all_goals (repeat' (intro _))
   all_goals (obtain ⟨rfl⟩:=hR)
   all_goals (refine fin_d d1 rfl ?_ ?_ rfl ?_ rfl)
   all_goals (try simp only [go_sem,Nat.reduceLT,Nat.reduceAdd,Nat.reduceMul,reduceIte,Nat.reduceEqDiff,reduceCtorEq,Nat.reducePow,Nat.reduceLeDiff,Int.reduceLE,Int.reduceLT,Int.reduceToNat,Int.reduceEq,Nat.reduceBEq])
   all_goals simp [*]
 ·simp only [if_neg h1] at hR hR'
  simp only [dE,if_neg h1] at hR hR'
  generalize jh c.s later=N at *
  have d1:iV [] []:=⟨trivial⟩
  clear hc c2
  obtain ⟨rfl⟩:=hR'
  refine aa 101 Tryz.func16 rfl rfl rfl (fun o ho=>by simp [hF,lk,show o≠0 by omega,show o≠1 by omega,show o≠2 by omega,show o≠3 by omega,show o≠4 by omega,show o≠5 by omega]) ?_
  first | exact wkl trivial | refine wkl ?_
  all_goals (clear hR; intro hR)
  all_goals (repeat' (intro _))
  all_goals (obtain ⟨rfl⟩:=hR)
  all_goals (refine fin_d d1 rfl ?_ ?_ rfl ?_ rfl)
  all_goals (try simp only [go_sem,Nat.reduceLT,Nat.reduceAdd,Nat.reduceMul,reduceIte,Nat.reduceEqDiff,reduceCtorEq,Nat.reducePow,Nat.reduceLeDiff,Int.reduceLE,Int.reduceLT,Int.reduceToNat,Int.reduceEq,Nat.reduceBEq])
  all_goals simp [*]
theorem VG (s m:List UInt8):AB s m < 18446744073709551616:=Nat.lt_trans (Nat.mod_lt _ (by decide)) (show pN < 18446744073709551616 by decide)
theorem VF (s m:List UInt8):sigS s m < 18446744073709551616:=Nat.lt_trans (Nat.mod_lt _ (by decide)) (show qN < 18446744073709551616 by decide)
theorem Td (s:List UInt8):keyF s < 18446744073709551616:=Nat.lt_trans (Nat.mod_lt _ (by decide)) (show pN < 18446744073709551616 by decide)
theorem Nz (h:oq) (v:dI):∀ seeds:List (List UInt8),(kE h seeds v).r < 18446744073709551616/\(kE h seeds v).s < 18446744073709551616:=by
 have key:∀ (seeds:List (List UInt8)) (x:jk),(x.r < 18446744073709551616/\x.s < 18446744073709551616)->(seeds.foldl (fun x s=>if v.k=keyF s then (⟨true,AB s (cu h),sigS s (cu h)⟩:jk) else x) x).r < 18446744073709551616/\(seeds.foldl (fun x s=>if v.k=keyF s then (⟨true,AB s (cu h),sigS s (cu h)⟩:jk) else x) x).s < 18446744073709551616:=by
  intro seeds
  induction seeds with
  | nil=>exact fun x hx=>hx
  | cons a t ih =>
   intro x hx
   rw [List.foldl_cons]
   refine ih _ ?_
   split
   ·exact ⟨VG _ _,VF _ _⟩
   ·exact hx
 exact fun seeds=>key seeds ⟨false,0,0⟩ ⟨by decide,by decide⟩
theorem sign_fst {h:oq} {vals:List dI} {seeds:List (List UInt8)} (e:(ko h vals seeds).2=0):(ko h vals seeds).1=⟨h,vals,vals.map (kE h seeds)⟩/\fo h=0/\jf vals=0/\bX vals=h.vals:=by
 unfold ko at e ⊢
 split at e
 ·rename_i a
  rw [if_pos a]
  split at e
  ·rename_i b
   rw [if_pos b]
   split at e
   ·rename_i d
    rw [if_pos d]
    exact ⟨rfl,a,b,d⟩
   ·cases e
  ·exact absurd e ‹_›
 ·exact absurd e ‹_›
theorem FH {c:aQ} (hc:jl c) (m:MsgD):jl (lC c m).1:=by
 unfold lC
 split
 ·rename_i h
  have hs:=doS_step hc.p64 h
  exact ⟨hs.ok,hs.p64,hc.len,hc.st,hc.sg,hc.vl,hc.vk,hc.sl,hc.sk⟩
 ·exact hc
theorem nextS_ok {s:StateD} {later:Int} (h:(jh s later).2=0):StOk s/\(1<=later/\later<=1000000000000)/\jh s later=({ s with h:=s.h+1,t:=s.t+later },0)/\StOk (jh s later).1:=by
 unfold jh at h ⊢
 by_cases h1:bg s=0
 ·rw [if_pos h1] at h ⊢
  by_cases h2:later < 1\/1000000000000 < later\/1000000000000 < s.t+later\/s.h=1000000000000
  ·rw [if_pos h2] at h; cases h
  ·rw [if_neg h2]
   have ok:=aG.1 h1
   have a:=ok.h
   have b:=ok.t
   unfold N12 at a b
   exact ⟨ok,by omega,rfl,⟨ok.name,by unfold N12; simp only; omega,by unfold N12; simp only; omega,ok.lcl,ok.lcn,ok.lch,ok.lsent,ok.lgot,ok.lacks,ok.lpus,ok.cls,ok.cns,ok.chs,ok.sent,ok.got,ok.acks,ok.pus⟩⟩
 ·rw [if_neg h1] at h; exact absurd h h1
theorem block_done {c:aQ} {later:Int} (h:(dh c later).2.err=0):(jh c.s later).2=0/\(jN c.s).2=0/\(ko (tC c) c.vals c.seeds).2=0 /\
  dh c later=({ c with s:=(jh c.s later).1,past:=c.past++[⟨(ko (tC c) c.vals c.seeds).1,c.s⟩] },⟨0,((c.past.length+1:Nat):Int),zeroPk⟩):=by
 unfold dh at h ⊢
 by_cases h1:(jh c.s later).2=0
 ·rw [if_pos h1] at h ⊢
  by_cases h2:(jN c.s).2=0
  ·rw [if_pos h2] at h ⊢
   by_cases h3:(ko (tC c) c.vals c.seeds).2=0
   ·rw [if_pos h3]; exact ⟨h1,h2,h3,rfl⟩
   ·rw [if_neg h3] at h; exact absurd h h3
  ·rw [if_neg h2] at h; exact absurd h h2
 ·rw [if_neg h1] at h; exact absurd h h1
theorem jH {c:aQ} {later:Int} (h:¬ (dh c later).2.err=0):(dh c later).1=c:=by
 unfold dh at h ⊢
 by_cases h1:(jh c.s later).2=0
 ·rw [if_pos h1] at h ⊢
  by_cases h2:(jN c.s).2=0
  ·rw [if_pos h2] at h ⊢
   by_cases h3:(ko (tC c) c.vals c.seeds).2=0
   ·rw [if_pos h3] at h; exact absurd rfl h
   ·rw [if_neg h3]
  ·rw [if_neg h2]
 ·rw [if_neg h1]
theorem PV {c:aQ} (hc:jl c) (later:Int) (hl:c.past.length < 1000):jl (dh c later).1:=by
 by_cases h:(dh c later).2.err=0
 ·obtain ⟨h1,h2,h3,e⟩:=block_done h
  rw [e]
  obtain ⟨a,b,d,f⟩:=nextS_ok h1
  obtain ⟨g,_⟩:=sign_fst h3
  have hh:=Ka c hc.ok h2
  refine ⟨f,by rw [d]; exact hc.p64,by simp; omega,fun x hx=>?_,fun x hx=>?_,hc.vl,hc.vk,hc.sl,hc.sk⟩
  ·rcases List.mem_append.1 hx with hx | hx
   ·exact hc.st x hx
   ·rw [List.mem_singleton.1 hx]; exact hc.ok
  ·rcases List.mem_append.1 hx with hx | hx
   ·exact hc.sg x hx
   ·rw [List.mem_singleton.1 hx,g]
    refine ⟨⟨hh,by have:=hc.vl; simp only; omega,hc.vk,fun y hy=>?_⟩,hh.next⟩
    obtain ⟨v,_,rfl⟩:=List.mem_map.1 hy
    exact Nz _ v _
 ·rw [jH h]; exact hc
theorem Ez {c o:aQ} (hc:jl c) (hl:c.past.length < 1000) (e:EvD):jl (fB c o e).1:=by
 unfold fB gD gB
 split
 ·exact PV hc _ hl
 ·split
  ·split
   ·exact hc
   ·exact FH hc _
  ·split
   ·split
    ·exact hc
    ·exact FH hc _
   ·split
    ·exact FH hc _
    ·split
     ·exact FH hc _
     ·exact hc
theorem act_past (c:aQ) (m:MsgD):(lC c m).1.past=c.past/\(lC c m).1.vals=c.vals/\(lC c m).1.seeds=c.seeds:=by
 unfold lC; split <;> exact ⟨rfl,rfl,rfl⟩
theorem GA (c:aQ) (later:Int):(dh c later).1.past.length<=c.past.length+1/\(dh c later).1.vals=c.vals/\(dh c later).1.seeds=c.seeds:=by
 by_cases h:(dh c later).2.err=0
 ·rw [(block_done h).2.2.2]; exact ⟨by simp,rfl,rfl⟩
 ·rw [jH h]; exact ⟨by omega,rfl,rfl⟩
theorem Ey (c o:aQ) (e:EvD):(fB c o e).1.past.length<=c.past.length+1/\(fB c o e).1.vals=c.vals/\(fB c o e).1.seeds=c.seeds:=by
 have ha:∀ m,(lC c m).1.past.length<=c.past.length+1/\(lC c m).1.vals=c.vals/\(lC c m).1.seeds=c.seeds:=fun m=>by
  obtain ⟨a,b,d⟩:=act_past c m
  rw [a,b,d]; exact ⟨by omega,rfl,rfl⟩
 have hn:c.past.length<=c.past.length+1/\c.vals=c.vals/\c.seeds=c.seeds:=⟨by omega,rfl,rfl⟩
 unfold fB gD gB
 split
 ·exact GA c _
 ·split
  ·split
   ·exact hn
   ·exact ha _
  ·split
   ·split
    ·exact hn
    ·exact ha _
   ·split
    ·exact ha _
    ·split
     ·exact ha _
     ·exact hn
theorem BA {c o:aQ} {e:EvD} (h:¬ (fB c o e).2.err=0):(fB c o e).1=c:=by
 have ha:∀ m,¬ (lC c m).2.err=0->(lC c m).1=c:=fun m h=>by
  have h':¬ (doS c.s m).2.err=0:=h
  unfold lC; rw [if_neg h']
 unfold fB gD gB at h ⊢
 split
 ·rename_i k; rw [if_pos k] at h; exact jH h
 ·rename_i k; rw [if_neg k] at h; split
  ·rename_i k; rw [if_pos k] at h; split
   ·rfl
   ·rename_i k; rw [if_neg k] at h; exact ha _ h
  ·rename_i k; rw [if_neg k] at h; split
   ·rename_i k; rw [if_pos k] at h; split
    ·rfl
    ·rename_i k; rw [if_neg k] at h; exact ha _ h
   ·rename_i k; rw [if_neg k] at h; split
    ·rename_i k; rw [if_pos k] at h; exact ha _ h
    ·rename_i k; rw [if_neg k] at h; split
     ·rename_i k; rw [if_pos k] at h; exact ha _ h
     ·rfl
theorem NI {w:mG} {e:EvD} (h:¬ (stepB w e).2.err=0):(stepB w e).1=w:=by
 unfold stepB at h ⊢
 split
 ·rename_i k; rw [if_pos k] at h; simp only at h ⊢; rw [BA h]
 ·rename_i k; rw [if_neg k] at h; split
  ·rename_i k; rw [if_pos k] at h; simp only at h ⊢; rw [BA h]
  ·rfl
theorem Ii {c o:aQ} {m:MsgD} (hm:oh m):oh (rR c o m):=by
 have key:∀ (w:bJ) (n:Int),oh { m with sh:=w,next:=n }:=fun w n=>⟨hm.kn,hm.up,hm.up2,hm.tn,hm.td,hm.ts,hm.tr,hm.fr,hm.de,hm.data,hm.ack⟩
 unfold rR Ij
 split
 ·exact key _ _
 ·split
  ·exact key _ _
  ·split
   ·exact key _ _
   ·exact key _ _
structure uz (w:mG) (n:Nat):Prop where
 a:jl w.1
 b:jl w.2
 la:w.1.past.length<=n
 lb:w.2.past.length<=n
theorem step_ok {w:mG} {n:Nat} (h:uz w n) (hn:n < 1000) (e:EvD):uz (stepB w e).1 (n+1):=by
 have la:=h.la
 have lb:=h.lb
 unfold stepB
 split
 ·have:=(Ey w.1 w.2 e).1
  exact ⟨Ez h.a (by omega) e,h.b,by simp only; omega,by simp only; omega⟩
 ·split
  ·have:=(Ey w.2 w.1 e).1
   exact ⟨h.a,Ez h.b (by omega) e,by simp only; omega,by simp only; omega⟩
  ·exact ⟨h.a,h.b,by simp only; omega,by simp only; omega⟩
theorem uU:∀ (l:List EvD) {w:mG} {n:Nat},uz w n->n+l.length<=1000->uz (eG w l).1 (n+l.length)
 | [],w,n,h,_=>h
 | e :: t,w,n,h,hn=>by
  simp only [List.length_cons] at hn
  have:=uU t (step_ok h (by omega) e) (by omega)
  simp only [eG,List.length_cons]
  rw [show n+(t.length+1)=n+1+t.length by omega]; exact this
theorem insV_mem {v x:dI}:∀ {l:List dI},x∈OQ v l->x=v\/x∈l
 | [],h=>by simp [OQ] at h; exact .inl h
 | a :: t,h=>by
  simp only [OQ] at h
  split at h
  ·rcases List.mem_cons.1 h with h | h
   ·exact .inl h
   ·exact .inr h
  ·rcases List.mem_cons.1 h with h | h
   ·exact .inr (List.mem_cons.2 (.inl h))
   ·rcases insV_mem h with h | h
    ·exact .inl h
    ·exact .inr (List.mem_cons.2 (.inr h))
theorem EI (v:dI):∀ l:List dI,(OQ v l).length=l.length+1
 | []=>rfl
 | a :: t=>by simp only [OQ]; split <;> simp [EI v t]
theorem Rp (name:ByteArray):∀ v∈FR name,v.k < 18446744073709551616/\v.p < 18446744073709551616:=by
 intro v hv
 have h1:∀ s,keyF s < 18446744073709551616:=Td
 rcases insV_mem hv with rfl | hv
 ·exact ⟨h1 _,by show (1:Nat) < _; decide⟩
 ·rcases insV_mem hv with rfl | hv
  ·exact ⟨h1 _,by show (1:Nat) < _; decide⟩
  ·rw [List.mem_singleton.1 hv]; exact ⟨h1 _,by show (1:Nat) < _; decide⟩
theorem Fv {name owner denom:ByteArray} (hn:mi name=true) (hs:name.size<=20) (ho:1<=owner.size/\owner.size<=40) (hd:1<=denom.size/\denom.size<=40):jl (aU name owner denom):=by
 refine ⟨⟨hn,(show N12 0 1 by unfold N12; decide),(show N12 0 1 by unfold N12; decide),by simp [aU],by simp [aU],by simp [aU],by simp [aU],by simp [aU],by simp [aU],by simp [aU],by simp [aU],by simp [aU],by simp [aU],⟨by simp [aU],List.Pairwise.nil⟩,⟨by simp [aU],List.Pairwise.nil⟩,⟨by simp [aU],List.Pairwise.nil⟩,⟨fun p hp=>?_,List.pairwise_singleton ..⟩⟩,?_,by simp [aU],by simp [aU],by simp [aU],by simp [aU,FR,EI],Rp name,by simp [aU],fun s hs'=>?_⟩
 ·simp only [aU,List.mem_singleton] at hp
  subst hp
  exact ⟨ho,hd,(show (1000:Nat)≠0 by decide)⟩
 ·intro p hp
  simp only [aU,List.mem_singleton] at hp
  subst hp
  show (1000:Nat) < _; decide
 ·have hb:∀ i:Nat,i < 10->(seedB name i).length<=1000:=fun i hi=>by
   have:=Lib.itoa_length_le (i:Int) (by omega) (by omega)
   have hz:name.data.toList.length=name.size:=rfl
   simp only [seedB,List.length_append]; omega
  simp only [aU,List.mem_cons,List.not_mem_nil,or_false] at hs'
  rcases hs' with rfl | rfl | rfl <;> exact hb _ (by decide)
def nmA:ByteArray:=⟨#[97]⟩
def nmB:ByteArray:=⟨#[98]⟩
def ownA:ByteArray:=⟨#[97,110,110]⟩
def Bu:ByteArray:=⟨#[98,111,98]⟩
def goldA:ByteArray:=⟨#[103,111,108,100]⟩
def kG:ByteArray:=⟨#[115,105,108,118,101,114]⟩
def begin2:mG:=(aU nmA ownA goldA,aU nmB Bu kG)
theorem begin2_ok:uz begin2 0:=⟨Fv (by decide) (by decide) (by decide) (by decide),Fv (by decide) (by decide) (by decide) (by decide),Nat.le_refl _,Nat.le_refl _⟩
def playB (l:List EvD):mG × List kz:=eG begin2 l
def DU (w:mG):D:=.agg [.i (.s (.string w.1.s.name)),.i (.s (.int .i64 w.1.s.h)),.i (.s (.int .i64 w.1.s.t)),.i (.sl (w.1.s.cls.map fM)),.i (.sl (w.1.s.cns.map dA)),.i (.sl (w.1.s.chs.map bu)),.i (.sl (w.1.s.sent.map bq)),.i (.sl (w.1.s.got.map bq)),.i (.sl (w.1.s.acks.map bq)),.i (.sl (w.1.s.pus.map aV)),
 .i (.s (.string w.2.s.name)),.i (.s (.int .i64 w.2.s.h)),.i (.s (.int .i64 w.2.s.t)),.i (.sl (w.2.s.cls.map fM)),.i (.sl (w.2.s.cns.map dA)),.i (.sl (w.2.s.chs.map bu)),.i (.sl (w.2.s.sent.map bq)),.i (.sl (w.2.s.got.map bq)),.i (.sl (w.2.s.acks.map bq)),.i (.sl (w.2.s.pus.map aV))]
end Go.Proofs.YtkbbipgjmoanhaaGreatDoor
