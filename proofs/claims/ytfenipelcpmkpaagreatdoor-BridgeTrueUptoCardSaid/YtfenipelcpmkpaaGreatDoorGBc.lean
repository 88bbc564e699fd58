/- Merged texts: BrS, WkF, BrC, BrD, BrL. -/
import Derived.Test.YtfenipelcpmkpaaGreatDoorGBr
set_option linter.all false
set_option maxHeartbeats 32000000
set_option maxRecDepth 20000
namespace Go.Abs
open Go Go.RowKit
attribute [local simp] fnd
theorem cB {P:Program} {f:FuncId} {ds gs:List D} {r:D} {objs objs':List (Nat × Ob)} {n:Nat} {σ:St} {ks:List Fr} {Q:Ex->St->Prop} {rid:Nat} {rest:List It} {dst:Option Nat} (ρ ρ':List (Nat × Nat)) (new:List (Nat × Ob)) (hL:aT P f ds (hF objs) r (hOf (hF objs) objs')) (h:Ro P n rid rest (St.put ⟨σ.sl,BB new σ.H⟩ dst r) ks Q)
  (hgs:cvs σ.H [] (fnd ρ) gs ds:=by simp [and_assoc,cvs,fnd]) (ho:∀ p∈objs,∃ o,fnd ρ p.1=some o/\cvO σ.H [] (fnd ρ) (σ.H o) p.2:=by simp [fnd,and_assoc,hF,lk]) (hk:(ρ.all fun q=>objs.any fun p=>p.1 == q.1)=true:=by rfl)
  (hinj:(ρ.all fun p=>ρ.all fun q=>p.2 != q.2 || p.1 == q.1)=true:=by rfl)
  (hn:∀ p∈new,∃ l,fnd ρ' p.1=some l/\cvO (hOf (hF objs) objs') [] (fnd ρ') (hOf (hF objs) objs' l) p.2:=by simp [fnd,and_assoc,hF,hOf,lk]) (hk':(ρ'.all fun q=>new.any fun p=>p.1 == q.1)=true:=by rfl)
  (hinj':(ρ'.all fun p=>ρ'.all fun q=>p.2 != q.2 || p.1 == q.1)=true:=by rfl) (hr':cv (hOf (hF objs) objs') [] (fnd ρ') r r:=by simp)
  (hback:(ρ.all fun p=>fnd ρ' p.2 == some p.1)=true:=by simp [fnd]) (hnew:∀ q∈ρ',fnd ρ q.2=some q.1\/σ.H q.1=.fresh:=by simp [fnd,hF,lk,noH]):Call P n rid f gs dst rest σ ks Q :=
 rY ρ ρ' new r hL h hgs ho hk hinj hn hk' hinj' hr' hback hnew
theorem fin_e {P:Program} {sl:Nat->D} {H H0:Nat->Ob} {fn:Func} {r:D} {rs:List ResultVar} {objs:List (Nat × Ob)} {F:List Nat} {src:List (Nat × Nat)} (d:ji F src) (h:fn.results=rs.toArray)
  (hv:Qg (EL P ⟨sl,H⟩ rs) H F (iG H0 src) r:=by (try simp only [go_sem,Nat.reduceLT,Nat.reduceAdd,Nat.reduceMul,reduceIte,Nat.reduceEqDiff,reduceCtorEq,Nat.reducePow,Nat.reduceLeDiff,Int.reduceLE,Int.reduceLT,Int.reduceToNat,Int.reduceEq,Nat.reduceBEq]); simp [*]) (ho:∀ p∈objs,bC H F (iG H0 src) p:=by simp [*])
  (hk:(src.all fun p=>objs.any fun q=>q.1 == p.1)=true:=by rfl) (hf:∀ p∈src,H0 p.2=.fresh:=by simp [*]) (hinj:(src.all fun p=>src.all fun q=>p.2 != q.2 || p.1 == q.1)=true:=by rfl):Fin P fn H0 r (hOf H0 objs) .ret ⟨sl,H⟩ :=
 fin_d d h hv ho hk hf hinj
end Go.Abs
namespace Go.Proofs.YtfenipelcpmkpaaGreatDoor
open Go Go.Abs Go.RowKit Go.Proofs.YtfenipelcpmkpaaGreatDoor.Ty
def Vk (c:aJ):List (Nat × Ob):=[(0,.box (mE c 1)),(1,.arr 18 (c.past.map bE))]
def NR (c o:aJ):List (Nat × Ob):=[(0,.box (mE c 1)),(1,.arr 18 (c.past.map bE)),(2,.box (mE o 3)),(3,.arr 18 (o.past.map bE))]
attribute [simp,go_sem] Vk NR
def qQ (l:List EndD):List aS:=l.map fun e=>ofH e.sg.hdr
def aaZ (e:EndD):D:=.agg [.i (.s (.string e.sg.hdr.c)),.i (.s (.int .i64 e.sg.hdr.h)),.i (.s (.int .i64 e.sg.hdr.t)),.i (bI e.sg.hdr.root),.i (bI e.sg.hdr.vals),.i (bI e.sg.hdr.next),.i (valsI e.sg.vals),.i (votesI e.sg.votes),
 .i (.s (.string e.st.name)),.i (.s (.int .i64 e.st.h)),.i (.s (.int .i64 e.st.t)),.i (.sl (e.st.cls.map fZ)),.i (.sl (e.st.cns.map dS)),.i (.sl (e.st.chs.map bK)),.i (.sl (e.st.sent.map bM)),.i (.sl (e.st.got.map bM)),.i (.sl (e.st.acks.map bM)),.i (.sl (e.st.pus.map aZ))]
attribute [simp,go_sem] aaZ
theorem atB_case (o:aJ) (h:Int):(atB o h=none/\ixK (qQ o.past) h=-1)\/∃ i,∃ hi:i < o.past.length,ixK (qQ o.past) h=i/\atB o h=some o.past[i]:=by
 unfold atB ixK kC qQ
 rw [List.drop_zero,List.findIdx?_map]
 have e0:((fun k:aS=>decide (k.h=h)) ∘ fun e:EndD=>ofH e.sg.hdr)=fun e:EndD=>decide (e.sg.hdr.h=h):=rfl
 rw [e0]
 cases e:o.past.findIdx? (fun e:EndD=>decide (e.sg.hdr.h=h)) with
 | none =>
  left
  rw [List.findIdx?_eq_none_iff] at e
  exact ⟨List.find?_eq_none.2 fun x hx=>by simpa using e x hx,rfl⟩
 | some i =>
  right
  obtain ⟨hi,h1,h2⟩:=List.findIdx?_eq_some_iff_getElem.1 e
  refine ⟨i,hi,by simp,?_⟩
  rw [List.find?_eq_some_iff_getElem]
  exact ⟨h1,i,hi,rfl,fun j hj=>by simpa using h2 j hj⟩
theorem Vq (e:EndD) (h:Int):PureD Tryz.prog 125 [aaZ e,.rp [.s (.int .i64 h)] 0] (boolD (decide (e.sg.hdr.h=h))):=by
 refine au fun R hR=>?_
 refine aa 10 Tryz.func125 rfl rfl rfl (fun _ _=>rfl) ?_
 exact wkl trivial
theorem QN (l:List EndD) (h:Int) (hl:l.length<=1048576):PureD Tryz.prog 124 [.i (.sl (l.map bE)),.fn 125 [.rp [.s (.int .i64 h)] 0]] (intD (ixK (qQ l) h)):=by
 refine au fun R hR=>?_
 have hlen:(qQ l).length=l.length:=by simp [qQ]
 refine aa 19 Tryz.func124 rfl rfl rfl (fun _ _=>rfl) ?_
 refine wkl ?_
 clear hR; intro hR
 have hR':Hr (intD (kC (qQ l) h 0)) R:=hR
 clear hR
 refine aW (ι:=Nat) (fun i=>i<=l.length/\Hr (intD (kC (qQ l) h i)) R)
  (fun i=>dQ [(0,.i (.sl (l.map bE))),(1,.fn 125 [.rp [.s (.int .i64 h)] 0]),(7,intD l.length),(8,intD i)] [])
  (fun i=>l.length - i) 0 ⟨Nat.zero_le _,hR'⟩ ?_ ?_
 ·exact dA [] []
 ·rintro i ⟨hi,hR⟩ RL hL
  clear hR'
  rw [ak]
  by_cases hlt:i < l.length
  ·have s0:=aF (f:=bE) hlt
   have e1:((qQ l)[i]'(by omega)).h=l[i].sg.hdr.h:=by simp [qQ,ofH]
   rw [Ao (l:=qQ l) (by omega),e1] at hR
   have c1:=Vq l[i] h
   have b1:=fun σ' (hq:Hr _ R)=>bk [] [] (hL (i+1) σ' ⟨hlt,hq⟩)
   clear hL e1 hlen
   generalize l[i]=k at *
   exact wkl trivial
  ·rw [Ap (l:=qQ l) (by omega)] at hR
   exact wkl trivial
theorem uL (s:StateD) (ok:StOk s):(iq s).1.length<=1048576:=by
 unfold iq
 rw [if_pos (aM.2 ok)]
 have h1:=EO s
 have:=ok.lcn; have:=ok.lch; have:=ok.lsent; have:=ok.lgot; have:=ok.lacks
 simp only [zP]
 omega
theorem Mx (c o:aJ) (ok:StOk c.s) (hl:o.past.length<=1048576) (hp:∀ e∈o.past,StOk e.st) (m:MsgD) (hm:NA m) :
  aT Tryz.prog 67 [.pt 0 0 0 0,.pt 2 0 0 0,XL m] (hF (NR c o)) (XL (oZ c o m)) (hOf (hF (NR c o)) (NR c o)):=by
 refine jb fun R R' hR hR'=>?_
 have d1:ji [] []:=⟨trivial⟩
 obtain ⟨rfl⟩:=hR'
 have hD:=Vu c ok { m with sh:=zSh } ⟨hm.oend,hm.fr,hm.de,hm.seq⟩
 have hlc:=ok.lcl
 unfold oZ EI at hR
 generalize hA:nC c { m with sh:=zSh }=A at *
 obtain ⟨cli,key,gap,ask⟩:=A
 simp only at hD hR
 refine aa 130 Tryz.func67 rfl rfl rfl (fun o ho=>by simp [hF,lk,show o≠0 by omega,show o≠1 by omega,show o≠2 by omega,show o≠3 by omega,show o≠4 by omega,show o≠5 by omega]) ?_
 refine wkl ?_
 intro _
 refine cB [(0,0),(1,1),(2,1000)] [(0,0),(1,1),(1000,2)] [(0,.box (mE c 1)),(1,.arr 18 (c.past.map bE)),(1000,.box ((encMsg { m with sh:=zSh }).map .i))] hD ?_
 clear hD
 by_cases h1:ask=false\/cli < 0\/(c.s.cls.length:Int)<=cli
 ·rw [if_pos h1] at hR
  clear hm hp ok hA
  rcases h1 with rfl | h1 | h1
  ·first | exact wkl trivial | (refine wkl ?_; clear hR; intro hR; repeat' (intro _); obtain ⟨rfl⟩:=hR; exact fin_e d1 rfl)
  ·cases ask
   all_goals
    first | exact wkl trivial | (refine wkl ?_; clear hR; intro hR; repeat' (intro _); obtain ⟨rfl⟩:=hR; exact fin_e d1 rfl)
  ·by_cases h1b:cli < 0
   ·cases ask
    all_goals
     first | exact wkl trivial | (refine wkl ?_; clear hR; intro hR; repeat' (intro _); obtain ⟨rfl⟩:=hR; exact fin_e d1 rfl)
   ·cases ask
    all_goals
     first | exact wkl trivial | (refine wkl ?_; clear hR; intro hR; repeat' (intro _); obtain ⟨rfl⟩:=hR; exact fin_e d1 rfl)
 ·rw [if_neg h1] at hR
  obtain rfl:ask=true:=by cases ask; exact absurd (.inl rfl) h1; rfl
  have hi:cli.toNat < c.s.cls.length:=by omega
  have s0:=aF (f:=fZ) hi
  have hk:=(ok.cls _ (List.getElem_mem hi)).len
  rw [(eT (s:=c.s) (i:=cli) (by omega)).1] at hR
  have hb:0<=cli/\cli < (c.s.cls.length:Int):=by omega
  clear hA hm
  generalize c.s.cls[cli.toNat]=x at *
  clear ok h1
  obtain ⟨hlt,hlast⟩:=last_get hk.1
  have s1:=aF (f:=iP) hlt
  rw [<- hlast] at s1
  have hn:((x.known.length - 1:Nat):Int)=(x.known.length:Int) - 1:=by omega
  have w1:IntKind.i64.wrap ((x.known.length:Int) - 1)=((x.known.length - 1:Nat):Int):=by rw [aC (by omega) (by omega)]; omega
  have c2:=QN o.past (kN x).h hl
  clear hn hlast
  generalize kN x=k at *
  rcases atB_case o k.h with ⟨h2,h3⟩ | ⟨i,hi2,h2,h3⟩
  ·rw [h3] at c2
   rw [h2] at hR
   simp only at hR
   clear h2 h3 hp
   first | exact wkl trivial | (refine wkl ?_; clear hR; intro hR; repeat' (intro _); obtain ⟨rfl⟩:=hR; exact fin_e d1 rfl)
  ·rw [h2] at c2
   rw [h3] at hR
   simp only at hR
   have hst:=hp _ (List.getElem_mem hi2)
   have s2:=aF (f:=bE) hi2
   have gi:¬ (i:Int) < 0:=by omega
   clear h2 h3 hp
   generalize o.past[i]=e at *
   have c3:=Sw e.st hst.sm
   have c4:=WT (iq e.st).1 key (uL e.st hst)
   have c5:=aaq (iq e.st).1 key (uL e.st hst)
   have hch:=hst.lch
   simp only [psI,az,Ip] at c4 c5
   cases gap
   ·simp only [Bool.false_eq_true,if_false] at hR
    clear c5
    unfold XG at hR
    by_cases h4:m.kind=17/\0<=m.pk.de/\m.pk.de < (e.st.chs.length:Int)
    ·obtain ⟨h5,h6⟩:=h4
     have hj:m.pk.de.toNat < e.st.chs.length:=by omega
     have s3:=aF (f:=bK) hj
     simp only [if_pos (show m.kind=17/\0<=m.pk.de/\m.pk.de < (e.st.chs.length:Int) from ⟨h5,h6⟩)] at hR
     rw [(b_ (s:=e.st) (i:=m.pk.de) (by omega)).1] at hR
     clear hst
     generalize e.st.chs[m.pk.de.toNat]=y at *
     generalize iq e.st=B at *
     generalize GL B.1 key=S at *
     first | exact wkl trivial | (refine wkl ?_; clear hR; intro hR; repeat' (intro _); obtain ⟨rfl⟩:=hR; exact fin_e d1 rfl)
    ·simp only [if_neg h4] at hR
     generalize iq e.st=B at *
     generalize GL B.1 key=S at *
     clear hst
     by_cases h5:m.kind=17
     ·have h6:m.pk.de < 0\/(e.st.chs.length:Int)<=m.pk.de:=by
       by_cases h7:m.pk.de < 0
       ·exact .inl h7
       ·exact .inr (Int.not_lt.1 fun h8=>h4 ⟨h5,Int.not_lt.1 h7,h8⟩)
      clear h4
      first | exact wkl trivial | (refine wkl ?_; clear hR; intro hR; repeat' (intro _); obtain ⟨rfl⟩:=hR; exact fin_e d1 rfl)
     ·clear h4
      first | exact wkl trivial | (refine wkl ?_; clear hR; intro hR; repeat' (intro _); obtain ⟨rfl⟩:=hR; exact fin_e d1 rfl)
   ·simp only [if_true] at hR
    clear c4 hst
    generalize iq e.st=B at *
    generalize Yl B.1 key=G at *
    first | exact wkl trivial | (refine wkl ?_; clear hR; intro hR; repeat' (intro _); obtain ⟨rfl⟩:=hR; exact fin_e d1 rfl)
end Go.Proofs.YtfenipelcpmkpaaGreatDoor
namespace Go.Abs
open Go Go.RowKit
theorem wkf {G Q:Prop} (g:G) (h:PLift G->Q:=by
 intro hgo
 repeat' (first
  | (simp (maxSteps:=2000000) -implicitDefEqProofs only [go_sem,Nat.reduceLT,Nat.reduceAdd,Nat.reduceMul,reduceIte,Nat.reduceEqDiff,reduceCtorEq,Nat.reducePow,Nat.reduceLeDiff,Int.reduceLE,Int.reduceLT,Int.reduceToNat,Int.reduceEq,Nat.reduceBEq,lgc,not_true_eq_false,Vp, *])
  | (with_reducible refine ⟨?_,?_⟩; (· first | (obtain ⟨rfl⟩:=‹Hq _ _›; with_reducible refine chk_ok ?_; kernel_rfl) | kernel_rfl))
  | (with_reducible intro opz hopz)
  | (simp -implicitDefEqProofs (disch:=omega) only [ZE,SG,aF,ltc,ltf,lec,lef,aae,aaf])
  | ((with_reducible first | refine DV ?_ | refine zb ?_); (first | refine wkA c1 ?_ | refine wkA c2 ?_ | refine wkA c3 ?_ | refine wkA c4 ?_ | refine wkA c5 ?_ | refine wkA c6 ?_ | refine wkA c7 ?_ | refine wkA c8 ?_ | refine wkA c9 ?_ | refine wkA c10 ?_ | refine wkB e1 ?_ | refine wkB e2 ?_ | refine wkB e3 ?_ | refine wkB e4 ?_ | refine wkB e5 ?_ | refine wkC c1 ?_ | refine wkC c2 ?_ | refine wkC c3 ?_ | refine wkC c4 ?_ | refine wkC c5 ?_ | refine wkC c6 ?_ | refine wkC c7 ?_ | refine wkC c8 ?_ | refine wkC c9 ?_ | refine wkC c10 ?_))
  | ((first | refine aY (fun hg=>?_) (fun hg=>?_) | refine uU (fun hg=>?_) (fun hg=>?_) | refine uV (fun hg=>?_) (fun hg=>?_)) <;> (try simp only [nrm,eq_self,not_true_eq_false] at hg) <;> (try simp only [hg,lgc,reduceIte,reduceCtorEq] at hR) <;> (try (exfalso; omega)))
  | exact wkD b1 | exact wkD b2 | exact wkD b3 | exact wkD b4 | exact wkD b5
  | ((try simp only [*,lgc,reduceIte,reduceCtorEq] at hR); (try obtain ⟨rfl⟩:=hR); refine fin_q rfl ?_; (try simp only [go_sem,Nat.reduceLT,Nat.reduceAdd,Nat.reduceMul,reduceIte,Nat.reduceEqDiff,reduceCtorEq,Nat.reducePow,Nat.reduceLeDiff,Int.reduceLE,Int.reduceLT,Int.reduceToNat,Int.reduceEq,Nat.reduceBEq]); (first | (simp; done) | (simp; omega) | (simp [*]; done) | (simp [*]; omega)))
  | ((try simp only [*,lgc,reduceIte,reduceCtorEq] at hR); (try obtain ⟨rfl⟩:=hR); refine fin_d d1 rfl ?_ ?_ rfl ?_ rfl <;> (try simp only [go_sem,Nat.reduceLT,Nat.reduceAdd,Nat.reduceMul,reduceIte,Nat.reduceEqDiff,reduceCtorEq,Nat.reducePow,Nat.reduceLeDiff,Int.reduceLE,Int.reduceLT,Int.reduceToNat,Int.reduceEq,Nat.reduceBEq]) <;> (simp; done)))
 all_goals (repeat (revert hg))
 all_goals (try (have hR:=hR; revert hR))
 all_goals (try (revert hopz; revert opz))
 all_goals exact hgo.down):Q:=h ⟨g⟩
attribute [local simp] fnd
theorem Ew {j:Nat} {G:Nat->Ob}:∀ {l:List (Nat × Ob)},j ∉ l.map (·.1)->BB l G j=G j
 | [],_=>rfl
 | (a,x) :: t,h=>by
  simp only [List.map_cons,List.mem_cons,not_or] at h
  simp only [BB]; rw [upd_ne _ _ h.1]; exact Ew h.2
theorem IC {j:Nat} {G G':Nat->Ob}:∀ {l:List (Nat × Ob)},j∈l.map (·.1)->BB l G j=BB l G' j
 | (a,x) :: t,h=>by
  simp only [BB]
  by_cases e:j=a
  ·subst e; rw [upd_same,upd_same]
  ·rw [upd_ne _ _ e,upd_ne _ _ e]
   simp only [List.map_cons,List.mem_cons] at h
   exact IC (h.resolve_left e)
theorem Ij {P:Program} {f:FuncId} {ds gs:List D} {r:D} {objs objs':List (Nat × Ob)} {n:Nat} {σ:St} {ks:List Fr} {Q:Ex->St->Prop} {rid k:Nat} {ops:Array Oper} {rest:List It} {acc:Acc} {dst:Option Nat} (ρ ρ':List (Nat × Nat)) (new:List (Nat × Ob)) (hL:aT P f ds (hF objs) r (hOf (hF objs) objs'))
  (h:Rd P n rid ops rest ((k,new.map (·.1),new.map (·.1)) :: acc) (St.put ⟨σ.sl,BB new σ.H⟩ dst r) ks Q)
  (hgs:∀ G,ku (new.map (·.1)) G σ.H->cvs G [] (fnd ρ) gs ds:=by intro G hG; simp at hG; simp [hG,and_assoc,cvs,fnd])
  (ho:∀ G,ku (new.map (·.1)) G σ.H->∀ p∈objs,∃ o,fnd ρ p.1=some o/\cvO G [] (fnd ρ) (G o) p.2:=by intro G hG; simp [hF,lk] at hG; simp [hG,fnd,and_assoc,hF,lk]) (hk:(ρ.all fun q=>objs.any fun p=>p.1 == q.1)=true:=by rfl)
  (hinj:(ρ.all fun p=>ρ.all fun q=>p.2 != q.2 || p.1 == q.1)=true:=by rfl)
  (hn:∀ p∈new,∃ l,fnd ρ' p.1=some l/\cvO (hOf (hF objs) objs') [] (fnd ρ') (hOf (hF objs) objs' l) p.2:=by simp [fnd,and_assoc,hF,hOf,lk]) (hk':(ρ'.all fun q=>new.any fun p=>p.1 == q.1)=true:=by rfl)
  (hinj':(ρ'.all fun p=>ρ'.all fun q=>p.2 != q.2 || p.1 == q.1)=true:=by rfl) (hr':cv (hOf (hF objs) objs') [] (fnd ρ') r r:=by simp)
  (hback:(ρ.all fun p=>fnd ρ' p.2 == some p.1)=true:=by simp [fnd]) (hnew:∀ G,ku (new.map (·.1)) G σ.H->∀ q∈ρ',fnd ρ q.2=some q.1\/G q.1=.fresh:=by intro G hG; simp [fnd,hF,lk,noH]):kw P n rid ops f gs k dst rest acc σ ks Q :=
 ⟨⟨r,new.map (·.1),new.map (·.1),fun G=>BB new G⟩,⟨⟨fun _ h=>h,fun G j hj=>Ew hj,fun G G' _ j hj=>IC hj⟩,fun G hG=>.inl (FZ ρ ρ' hL (hgs G hG) (ho G hG) hk hinj hn hk' hinj' hr' hback (hnew G hG))⟩,h⟩
end Go.Abs
namespace Go.Proofs.YtfenipelcpmkpaaGreatDoor
open Go Go.Abs Go.RowKit Go.Proofs.YtfenipelcpmkpaaGreatDoor.Ty
theorem HZ (c:aJ) (ok:StOk c.s) (h64:P64 c.s.pus) (m:MsgD) (hm:oD m) :
  aT Tryz.prog 66 [.pt 0 0 0 0,XL m] (hF (Vk c)) (Dp (jy c m).2) (hOf (hF (Vk c)) (Vk (jy c m).1)):=by
 refine jb fun R R' hR hR'=>?_
 have c1:=Zc c.s ok.sm h64 m hm
 unfold jy at hR hR'
 by_cases e:(doS c.s m).2.err=0
 ·simp only [if_pos e] at hR hR'
  generalize doS c.s m=X at *
  clear ok h64 hm
  have d1:ji [] []:=⟨trivial⟩
  obtain ⟨rfl⟩:=hR'
  refine aa 24 Tryz.func66 rfl rfl rfl (fun o ho=>by simp [hF,lk,show o≠0 by omega,show o≠1 by omega,show o≠2 by omega,show o≠3 by omega,show o≠4 by omega,show o≠5 by omega]) ?_
  first | exact wkl trivial | refine wkl ?_
  all_goals (clear hR; intro hR)
  all_goals (repeat' (intro _))
  all_goals (obtain ⟨rfl⟩:=hR)
  all_goals (refine fin_d d1 rfl ?_ ?_ rfl ?_ rfl)
  all_goals (try simp only [go_sem,Nat.reduceLT,Nat.reduceAdd,Nat.reduceMul,reduceIte,Nat.reduceEqDiff,reduceCtorEq,Nat.reducePow,Nat.reduceLeDiff,Int.reduceLE,Int.reduceLT,Int.reduceToNat,Int.reduceEq,Nat.reduceBEq])
  all_goals simp [*]
 ·simp only [if_neg e] at hR hR'
  generalize doS c.s m=X at *
  clear ok h64 hm
  have d1:ji [] []:=⟨trivial⟩
  obtain ⟨rfl⟩:=hR'
  refine aa 24 Tryz.func66 rfl rfl rfl (fun o ho=>by simp [hF,lk,show o≠0 by omega,show o≠1 by omega,show o≠2 by omega,show o≠3 by omega,show o≠4 by omega,show o≠5 by omega]) ?_
  first | exact wkl trivial | refine wkl ?_
  all_goals (clear hR; intro hR)
  all_goals (repeat' (intro _))
  all_goals (obtain ⟨rfl⟩:=hR)
  all_goals (refine fin_d d1 rfl ?_ ?_ rfl ?_ rfl)
  all_goals (try simp only [go_sem,Nat.reduceLT,Nat.reduceAdd,Nat.reduceMul,reduceIte,Nat.reduceEqDiff,reduceCtorEq,Nat.reducePow,Nat.reduceLeDiff,Int.reduceLE,Int.reduceLT,Int.reduceToNat,Int.reduceEq,Nat.reduceBEq])
  all_goals simp [*]
structure kv (c:aJ):Prop where
 ok:StOk c.s
 p64:P64 c.s.pus
 len:c.past.length<=1000
 st:∀ e∈c.past,StOk e.st
 sg:∀ e∈c.past,VH e.sg/\e.sg.hdr.next.length<=1048576
 vl:c.vals.length<=1000
 vk:∀ v∈c.vals,v.k < 18446744073709551616/\v.p < 18446744073709551616
 sl:c.seeds.length<=1000
 sk:∀ s∈c.seeds,s.length<=1000
theorem last_pastB {o:aJ} (h:¬ o.past.length=0):∃ hi:o.past.length - 1 < o.past.length,yc o=o.past[o.past.length - 1] :=
 ⟨by omega,by unfold yc; rw [List.getLastD_eq_getLast?,List.getLast?_eq_getElem?,List.getElem?_eq_getElem (by omega)]; rfl⟩
theorem oK:oD r_:=⟨⟨by decide,by decide⟩,Es,Es,by decide,by decide,by decide,by decide,by unfold gZ; decide,by unfold gZ; decide,by decide,by decide⟩
theorem Mf {o:aJ} (ho:kv o) (h:¬ o.past.length=0) (t:Int):oD (oo o t):=by
 obtain ⟨hi,e⟩:=last_pastB h
 have hg:=ho.sg _ (List.getElem_mem hi)
 rw [<- e] at hg
 have z:=oK
 exact ⟨⟨hg.1.h.root,hg.2⟩,z.up,z.up2,z.tn,z.td,z.ts,z.tr,z.fr,z.de,z.data,z.ack⟩
theorem Lm {c o:aJ} (ho:kv o) (h:¬ o.past.length=0) (i:Int):oD (kE c o i):=by
 obtain ⟨hi,e⟩:=last_pastB h
 have hg:=ho.sg _ (List.getElem_mem hi)
 rw [<- e] at hg
 have z:=oK
 exact ⟨z.kn,⟨hg.1,Nat.le_trans ho.vl (by decide),ho.vk,hg.2⟩,z.up2,z.tn,z.td,z.ts,z.tr,z.fr,z.de,z.data,z.ack⟩
theorem A_ (c o:aJ) (hc:kv c) (ho:kv o) (trust:Int) :
  aT Tryz.prog 64 [.pt 0 0 0 0,.pt 2 0 0 0,intD trust] (hF (NR c o)) (Dp (gN c o trust).2) (hOf (hF (NR c o)) (NR (gN c o trust).1 o)):=by
 refine jb fun R R' hR hR'=>?_
 unfold gN at hR hR'
 have hl:=ho.len
 have d1:ji [] []:=⟨trivial⟩
 by_cases h:o.past.length=0
 ·simp only [if_pos h] at hR hR'
  clear hc ho
  obtain ⟨rfl⟩:=hR'
  refine aa 44 Tryz.func64 rfl rfl rfl (fun o ho=>by simp [hF,lk,show o≠0 by omega,show o≠1 by omega,show o≠2 by omega,show o≠3 by omega,show o≠4 by omega,show o≠5 by omega]) ?_
  first | exact wkl trivial | refine wkl ?_
  all_goals (clear hR; intro hR)
  all_goals (repeat' (intro _))
  all_goals (obtain ⟨rfl⟩:=hR)
  all_goals (refine fin_d d1 rfl ?_ ?_ rfl ?_ rfl)
  all_goals (try simp only [go_sem,Nat.reduceLT,Nat.reduceAdd,Nat.reduceMul,reduceIte,Nat.reduceEqDiff,reduceCtorEq,Nat.reducePow,Nat.reduceLeDiff,Int.reduceLE,Int.reduceLT,Int.reduceToNat,Int.reduceEq,Nat.reduceBEq])
  all_goals simp [*]
 ·simp only [if_neg h] at hR hR'
  have hD:=HZ c hc.ok hc.p64 (oo o trust) (Mf ho h trust)
  obtain ⟨hi,e⟩:=last_pastB h
  have s0:=aF (f:=bE) hi
  rw [<- e] at s0
  have w1:IntKind.i64.wrap ((o.past.length:Int) - 1)=((o.past.length - 1:Nat):Int):=by rw [aC (by omega) (by omega)]; omega
  generalize jy c (oo o trust)=X at hD hR hR'
  simp only [oo,ofH] at hD
  clear hc ho e
  generalize yc o=z at *
  obtain ⟨rfl⟩:=hR'
  refine aa 44 Tryz.func64 rfl rfl rfl (fun o ho=>by simp [hF,lk,show o≠0 by omega,show o≠1 by omega,show o≠2 by omega,show o≠3 by omega,show o≠4 by omega,show o≠5 by omega]) ?_
  refine wkl ?_
  clear hR; intro hR
  repeat' (intro _)
  refine cB [(0,0),(1,1)] [(0,0),(1,1)] [(0,.box (mE X.1 1)),(1,.arr 18 (X.1.past.map bE))] hD ?_
  clear hD
  first | exact wkl trivial | refine wkl ?_
  all_goals (clear hR; intro hR)
  all_goals (repeat' (intro _))
  all_goals (obtain ⟨rfl⟩:=hR)
  all_goals (refine fin_d d1 rfl ?_ ?_ rfl ?_ rfl)
  all_goals (try simp only [go_sem,Nat.reduceLT,Nat.reduceAdd,Nat.reduceMul,reduceIte,Nat.reduceEqDiff,reduceCtorEq,Nat.reducePow,Nat.reduceLeDiff,Int.reduceLE,Int.reduceLT,Int.reduceToNat,Int.reduceEq,Nat.reduceBEq])
  all_goals simp [*]
theorem AZ (c o:aJ) (hc:kv c) (ho:kv o) (i:Int) :
  aT Tryz.prog 65 [.pt 0 0 0 0,.pt 2 0 0 0,intD i] (hF (NR c o)) (Dp (gM c o i).2) (hOf (hF (NR c o)) (NR (gM c o i).1 o)):=by
 refine jb fun R R' hR hR'=>?_
 unfold gM at hR hR'
 have hl:=ho.len
 have hlc:=hc.ok.lcl
 have d1:ji [] []:=⟨trivial⟩
 by_cases h:o.past.length=0\/i < 0\/(c.s.cls.length:Int)<=i
 ·simp only [if_pos h] at hR hR'
  clear hc ho
  obtain ⟨rfl⟩:=hR'
  by_cases p0:((o.past.length:Nat):Int)=0
  ·clear h
   refine aa 67 Tryz.func65 rfl rfl rfl (fun o ho=>by simp [hF,lk,show o≠0 by omega,show o≠1 by omega,show o≠2 by omega,show o≠3 by omega,show o≠4 by omega,show o≠5 by omega]) ?_
   first | exact wkl trivial | refine wkl ?_
   all_goals (clear hR; intro hR)
   all_goals (repeat' (intro _))
   all_goals (obtain ⟨rfl⟩:=hR)
   all_goals (refine fin_d d1 rfl ?_ ?_ rfl ?_ rfl)
   all_goals (try simp only [go_sem,Nat.reduceLT,Nat.reduceAdd,Nat.reduceMul,reduceIte,Nat.reduceEqDiff,reduceCtorEq,Nat.reducePow,Nat.reduceLeDiff,Int.reduceLE,Int.reduceLT,Int.reduceToNat,Int.reduceEq,Nat.reduceBEq])
   all_goals simp [*]
  ·by_cases p1:i < 0
   ·clear h
    refine aa 67 Tryz.func65 rfl rfl rfl (fun o ho=>by simp [hF,lk,show o≠0 by omega,show o≠1 by omega,show o≠2 by omega,show o≠3 by omega,show o≠4 by omega,show o≠5 by omega]) ?_
    first | exact wkl trivial | refine wkl ?_
    all_goals (clear hR; intro hR)
    all_goals (repeat' (intro _))
    all_goals (obtain ⟨rfl⟩:=hR)
    all_goals (refine fin_d d1 rfl ?_ ?_ rfl ?_ rfl)
    all_goals (try simp only [go_sem,Nat.reduceLT,Nat.reduceAdd,Nat.reduceMul,reduceIte,Nat.reduceEqDiff,reduceCtorEq,Nat.reducePow,Nat.reduceLeDiff,Int.reduceLE,Int.reduceLT,Int.reduceToNat,Int.reduceEq,Nat.reduceBEq])
    all_goals simp [*]
   ·have p2:(c.s.cls.length:Int)<=i:=by omega
    clear h
    refine aa 67 Tryz.func65 rfl rfl rfl (fun o ho=>by simp [hF,lk,show o≠0 by omega,show o≠1 by omega,show o≠2 by omega,show o≠3 by omega,show o≠4 by omega,show o≠5 by omega]) ?_
    first | exact wkl trivial | refine wkl ?_
    all_goals (clear hR; intro hR)
    all_goals (repeat' (intro _))
    all_goals (obtain ⟨rfl⟩:=hR)
    all_goals (refine fin_d d1 rfl ?_ ?_ rfl ?_ rfl)
    all_goals (try simp only [go_sem,Nat.reduceLT,Nat.reduceAdd,Nat.reduceMul,reduceIte,Nat.reduceEqDiff,reduceCtorEq,Nat.reducePow,Nat.reduceLeDiff,Int.reduceLE,Int.reduceLT,Int.reduceToNat,Int.reduceEq,Nat.reduceBEq])
    all_goals simp [*]
 ·simp only [if_neg h] at hR hR'
  have h0:¬ o.past.length=0:=fun e=>h (.inl e)
  have hD:=HZ c hc.ok hc.p64 (kE c o i) (Lm ho h0 i)
  obtain ⟨hi,e⟩:=last_pastB h0
  have s0:=aF (f:=bE) hi
  rw [<- e] at s0
  have w1:IntKind.i64.wrap ((o.past.length:Int) - 1)=((o.past.length - 1:Nat):Int):=by rw [aC (by omega) (by omega)]; omega
  have hj:i.toNat < c.s.cls.length:=by omega
  have s1:=aF (f:=fZ) hj
  have hk:=(hc.ok.cls _ (List.getElem_mem hj)).len
  have ecl:=(eT (s:=c.s) (i:=i) (by omega)).1
  rw [<- ecl] at s1 hk
  obtain ⟨hlt,hlast⟩:=last_get hk.1
  have s2:=aF (f:=iP) hlt
  rw [<- hlast] at s2
  have w2:IntKind.i64.wrap (((kG c.s i).known.length:Int) - 1)=(((kG c.s i).known.length - 1:Nat):Int):=by rw [aC (by omega) (by omega)]; omega
  generalize jy c (kE c o i)=X at hD hR hR'
  simp only [kE] at hD
  have p0:¬ ((o.past.length:Nat):Int)=0:=by omega
  have p1:¬ i < 0:=by omega
  have p2:¬ (c.s.cls.length:Int)<=i:=by omega
  clear hc ho e ecl hlast h
  generalize yc o=z at *
  generalize kG c.s i=x at *
  generalize kN x=k at *
  obtain ⟨rfl⟩:=hR'
  refine aa 67 Tryz.func65 rfl rfl rfl (fun o ho=>by simp [hF,lk,show o≠0 by omega,show o≠1 by omega,show o≠2 by omega,show o≠3 by omega,show o≠4 by omega,show o≠5 by omega]) ?_
  refine wkf ?_
  intro ops hops _
  repeat' (intro _)
  refine Ij [(0,0),(1,1)] [(0,0),(1,1)] [(0,.box (mE X.1 1)),(1,.arr 18 (X.1.past.map bE))] hD ?_
  clear hD
  first | exact wkl trivial | refine wkl ?_
  all_goals (clear hR; intro hR)
  all_goals (repeat' (intro _))
  all_goals (obtain ⟨rfl⟩:=hR)
  all_goals (refine fin_d d1 rfl ?_ ?_ rfl ?_ rfl)
  all_goals (try simp only [go_sem,Nat.reduceLT,Nat.reduceAdd,Nat.reduceMul,reduceIte,Nat.reduceEqDiff,reduceCtorEq,Nat.reducePow,Nat.reduceLeDiff,Int.reduceLE,Int.reduceLT,Int.reduceToNat,Int.reduceEq,Nat.reduceBEq])
  all_goals simp [*]
theorem DZ (s:StateD) (hs:StSm s):PureD Tryz.prog 31 [stateD s] (.tup [.i (bI (gu s).1),intD (gu s).2]):=by
 refine au fun R hR=>?_
 have c1:=Sw s hs
 unfold gu at hR
 by_cases h:bu s=0
 ·have h2:(iq s).2=0:=by unfold iq; rw [if_pos h]
  have c2:=WX (iq s).1 (uL s (aM.1 h))
  rw [if_pos h2] at hR
  rw [h2] at c1
  simp only [psI,dw] at c2
  simp only at hR
  generalize GQ (iq s).1=X at *
  generalize dK (iq s).1=Y at *
  generalize (iq s).1=B at *
  clear h h2 hs
  refine aa 24 Tryz.func31 rfl rfl rfl (fun _ _=>rfl) ?_
  exact wkl trivial
 ·have h2:iq s=([],bu s):=by unfold iq; rw [if_neg h]
  rw [h2] at c1 hR
  simp only [if_neg h] at hR c1
  generalize bu s=W at *
  clear h2 hs
  refine aa 24 Tryz.func31 rfl rfl rfl (fun _ _=>rfl) ?_
  exact wkl trivial
theorem KW (c:aJ) (ok:StOk c.s) (h:(gu c.s).2=0):Ra (ug c):=by
 have hd:(bX c.vals).length=32:=dD _
 have hn:c.s.name.size<=1048576:=by
  have:=ok.name
  unfold jN at this
  simp at this
  omega
 have hr:(gu c.s).1.length<=1048576:=by
  unfold gu
  split
  ·unfold GQ zV GG
   split
   ·rw [dD]; omega
   ·simp
  ·simp
 exact ⟨hn,hr,by rw [show (ug c).vals=bX c.vals from rfl,hd]; omega,by rw [show (ug c).next=bX c.vals from rfl,hd]; omega⟩
theorem Gd (c:aJ) (hc:kv c) (later:Int) :
  aT Tryz.prog 63 [.pt 0 0 0 0,intD later] (hF (Vk c)) (Dp (dn c later).2) (hOf (hF (Vk c)) (if (dn c later).2.err=0 then [(0,.box (mE (dn c later).1 2)),(1,.dead),(2,.arr 18 ((dn c later).1.past.map bE))] else Vk c)):=by
 refine jb fun R R' hR hR'=>?_
 have c1:=QT c.s hc.ok.sm later
 have c2:=DZ c.s hc.ok.sm
 have hl:=hc.len
 have hvl:=hc.vl
 unfold dn at hR hR'
 by_cases h1:(jD c.s later).2=0
 ·simp only [if_pos h1] at hR hR'
  rw [h1] at c1
  by_cases h2:(gu c.s).2=0
  ·simp only [if_pos h2] at hR hR'
   have c3:=lq c.vals (by omega) hc.vk
   have c4:=UK (ug c) c.vals c.seeds (KW c hc.ok h2) (by omega) hc.vk ⟨by have:=hc.sl; omega,fun s hs=>by have:=hc.sk s hs; omega⟩
   have c5:=Ja c.s hc.ok.sm
   rw [h2] at c2
   by_cases h3:(kJ (ug c) c.vals c.seeds).2=0
   ·simp only [if_pos h3] at hR hR'
    rw [h3] at c4
    generalize (kJ (ug c) c.vals c.seeds).1=sg at *
    simp only [ug,N_] at c4
    have m1:c.past.map bE++[bE (⟨sg,c.s⟩:EndD)]=(c.past++[(⟨sg,c.s⟩:EndD)]).map bE:=by simp
    have m2:c.past.length+1=(c.past++[(⟨sg,c.s⟩:EndD)]).length:=by simp
    simp only [bE,valsI,votesI,bI] at m1
    generalize c.past++[(⟨sg,c.s⟩:EndD)]=L at *
    generalize (jD c.s later).1=N at *
    generalize gu c.s=Ro at *
    generalize bX c.vals=D at *
    have d1:ji [] [(2,3829)]:=⟨trivial⟩
    clear hc h1 h2 h3
    obtain ⟨rfl⟩:=hR'
    refine aa 101 Tryz.func63 rfl rfl rfl (fun o ho=>by simp [hF,lk,show o≠0 by omega,show o≠1 by omega,show o≠2 by omega,show o≠3 by omega,show o≠4 by omega,show o≠5 by omega]) ?_
    first | exact wkl trivial | refine wkl ?_
    all_goals (clear hR; intro hR)
    all_goals (repeat' (intro _))
    all_goals (obtain ⟨rfl⟩:=hR)
    all_goals (refine fin_d d1 rfl ?_ ?_ rfl ?_ rfl)
    all_goals (try simp only [go_sem,Nat.reduceLT,Nat.reduceAdd,Nat.reduceMul,reduceIte,Nat.reduceEqDiff,reduceCtorEq,Nat.reducePow,Nat.reduceLeDiff,Int.reduceLE,Int.reduceLT,Int.reduceToNat,Int.reduceEq,Nat.reduceBEq])
    all_goals simp [*]
   ·simp only [if_neg h3] at hR hR'
    generalize kJ (ug c) c.vals c.seeds=S at *
    simp only [ug,N_] at c4
    simp only [dE,if_neg h3] at hR hR'
    generalize jD c.s later=N at *
    generalize gu c.s=Ro at *
    generalize bX c.vals=D at *
    have d1:ji [] []:=⟨trivial⟩
    clear hc h1 h2 c5
    obtain ⟨rfl⟩:=hR'
    refine aa 101 Tryz.func63 rfl rfl rfl (fun o ho=>by simp [hF,lk,show o≠0 by omega,show o≠1 by omega,show o≠2 by omega,show o≠3 by omega,show o≠4 by omega,show o≠5 by omega]) ?_
    first | exact wkl trivial | refine wkl ?_
    all_goals (clear hR; intro hR)
    all_goals (repeat' (intro _))
    all_goals (obtain ⟨rfl⟩:=hR)
    all_goals (refine fin_d d1 rfl ?_ ?_ rfl ?_ rfl)
    all_goals (try simp only [go_sem,Nat.reduceLT,Nat.reduceAdd,Nat.reduceMul,reduceIte,Nat.reduceEqDiff,reduceCtorEq,Nat.reducePow,Nat.reduceLeDiff,Int.reduceLE,Int.reduceLT,Int.reduceToNat,Int.reduceEq,Nat.reduceBEq])
    all_goals simp [*]
  ·simp only [if_neg h2] at hR hR'
   simp only [dE,if_neg h2] at hR hR'
   generalize jD c.s later=N at *
   generalize gu c.s=Ro at *
   have d1:ji [] []:=⟨trivial⟩
   clear hc h1
   obtain ⟨rfl⟩:=hR'
   refine aa 101 Tryz.func63 rfl rfl rfl (fun o ho=>by simp [hF,lk,show o≠0 by omega,show o≠1 by omega,show o≠2 by omega,show o≠3 by omega,show o≠4 by omega,show o≠5 by omega]) ?_
   first | exact wkl trivial | refine wkl ?_
   all_goals (clear hR; intro hR)
   all_goals (repeat' (intro _))
   all_goals (obtain ⟨rfl⟩:=hR)
   all_goals (refine fin_d d1 rfl ?_ ?_ rfl ?_ rfl)
   all_goals (try simp only [go_sem,Nat.reduceLT,Nat.reduceAdd,Nat.reduceMul,reduceIte,Nat.reduceEqDiff,reduceCtorEq,Nat.reducePow,Nat.reduceLeDiff,Int.reduceLE,Int.reduceLT,Int.reduceToNat,Int.reduceEq,Nat.reduceBEq])
   all_goals simp [*]
 ·simp only [if_neg h1] at hR hR'
  simp only [dE,if_neg h1] at hR hR'
  generalize jD c.s later=N at *
  have d1:ji [] []:=⟨trivial⟩
  clear hc c2
  obtain ⟨rfl⟩:=hR'
  refine aa 101 Tryz.func63 rfl rfl rfl (fun o ho=>by simp [hF,lk,show o≠0 by omega,show o≠1 by omega,show o≠2 by omega,show o≠3 by omega,show o≠4 by omega,show o≠5 by omega]) ?_
  first | exact wkl trivial | refine wkl ?_
  all_goals (clear hR; intro hR)
  all_goals (repeat' (intro _))
  all_goals (obtain ⟨rfl⟩:=hR)
  all_goals (refine fin_d d1 rfl ?_ ?_ rfl ?_ rfl)
  all_goals (try simp only [go_sem,Nat.reduceLT,Nat.reduceAdd,Nat.reduceMul,reduceIte,Nat.reduceEqDiff,reduceCtorEq,Nat.reducePow,Nat.reduceLeDiff,Int.reduceLE,Int.reduceLT,Int.reduceToNat,Int.reduceEq,Nat.reduceBEq])
  all_goals simp [*]
theorem WS (s m:List UInt8):Bf s m < 18446744073709551616:=Nat.lt_trans (Nat.mod_lt _ (by decide)) (show pN < 18446744073709551616 by decide)
theorem WR (s m:List UInt8):sigS s m < 18446744073709551616:=Nat.lt_trans (Nat.mod_lt _ (by decide)) (show qN < 18446744073709551616 by decide)
theorem Um (s:List UInt8):keyF s < 18446744073709551616:=Nat.lt_trans (Nat.mod_lt _ (by decide)) (show pN < 18446744073709551616 by decide)
theorem Ov (h:oJ) (v:dN):∀ seeds:List (List UInt8),(kS h seeds v).r < 18446744073709551616/\(kS h seeds v).s < 18446744073709551616:=by
 have key:∀ (seeds:List (List UInt8)) (x:jE),(x.r < 18446744073709551616/\x.s < 18446744073709551616)->(seeds.foldl (fun x s=>if v.k=keyF s then (⟨true,Bf s (dh h),sigS s (dh h)⟩:jE) else x) x).r < 18446744073709551616/\(seeds.foldl (fun x s=>if v.k=keyF s then (⟨true,Bf s (dh h),sigS s (dh h)⟩:jE) else x) x).s < 18446744073709551616:=by
  intro seeds
  induction seeds with
  | nil=>exact fun x hx=>hx
  | cons a t ih =>
   intro x hx
   rw [List.foldl_cons]
   refine ih _ ?_
   split
   ·exact ⟨WS _ _,WR _ _⟩
   ·exact hx
 exact fun seeds=>key seeds ⟨false,0,0⟩ ⟨by decide,by decide⟩
theorem sign_fst {h:oJ} {vals:List dN} {seeds:List (List UInt8)} (e:(kJ h vals seeds).2=0):(kJ h vals seeds).1=⟨h,vals,vals.map (kS h seeds)⟩/\fB h=0/\jB vals=0/\bX vals=h.vals:=by
 unfold kJ at e ⊢
 split at e
 ·rename_i a
  rw [if_pos a]
  split at e
  ·rename_i b
   rw [if_pos b]
   split at e
   ·rename_i d
    rw [if_pos d]
    exact ⟨rfl,a,b,d⟩
   ·cases e
  ·exact absurd e ‹_›
 ·exact absurd e ‹_›
theorem Gm {c:aJ} (hc:kv c) (m:MsgD):kv (jy c m).1:=by
 unfold jy
 split
 ·rename_i h
  have hs:=yJ hc.p64 h
  exact ⟨hs.ok,hs.p64,hc.len,hc.st,hc.sg,hc.vl,hc.vk,hc.sl,hc.sk⟩
 ·exact hc
theorem nextS_ok {s:StateD} {later:Int} (h:(jD s later).2=0):StOk s/\(1<=later/\later<=1000000000000)/\jD s later=({ s with h:=s.h+1,t:=s.t+later },0)/\StOk (jD s later).1:=by
 unfold jD at h ⊢
 by_cases h1:bu s=0
 ·rw [if_pos h1] at h ⊢
  by_cases h2:later < 1\/1000000000000 < later\/1000000000000 < s.t+later\/s.h=1000000000000
  ·rw [if_pos h2] at h; cases h
  ·rw [if_neg h2]
   have ok:=aM.1 h1
   have a:=ok.h
   have b:=ok.t
   unfold N12 at a b
   exact ⟨ok,by omega,rfl,⟨ok.name,by unfold N12; simp only; omega,by unfold N12; simp only; omega,ok.lcl,ok.lcn,ok.lch,ok.lsent,ok.lgot,ok.lacks,ok.lpus,ok.cls,ok.cns,ok.chs,ok.sent,ok.got,ok.acks,ok.pus⟩⟩
 ·rw [if_neg h1] at h; exact absurd h h1
theorem block_done {c:aJ} {later:Int} (h:(dn c later).2.err=0):(jD c.s later).2=0/\(gu c.s).2=0/\(kJ (ug c) c.vals c.seeds).2=0 /\
  dn c later=({ c with s:=(jD c.s later).1,past:=c.past++[⟨(kJ (ug c) c.vals c.seeds).1,c.s⟩] },⟨0,((c.past.length+1:Nat):Int),zeroPk⟩):=by
 unfold dn at h ⊢
 by_cases h1:(jD c.s later).2=0
 ·rw [if_pos h1] at h ⊢
  by_cases h2:(gu c.s).2=0
  ·rw [if_pos h2] at h ⊢
   by_cases h3:(kJ (ug c) c.vals c.seeds).2=0
   ·rw [if_pos h3]; exact ⟨h1,h2,h3,rfl⟩
   ·rw [if_neg h3] at h; exact absurd h h3
  ·rw [if_neg h2] at h; exact absurd h h2
 ·rw [if_neg h1] at h; exact absurd h h1
theorem jQ {c:aJ} {later:Int} (h:¬ (dn c later).2.err=0):(dn c later).1=c:=by
 unfold dn at h ⊢
 by_cases h1:(jD c.s later).2=0
 ·rw [if_pos h1] at h ⊢
  by_cases h2:(gu c.s).2=0
  ·rw [if_pos h2] at h ⊢
   by_cases h3:(kJ (ug c) c.vals c.seeds).2=0
   ·rw [if_pos h3] at h; exact absurd rfl h
   ·rw [if_neg h3]
  ·rw [if_neg h2]
 ·rw [if_neg h1]
theorem QM {c:aJ} (hc:kv c) (later:Int) (hl:c.past.length < 1000):kv (dn c later).1:=by
 by_cases h:(dn c later).2.err=0
 ·obtain ⟨h1,h2,h3,e⟩:=block_done h
  rw [e]
  obtain ⟨a,b,d,f⟩:=nextS_ok h1
  obtain ⟨g,_⟩:=sign_fst h3
  have hh:=KW c hc.ok h2
  refine ⟨f,by rw [d]; exact hc.p64,by simp; omega,fun x hx=>?_,fun x hx=>?_,hc.vl,hc.vk,hc.sl,hc.sk⟩
  ·rcases List.mem_append.1 hx with hx | hx
   ·exact hc.st x hx
   ·rw [List.mem_singleton.1 hx]; exact hc.ok
  ·rcases List.mem_append.1 hx with hx | hx
   ·exact hc.sg x hx
   ·rw [List.mem_singleton.1 hx,g]
    refine ⟨⟨hh,by have:=hc.vl; simp only; omega,hc.vk,fun y hy=>?_⟩,hh.next⟩
    obtain ⟨v,_,rfl⟩:=List.mem_map.1 hy
    exact Ov _ v _
 ·rw [jQ h]; exact hc
theorem RN {c o:aJ} (hc:kv c) (hl:c.past.length < 1000) (e:EvD):kv (fM c o e).1:=by
 unfold fM gN gM
 split
 ·exact QM hc _ hl
 ·split
  ·split
   ·exact hc
   ·exact Gm hc _
  ·split
   ·split
    ·exact hc
    ·exact Gm hc _
   ·split
    ·exact Gm hc _
    ·split
     ·exact Gm hc _
     ·exact hc
theorem act_past (c:aJ) (m:MsgD):(jy c m).1.past=c.past/\(jy c m).1.vals=c.vals/\(jy c m).1.seeds=c.seeds:=by
 unfold jy; split <;> exact ⟨rfl,rfl,rfl⟩
theorem HY (c:aJ) (later:Int):(dn c later).1.past.length<=c.past.length+1/\(dn c later).1.vals=c.vals/\(dn c later).1.seeds=c.seeds:=by
 by_cases h:(dn c later).2.err=0
 ·rw [(block_done h).2.2.2]; exact ⟨by simp,rfl,rfl⟩
 ·rw [jQ h]; exact ⟨by omega,rfl,rfl⟩
theorem Fa (c o:aJ) (e:EvD):(fM c o e).1.past.length<=c.past.length+1/\(fM c o e).1.vals=c.vals/\(fM c o e).1.seeds=c.seeds:=by
 have ha:∀ m,(jy c m).1.past.length<=c.past.length+1/\(jy c m).1.vals=c.vals/\(jy c m).1.seeds=c.seeds:=fun m=>by
  obtain ⟨a,b,d⟩:=act_past c m
  rw [a,b,d]; exact ⟨by omega,rfl,rfl⟩
 have hn:c.past.length<=c.past.length+1/\c.vals=c.vals/\c.seeds=c.seeds:=⟨by omega,rfl,rfl⟩
 unfold fM gN gM
 split
 ·exact HY c _
 ·split
  ·split
   ·exact hn
   ·exact ha _
  ·split
   ·split
    ·exact hn
    ·exact ha _
   ·split
    ·exact ha _
    ·split
     ·exact ha _
     ·exact hn
theorem TA {c o:aJ} {e:EvD} (h:¬ (fM c o e).2.err=0):(fM c o e).1=c:=by
 have ha:∀ m,¬ (jy c m).2.err=0->(jy c m).1=c:=fun m h=>by
  have h':¬ (doS c.s m).2.err=0:=h
  unfold jy; rw [if_neg h']
 unfold fM gN gM at h ⊢
 split
 ·rename_i k; rw [if_pos k] at h; exact jQ h
 ·rename_i k; rw [if_neg k] at h; split
  ·rename_i k; rw [if_pos k] at h; split
   ·rfl
   ·rename_i k; rw [if_neg k] at h; exact ha _ h
  ·rename_i k; rw [if_neg k] at h; split
   ·rename_i k; rw [if_pos k] at h; split
    ·rfl
    ·rename_i k; rw [if_neg k] at h; exact ha _ h
   ·rename_i k; rw [if_neg k] at h; split
    ·rename_i k; rw [if_pos k] at h; exact ha _ h
    ·rename_i k; rw [if_neg k] at h; split
     ·rename_i k; rw [if_pos k] at h; exact ha _ h
     ·rfl
theorem Jd {c o:aJ} {m:MsgD} (hm:oD m):oD (oZ c o m):=by
 have key:∀ (w:bP) (n:Int),oD { m with sh:=w,next:=n }:=fun w n=>⟨hm.kn,hm.up,hm.up2,hm.tn,hm.td,hm.ts,hm.tr,hm.fr,hm.de,hm.data,hm.ack⟩
 unfold oZ EI
 split
 ·exact key _ _
 ·split
  ·exact key _ _
  ·split
   ·exact key _ _
   ·exact key _ _
structure zw (w:qA) (n:Nat):Prop where
 a:kv w.1
 b:kv w.2
 la:w.1.past.length<=n
 lb:w.2.past.length<=n
theorem wX {w:qA} {n:Nat} (h:zw w n) (hn:n < 1000) (e:EvD):zw (iC w e).1 (n+1):=by
 have la:=h.la
 have lb:=h.lb
 unfold iC
 split
 ·have:=(Fa w.1 w.2 e).1
  exact ⟨RN h.a (by omega) e,h.b,by simp only; omega,by simp only; omega⟩
 ·split
  ·have:=(Fa w.2 w.1 e).1
   exact ⟨h.a,RN h.b (by omega) e,by simp only; omega,by simp only; omega⟩
  ·exact ⟨h.a,h.b,by simp only; omega,by simp only; omega⟩
theorem Jn:∀ (l:List EvD) {w:qA} {n:Nat},zw w n->n+l.length<=1000->zw (gW w l).1 (n+l.length)
 | [],w,n,h,_=>h
 | e :: t,w,n,h,hn=>by
  simp only [List.length_cons] at hn
  have:=Jn t (wX h (by omega) e) (by omega)
  simp only [gW,List.length_cons]
  rw [show n+(t.length+1)=n+1+t.length by omega]; exact this
theorem insV_mem {v x:dN}:∀ {l:List dN},x∈PR v l->x=v\/x∈l
 | [],h=>by simp [PR] at h; exact .inl h
 | a :: t,h=>by
  simp only [PR] at h
  split at h
  ·rcases List.mem_cons.1 h with h | h
   ·exact .inl h
   ·exact .inr h
  ·rcases List.mem_cons.1 h with h | h
   ·exact .inr (List.mem_cons.2 (.inl h))
   ·rcases insV_mem h with h | h
    ·exact .inl h
    ·exact .inr (List.mem_cons.2 (.inr h))
theorem Fq (v:dN):∀ l:List dN,(PR v l).length=l.length+1
 | []=>rfl
 | a :: t=>by simp only [PR]; split <;> simp [Fq v t]
theorem SN (name:ByteArray):∀ v∈Gy name,v.k < 18446744073709551616/\v.p < 18446744073709551616:=by
 intro v hv
 have h1:∀ s,keyF s < 18446744073709551616:=Um
 rcases insV_mem hv with rfl | hv
 ·exact ⟨h1 _,by show (1:Nat) < _; decide⟩
 ·rcases insV_mem hv with rfl | hv
  ·exact ⟨h1 _,by show (1:Nat) < _; decide⟩
  ·rw [List.mem_singleton.1 hv]; exact ⟨h1 _,by show (1:Nat) < _; decide⟩
theorem Gb {name owner denom:ByteArray} (hn:jN name=true) (hs:name.size<=20) (ho:1<=owner.size/\owner.size<=40) (hd:1<=denom.size/\denom.size<=40):kv (aX name owner denom):=by
 refine ⟨⟨hn,(show N12 0 1 by unfold N12; decide),(show N12 0 1 by unfold N12; decide),by simp [aX],by simp [aX],by simp [aX],by simp [aX],by simp [aX],by simp [aX],by simp [aX],by simp [aX],by simp [aX],by simp [aX],⟨by simp [aX],List.Pairwise.nil⟩,⟨by simp [aX],List.Pairwise.nil⟩,⟨by simp [aX],List.Pairwise.nil⟩,⟨fun p hp=>?_,List.pairwise_singleton ..⟩⟩,?_,by simp [aX],by simp [aX],by simp [aX],by simp [aX,Gy,Fq],SN name,by simp [aX],fun s hs'=>?_⟩
 ·simp only [aX,List.mem_singleton] at hp
  subst hp
  exact ⟨ho,hd,(show (1000:Nat)≠0 by decide)⟩
 ·intro p hp
  simp only [aX,List.mem_singleton] at hp
  subst hp
  show (1000:Nat) < _; decide
 ·have hb:∀ i:Nat,i < 10->(seedB name i).length<=1000:=fun i hi=>by
   have:=Lib.itoa_length_le (i:Int) (by omega) (by omega)
   have hz:name.data.toList.length=name.size:=rfl
   simp only [seedB,List.length_append]; omega
  simp only [aX,List.mem_cons,List.not_mem_nil,or_false] at hs'
  rcases hs' with rfl | rfl | rfl <;> exact hb _ (by decide)
def nmA:ByteArray:=⟨#[97]⟩
def nmB:ByteArray:=⟨#[98]⟩
def ownA:ByteArray:=⟨#[97,110,110]⟩
def BS:ByteArray:=⟨#[98,111,98]⟩
def goldA:ByteArray:=⟨#[103,111,108,100]⟩
def BJ:ByteArray:=⟨#[115,105,108,118,101,114]⟩
def fD:qA:=(aX nmA ownA goldA,aX nmB BS BJ)
theorem lL:zw fD 0:=⟨Gb (by decide) (by decide) (by decide) (by decide),Gb (by decide) (by decide) (by decide) (by decide),Nat.le_refl _,Nat.le_refl _⟩
def sV (l:List EvD):qA × List lN:=gW fD l
def Eu (w:qA):D:=.agg [.i (.s (.string w.1.s.name)),.i (.s (.int .i64 w.1.s.h)),.i (.s (.int .i64 w.1.s.t)),.i (.sl (w.1.s.cls.map fZ)),.i (.sl (w.1.s.cns.map dS)),.i (.sl (w.1.s.chs.map bK)),.i (.sl (w.1.s.sent.map bM)),.i (.sl (w.1.s.got.map bM)),.i (.sl (w.1.s.acks.map bM)),.i (.sl (w.1.s.pus.map aZ)),
 .i (.s (.string w.2.s.name)),.i (.s (.int .i64 w.2.s.h)),.i (.s (.int .i64 w.2.s.t)),.i (.sl (w.2.s.cls.map fZ)),.i (.sl (w.2.s.cns.map dS)),.i (.sl (w.2.s.chs.map bK)),.i (.sl (w.2.s.sent.map bM)),.i (.sl (w.2.s.got.map bM)),.i (.sl (w.2.s.acks.map bM)),.i (.sl (w.2.s.pus.map aZ))]
end Go.Proofs.YtfenipelcpmkpaaGreatDoor
