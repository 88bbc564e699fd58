/- Merged texts: BrS, WkF, BrC, BrD, BrL. -/
import Derived.Test.YtfenipelcpmkpaaGreatDoorGBr
set_option linter.all false
set_option maxHeartbeats 32000000
set_option maxRecDepth 20000
namespace Go.Abs
open Go Go.RowKit
attribute [local simp] fnd
theorem cK {P:Program} {f:FuncId} {ds gs:List D} {r:D} {objs objs':List (Nat × Ob)} {n:Nat} {σ:St} {ks:List Fr} {Q:Ex->St->Prop} {rid:Nat} {rest:List It} {dst:Option Nat} (ρ ρ':List (Nat × Nat)) (new:List (Nat × Ob)) (hL:aS P f ds (hF objs) r (hOf (hF objs) objs')) (h:Ro P n rid rest (St.put ⟨σ.sl,BK new σ.H⟩ dst r) ks Q)
  (hgs:cvs σ.H [] (fnd ρ) gs ds:=by simp [and_assoc,cvs,fnd]) (ho:∀ p∈objs,∃ o,fnd ρ p.1=some o/\cvO σ.H [] (fnd ρ) (σ.H o) p.2:=by simp [fnd,and_assoc,hF,lk]) (hk:(ρ.all fun q=>objs.any fun p=>p.1 == q.1)=true:=by rfl)
  (hinj:(ρ.all fun p=>ρ.all fun q=>p.2 != q.2 || p.1 == q.1)=true:=by rfl)
  (hn:∀ p∈new,∃ l,fnd ρ' p.1=some l/\cvO (hOf (hF objs) objs') [] (fnd ρ') (hOf (hF objs) objs' l) p.2:=by simp [fnd,and_assoc,hF,hOf,lk]) (hk':(ρ'.all fun q=>new.any fun p=>p.1 == q.1)=true:=by rfl)
  (hinj':(ρ'.all fun p=>ρ'.all fun q=>p.2 != q.2 || p.1 == q.1)=true:=by rfl) (hr':cv (hOf (hF objs) objs') [] (fnd ρ') r r:=by simp)
  (hback:(ρ.all fun p=>fnd ρ' p.2 == some p.1)=true:=by simp [fnd]) (hnew:∀ q∈ρ',fnd ρ q.2=some q.1\/σ.H q.1=.fresh:=by simp [fnd,hF,lk,noH]):Call P n rid f gs dst rest σ ks Q :=
 sj ρ ρ' new r hL h hgs ho hk hinj hn hk' hinj' hr' hback hnew
theorem fin_e {P:Program} {sl:Nat->D} {H H0:Nat->Ob} {fn:Func} {r:D} {rs:List ResultVar} {objs:List (Nat × Ob)} {F:List Nat} {src:List (Nat × Nat)} (d:jf F src) (h:fn.results=rs.toArray)
  (hv:Qn (ER P ⟨sl,H⟩ rs) H F (iC H0 src) r:=by (try simp only [go_sem,Nat.reduceLT,Nat.reduceAdd,Nat.reduceMul,reduceIte,Nat.reduceEqDiff,reduceCtorEq,Nat.reducePow,Nat.reduceLeDiff,Int.reduceLE,Int.reduceLT,Int.reduceToNat,Int.reduceEq,Nat.reduceBEq]); simp [*]) (ho:∀ p∈objs,bE H F (iC H0 src) p:=by simp [*])
  (hk:(src.all fun p=>objs.any fun q=>q.1 == p.1)=true:=by rfl) (hf:∀ p∈src,H0 p.2=.fresh:=by simp [*]) (hinj:(src.all fun p=>src.all fun q=>p.2 != q.2 || p.1 == q.1)=true:=by rfl):Fin P fn H0 r (hOf H0 objs) .ret ⟨sl,H⟩ :=
 fin_d d h hv ho hk hf hinj
end Go.Abs
namespace Go.Proofs.YtfenipelcpmkpaaGreatDoor
open Go Go.Abs Go.RowKit Go.Proofs.YtfenipelcpmkpaaGreatDoor.Ty
def Vo (c:aR):List (Nat × Ob):=[(0,.box (mJ c 1)),(1,.arr 18 (c.past.map bJ))]
def Od (c o:aR):List (Nat × Ob):=[(0,.box (mJ c 1)),(1,.arr 18 (c.past.map bJ)),(2,.box (mJ o 3)),(3,.arr 18 (o.past.map bJ))]
attribute [simp,go_sem] Vo Od
def qW (l:List EndD):List aT:=l.map fun e=>ofH e.sg.hdr
def abe (e:EndD):D:=.agg [.i (.s (.string e.sg.hdr.c)),.i (.s (.int .i64 e.sg.hdr.h)),.i (.s (.int .i64 e.sg.hdr.t)),.i (bI e.sg.hdr.root),.i (bI e.sg.hdr.vals),.i (bI e.sg.hdr.next),.i (valsI e.sg.vals),.i (votesI e.sg.votes),
 .i (.s (.string e.st.name)),.i (.s (.int .i64 e.st.h)),.i (.s (.int .i64 e.st.t)),.i (.sl (e.st.cls.map gI)),.i (.sl (e.st.cns.map dF)),.i (.sl (e.st.chs.map bF)),.i (.sl (e.st.sent.map bQ)),.i (.sl (e.st.got.map bQ)),.i (.sl (e.st.acks.map bQ)),.i (.sl (e.st.pus.map aZ))]
attribute [simp,go_sem] abe
theorem atB_case (o:aR) (h:Int):(atB o h=none/\ixK (qW o.past) h=-1)\/∃ i,∃ hi:i < o.past.length,ixK (qW o.past) h=i/\atB o h=some o.past[i]:=by
 unfold atB ixK kz qW
 rw [List.drop_zero,List.findIdx?_map]
 have e0:((fun k:aT=>decide (k.h=h)) ∘ fun e:EndD=>ofH e.sg.hdr)=fun e:EndD=>decide (e.sg.hdr.h=h):=rfl
 rw [e0]
 cases e:o.past.findIdx? (fun e:EndD=>decide (e.sg.hdr.h=h)) with
 | none =>
  left
  rw [List.findIdx?_eq_none_iff] at e
  exact ⟨List.find?_eq_none.2 fun x hx=>by simpa using e x hx,rfl⟩
 | some i =>
  right
  obtain ⟨hi,h1,h2⟩:=List.findIdx?_eq_some_iff_getElem.1 e
  refine ⟨i,hi,by simp,?_⟩
  rw [List.find?_eq_some_iff_getElem]
  exact ⟨h1,i,hi,rfl,fun j hj=>by simpa using h2 j hj⟩
theorem Vu (e:EndD) (h:Int):PureD Tryz.prog 125 [abe e,.rp [.s (.int .i64 h)] 0] (boolD (decide (e.sg.hdr.h=h))):=by
 refine au fun R hR=>?_
 refine aa 10 Tryz.func125 rfl rfl rfl (fun _ _=>rfl) ?_
 exact wkl trivial
theorem QW (l:List EndD) (h:Int) (hl:l.length<=1048576):PureD Tryz.prog 124 [.i (.sl (l.map bJ)),.fn 125 [.rp [.s (.int .i64 h)] 0]] (intD (ixK (qW l) h)):=by
 refine au fun R hR=>?_
 have hlen:(qW l).length=l.length:=by simp [qW]
 refine aa 19 Tryz.func124 rfl rfl rfl (fun _ _=>rfl) ?_
 refine wkl ?_
 clear hR; intro hR
 have hR':Hr (intD (kz (qW l) h 0)) R:=hR
 clear hR
 refine aW (ι:=Nat) (fun i=>i<=l.length/\Hr (intD (kz (qW l) h i)) R)
  (fun i=>dZ [(0,.i (.sl (l.map bJ))),(1,.fn 125 [.rp [.s (.int .i64 h)] 0]),(7,intD l.length),(8,intD i)] [])
  (fun i=>l.length - i) 0 ⟨Nat.zero_le _,hR'⟩ ?_ ?_
 ·exact dK [] []
 ·rintro i ⟨hi,hR⟩ RL hL
  clear hR'
  rw [ak]
  by_cases hlt:i < l.length
  ·have s0:=aF (f:=bJ) hlt
   have e1:((qW l)[i]'(by omega)).h=l[i].sg.hdr.h:=by simp [qW,ofH]
   rw [Aw (l:=qW l) (by omega),e1] at hR
   have c1:=Vu l[i] h
   have b1:=fun σ' (hq:Hr _ R)=>bk [] [] (hL (i+1) σ' ⟨hlt,hq⟩)
   clear hL e1 hlen
   generalize l[i]=k at *
   exact wkl trivial
  ·rw [Ay (l:=qW l) (by omega)] at hR
   exact wkl trivial
theorem uR (s:StateD) (ok:StOk s):(gF s).1.length<=1048576:=by
 unfold gF
 rw [if_pos (wrongS_zero.2 ok)]
 have h1:=EU s
 have:=ok.lcn; have:=ok.lch; have:=ok.lsent; have:=ok.lgot; have:=ok.lacks
 simp only [zT]
 omega
theorem ML (c o:aR) (ok:StOk c.s) (hl:o.past.length<=1048576) (hp:∀ e∈o.past,StOk e.st) (m:MsgD) (hm:NL m) :
  aS Tryz.prog 67 [.pt 0 0 0 0,.pt 2 0 0 0,XL m] (hF (Od c o)) (XL (showB c o m)) (hOf (hF (Od c o)) (Od c o)):=by
 refine iV fun R R' hR hR'=>?_
 have d1:jf [] []:=⟨trivial⟩
 obtain ⟨rfl⟩:=hR'
 have hD:=Vz c ok { m with sh:=zSh } ⟨hm.oend,hm.fr,hm.de,hm.seq⟩
 have hlc:=ok.lcl
 unfold showB EO at hR
 generalize hA:nJ c { m with sh:=zSh }=A at *
 obtain ⟨cli,key,gap,ask⟩:=A
 simp only at hD hR
 refine aa 130 Tryz.func67 rfl rfl rfl (fun o ho=>by simp [hF,lk,show o≠0 by omega,show o≠1 by omega,show o≠2 by omega,show o≠3 by omega,show o≠4 by omega,show o≠5 by omega]) ?_
 refine wkl ?_
 intro _
 refine cK [(0,0),(1,1),(2,1000)] [(0,0),(1,1),(1000,2)] [(0,.box (mJ c 1)),(1,.arr 18 (c.past.map bJ)),(1000,.box ((encMsg { m with sh:=zSh }).map .i))] hD ?_
 clear hD
 by_cases h1:ask=false\/cli < 0\/(c.s.cls.length:Int)<=cli
 ·rw [if_pos h1] at hR
  clear hm hp ok hA
  rcases h1 with rfl | h1 | h1
  ·first | exact wkl trivial | (refine wkl ?_; clear hR; intro hR; repeat' (intro _); obtain ⟨rfl⟩:=hR; exact fin_e d1 rfl)
  ·cases ask
   all_goals
    first | exact wkl trivial | (refine wkl ?_; clear hR; intro hR; repeat' (intro _); obtain ⟨rfl⟩:=hR; exact fin_e d1 rfl)
  ·by_cases h1b:cli < 0
   ·cases ask
    all_goals
     first | exact wkl trivial | (refine wkl ?_; clear hR; intro hR; repeat' (intro _); obtain ⟨rfl⟩:=hR; exact fin_e d1 rfl)
   ·cases ask
    all_goals
     first | exact wkl trivial | (refine wkl ?_; clear hR; intro hR; repeat' (intro _); obtain ⟨rfl⟩:=hR; exact fin_e d1 rfl)
 ·rw [if_neg h1] at hR
  obtain rfl:ask=true:=by cases ask; exact absurd (.inl rfl) h1; rfl
  have hi:cli.toNat < c.s.cls.length:=by omega
  have s0:=aF (f:=gI) hi
  have hk:=(ok.cls _ (List.getElem_mem hi)).len
  rw [(fA (s:=c.s) (i:=cli) (by omega)).1] at hR
  have hb:0<=cli/\cli < (c.s.cls.length:Int):=by omega
  clear hA hm
  generalize c.s.cls[cli.toNat]=x at *
  clear ok h1
  obtain ⟨hlt,hlast⟩:=last_get hk.1
  have s1:=aF (f:=je) hlt
  rw [<- hlast] at s1
  have hn:((x.known.length - 1:Nat):Int)=(x.known.length:Int) - 1:=by omega
  have w1:IntKind.i64.wrap ((x.known.length:Int) - 1)=((x.known.length - 1:Nat):Int):=by rw [aC (by omega) (by omega)]; omega
  have c2:=QW o.past (kK x).h hl
  clear hn hlast
  generalize kK x=k at *
  rcases atB_case o k.h with ⟨h2,h3⟩ | ⟨i,hi2,h2,h3⟩
  ·rw [h3] at c2
   rw [h2] at hR
   simp only at hR
   clear h2 h3 hp
   first | exact wkl trivial | (refine wkl ?_; clear hR; intro hR; repeat' (intro _); obtain ⟨rfl⟩:=hR; exact fin_e d1 rfl)
  ·rw [h2] at c2
   rw [h3] at hR
   simp only at hR
   have hst:=hp _ (List.getElem_mem hi2)
   have s2:=aF (f:=bJ) hi2
   have gi:¬ (i:Int) < 0:=by omega
   clear h2 h3 hp
   generalize o.past[i]=e at *
   have c3:=SB e.st hst.sm
   have c4:=WU (gF e.st).1 key (uR e.st hst)
   have c5:=aav (gF e.st).1 key (uR e.st hst)
   have hch:=hst.lch
   simp only [psI,ay,IK] at c4 c5
   cases gap
   ·simp only [Bool.false_eq_true,if_false] at hR
    clear c5
    unfold XG at hR
    by_cases h4:m.kind=17/\0<=m.pk.de/\m.pk.de < (e.st.chs.length:Int)
    ·obtain ⟨h5,h6⟩:=h4
     have hj:m.pk.de.toNat < e.st.chs.length:=by omega
     have s3:=aF (f:=bF) hj
     simp only [if_pos (show m.kind=17/\0<=m.pk.de/\m.pk.de < (e.st.chs.length:Int) from ⟨h5,h6⟩)] at hR
     rw [(bO (s:=e.st) (i:=m.pk.de) (by omega)).1] at hR
     clear hst
     generalize e.st.chs[m.pk.de.toNat]=y at *
     generalize gF e.st=B at *
     generalize u_ B.1 key=S at *
     first | exact wkl trivial | (refine wkl ?_; clear hR; intro hR; repeat' (intro _); obtain ⟨rfl⟩:=hR; exact fin_e d1 rfl)
    ·simp only [if_neg h4] at hR
     generalize gF e.st=B at *
     generalize u_ B.1 key=S at *
     clear hst
     by_cases h5:m.kind=17
     ·have h6:m.pk.de < 0\/(e.st.chs.length:Int)<=m.pk.de:=by
       by_cases h7:m.pk.de < 0
       ·exact .inl h7
       ·exact .inr (Int.not_lt.1 fun h8=>h4 ⟨h5,Int.not_lt.1 h7,h8⟩)
      clear h4
      first | exact wkl trivial | (refine wkl ?_; clear hR; intro hR; repeat' (intro _); obtain ⟨rfl⟩:=hR; exact fin_e d1 rfl)
     ·clear h4
      first | exact wkl trivial | (refine wkl ?_; clear hR; intro hR; repeat' (intro _); obtain ⟨rfl⟩:=hR; exact fin_e d1 rfl)
   ·simp only [if_true] at hR
    clear c4 hst
    generalize gF e.st=B at *
    generalize Yl B.1 key=G at *
    first | exact wkl trivial | (refine wkl ?_; clear hR; intro hR; repeat' (intro _); obtain ⟨rfl⟩:=hR; exact fin_e d1 rfl)
end Go.Proofs.YtfenipelcpmkpaaGreatDoor
namespace Go.Abs
open Go Go.RowKit
theorem wkf {G Q:Prop} (g:G) (h:PLift G->Q:=by
 intro hgo
 repeat' (first
  | (simp (maxSteps:=2000000) -implicitDefEqProofs only [go_sem,Nat.reduceLT,Nat.reduceAdd,Nat.reduceMul,reduceIte,Nat.reduceEqDiff,reduceCtorEq,Nat.reducePow,Nat.reduceLeDiff,Int.reduceLE,Int.reduceLT,Int.reduceToNat,Int.reduceEq,Nat.reduceBEq,lgc,not_true_eq_false,Vt, *])
  | (with_reducible refine ⟨?_,?_⟩; (· first | (obtain ⟨rfl⟩:=‹Hq _ _›; with_reducible refine chk_ok ?_; kernel_rfl) | kernel_rfl))
  | (with_reducible intro opz hopz)
  | (simp -implicitDefEqProofs (disch:=omega) only [ZH,SL,aF,ltc,ltf,lec,lef,aaj,aak])
  | ((with_reducible first | refine Eb ?_ | refine zi ?_); (first | refine wkA c1 ?_ | refine wkA c2 ?_ | refine wkA c3 ?_ | refine wkA c4 ?_ | refine wkA c5 ?_ | refine wkA c6 ?_ | refine wkA c7 ?_ | refine wkA c8 ?_ | refine wkA c9 ?_ | refine wkA c10 ?_ | refine wkB e1 ?_ | refine wkB e2 ?_ | refine wkB e3 ?_ | refine wkB e4 ?_ | refine wkB e5 ?_ | refine wkC c1 ?_ | refine wkC c2 ?_ | refine wkC c3 ?_ | refine wkC c4 ?_ | refine wkC c5 ?_ | refine wkC c6 ?_ | refine wkC c7 ?_ | refine wkC c8 ?_ | refine wkC c9 ?_ | refine wkC c10 ?_))
  | ((first | refine bg (fun hg=>?_) (fun hg=>?_) | refine uY (fun hg=>?_) (fun hg=>?_) | refine uZ (fun hg=>?_) (fun hg=>?_)) <;> (try simp only [nrm,eq_self,not_true_eq_false] at hg) <;> (try simp only [hg,lgc,reduceIte,reduceCtorEq] at hR) <;> (try (exfalso; omega)))
  | exact wkD b1 | exact wkD b2 | exact wkD b3 | exact wkD b4 | exact wkD b5
  | ((try simp only [*,lgc,reduceIte,reduceCtorEq] at hR); (try obtain ⟨rfl⟩:=hR); refine fin_q rfl ?_; (try simp only [go_sem,Nat.reduceLT,Nat.reduceAdd,Nat.reduceMul,reduceIte,Nat.reduceEqDiff,reduceCtorEq,Nat.reducePow,Nat.reduceLeDiff,Int.reduceLE,Int.reduceLT,Int.reduceToNat,Int.reduceEq,Nat.reduceBEq]); (first | (simp; done) | (simp; omega) | (simp [*]; done) | (simp [*]; omega)))
  | ((try simp only [*,lgc,reduceIte,reduceCtorEq] at hR); (try obtain ⟨rfl⟩:=hR); refine fin_d d1 rfl ?_ ?_ rfl ?_ rfl <;> (try simp only [go_sem,Nat.reduceLT,Nat.reduceAdd,Nat.reduceMul,reduceIte,Nat.reduceEqDiff,reduceCtorEq,Nat.reducePow,Nat.reduceLeDiff,Int.reduceLE,Int.reduceLT,Int.reduceToNat,Int.reduceEq,Nat.reduceBEq]) <;> (simp; done)))
 all_goals (repeat (revert hg))
 all_goals (try (have hR:=hR; revert hR))
 all_goals (try (revert hopz; revert opz))
 all_goals exact hgo.down):Q:=h ⟨g⟩
attribute [local simp] fnd
theorem EC {j:Nat} {G:Nat->Ob}:∀ {l:List (Nat × Ob)},j ∉ l.map (·.1)->BK l G j=G j
 | [],_=>rfl
 | (a,x) :: t,h=>by
  simp only [List.map_cons,List.mem_cons,not_or] at h
  simp only [BK]; rw [upd_ne _ _ h.1]; exact EC h.2
theorem IY {j:Nat} {G G':Nat->Ob}:∀ {l:List (Nat × Ob)},j∈l.map (·.1)->BK l G j=BK l G' j
 | (a,x) :: t,h=>by
  simp only [BK]
  by_cases e:j=a
  ·subst e; rw [upd_same,upd_same]
  ·rw [upd_ne _ _ e,upd_ne _ _ e]
   simp only [List.map_cons,List.mem_cons] at h
   exact IY (h.resolve_left e)
theorem IC {P:Program} {f:FuncId} {ds gs:List D} {r:D} {objs objs':List (Nat × Ob)} {n:Nat} {σ:St} {ks:List Fr} {Q:Ex->St->Prop} {rid k:Nat} {ops:Array Oper} {rest:List It} {acc:Acc} {dst:Option Nat} (ρ ρ':List (Nat × Nat)) (new:List (Nat × Ob)) (hL:aS P f ds (hF objs) r (hOf (hF objs) objs'))
  (h:Rd P n rid ops rest ((k,new.map (·.1),new.map (·.1)) :: acc) (St.put ⟨σ.sl,BK new σ.H⟩ dst r) ks Q)
  (hgs:∀ G,kr (new.map (·.1)) G σ.H->cvs G [] (fnd ρ) gs ds:=by intro G hG; simp at hG; simp [hG,and_assoc,cvs,fnd])
  (ho:∀ G,kr (new.map (·.1)) G σ.H->∀ p∈objs,∃ o,fnd ρ p.1=some o/\cvO G [] (fnd ρ) (G o) p.2:=by intro G hG; simp [hF,lk] at hG; simp [hG,fnd,and_assoc,hF,lk]) (hk:(ρ.all fun q=>objs.any fun p=>p.1 == q.1)=true:=by rfl)
  (hinj:(ρ.all fun p=>ρ.all fun q=>p.2 != q.2 || p.1 == q.1)=true:=by rfl)
  (hn:∀ p∈new,∃ l,fnd ρ' p.1=some l/\cvO (hOf (hF objs) objs') [] (fnd ρ') (hOf (hF objs) objs' l) p.2:=by simp [fnd,and_assoc,hF,hOf,lk]) (hk':(ρ'.all fun q=>new.any fun p=>p.1 == q.1)=true:=by rfl)
  (hinj':(ρ'.all fun p=>ρ'.all fun q=>p.2 != q.2 || p.1 == q.1)=true:=by rfl) (hr':cv (hOf (hF objs) objs') [] (fnd ρ') r r:=by simp)
  (hback:(ρ.all fun p=>fnd ρ' p.2 == some p.1)=true:=by simp [fnd]) (hnew:∀ G,kr (new.map (·.1)) G σ.H->∀ q∈ρ',fnd ρ q.2=some q.1\/G q.1=.fresh:=by intro G hG; simp [fnd,hF,lk,noH]):ku P n rid ops f gs k dst rest acc σ ks Q :=
 ⟨⟨r,new.map (·.1),new.map (·.1),fun G=>BK new G⟩,⟨⟨fun _ h=>h,fun G j hj=>EC hj,fun G G' _ j hj=>IY hj⟩,fun G hG=>.inl (Gn ρ ρ' hL (hgs G hG) (ho G hG) hk hinj hn hk' hinj' hr' hback (hnew G hG))⟩,h⟩
end Go.Abs
namespace Go.Proofs.YtfenipelcpmkpaaGreatDoor
open Go Go.Abs Go.RowKit Go.Proofs.YtfenipelcpmkpaaGreatDoor.Ty
theorem Iq (c:aR) (ok:StOk c.s) (h64:P64 c.s.pus) (m:MsgD) (hm:oM m) :
  aS Tryz.prog 66 [.pt 0 0 0 0,XL m] (hF (Vo c)) (Dy (oJ c m).2) (hOf (hF (Vo c)) (Vo (oJ c m).1)):=by
 refine iV fun R R' hR hR'=>?_
 have c1:=Ze c.s ok.sm h64 m hm
 unfold oJ at hR hR'
 by_cases e:(doS c.s m).2.err=0
 ·simp only [if_pos e] at hR hR'
  generalize doS c.s m=X at *
  clear ok h64 hm
  have d1:jf [] []:=⟨trivial⟩
  obtain ⟨rfl⟩:=hR'
  refine aa 24 Tryz.func66 rfl rfl rfl (fun o ho=>by simp [hF,lk,show o≠0 by omega,show o≠1 by omega,show o≠2 by omega,show o≠3 by omega,show o≠4 by omega,show o≠5 by omega]) ?_
  first | exact wkl trivial | refine wkl ?_
  all_goals (clear hR; intro hR)
  all_goals (repeat' (intro _))
  all_goals (obtain ⟨rfl⟩:=hR)
  all_goals (refine fin_d d1 rfl ?_ ?_ rfl ?_ rfl)
  all_goals (try simp only [go_sem,Nat.reduceLT,Nat.reduceAdd,Nat.reduceMul,reduceIte,Nat.reduceEqDiff,reduceCtorEq,Nat.reducePow,Nat.reduceLeDiff,Int.reduceLE,Int.reduceLT,Int.reduceToNat,Int.reduceEq,Nat.reduceBEq])
  all_goals simp [*]
 ·simp only [if_neg e] at hR hR'
  generalize doS c.s m=X at *
  clear ok h64 hm
  have d1:jf [] []:=⟨trivial⟩
  obtain ⟨rfl⟩:=hR'
  refine aa 24 Tryz.func66 rfl rfl rfl (fun o ho=>by simp [hF,lk,show o≠0 by omega,show o≠1 by omega,show o≠2 by omega,show o≠3 by omega,show o≠4 by omega,show o≠5 by omega]) ?_
  first | exact wkl trivial | refine wkl ?_
  all_goals (clear hR; intro hR)
  all_goals (repeat' (intro _))
  all_goals (obtain ⟨rfl⟩:=hR)
  all_goals (refine fin_d d1 rfl ?_ ?_ rfl ?_ rfl)
  all_goals (try simp only [go_sem,Nat.reduceLT,Nat.reduceAdd,Nat.reduceMul,reduceIte,Nat.reduceEqDiff,reduceCtorEq,Nat.reducePow,Nat.reduceLeDiff,Int.reduceLE,Int.reduceLT,Int.reduceToNat,Int.reduceEq,Nat.reduceBEq])
  all_goals simp [*]
structure jQ (c:aR):Prop where
 ok:StOk c.s
 p64:P64 c.s.pus
 len:c.past.length<=1000
 st:∀ e∈c.past,StOk e.st
 sg:∀ e∈c.past,VM e.sg/\e.sg.hdr.next.length<=1048576
 vl:c.vals.length<=1000
 vk:∀ v∈c.vals,v.k < 18446744073709551616/\v.p < 18446744073709551616
 sl:c.seeds.length<=1000
 sk:∀ s∈c.seeds,s.length<=1000
theorem last_pastB {o:aR} (h:¬ o.past.length=0):∃ hi:o.past.length - 1 < o.past.length,CS o=o.past[o.past.length - 1] :=
 ⟨by omega,by unfold CS; rw [List.getLastD_eq_getLast?,List.getLast?_eq_getElem?,List.getElem?_eq_getElem (by omega)]; rfl⟩
theorem oU:oM sw:=⟨⟨by decide,by decide⟩,Ey,Ey,by decide,by decide,by decide,by decide,by unfold gY; decide,by unfold gY; decide,by decide,by decide⟩
theorem Mr {o:aR} (ho:jQ o) (h:¬ o.past.length=0) (t:Int):oM (vV o t):=by
 obtain ⟨hi,e⟩:=last_pastB h
 have hg:=ho.sg _ (List.getElem_mem hi)
 rw [<- e] at hg
 have z:=oU
 exact ⟨⟨hg.1.h.root,hg.2⟩,z.up,z.up2,z.tn,z.td,z.ts,z.tr,z.fr,z.de,z.data,z.ack⟩
theorem LG {c o:aR} (ho:jQ o) (h:¬ o.past.length=0) (i:Int):oM (vR c o i):=by
 obtain ⟨hi,e⟩:=last_pastB h
 have hg:=ho.sg _ (List.getElem_mem hi)
 rw [<- e] at hg
 have z:=oU
 exact ⟨z.kn,⟨hg.1,Nat.le_trans ho.vl (by decide),ho.vk,hg.2⟩,z.up2,z.tn,z.td,z.ts,z.tr,z.fr,z.de,z.data,z.ack⟩
theorem Bf (c o:aR) (hc:jQ c) (ho:jQ o) (trust:Int) :
  aS Tryz.prog 64 [.pt 0 0 0 0,.pt 2 0 0 0,intD trust] (hF (Od c o)) (Dy (ja c o trust).2) (hOf (hF (Od c o)) (Od (ja c o trust).1 o)):=by
 refine iV fun R R' hR hR'=>?_
 unfold ja at hR hR'
 have hl:=ho.len
 have d1:jf [] []:=⟨trivial⟩
 by_cases h:o.past.length=0
 ·simp only [if_pos h] at hR hR'
  clear hc ho
  obtain ⟨rfl⟩:=hR'
  refine aa 44 Tryz.func64 rfl rfl rfl (fun o ho=>by simp [hF,lk,show o≠0 by omega,show o≠1 by omega,show o≠2 by omega,show o≠3 by omega,show o≠4 by omega,show o≠5 by omega]) ?_
  first | exact wkl trivial | refine wkl ?_
  all_goals (clear hR; intro hR)
  all_goals (repeat' (intro _))
  all_goals (obtain ⟨rfl⟩:=hR)
  all_goals (refine fin_d d1 rfl ?_ ?_ rfl ?_ rfl)
  all_goals (try simp only [go_sem,Nat.reduceLT,Nat.reduceAdd,Nat.reduceMul,reduceIte,Nat.reduceEqDiff,reduceCtorEq,Nat.reducePow,Nat.reduceLeDiff,Int.reduceLE,Int.reduceLT,Int.reduceToNat,Int.reduceEq,Nat.reduceBEq])
  all_goals simp [*]
 ·simp only [if_neg h] at hR hR'
  have hD:=Iq c hc.ok hc.p64 (vV o trust) (Mr ho h trust)
  obtain ⟨hi,e⟩:=last_pastB h
  have s0:=aF (f:=bJ) hi
  rw [<- e] at s0
  have w1:IntKind.i64.wrap ((o.past.length:Int) - 1)=((o.past.length - 1:Nat):Int):=by rw [aC (by omega) (by omega)]; omega
  generalize oJ c (vV o trust)=X at hD hR hR'
  simp only [vV,ofH] at hD
  clear hc ho e
  generalize CS o=z at *
  obtain ⟨rfl⟩:=hR'
  refine aa 44 Tryz.func64 rfl rfl rfl (fun o ho=>by simp [hF,lk,show o≠0 by omega,show o≠1 by omega,show o≠2 by omega,show o≠3 by omega,show o≠4 by omega,show o≠5 by omega]) ?_
  refine wkl ?_
  clear hR; intro hR
  repeat' (intro _)
  refine cK [(0,0),(1,1)] [(0,0),(1,1)] [(0,.box (mJ X.1 1)),(1,.arr 18 (X.1.past.map bJ))] hD ?_
  clear hD
  first | exact wkl trivial | refine wkl ?_
  all_goals (clear hR; intro hR)
  all_goals (repeat' (intro _))
  all_goals (obtain ⟨rfl⟩:=hR)
  all_goals (refine fin_d d1 rfl ?_ ?_ rfl ?_ rfl)
  all_goals (try simp only [go_sem,Nat.reduceLT,Nat.reduceAdd,Nat.reduceMul,reduceIte,Nat.reduceEqDiff,reduceCtorEq,Nat.reducePow,Nat.reduceLeDiff,Int.reduceLE,Int.reduceLT,Int.reduceToNat,Int.reduceEq,Nat.reduceBEq])
  all_goals simp [*]
theorem Be (c o:aR) (hc:jQ c) (ho:jQ o) (i:Int) :
  aS Tryz.prog 65 [.pt 0 0 0 0,.pt 2 0 0 0,intD i] (hF (Od c o)) (Dy (iY c o i).2) (hOf (hF (Od c o)) (Od (iY c o i).1 o)):=by
 refine iV fun R R' hR hR'=>?_
 unfold iY at hR hR'
 have hl:=ho.len
 have hlc:=hc.ok.lcl
 have d1:jf [] []:=⟨trivial⟩
 by_cases h:o.past.length=0\/i < 0\/(c.s.cls.length:Int)<=i
 ·simp only [if_pos h] at hR hR'
  clear hc ho
  obtain ⟨rfl⟩:=hR'
  by_cases p0:((o.past.length:Nat):Int)=0
  ·clear h
   refine aa 67 Tryz.func65 rfl rfl rfl (fun o ho=>by simp [hF,lk,show o≠0 by omega,show o≠1 by omega,show o≠2 by omega,show o≠3 by omega,show o≠4 by omega,show o≠5 by omega]) ?_
   first | exact wkl trivial | refine wkl ?_
   all_goals (clear hR; intro hR)
   all_goals (repeat' (intro _))
   all_goals (obtain ⟨rfl⟩:=hR)
   all_goals (refine fin_d d1 rfl ?_ ?_ rfl ?_ rfl)
   all_goals (try simp only [go_sem,Nat.reduceLT,Nat.reduceAdd,Nat.reduceMul,reduceIte,Nat.reduceEqDiff,reduceCtorEq,Nat.reducePow,Nat.reduceLeDiff,Int.reduceLE,Int.reduceLT,Int.reduceToNat,Int.reduceEq,Nat.reduceBEq])
   all_goals simp [*]
  ·by_cases p1:i < 0
   ·clear h
    refine aa 67 Tryz.func65 rfl rfl rfl (fun o ho=>by simp [hF,lk,show o≠0 by omega,show o≠1 by omega,show o≠2 by omega,show o≠3 by omega,show o≠4 by omega,show o≠5 by omega]) ?_
    first | exact wkl trivial | refine wkl ?_
    all_goals (clear hR; intro hR)
    all_goals (repeat' (intro _))
    all_goals (obtain ⟨rfl⟩:=hR)
    all_goals (refine fin_d d1 rfl ?_ ?_ rfl ?_ rfl)
    all_goals (try simp only [go_sem,Nat.reduceLT,Nat.reduceAdd,Nat.reduceMul,reduceIte,Nat.reduceEqDiff,reduceCtorEq,Nat.reducePow,Nat.reduceLeDiff,Int.reduceLE,Int.reduceLT,Int.reduceToNat,Int.reduceEq,Nat.reduceBEq])
    all_goals simp [*]
   ·have p2:(c.s.cls.length:Int)<=i:=by omega
    clear h
    refine aa 67 Tryz.func65 rfl rfl rfl (fun o ho=>by simp [hF,lk,show o≠0 by omega,show o≠1 by omega,show o≠2 by omega,show o≠3 by omega,show o≠4 by omega,show o≠5 by omega]) ?_
    first | exact wkl trivial | refine wkl ?_
    all_goals (clear hR; intro hR)
    all_goals (repeat' (intro _))
    all_goals (obtain ⟨rfl⟩:=hR)
    all_goals (refine fin_d d1 rfl ?_ ?_ rfl ?_ rfl)
    all_goals (try simp only [go_sem,Nat.reduceLT,Nat.reduceAdd,Nat.reduceMul,reduceIte,Nat.reduceEqDiff,reduceCtorEq,Nat.reducePow,Nat.reduceLeDiff,Int.reduceLE,Int.reduceLT,Int.reduceToNat,Int.reduceEq,Nat.reduceBEq])
    all_goals simp [*]
 ·simp only [if_neg h] at hR hR'
  have h0:¬ o.past.length=0:=fun e=>h (.inl e)
  have hD:=Iq c hc.ok hc.p64 (vR c o i) (LG ho h0 i)
  obtain ⟨hi,e⟩:=last_pastB h0
  have s0:=aF (f:=bJ) hi
  rw [<- e] at s0
  have w1:IntKind.i64.wrap ((o.past.length:Int) - 1)=((o.past.length - 1:Nat):Int):=by rw [aC (by omega) (by omega)]; omega
  have hj:i.toNat < c.s.cls.length:=by omega
  have s1:=aF (f:=gI) hj
  have hk:=(hc.ok.cls _ (List.getElem_mem hj)).len
  have ecl:=(fA (s:=c.s) (i:=i) (by omega)).1
  rw [<- ecl] at s1 hk
  obtain ⟨hlt,hlast⟩:=last_get hk.1
  have s2:=aF (f:=je) hlt
  rw [<- hlast] at s2
  have w2:IntKind.i64.wrap (((jR c.s i).known.length:Int) - 1)=(((jR c.s i).known.length - 1:Nat):Int):=by rw [aC (by omega) (by omega)]; omega
  generalize oJ c (vR c o i)=X at hD hR hR'
  simp only [vR] at hD
  have p0:¬ ((o.past.length:Nat):Int)=0:=by omega
  have p1:¬ i < 0:=by omega
  have p2:¬ (c.s.cls.length:Int)<=i:=by omega
  clear hc ho e ecl hlast h
  generalize CS o=z at *
  generalize jR c.s i=x at *
  generalize kK x=k at *
  obtain ⟨rfl⟩:=hR'
  refine aa 67 Tryz.func65 rfl rfl rfl (fun o ho=>by simp [hF,lk,show o≠0 by omega,show o≠1 by omega,show o≠2 by omega,show o≠3 by omega,show o≠4 by omega,show o≠5 by omega]) ?_
  refine wkf ?_
  intro ops hops _
  repeat' (intro _)
  refine IC [(0,0),(1,1)] [(0,0),(1,1)] [(0,.box (mJ X.1 1)),(1,.arr 18 (X.1.past.map bJ))] hD ?_
  clear hD
  first | exact wkl trivial | refine wkl ?_
  all_goals (clear hR; intro hR)
  all_goals (repeat' (intro _))
  all_goals (obtain ⟨rfl⟩:=hR)
  all_goals (refine fin_d d1 rfl ?_ ?_ rfl ?_ rfl)
  all_goals (try simp only [go_sem,Nat.reduceLT,Nat.reduceAdd,Nat.reduceMul,reduceIte,Nat.reduceEqDiff,reduceCtorEq,Nat.reducePow,Nat.reduceLeDiff,Int.reduceLE,Int.reduceLT,Int.reduceToNat,Int.reduceEq,Nat.reduceBEq])
  all_goals simp [*]
theorem Vv (s:StateD) (hs:StSm s):PureD Tryz.prog 31 [stateD s] (.tup [.i (bI (jW s).1),intD (jW s).2]):=by
 refine au fun R hR=>?_
 have c1:=SB s hs
 unfold jW at hR
 by_cases h:bu s=0
 ·have h2:(gF s).2=0:=by unfold gF; rw [if_pos h]
  have c2:=WX (gF s).1 (uR s (wrongS_zero.1 h))
  rw [if_pos h2] at hR
  rw [h2] at c1
  simp only [psI,dA] at c2
  simp only at hR
  generalize Hm (gF s).1=X at *
  generalize dP (gF s).1=Y at *
  generalize (gF s).1=B at *
  clear h h2 hs
  refine aa 24 Tryz.func31 rfl rfl rfl (fun _ _=>rfl) ?_
  exact wkl trivial
 ·have h2:gF s=([],bu s):=by unfold gF; rw [if_neg h]
  rw [h2] at c1 hR
  simp only [if_neg h] at hR c1
  generalize bu s=W at *
  clear h2 hs
  refine aa 24 Tryz.func31 rfl rfl rfl (fun _ _=>rfl) ?_
  exact wkl trivial
theorem Li (c:aR) (ok:StOk c.s) (h:(jW c.s).2=0):Rk (uk c):=by
 have hd:(dh c.vals).length=32:=dH _
 have hn:c.s.name.size<=1048576:=by
  have:=ok.name
  unfold jK at this
  simp at this
  omega
 have hr:(jW c.s).1.length<=1048576:=by
  unfold jW
  split
  ·unfold Hm Aa GX
   split
   ·rw [dH]; omega
   ·simp
  ·simp
 exact ⟨hn,hr,by rw [show (uk c).vals=dh c.vals from rfl,hd]; omega,by rw [show (uk c).next=dh c.vals from rfl,hd]; omega⟩
theorem Gv (c:aR) (hc:jQ c) (later:Int) :
  aS Tryz.prog 63 [.pt 0 0 0 0,intD later] (hF (Vo c)) (Dy (dC c later).2) (hOf (hF (Vo c)) (if (dC c later).2.err=0 then [(0,.box (mJ (dC c later).1 2)),(1,.dead),(2,.arr 18 ((dC c later).1.past.map bJ))] else Vo c)):=by
 refine iV fun R R' hR hR'=>?_
 have c1:=Rb c.s hc.ok.sm later
 have c2:=Vv c.s hc.ok.sm
 have hl:=hc.len
 have hvl:=hc.vl
 unfold dC at hR hR'
 by_cases h1:(jA c.s later).2=0
 ·simp only [if_pos h1] at hR hR'
  rw [h1] at c1
  by_cases h2:(jW c.s).2=0
  ·simp only [if_pos h2] at hR hR'
   have c3:=lC c.vals (by omega) hc.vk
   have c4:=UO (uk c) c.vals c.seeds (Li c hc.ok h2) (by omega) hc.vk ⟨by have:=hc.sl; omega,fun s hs=>by have:=hc.sk s hs; omega⟩
   have c5:=Jn c.s hc.ok.sm
   rw [h2] at c2
   by_cases h3:(kG (uk c) c.vals c.seeds).2=0
   ·simp only [if_pos h3] at hR hR'
    rw [h3] at c4
    generalize (kG (uk c) c.vals c.seeds).1=sg at *
    simp only [uk,Ol] at c4
    have m1:c.past.map bJ++[bJ (⟨sg,c.s⟩:EndD)]=(c.past++[(⟨sg,c.s⟩:EndD)]).map bJ:=by simp
    have m2:c.past.length+1=(c.past++[(⟨sg,c.s⟩:EndD)]).length:=by simp
    simp only [bJ,valsI,votesI,bI] at m1
    generalize c.past++[(⟨sg,c.s⟩:EndD)]=L at *
    generalize (jA c.s later).1=N at *
    generalize jW c.s=Ro at *
    generalize dh c.vals=D at *
    have d1:jf [] [(2,3829)]:=⟨trivial⟩
    clear hc h1 h2 h3
    obtain ⟨rfl⟩:=hR'
    refine aa 101 Tryz.func63 rfl rfl rfl (fun o ho=>by simp [hF,lk,show o≠0 by omega,show o≠1 by omega,show o≠2 by omega,show o≠3 by omega,show o≠4 by omega,show o≠5 by omega]) ?_
    first | exact wkl trivial | refine wkl ?_
    all_goals (clear hR; intro hR)
    all_goals (repeat' (intro _))
    all_goals (obtain ⟨rfl⟩:=hR)
    all_goals (refine fin_d d1 rfl ?_ ?_ rfl ?_ rfl)
    all_goals (try simp only [go_sem,Nat.reduceLT,Nat.reduceAdd,Nat.reduceMul,reduceIte,Nat.reduceEqDiff,reduceCtorEq,Nat.reducePow,Nat.reduceLeDiff,Int.reduceLE,Int.reduceLT,Int.reduceToNat,Int.reduceEq,Nat.reduceBEq])
    all_goals simp [*]
   ·simp only [if_neg h3] at hR hR'
    generalize kG (uk c) c.vals c.seeds=S at *
    simp only [uk,Ol] at c4
    simp only [dE,if_neg h3] at hR hR'
    generalize jA c.s later=N at *
    generalize jW c.s=Ro at *
    generalize dh c.vals=D at *
    have d1:jf [] []:=⟨trivial⟩
    clear hc h1 h2 c5
    obtain ⟨rfl⟩:=hR'
    refine aa 101 Tryz.func63 rfl rfl rfl (fun o ho=>by simp [hF,lk,show o≠0 by omega,show o≠1 by omega,show o≠2 by omega,show o≠3 by omega,show o≠4 by omega,show o≠5 by omega]) ?_
    first | exact wkl trivial | refine wkl ?_
    all_goals (clear hR; intro hR)
    all_goals (repeat' (intro _))
    all_goals (obtain ⟨rfl⟩:=hR)
    all_goals (refine fin_d d1 rfl ?_ ?_ rfl ?_ rfl)
    all_goals (try simp only [go_sem,Nat.reduceLT,Nat.reduceAdd,Nat.reduceMul,reduceIte,Nat.reduceEqDiff,reduceCtorEq,Nat.reducePow,Nat.reduceLeDiff,Int.reduceLE,Int.reduceLT,Int.reduceToNat,Int.reduceEq,Nat.reduceBEq])
    all_goals simp [*]
  ·simp only [if_neg h2] at hR hR'
   simp only [dE,if_neg h2] at hR hR'
   generalize jA c.s later=N at *
   generalize jW c.s=Ro at *
   have d1:jf [] []:=⟨trivial⟩
   clear hc h1
   obtain ⟨rfl⟩:=hR'
   refine aa 101 Tryz.func63 rfl rfl rfl (fun o ho=>by simp [hF,lk,show o≠0 by omega,show o≠1 by omega,show o≠2 by omega,show o≠3 by omega,show o≠4 by omega,show o≠5 by omega]) ?_
   first | exact wkl trivial | refine wkl ?_
   all_goals (clear hR; intro hR)
   all_goals (repeat' (intro _))
   all_goals (obtain ⟨rfl⟩:=hR)
   all_goals (refine fin_d d1 rfl ?_ ?_ rfl ?_ rfl)
   all_goals (try simp only [go_sem,Nat.reduceLT,Nat.reduceAdd,Nat.reduceMul,reduceIte,Nat.reduceEqDiff,reduceCtorEq,Nat.reducePow,Nat.reduceLeDiff,Int.reduceLE,Int.reduceLT,Int.reduceToNat,Int.reduceEq,Nat.reduceBEq])
   all_goals simp [*]
 ·simp only [if_neg h1] at hR hR'
  simp only [dE,if_neg h1] at hR hR'
  generalize jA c.s later=N at *
  have d1:jf [] []:=⟨trivial⟩
  clear hc c2
  obtain ⟨rfl⟩:=hR'
  refine aa 101 Tryz.func63 rfl rfl rfl (fun o ho=>by simp [hF,lk,show o≠0 by omega,show o≠1 by omega,show o≠2 by omega,show o≠3 by omega,show o≠4 by omega,show o≠5 by omega]) ?_
  first | exact wkl trivial | refine wkl ?_
  all_goals (clear hR; intro hR)
  all_goals (repeat' (intro _))
  all_goals (obtain ⟨rfl⟩:=hR)
  all_goals (refine fin_d d1 rfl ?_ ?_ rfl ?_ rfl)
  all_goals (try simp only [go_sem,Nat.reduceLT,Nat.reduceAdd,Nat.reduceMul,reduceIte,Nat.reduceEqDiff,reduceCtorEq,Nat.reducePow,Nat.reduceLeDiff,Int.reduceLE,Int.reduceLT,Int.reduceToNat,Int.reduceEq,Nat.reduceBEq])
  all_goals simp [*]
theorem WT (s m:List UInt8):Bp s m < 18446744073709551616:=Nat.lt_trans (Nat.mod_lt _ (by decide)) (show pN < 18446744073709551616 by decide)
theorem WS (s m:List UInt8):sigS s m < 18446744073709551616:=Nat.lt_trans (Nat.mod_lt _ (by decide)) (show qN < 18446744073709551616 by decide)
theorem Ur (s:List UInt8):keyF s < 18446744073709551616:=Nat.lt_trans (Nat.mod_lt _ (by decide)) (show pN < 18446744073709551616 by decide)
theorem OG (h:oQ) (v:dR):∀ seeds:List (List UInt8),(kQ h seeds v).r < 18446744073709551616/\(kQ h seeds v).s < 18446744073709551616:=by
 have key:∀ (seeds:List (List UInt8)) (x:jB),(x.r < 18446744073709551616/\x.s < 18446744073709551616)->(seeds.foldl (fun x s=>if v.k=keyF s then (⟨true,Bp s (dn h),sigS s (dn h)⟩:jB) else x) x).r < 18446744073709551616/\(seeds.foldl (fun x s=>if v.k=keyF s then (⟨true,Bp s (dn h),sigS s (dn h)⟩:jB) else x) x).s < 18446744073709551616:=by
  intro seeds
  induction seeds with
  | nil=>exact fun x hx=>hx
  | cons a t ih =>
   intro x hx
   rw [List.foldl_cons]
   refine ih _ ?_
   split
   ·exact ⟨WT _ _,WS _ _⟩
   ·exact hx
 exact fun seeds=>key seeds ⟨false,0,0⟩ ⟨by decide,by decide⟩
theorem sign_fst {h:oQ} {vals:List dR} {seeds:List (List UInt8)} (e:(kG h vals seeds).2=0):(kG h vals seeds).1=⟨h,vals,vals.map (kQ h seeds)⟩/\fC h=0/\jw vals=0/\dh vals=h.vals:=by
 unfold kG at e ⊢
 split at e
 ·rename_i a
  rw [if_pos a]
  split at e
  ·rename_i b
   rw [if_pos b]
   split at e
   ·rename_i d
    rw [if_pos d]
    exact ⟨rfl,a,b,d⟩
   ·cases e
  ·exact absurd e ‹_›
 ·exact absurd e ‹_›
theorem GD {c:aR} (hc:jQ c) (m:MsgD):jQ (oJ c m).1:=by
 unfold oJ
 split
 ·rename_i h
  have hs:=FU hc.p64 h
  exact ⟨hs.ok,hs.p64,hc.len,hc.st,hc.sg,hc.vl,hc.vk,hc.sl,hc.sk⟩
 ·exact hc
theorem nextS_ok {s:StateD} {later:Int} (h:(jA s later).2=0):StOk s/\(1<=later/\later<=1000000000000)/\jA s later=({ s with h:=s.h+1,t:=s.t+later },0)/\StOk (jA s later).1:=by
 unfold jA at h ⊢
 by_cases h1:bu s=0
 ·rw [if_pos h1] at h ⊢
  by_cases h2:later < 1\/1000000000000 < later\/1000000000000 < s.t+later\/s.h=1000000000000
  ·rw [if_pos h2] at h; cases h
  ·rw [if_neg h2]
   have ok:=wrongS_zero.1 h1
   have a:=ok.h
   have b:=ok.t
   unfold N12 at a b
   exact ⟨ok,by omega,rfl,⟨ok.name,by unfold N12; simp only; omega,by unfold N12; simp only; omega,ok.lcl,ok.lcn,ok.lch,ok.lsent,ok.lgot,ok.lacks,ok.lpus,ok.cls,ok.cns,ok.chs,ok.sent,ok.got,ok.acks,ok.pus⟩⟩
 ·rw [if_neg h1] at h; exact absurd h h1
theorem block_done {c:aR} {later:Int} (h:(dC c later).2.err=0):(jA c.s later).2=0/\(jW c.s).2=0/\(kG (uk c) c.vals c.seeds).2=0 /\
  dC c later=({ c with s:=(jA c.s later).1,past:=c.past++[⟨(kG (uk c) c.vals c.seeds).1,c.s⟩] },⟨0,((c.past.length+1:Nat):Int),zeroPk⟩):=by
 unfold dC at h ⊢
 by_cases h1:(jA c.s later).2=0
 ·rw [if_pos h1] at h ⊢
  by_cases h2:(jW c.s).2=0
  ·rw [if_pos h2] at h ⊢
   by_cases h3:(kG (uk c) c.vals c.seeds).2=0
   ·rw [if_pos h3]; exact ⟨h1,h2,h3,rfl⟩
   ·rw [if_neg h3] at h; exact absurd h h3
  ·rw [if_neg h2] at h; exact absurd h h2
 ·rw [if_neg h1] at h; exact absurd h h1
theorem lQ {c:aR} {later:Int} (h:¬ (dC c later).2.err=0):(dC c later).1=c:=by
 unfold dC at h ⊢
 by_cases h1:(jA c.s later).2=0
 ·rw [if_pos h1] at h ⊢
  by_cases h2:(jW c.s).2=0
  ·rw [if_pos h2] at h ⊢
   by_cases h3:(kG (uk c) c.vals c.seeds).2=0
   ·rw [if_pos h3] at h; exact absurd rfl h
   ·rw [if_neg h3]
  ·rw [if_neg h2]
 ·rw [if_neg h1]
theorem QV {c:aR} (hc:jQ c) (later:Int) (hl:c.past.length < 1000):jQ (dC c later).1:=by
 by_cases h:(dC c later).2.err=0
 ·obtain ⟨h1,h2,h3,e⟩:=block_done h
  rw [e]
  obtain ⟨a,b,d,f⟩:=nextS_ok h1
  obtain ⟨g,_⟩:=sign_fst h3
  have hh:=Li c hc.ok h2
  refine ⟨f,by rw [d]; exact hc.p64,by simp; omega,fun x hx=>?_,fun x hx=>?_,hc.vl,hc.vk,hc.sl,hc.sk⟩
  ·rcases List.mem_append.1 hx with hx | hx
   ·exact hc.st x hx
   ·rw [List.mem_singleton.1 hx]; exact hc.ok
  ·rcases List.mem_append.1 hx with hx | hx
   ·exact hc.sg x hx
   ·rw [List.mem_singleton.1 hx,g]
    refine ⟨⟨hh,by have:=hc.vl; simp only; omega,hc.vk,fun y hy=>?_⟩,hh.next⟩
    obtain ⟨v,_,rfl⟩:=List.mem_map.1 hy
    exact OG _ v _
 ·rw [lQ h]; exact hc
theorem RS {c o:aR} (hc:jQ c) (hl:c.past.length < 1000) (e:EvD):jQ (iD c o e).1:=by
 unfold iD ja iY
 split
 ·exact QV hc _ hl
 ·split
  ·split
   ·exact hc
   ·exact GD hc _
  ·split
   ·split
    ·exact hc
    ·exact GD hc _
   ·split
    ·exact GD hc _
    ·split
     ·exact GD hc _
     ·exact hc
theorem act_past (c:aR) (m:MsgD):(oJ c m).1.past=c.past/\(oJ c m).1.vals=c.vals/\(oJ c m).1.seeds=c.seeds:=by
 unfold oJ; split <;> exact ⟨rfl,rfl,rfl⟩
theorem Io (c:aR) (later:Int):(dC c later).1.past.length<=c.past.length+1/\(dC c later).1.vals=c.vals/\(dC c later).1.seeds=c.seeds:=by
 by_cases h:(dC c later).2.err=0
 ·rw [(block_done h).2.2.2]; exact ⟨by simp,rfl,rfl⟩
 ·rw [lQ h]; exact ⟨by omega,rfl,rfl⟩
theorem Fj (c o:aR) (e:EvD):(iD c o e).1.past.length<=c.past.length+1/\(iD c o e).1.vals=c.vals/\(iD c o e).1.seeds=c.seeds:=by
 have ha:∀ m,(oJ c m).1.past.length<=c.past.length+1/\(oJ c m).1.vals=c.vals/\(oJ c m).1.seeds=c.seeds:=fun m=>by
  obtain ⟨a,b,d⟩:=act_past c m
  rw [a,b,d]; exact ⟨by omega,rfl,rfl⟩
 have hn:c.past.length<=c.past.length+1/\c.vals=c.vals/\c.seeds=c.seeds:=⟨by omega,rfl,rfl⟩
 unfold iD ja iY
 split
 ·exact Io c _
 ·split
  ·split
   ·exact hn
   ·exact ha _
  ·split
   ·split
    ·exact hn
    ·exact ha _
   ·split
    ·exact ha _
    ·split
     ·exact ha _
     ·exact hn
theorem Jq {c o:aR} {m:MsgD} (hm:oM m):oM (showB c o m):=by
 have key:∀ (w:bz) (n:Int),oM { m with sh:=w,next:=n }:=fun w n=>⟨hm.kn,hm.up,hm.up2,hm.tn,hm.td,hm.ts,hm.tr,hm.fr,hm.de,hm.data,hm.ack⟩
 unfold showB EO
 split
 ·exact key _ _
 ·split
  ·exact key _ _
  ·split
   ·exact key _ _
   ·exact key _ _
structure Bj (w:uX) (n:Nat):Prop where
 a:jQ w.1
 b:jQ w.2
 la:w.1.past.length<=n
 lb:w.2.past.length<=n
theorem xe {w:uX} {n:Nat} (h:Bj w n) (hn:n < 1000) (e:EvD):Bj (kU w e).1 (n+1):=by
 have la:=h.la
 have lb:=h.lb
 unfold kU
 split
 ·have:=(Fj w.1 w.2 e).1
  exact ⟨RS h.a (by omega) e,h.b,by simp only; omega,by simp only; omega⟩
 ·split
  ·have:=(Fj w.2 w.1 e).1
   exact ⟨h.a,RS h.b (by omega) e,by simp only; omega,by simp only; omega⟩
  ·exact ⟨h.a,h.b,by simp only; omega,by simp only; omega⟩
theorem JA:∀ (l:List EvD) {w:uX} {n:Nat},Bj w n->n+l.length<=1000->Bj (n_ w l).1 (n+l.length)
 | [],w,n,h,_=>h
 | e :: t,w,n,h,hn=>by
  simp only [List.length_cons] at hn
  have:=JA t (xe h (by omega) e) (by omega)
  simp only [n_,List.length_cons]
  rw [show n+(t.length+1)=n+1+t.length by omega]; exact this
theorem insV_mem {v x:dR}:∀ {l:List dR},x∈PY v l->x=v\/x∈l
 | [],h=>by simp [PY] at h; exact .inl h
 | a :: t,h=>by
  simp only [PY] at h
  split at h
  ·rcases List.mem_cons.1 h with h | h
   ·exact .inl h
   ·exact .inr h
  ·rcases List.mem_cons.1 h with h | h
   ·exact .inr (List.mem_cons.2 (.inl h))
   ·rcases insV_mem h with h | h
    ·exact .inl h
    ·exact .inr (List.mem_cons.2 (.inr h))
theorem FC (v:dR):∀ l:List dR,(PY v l).length=l.length+1
 | []=>rfl
 | a :: t=>by simp only [PY]; split <;> simp [FC v t]
theorem SX (name:ByteArray):∀ v∈GQ name,v.k < 18446744073709551616/\v.p < 18446744073709551616:=by
 intro v hv
 have h1:∀ s,keyF s < 18446744073709551616:=Ur
 rcases insV_mem hv with rfl | hv
 ·exact ⟨h1 _,by show (1:Nat) < _; decide⟩
 ·rcases insV_mem hv with rfl | hv
  ·exact ⟨h1 _,by show (1:Nat) < _; decide⟩
  ·rw [List.mem_singleton.1 hv]; exact ⟨h1 _,by show (1:Nat) < _; decide⟩
theorem Gs {name owner denom:ByteArray} (hn:jK name=true) (hs:name.size<=20) (ho:1<=owner.size/\owner.size<=40) (hd:1<=denom.size/\denom.size<=40):jQ (aX name owner denom):=by
 refine ⟨⟨hn,(show N12 0 1 by unfold N12; decide),(show N12 0 1 by unfold N12; decide),by simp [aX],by simp [aX],by simp [aX],by simp [aX],by simp [aX],by simp [aX],by simp [aX],by simp [aX],by simp [aX],by simp [aX],⟨by simp [aX],List.Pairwise.nil⟩,⟨by simp [aX],List.Pairwise.nil⟩,⟨by simp [aX],List.Pairwise.nil⟩,⟨fun p hp=>?_,List.pairwise_singleton ..⟩⟩,?_,by simp [aX],by simp [aX],by simp [aX],by simp [aX,GQ,FC],SX name,by simp [aX],fun s hs'=>?_⟩
 ·simp only [aX,List.mem_singleton] at hp
  subst hp
  exact ⟨ho,hd,(show (1000:Nat)≠0 by decide)⟩
 ·intro p hp
  simp only [aX,List.mem_singleton] at hp
  subst hp
  show (1000:Nat) < _; decide
 ·have hb:∀ i:Nat,i < 10->(seedB name i).length<=1000:=fun i hi=>by
   have:=Lib.itoa_length_le (i:Int) (by omega) (by omega)
   have hz:name.data.toList.length=name.size:=rfl
   simp only [seedB,List.length_append]; omega
  simp only [aX,List.mem_cons,List.not_mem_nil,or_false] at hs'
  rcases hs' with rfl | rfl | rfl <;> exact hb _ (by decide)
def nmA:ByteArray:=⟨#[97]⟩
def nmB:ByteArray:=⟨#[98]⟩
def ownA:ByteArray:=⟨#[97,110,110]⟩
def Ce:ByteArray:=⟨#[98,111,98]⟩
def goldA:ByteArray:=⟨#[103,111,108,100]⟩
def BS:ByteArray:=⟨#[115,105,108,118,101,114]⟩
def mV:uX:=(aX nmA ownA goldA,aX nmB Ce BS)
theorem lS:Bj mV 0:=⟨Gs (by decide) (by decide) (by decide) (by decide),Gs (by decide) (by decide) (by decide) (by decide),Nat.le_refl _,Nat.le_refl _⟩
def Ca (l:List EvD):uX × List lT:=n_ mV l
def EA (w:uX):D:=.agg [.i (.s (.string w.1.s.name)),.i (.s (.int .i64 w.1.s.h)),.i (.s (.int .i64 w.1.s.t)),.i (.sl (w.1.s.cls.map gI)),.i (.sl (w.1.s.cns.map dF)),.i (.sl (w.1.s.chs.map bF)),.i (.sl (w.1.s.sent.map bQ)),.i (.sl (w.1.s.got.map bQ)),.i (.sl (w.1.s.acks.map bQ)),.i (.sl (w.1.s.pus.map aZ)),
 .i (.s (.string w.2.s.name)),.i (.s (.int .i64 w.2.s.h)),.i (.s (.int .i64 w.2.s.t)),.i (.sl (w.2.s.cls.map gI)),.i (.sl (w.2.s.cns.map dF)),.i (.sl (w.2.s.chs.map bF)),.i (.sl (w.2.s.sent.map bQ)),.i (.sl (w.2.s.got.map bQ)),.i (.sl (w.2.s.acks.map bQ)),.i (.sl (w.2.s.pus.map aZ))]
end Go.Proofs.YtfenipelcpmkpaaGreatDoor
