/- Merged texts: ProofA, ProofB, ProofC, ProofT, R1Same, GapA, GapB. -/
import Derived.Test.YtfenipelcpmkpaaGreatDoorGBook
set_option linter.all false
set_option maxHeartbeats 4000000
set_option maxRecDepth 20000
namespace Go.Proofs.YtfenipelcpmkpaaGreatDoor
open Go Go.Abs Go.RowKit Go.Proofs.YtfenipelcpmkpaaGreatDoor.Ty
theorem gG:(type_of% @Ty.T1)/\(type_of% @Ty.T3)/\(type_of% @Ty.T5)/\(type_of% @Ty.T29)/\(type_of% @Ty.T31)/\(type_of% @Ty.T41)/\(type_of% @Ty.T42):=⟨@Ty.T1,@Ty.T3,@Ty.T5,@Ty.T29,@Ty.T31,@Ty.T41,@Ty.T42⟩
structure gu where
 i:Int
 n:Int
 k:List UInt8
 v:List UInt8
 path:List (List UInt8)
def ay (p:gu):D:=.agg [intD p.i,intD p.n,.i (bI p.k),.i (bI p.v),.i (bbI p.path)]
def jV (l:List aV) (i:Nat):List (List UInt8) :=
 if h:l.length<=1 then []
 else if i < aK l.length then jV (l.take (aK l.length)) i++[gH (l.drop (aK l.length))]
 else jV (l.drop (aK l.length)) (i - aK l.length)++[gH (l.take (aK l.length))]
termination_by l.length
decreasing_by
 all_goals
  have:=gI (n:=l.length) (by omega)
  simp only [List.length_take,List.length_drop]
  omega
theorem jU {l:List aV} (i:Nat) (h:l.length<=1):jV l i=[]:=by rw [jV,dif_pos h]
theorem oN {l:List aV} {i:Nat} (h:2<=l.length) (hi:i < aK l.length):jV l i=jV (l.take (aK l.length)) i++[gH (l.drop (aK l.length))]:=by
 rw [jV,dif_neg (by omega),if_pos hi]
theorem oO {l:List aV} {i:Nat} (h:2<=l.length) (hi:¬ i < aK l.length):jV l i=jV (l.drop (aK l.length)) (i - aK l.length)++[gH (l.take (aK l.length))]:=by
 rw [jV,dif_neg (by omega),if_neg hi]
theorem AV:∀ (n:Nat) (l:List aV) (i:Nat),l.length=n->(jV l i).length<=n:=by
 intro n
 induction n using Nat.strongRecOn with
 | _ n ih =>
  intro l i hn
  by_cases h:l.length<=1
  ·rw [jU i h]; simp
  ·have hs:=gI (n:=l.length) (by omega)
   by_cases hi:i < aK l.length
   ·rw [oN (by omega) hi]
    have:=ih (l.take (aK l.length)).length (by simp; omega) _ i rfl
    simp at this ⊢; omega
   ·rw [oO (by omega) hi]
    have:=ih (l.drop (aK l.length)).length (by simp; omega) _ (i - aK l.length) rfl
    simp at this ⊢; omega
def bbE (b:List UInt8):List I:=[bI b]
theorem Yy:∀ (n:Nat) (l:List aV) (i:Nat),l.length=n->i < l.length->l.length<=1048576->(∀ p∈l,p.k.length<=1048576/\p.v.length<=1048576) ->
  aN Tryz.prog 110 [.i (.sl (l.map aO)),.i (.s (.int .i64 (i:Int)))] noH (.os 1 1 0 (jV l i).length) (hOf noH [(1,.arr 1 ((jV l i).map bbE))]):=by
 intro n
 induction n using Nat.strongRecOn with
 | _ n ih =>
  intro l i hn hi hl hb
  by_cases h1:l.length=1
  ·have g1:decide ((l.length:Int)=1)=true:=by simp; omega
   rw [jU i (by omega)]
   refine aa 39 Tryz.func110 rfl rfl rfl (fun _ _=>rfl) ?_
   refine gx (an gG g1) ?_
   refine dG _ [] [] rfl ?_ ?_ rfl ?_ rfl
   ·simp [cv,cv1,cv0,upd,iP,lk,noH]
   ·simp [bE,iP,lk,cvO,frz,upd,noH]
   ·simp
  ·have h2:2<=l.length:=by omega
   have hs:=gI h2
   have hsp:=Cr l.length (by omega) hl
   have hpl:=AV l.length l i rfl
   have hlo:=fun h=>oN (l:=l) (i:=i) h2 h
   have hhi:=fun h=>oO (l:=l) (i:=i) h2 h
   generalize aK l.length=k at *
   have n1:l.take k≠[]:=by intro hc; have:=congrArg List.length hc; simp only [List.length_take,List.length_drop,List.length_nil] at this; omega
   have n2:l.drop k≠[]:=by intro hc; have:=congrArg List.length hc; simp only [List.length_take,List.length_drop,List.length_nil] at this; omega
   have t1:=JI _ (l.take k) rfl n1 (by simp; omega) (fun p hp=>hb p (List.mem_of_mem_take hp))
   have t2:=JI _ (l.drop k) rfl n2 (by simp; omega) (fun p hp=>hb p (List.mem_of_mem_drop hp))
   have i1:=fun h=>ih (l.take k).length (by simp; omega) (l.take k) i rfl h (by simp; omega) (fun p hp=>hb p (List.mem_of_mem_take hp))
   have i2:=fun h=>ih (l.drop k).length (by simp; omega) (l.drop k) (i - k) rfl h (by simp; omega) (fun p hp=>hb p (List.mem_of_mem_drop hp))
   simp only [psI] at t1 t2
   have g1:decide ((l.length:Int)=1)=false:=by simp; omega
   have g2:((k:Int)<=(l.length:Int))=True:=eq_true (by omega)
   have u1:uni 2 (l.map aO)=true:=by simp [uni,aO]
   by_cases hc:i < k
   ·have hpi:=hlo hc
    have g3:decide ((i:Int) < (k:Int))=true:=by simp; omega
    have ip:=i1 (by simp; omega)
    rw [hpi] at hpl
    simp only [List.length_append,List.length_cons,List.length_nil] at hpl
    generalize gH (l.drop k)=T at *
    generalize hP:jV (l.take k) i=P at *
    have e3:P.length+1<=140737488355328:=by omega
    have e4:(P.length+1) * 24<=140737488355328:=by omega
    rw [hpi]
    refine aa 39 Tryz.func110 rfl rfl rfl (fun _ _=>rfl) ?_
    (refine gy (an gG g1) ?_; try intro ops hops)
    (first | refine ai [] [] (hsp) (by simp [aM,cvA,aP,cvR,ah,cv1,cvL,cv0,bI,af,bbI,aO,psI,intD,ay,ae,upd]) rfl ?_ | refine ag [] [] [] (hsp) (fun G _=>by simp [aM,cvA,aP,cvR,ah,cv1,cvL,cv0,bI,af,bbI,aO,psI,intD,ay,ae,upd]) rfl ?_)
    (refine gy (an (an (an (an (an (an gG @intD.eq_1) g3) g2) u1) @mtk) @mdr) ?_; try intro ops hops)
    refine pJ 2284 ip (by simp [upd,noH]) rfl ?_
    (refine gy (an (an (an (an gG g2) u1) @mtk) @mdr) ?_; try intro ops hops)
    (first | refine aW [] (t2) (by simp [aM,cvA,aP,cvR,ah,cv1,cvL,cv0,bI,af,bbI,aO,psI,intD,ay,ae,upd]) ?_ | refine aL [] [] (t2) (fun G _=>by simp [aM,cvA,aP,cvR,ah,cv1,cvL,cv0,bI,af,bbI,aO,psI,intD,ay,ae,upd]) (by simp) ?_)
    have u2:uni 1 (P.map bbE)=true:=by simp [uni,bbE]
    refine gx (an (an (an (an gG @bI.eq_1) e3) e4) u2) ?_
    refine dG _ [] [(1,2290)] rfl ?_ ?_ rfl ?_ rfl
    ·simp [cv,cv1,cv0,upd,iP,lk,noH]
    ·simp [bE,iP,lk,cvO,frz,upd,noH,bbE,bI]
    ·simp [noH]
   ·have hpi:=hhi hc
    have g3:decide ((i:Int) < (k:Int))=false:=by simp; omega
    have ip:=i2 (by simp; omega)
    have w1:IntKind.i64.wrap ((i:Int) - (k:Int))=((i - k:Nat):Int):=by rw [aD (by omega) (by omega)]; omega
    rw [hpi] at hpl
    simp only [List.length_append,List.length_cons,List.length_nil] at hpl
    generalize gH (l.take k)=T at *
    generalize i - k=j at *
    generalize hP:jV (l.drop k) j=P at *
    have e3:P.length+1<=140737488355328:=by omega
    have e4:(P.length+1) * 24<=140737488355328:=by omega
    rw [hpi]
    refine aa 39 Tryz.func110 rfl rfl rfl (fun _ _=>rfl) ?_
    (refine gy (an gG g1) ?_; try intro ops hops)
    (first | refine ai [] [] (hsp) (by simp [aM,cvA,aP,cvR,ah,cv1,cvL,cv0,bI,af,bbI,aO,psI,intD,ay,ae,upd]) rfl ?_ | refine ag [] [] [] (hsp) (fun G _=>by simp [aM,cvA,aP,cvR,ah,cv1,cvL,cv0,bI,af,bbI,aO,psI,intD,ay,ae,upd]) rfl ?_)
    (refine gy (an (an (an (an (an (an (an gG @intD.eq_1) g3) g2) u1) w1) @mtk) @mdr) ?_; try intro ops hops)
    refine pJ 2542 ip (by simp [upd,noH]) rfl ?_
    (refine gy (an (an (an (an gG g2) u1) @mtk) @mdr) ?_; try intro ops hops)
    (first | refine aW [] (t1) (by simp [aM,cvA,aP,cvR,ah,cv1,cvL,cv0,bI,af,bbI,aO,psI,intD,ay,ae,upd]) ?_ | refine aL [] [] (t1) (fun G _=>by simp [aM,cvA,aP,cvR,ah,cv1,cvL,cv0,bI,af,bbI,aO,psI,intD,ay,ae,upd]) (by simp) ?_)
    have u2:uni 1 (P.map bbE)=true:=by simp [uni,bbE]
    refine gx (an (an (an (an gG @bI.eq_1) e3) e4) u2) ?_
    refine dG _ [] [(1,2548)] rfl ?_ ?_ rfl ?_ rfl
    ·simp [cv,cv1,cv0,upd,iP,lk,noH]
    ·simp [bE,iP,lk,cvO,frz,upd,noH,bbE,bI]
    ·simp [noH]
theorem oz:(type_of% @Ty.T3)/\(type_of% @Ty.T5)/\(type_of% @Ty.T29)/\(type_of% @Ty.T31)/\(type_of% @Ty.T41)/\(type_of% @Ty.T42)/\(type_of% @Ty.T44):=⟨@Ty.T3,@Ty.T5,@Ty.T29,@Ty.T31,@Ty.T41,@Ty.T42,@Ty.T44⟩
theorem eP:(type_of% @Ty.T3)/\(type_of% @Ty.T4)/\(type_of% @Ty.T5)/\(type_of% @Ty.T29)/\(type_of% @Ty.T31)/\(type_of% @Ty.T32)/\(type_of% @Ty.T41)/\(type_of% @Ty.T42)/\(type_of% @Ty.T44)/\(type_of% @Ty.aaC):=⟨@Ty.T3,@Ty.T4,@Ty.T5,@Ty.T29,@Ty.T31,@Ty.T32,@Ty.T41,@Ty.T42,@Ty.T44,@Ty.aaC⟩
theorem nC {P:Program} {fn:Func} {sl:Nat->D} {H:Nat->Ob} {t:TypeId} {p i:Tmp} {k:Nat} {cs:List D} {r:D} (F:List Nat) (h:fn.results=#[.cell p t,.tmp i]) (ha:nY P t=some true) (hs:gZ P t=some k) (hr:aF H (sl p) k=some cs) (hv:cv H F (fun _=>none) (.tup [.agg cs,sl i]) r):Fin P fn noH r noH .ret ⟨sl,H⟩ :=
 ⟨_,by simp [BQ,h,iw,ha,hs,hr],kD F hv⟩
def atF (l:List aV) (i:Nat) (h:i < l.length):gu:=⟨i,l.length,l[i].k,l[i].v,jV l i⟩
theorem acp (l:List aV) (i:Nat) (hi:i < l.length) (hl:l.length<=1048576) (hb:∀ p∈l,p.k.length<=1048576/\p.v.length<=1048576) :
  PureD Tryz.prog 55 [.i (psI l),intD i] (ay (atF l i hi)):=by
 have hp:=Yy _ l i rfl hi hl hb
 have hbi:=hb _ (List.getElem_mem hi)
 have e1:(l.map aO)[i]?=some [bI l[i].k,bI l[i].v]:=by rw [List.getElem?_map,List.getElem?_eq_getElem hi]; rfl
 have c1:=dZ l[i].k (by omega)
 have c2:=dZ l[i].v (by omega)
 have hpl:=AV l.length l i rfl
 simp only [atF]
 generalize l[i]=p at *
 generalize jV l i=Q at *
 refine aa 24 Tryz.func55 rfl rfl rfl (fun _ _=>rfl) ?_
 (refine gy (an (an (an (an oz @psI.eq_1) @intD.eq_1) e1) @bI.eq_1) ?_; try intro ops hops)
 (first | refine aW [] (c1) (by simp [aM,cvA,aP,cvR,ah,cv1,cvL,cv0,bI,af,bbI,aO,psI,intD,boolD,ay,dF,ae,upd]) ?_ | refine aL [] [] (c1) (fun G _=>by simp [aM,cvA,aP,cvR,ah,cv1,cvL,cv0,bI,af,bbI,aO,psI,intD,boolD,ay,dF,ae,upd]) (by simp) ?_)
 (refine gy (an (an (an (an oz @psI.eq_1) @intD.eq_1) e1) @bI.eq_1) ?_; try intro ops hops)
 (first | refine aW [] (c2) (by simp [aM,cvA,aP,cvR,ah,cv1,cvL,cv0,bI,af,bbI,aO,psI,intD,boolD,ay,dF,ae,upd]) ?_ | refine aL [] [] (c2) (fun G _=>by simp [aM,cvA,aP,cvR,ah,cv1,cvL,cv0,bI,af,bbI,aO,psI,intD,boolD,ay,dF,ae,upd]) (by simp) ?_)
 (refine gy (an (an (an (an oz @psI.eq_1) @intD.eq_1) e1) @bI.eq_1) ?_; try intro ops hops)
 refine pJ 1273 hp (by simp [upd,noH]) rfl ?_
 refine gx (an oz @bI.eq_1) ?_
 refine DZ [1273] rfl aak XR (by simp [upd,aF,aj]; rfl) ?_
 simp [cv,cv1,cvL,cv0,upd,ay,intD,bbI,ae,hO,noH,lk,fB,bbE,bI]
def nK:gu:=⟨0,0,[],[],[]⟩
def kX (l:List aV) (key:List UInt8):gu × Nat :=
 if (dQ l).1=0 then (if h:placeF l key < l.length then (if l[placeF l key].k=key then (atF l (placeF l key) h,0) else (nK,6)) else (nK,6)) else (nK,(dQ l).1)
theorem XY (l:List aV) (key:List UInt8) (hl:l.length<=1048576) :
  PureD Tryz.prog 17 [.i (psI l),.i (bI key)] (.tup [ay (kX l key).1,intD (kX l key).2]):=by
 have hw:=BZ l hl
 unfold kX
 by_cases h0:(dQ l).1=0
 ·have hr:=sP h0
  have hz:=pO h0
  rw [if_pos h0]
  rw [hz] at hw
  simp only at hw
  have hf:=Tw l key hr
  unfold wF at hf
  have hat:=fun (h:placeF l key < l.length)=>acp l (placeF l key) h hl (fun p hp=>by have:=hr.big p hp; omega)
  by_cases h1:placeF l key < l.length
  ·rw [dif_pos h1] at hf ⊢
   have hat:=hat h1
   by_cases h2:l[placeF l key].k=key
   ·rw [if_pos h2]
    rw [decide_eq_true h2] at hf
    simp only
    generalize atF l (placeF l key) h1=A at *
    generalize placeF l key=j at *
    refine aa 29 Tryz.func17 rfl rfl rfl (fun _ _=>rfl) ?_
    (refine gy (an (an eP @psI.eq_1) @bI.eq_1) ?_; try intro ops hops)
    (first | refine ai [] [] (hw) (by simp [aM,cvA,aP,cvR,ah,cv1,cvL,cv0,bI,af,bbI,aO,psI,intD,boolD,ay,dF,ae,upd]) rfl ?_ | refine ag [] [] [] (hw) (fun G _=>by simp [aM,cvA,aP,cvR,ah,cv1,cvL,cv0,bI,af,bbI,aO,psI,intD,boolD,ay,dF,ae,upd]) rfl ?_)
    (refine gy (an (an (an (an eP @dF.eq_1) @intD.eq_1) @psI.eq_1) @bI.eq_1) ?_; try intro ops hops)
    (first | refine ai [] [] (hf) (by simp [aM,cvA,aP,cvR,ah,cv1,cvL,cv0,bI,af,bbI,aO,psI,intD,boolD,ay,dF,ae,upd]) rfl ?_ | refine ag [] [] [] (hf) (fun G _=>by simp [aM,cvA,aP,cvR,ah,cv1,cvL,cv0,bI,af,bbI,aO,psI,intD,boolD,ay,dF,ae,upd]) rfl ?_)
    (refine gy (an (an (an (an eP @boolD.eq_1) @intD.eq_1) @psI.eq_1) @bI.eq_1) ?_; try intro ops hops)
    (first | refine aW [] (hat) (by simp [aM,cvA,aP,cvR,ah,cv1,cvL,cv0,bI,af,bbI,aO,psI,intD,boolD,ay,dF,ae,upd]) ?_ | refine aL [] [] (hat) (fun G _=>by simp [aM,cvA,aP,cvR,ah,cv1,cvL,cv0,bI,af,bbI,aO,psI,intD,boolD,ay,dF,ae,upd]) (by simp) ?_)
    refine gx (an (an eP @ay.eq_1) @intD.eq_1) ?_
    refine nC [] rfl aak XR (by simp [upd,aF,aj]; rfl) ?_
    simp [cv,cvT,cv1,cvL,cv0,upd,ay,intD]
   ·rw [if_neg h2]
    rw [decide_eq_false h2] at hf
    simp only
    generalize placeF l key=j at *
    refine aa 29 Tryz.func17 rfl rfl rfl (fun _ _=>rfl) ?_
    (refine gy (an (an eP @psI.eq_1) @bI.eq_1) ?_; try intro ops hops)
    (first | refine ai [] [] (hw) (by simp [aM,cvA,aP,cvR,ah,cv1,cvL,cv0,bI,af,bbI,aO,psI,intD,boolD,ay,dF,ae,upd]) rfl ?_ | refine ag [] [] [] (hw) (fun G _=>by simp [aM,cvA,aP,cvR,ah,cv1,cvL,cv0,bI,af,bbI,aO,psI,intD,boolD,ay,dF,ae,upd]) rfl ?_)
    (refine gy (an (an (an (an eP @dF.eq_1) @intD.eq_1) @psI.eq_1) @bI.eq_1) ?_; try intro ops hops)
    (first | refine ai [] [] (hf) (by simp [aM,cvA,aP,cvR,ah,cv1,cvL,cv0,bI,af,bbI,aO,psI,intD,boolD,ay,dF,ae,upd]) rfl ?_ | refine ag [] [] [] (hf) (fun G _=>by simp [aM,cvA,aP,cvR,ah,cv1,cvL,cv0,bI,af,bbI,aO,psI,intD,boolD,ay,dF,ae,upd]) rfl ?_)
    refine gx (an (an (an (an eP @boolD.eq_1) @intD.eq_1) @psI.eq_1) @bI.eq_1) ?_
    refine nC [] rfl aak XR (by simp [upd,aF,aj]; rfl) ?_
    simp [cv,cvT,cv1,cvL,cv0,upd,ay,nK,intD,bI,bbI]
  ·rw [dif_neg h1] at hf ⊢
   simp only
   generalize placeF l key=j at *
   refine aa 29 Tryz.func17 rfl rfl rfl (fun _ _=>rfl) ?_
   (refine gy (an (an eP @psI.eq_1) @bI.eq_1) ?_; try intro ops hops)
   (first | refine ai [] [] (hw) (by simp [aM,cvA,aP,cvR,ah,cv1,cvL,cv0,bI,af,bbI,aO,psI,intD,boolD,ay,dF,ae,upd]) rfl ?_ | refine ag [] [] [] (hw) (fun G _=>by simp [aM,cvA,aP,cvR,ah,cv1,cvL,cv0,bI,af,bbI,aO,psI,intD,boolD,ay,dF,ae,upd]) rfl ?_)
   (refine gy (an (an (an (an eP @dF.eq_1) @intD.eq_1) @psI.eq_1) @bI.eq_1) ?_; try intro ops hops)
   (first | refine ai [] [] (hf) (by simp [aM,cvA,aP,cvR,ah,cv1,cvL,cv0,bI,af,bbI,aO,psI,intD,boolD,ay,dF,ae,upd]) rfl ?_ | refine ag [] [] [] (hf) (fun G _=>by simp [aM,cvA,aP,cvR,ah,cv1,cvL,cv0,bI,af,bbI,aO,psI,intD,boolD,ay,dF,ae,upd]) rfl ?_)
   refine gx (an (an (an (an eP @boolD.eq_1) @intD.eq_1) @psI.eq_1) @bI.eq_1) ?_
   refine nC [] rfl aak XR (by simp [upd,aF,aj]; rfl) ?_
   simp [cv,cvT,cv1,cvL,cv0,upd,ay,nK,intD,bI,bbI]
 ·rw [if_neg h0]
  generalize dQ l=W at *
  have g1:decide ((W.1:Int)=0)=false:=by simp; omega
  refine aa 29 Tryz.func17 rfl rfl rfl (fun _ _=>rfl) ?_
  (refine gy (an (an eP @psI.eq_1) @bI.eq_1) ?_; try intro ops hops)
  (first | refine ai [] [] (hw) (by simp [aM,cvA,aP,cvR,ah,cv1,cvL,cv0,bI,af,bbI,aO,psI,intD,boolD,ay,dF,ae,upd]) rfl ?_ | refine ag [] [] [] (hw) (fun G _=>by simp [aM,cvA,aP,cvR,ah,cv1,cvL,cv0,bI,af,bbI,aO,psI,intD,boolD,ay,dF,ae,upd]) rfl ?_)
  refine gx (an (an (an eP @dF.eq_1) @intD.eq_1) g1) ?_
  refine nC [] rfl aak XR (by simp [upd,aF,aj]; rfl) ?_
  simp [cv,cvT,cv1,cvL,cv0,upd,ay,nK,intD,bI,bbI]
theorem dU:(type_of% @Ty.T3)/\(type_of% @Ty.T5)/\(type_of% @Ty.T29)/\(type_of% @Ty.T42)/\(type_of% @Ty.T44):=⟨@Ty.T3,@Ty.T5,@Ty.T29,@Ty.T42,@Ty.T44⟩
def vw (p:gu):List I:=[.s (.int .i64 p.i),.s (.int .i64 p.n),bI p.k,bI p.v,bbI p.path]
def Mt (p:gu):Bool:=decide (p.n < 1) || decide (200 < p.n) || decide (p.i < 0) || decide (p.n<=p.i) || decide (60 < p.k.length) || decide (200 < p.v.length) || decide (40 < p.path.length)
def qB (p:gu):Bool:=!Mt p && p.path.all fun d=>decide (d.length=32)
theorem Re {p:gu} (h:Mt p=true):qB p=false:=by simp [qB,h]
theorem Sm {l:List (List UInt8)} {i:Nat} (h:i < l.length):(l.drop i).all (fun d=>decide (d.length=32))=(decide (l[i].length=32) && (l.drop (i+1)).all fun d=>decide (d.length=32)):=by
 rw [List.drop_eq_getElem_cons h]; rfl
theorem Zr (p:gu):PureD Tryz.prog 113 [.rp (vw p) 0] (boolD (qB p)):=by
 have hN:=Re (p:=p)
 unfold Mt at hN
 obtain ⟨i,n,k,v,q⟩:=p
 have hl:(q.map fun b=>[bI b]).length=q.length:=by simp
 have e0:∀ j (h:j < q.length),(q.map fun b=>[bI b])[j]?=some [bI q[j]]:=fun j h=>by rw [List.getElem?_map,List.getElem?_eq_getElem h]; rfl
 cases g1:decide (n < 1)
 case true =>
  rw [hN (by simp [g1])]
  refine aa 72 Tryz.func113 rfl rfl rfl (fun _ _=>rfl) ?_
  refine gx (an (an dU @vw.eq_1) g1) ?_
  refine ax [] rfl ?_
  simp [cv,cv1,cv0,upd,boolD]
 cases g2:decide ((200:Int) < n)
 case true =>
  rw [hN (by simp [g2])]
  refine aa 72 Tryz.func113 rfl rfl rfl (fun _ _=>rfl) ?_
  refine gx (an (an (an dU @vw.eq_1) g1) g2) ?_
  refine ax [] rfl ?_
  simp [cv,cv1,cv0,upd,boolD]
 cases g3:decide (i < 0)
 case true =>
  rw [hN (by simp [g3])]
  refine aa 72 Tryz.func113 rfl rfl rfl (fun _ _=>rfl) ?_
  refine gx (an (an (an (an dU @vw.eq_1) g1) g2) g3) ?_
  refine ax [] rfl ?_
  simp [cv,cv1,cv0,upd,boolD]
 cases g4:decide (n<=i)
 case true =>
  rw [hN (by simp [g4])]
  refine aa 72 Tryz.func113 rfl rfl rfl (fun _ _=>rfl) ?_
  refine gx (an (an (an (an (an dU @vw.eq_1) g1) g2) g3) g4) ?_
  refine ax [] rfl ?_
  simp [cv,cv1,cv0,upd,boolD]
 cases g5:decide ((60:Int) < (k.length:Int))
 case true =>
  rw [hN (by simp at g5; simp; omega)]
  refine aa 72 Tryz.func113 rfl rfl rfl (fun _ _=>rfl) ?_
  refine gx (an (an (an (an (an (an (an dU @vw.eq_1) g1) g2) g3) g4) g5) @bI.eq_1) ?_
  refine ax [] rfl ?_
  simp [cv,cv1,cv0,upd,boolD]
 cases g6:decide ((200:Int) < (v.length:Int))
 case true =>
  rw [hN (by simp at g6; simp; omega)]
  refine aa 72 Tryz.func113 rfl rfl rfl (fun _ _=>rfl) ?_
  refine gx (an (an (an (an (an (an (an (an dU @vw.eq_1) g1) g2) g3) g4) g5) g6) @bI.eq_1) ?_
  refine ax [] rfl ?_
  simp [cv,cv1,cv0,upd,boolD]
 cases g7:decide ((40:Int) < (q.length:Int))
 case true =>
  rw [hN (by simp at g7; simp; omega)]
  refine aa 72 Tryz.func113 rfl rfl rfl (fun _ _=>rfl) ?_
  refine gx (an (an (an (an (an (an (an (an (an (an (an dU @vw.eq_1) g1) g2) g3) g4) g5) g6) g7) @bI.eq_1) @bbI.eq_1) @hl) ?_
  refine ax [] rfl ?_
  simp [cv,cv1,cv0,upd,boolD]
 have hF:qB ⟨i,n,k,v,q⟩=(q.drop 0).all fun d=>decide (d.length=32):=by
  have b5:decide (60 < k.length)=false:=by simp at g5 ⊢; omega
  have b6:decide (200 < v.length)=false:=by simp at g6 ⊢; omega
  have b7:decide (40 < q.length)=false:=by simp at g7 ⊢; omega
  simp [qB,Mt,g1,g2,g3,g4,b5,b6,b7]
 have hq:q.length<=40:=by simp at g7; omega
 generalize qB ⟨i,n,k,v,q⟩=R at hF
 clear hN
 refine aa 72 Tryz.func113 rfl rfl rfl (fun _ _=>rfl) ?_
 refine gx (an (an (an (an (an (an (an (an (an (an (an dU @vw.eq_1) g1) g2) g3) g4) g5) g6) g7) @bI.eq_1) @bbI.eq_1) @hl) ?_
 refine bZ (ι:=Nat) (fun j=>j<=q.length/\R=(q.drop j).all fun d=>decide (d.length=32))
  (fun j=>ek [(62,.i (bbI q)),(63,intD q.length),(64,intD j)] []) (fun j=>q.length - j) 0 ⟨Nat.zero_le _,hF⟩ ?_ ?_
 ·refine az _ _ [] [] ?_ ?_ rfl rfl
  ·simp [cv,cvL,cv1,cv0,upd,lk,aJ,intD,bbI,bI]
  ·simp
 ·rintro j ⟨hj,hR⟩
  rw [au]
  refine gx (an dU @intD.eq_1) ?_
  refine bi (fun h=>?_) (fun h=>?_)
  ·have h2:j < q.length:=by simp at h; omega
   clear h
   have e1:=e0 j h2
   simp only [bI] at e1
   rw [Sm h2] at hR
   have w1:IntKind.i64.wrap ((j:Int)+1)=((j+1:Nat):Int):=by rw [aD (by omega) (by omega)]; omega
   generalize q[j]=d at *
   refine gx (an (an (an dU @bbI.eq_1) e1) @bI.eq_1) ?_
   refine bi (fun h=>?_) (fun h=>?_)
   ·have h3:d.length≠32:=by simp at h; omega
    simp only [h3,decide_false,Bool.false_and] at hR
    refine gx dU ?_
    refine ax [] rfl ?_
    simp [cv,cv1,cv0,upd,hR,boolD]
   ·have h3:d.length=32:=by simp at h; omega
    simp only [h3,decide_true,Bool.true_and] at hR
    refine gx (an dU w1) ?_
    refine ⟨j+1,⟨h2,hR⟩,az _ _ [] [] ?_ ?_ rfl rfl,by simp; omega⟩
    ·simp [cv,cvL,cv1,cv0,upd,lk,aJ,intD,bbI,bI]
    ·simp
  ·have h2:¬ j < q.length:=by simp at h; omega
   clear h
   rw [List.drop_eq_nil_of_le (by omega)] at hR
   refine gx dU ?_
   refine ax [] rfl ?_
   simp [cv,cv1,cv0,upd,hR,boolD]
theorem fA:(type_of% @Ty.T3)/\(type_of% @Ty.T5)/\(type_of% @Ty.T29)/\(type_of% @Ty.T42):=⟨@Ty.T3,@Ty.T5,@Ty.T29,@Ty.T42⟩
theorem gF:(type_of% @Ty.T3)/\(type_of% @Ty.T4)/\(type_of% @Ty.T5)/\(type_of% @Ty.T29)/\(type_of% @Ty.T42)/\(type_of% @Ty.T44)/\(type_of% @Ty.acW):=⟨@Ty.T3,@Ty.T4,@Ty.T5,@Ty.T29,@Ty.T42,@Ty.T44,@Ty.acW⟩
def ic (leaf:List UInt8):Nat->Nat->List (List UInt8)->List UInt8 × Bool
 | _,n,[]=>if n=1 then (leaf,true) else ([],false)
 | i,n,d :: r=>if n=1 then (leaf,false) else if i < aK n then (ql (ic leaf i (aK n) r).1 d,(ic leaf i (aK n) r).2)
   else (ql d (ic leaf (i - aK n) (n - aK n) r).1,(ic leaf (i - aK n) (n - aK n) r).2)
theorem vz (leaf:List UInt8) (h:leaf.length<=32):∀ (r:List (List UInt8)) (i n:Nat),(ic leaf i n r).1.length<=32:=by
 intro r
 induction r with
 | nil=>intro i n; simp only [ic]; split <;> simp [h]
 | cons d r ih =>
  intro i n; simp only [ic]; split
  ·exact h
  ·split <;> simp only [ql] <;> exact Nat.le_of_eq (cz _)
theorem Uu (leaf:List UInt8) (hlf:leaf.length<=32):∀ (r:List (List UInt8)) (i n:Nat),(∀ d∈r,d.length=32)->r.length<=1048576->i<=1048576->1<=n->n<=1048576 ->
  PureD Tryz.prog 114 [.i (bI leaf),intD i,intD n,.i (bbI r.reverse)] (.tup [.i (bI (ic leaf i n r).1),boolD (ic leaf i n r).2]):=by
 intro r
 induction r with
 | nil =>
  intro i n _ _ _ h1 h2
  by_cases hn:n=1
  ·subst hn
   simp only [ic,if_true]
   refine aa 71 Tryz.func114 rfl rfl rfl (fun _ _=>rfl) ?_
   refine gx (an (an (an (an (an fA @intD.eq_1) @bI.eq_1) @bbI.eq_1) @List.reverse_nil.{0}) @List.map_nil.{0,0}) ?_
   refine cK [] rfl ?_
   simp [cv,cvT,cv1,cv0,upd,intD,boolD,bI]
  ·simp only [ic,hn,if_false]
   have g1:decide ((n:Int)=1)=false:=by simp; omega
   refine aa 71 Tryz.func114 rfl rfl rfl (fun _ _=>rfl) ?_
   refine gx (an (an (an (an (an (an fA @intD.eq_1) @bI.eq_1) @bbI.eq_1) @List.reverse_nil.{0}) @List.map_nil.{0,0}) g1) ?_
   refine cK [] rfl ?_
   simp [cv,cvT,cv1,cv0,upd,intD,boolD,bI]
 | cons d r ih =>
  intro i n hd hr hi h1 h2
  have hd0:d.length=32:=hd d (by simp)
  simp only [List.length_cons] at hr
  have L1:((d :: r).reverse.map fun b=>[bI b]).length=r.length+1:=by simp
  have L2:((d :: r).reverse.map fun b=>[bI b])[r.length]?=some [bI d]:=by simp
  have L3:((d :: r).reverse.map fun b=>[bI b]).take r.length=r.reverse.map fun b=>[bI b]:=by simp
  have L4:uni 1 ((d :: r).reverse.map fun b=>[bI b])=true:=by simp [uni]
  have hq:bbI (d :: r).reverse=.sl ((d :: r).reverse.map fun b=>[bI b]):=rfl
  rw [hq]
  generalize ((d :: r).reverse.map fun b=>[bI b])=L at *
  clear hq
  by_cases hn:n=1
  ·subst hn
   simp only [ic,if_true]
   have g1:decide (((r.length+1:Nat):Int)=0)=false:=by simp; omega
   refine aa 71 Tryz.func114 rfl rfl rfl (fun _ _=>rfl) ?_
   refine gx (an (an (an fA @intD.eq_1) @L1) g1) ?_
   refine cK [] rfl ?_
   simp [cv,cvT,cv1,cv0,upd,intD,boolD,bI]
  ·have hs:=gI (n:=n) (by omega)
   have hsp:=Cr n h1 h2
   have i1:=ih i (aK n) (fun d hd'=>hd d (by simp [hd'])) (by omega) hi (by omega) (by omega)
   have i2:=ih (i - aK n) (n - aK n) (fun d hd'=>hd d (by simp [hd'])) (by omega) (by omega) (by omega) (by omega)
   have n1:=vz leaf hlf r i (aK n)
   have n2:=vz leaf hlf r (i - aK n) (n - aK n)
   have g1:decide ((n:Int)=1)=false:=by simp; omega
   have g2:decide (((r.length+1:Nat):Int)=0)=false:=by simp; omega
   have g4:((r.length:Int)<=((r.length+1:Nat):Int))=True:=eq_true (by omega)
   have w1:IntKind.i64.wrap (((r.length+1:Nat):Int) - 1)=(r.length:Int):=by rw [aD (by omega) (by omega)]; omega
   have hc1:i < aK n->ic leaf i n (d :: r)=(ql (ic leaf i (aK n) r).1 d,(ic leaf i (aK n) r).2):=fun h=>by simp only [ic,if_neg hn,if_pos h]
   have hc2:¬ i < aK n->ic leaf i n (d :: r)=(ql d (ic leaf (i - aK n) (n - aK n) r).1,(ic leaf (i - aK n) (n - aK n) r).2):=fun h=>by simp only [ic,if_neg hn,if_neg h]
   clear hd
   generalize aK n=k at *
   simp only [bbI] at i1 i2
   rw [<- L3] at i1 i2
   by_cases hc:i < k
   ·have g3:decide ((i:Int) < (k:Int))=true:=by simp; omega
    rw [hc1 hc]
    clear i2 hc1 hc2
    generalize ic leaf i k r=T at *
    have hnd:=Le T.1 d (by omega) (by omega)
    generalize ql T.1 d=R at *
    refine aa 71 Tryz.func114 rfl rfl rfl (fun _ _=>rfl) ?_
    (refine gy (an (an (an (an (an fA @intD.eq_1) @L1) g1) g2) w1) ?_; try intro ops hops)
    (first | refine ai [] [] (hsp) (by simp [aM,cvA,aP,cvR,ah,cv1,cvL,cv0,bI,af,bbI,intD,boolD,ay,ae,upd]) rfl ?_ | refine ag [] [] [] (hsp) (fun G _=>by simp [aM,cvA,aP,cvR,ah,cv1,cvL,cv0,bI,af,bbI,intD,boolD,ay,ae,upd]) rfl ?_)
    (refine gy (an (an (an (an (an fA @intD.eq_1) g3) @L1) @L4) g4) ?_; try intro ops hops)
    (first | refine aW [] (i1) (by simp [aM,cvA,aP,cvR,ah,cv1,cvL,cv0,bI,af,bbI,intD,boolD,ay,ae,upd]) ?_ | refine aL [] [] (i1) (fun G _=>by simp [aM,cvA,aP,cvR,ah,cv1,cvL,cv0,bI,af,bbI,intD,boolD,ay,ae,upd]) (by simp) ?_)
    (refine gy (an (an fA @boolD.eq_1) @L2) ?_; try intro ops hops)
    (first | refine aW [] (hnd) (by simp [aM,cvA,aP,cvR,ah,cv1,cvL,cv0,bI,af,bbI,intD,boolD,ay,ae,upd]) ?_ | refine aL [] [] (hnd) (fun G _=>by simp [aM,cvA,aP,cvR,ah,cv1,cvL,cv0,bI,af,bbI,intD,boolD,ay,ae,upd]) (by simp) ?_)
    refine gx (an fA @bI.eq_1) ?_
    refine cK [] rfl ?_
    simp [cv,cvT,cv1,cv0,upd,intD,boolD,bI]
   ·have g3:decide ((i:Int) < (k:Int))=false:=by simp; omega
    have w2:IntKind.i64.wrap ((i:Int) - (k:Int))=((i - k:Nat):Int):=by rw [aD (by omega) (by omega)]; omega
    have w3:IntKind.i64.wrap ((n:Int) - (k:Int))=((n - k:Nat):Int):=by rw [aD (by omega) (by omega)]; omega
    rw [hc2 hc]
    clear i1 hc1 hc2
    generalize ic leaf (i - k) (n - k) r=T at *
    have hnd:=Le d T.1 (by omega) (by omega)
    generalize ql d T.1=R at *
    refine aa 71 Tryz.func114 rfl rfl rfl (fun _ _=>rfl) ?_
    (refine gy (an (an (an (an (an fA @intD.eq_1) @L1) g1) g2) w1) ?_; try intro ops hops)
    (first | refine ai [] [] (hsp) (by simp [aM,cvA,aP,cvR,ah,cv1,cvL,cv0,bI,af,bbI,intD,boolD,ay,ae,upd]) rfl ?_ | refine ag [] [] [] (hsp) (fun G _=>by simp [aM,cvA,aP,cvR,ah,cv1,cvL,cv0,bI,af,bbI,intD,boolD,ay,ae,upd]) rfl ?_)
    (refine gy (an (an (an (an (an (an (an fA @intD.eq_1) g3) @L1) @L4) g4) w2) w3) ?_; try intro ops hops)
    (first | refine aW [] (i2) (by simp [aM,cvA,aP,cvR,ah,cv1,cvL,cv0,bI,af,bbI,intD,boolD,ay,ae,upd]) ?_ | refine aL [] [] (i2) (fun G _=>by simp [aM,cvA,aP,cvR,ah,cv1,cvL,cv0,bI,af,bbI,intD,boolD,ay,ae,upd]) (by simp) ?_)
    (refine gy (an (an fA @boolD.eq_1) @L2) ?_; try intro ops hops)
    (first | refine aW [] (hnd) (by simp [aM,cvA,aP,cvR,ah,cv1,cvL,cv0,bI,af,bbI,intD,boolD,ay,ae,upd]) ?_ | refine aL [] [] (hnd) (fun G _=>by simp [aM,cvA,aP,cvR,ah,cv1,cvL,cv0,bI,af,bbI,intD,boolD,ay,ae,upd]) (by simp) ?_)
    refine gx (an fA @bI.eq_1) ?_
    refine cK [] rfl ?_
    simp [cv,cvT,cv1,cv0,upd,intD,boolD,bI]
def Ap (p:gu):List UInt8 × Bool:=ic (vX p.k p.v) p.i.toNat p.n.toNat p.path.reverse
def gJ (root:List UInt8) (p:gu):Bool:=qB p && (Ap p).2 && decide (Fu p.n.toNat (Ap p).1=root)
theorem formF_yes {p:gu} (h:qB p=true):1<=p.n/\p.n<=200/\0<=p.i/\p.i < p.n/\p.k.length<=60/\p.v.length<=200/\p.path.length<=40/\∀ d∈p.path,d.length=32:=by
 simp [qB,Mt] at h
 exact ⟨by omega,by omega,by omega,by omega,by omega,by omega,by omega,h.2⟩
theorem Cs (root:List UInt8) (p:gu):PureD Tryz.prog 60 [.i (bI root),ay p] (boolD (gJ root p)):=by
 have hfm:=Zr p
 unfold gJ Ap
 cases hf:qB p
 ·rw [hf] at hfm
  simp only [Bool.false_and]
  refine aa 33 Tryz.func60 rfl rfl rfl (fun _ _=>rfl) ?_
  refine gx (an (an gF @ay.eq_1) @intD.eq_1) ?_
  refine ai [] [1000] hfm ⟨.inr ⟨1000,_,_,rfl,.inl ⟨by simp,rfl,_,by simp [upd]; rfl,by simp [vw,ah,cv0]⟩⟩,trivial⟩ rfl ?_
  refine gx (an gF @boolD.eq_1) ?_
  refine ax [] rfl ?_
  simp [cv,cv1,cv0,upd,boolD]
 ·rw [hf] at hfm
  simp only [Bool.true_and]
  obtain ⟨a1,a2,a3,a4,a5,a6,a7,a8⟩:=formF_yes hf
  clear hf
  have hl:=Tp p.k p.v (by omega) (by omega)
  have hlen:(vX p.k p.v).length=32:=cz _
  generalize vX p.k p.v=F at *
  have ht:=Uu F (by omega) p.path.reverse p.i.toNat p.n.toNat (fun d hd=>a8 d (by simpa using hd)) (by simp; omega) (by omega) (by omega) (by omega)
  have hT:=vz F (by omega) p.path.reverse p.i.toNat p.n.toNat
  rw [List.reverse_reverse,Int.toNat_of_nonneg a3,Int.toNat_of_nonneg (by omega)] at ht
  generalize ic F p.i.toNat p.n.toNat p.path.reverse=T at *
  have htp:=PK p.n.toNat T.1 (by omega)
  rw [Int.toNat_of_nonneg (by omega)] at htp
  generalize Fu p.n.toNat T.1=R at *
  clear a1 a2 a3 a4 a5 a6 a7 a8
  obtain ⟨i,n,k,v,q⟩:=p
  obtain ⟨t,ok⟩:=T
  simp only at *
  refine aa 33 Tryz.func60 rfl rfl rfl (fun _ _=>rfl) ?_
  refine gx (an (an gF @ay.eq_1) @intD.eq_1) ?_
  refine ai [] [1000] hfm ⟨.inr ⟨1000,_,_,rfl,.inl ⟨by simp,rfl,_,by simp [upd]; rfl,by simp [vw,ah,cv0]⟩⟩,trivial⟩ rfl ?_
  (refine gy (an gF @boolD.eq_1) ?_; try intro ops hops)
  (first | refine aW [] (hl) (by simp [aM,cvA,aP,cvR,ah,cv1,cvL,cv0,bI,af,bbI,intD,boolD,ay,ae,upd]) ?_ | refine aL [] [] (hl) (fun G _=>by simp [aM,cvA,aP,cvR,ah,cv1,cvL,cv0,bI,af,bbI,intD,boolD,ay,ae,upd]) (by simp) ?_)
  (refine gy gF ?_; try intro ops hops)
  (first | refine aW [] (ht) (by simp [aM,cvA,aP,cvR,ah,cv1,cvL,cv0,bI,af,bbI,intD,boolD,ay,ae,upd]) ?_ | refine aL [] [] (ht) (fun G _=>by simp [aM,cvA,aP,cvR,ah,cv1,cvL,cv0,bI,af,bbI,intD,boolD,ay,ae,upd]) (by simp) ?_)
  cases ok
  ·refine gx (an gF @boolD.eq_1) ?_
   refine ax [] rfl ?_
   simp [cv,cv1,cv0,upd,boolD]
  ·(refine gy (an gF @boolD.eq_1) ?_; try intro ops hops)
   (first | refine aW [] (htp) (by simp [aM,cvA,aP,cvR,ah,cv1,cvL,cv0,bI,af,bbI,intD,boolD,ay,ae,upd]) ?_ | refine aL [] [] (htp) (fun G _=>by simp [aM,cvA,aP,cvR,ah,cv1,cvL,cv0,bI,af,bbI,intD,boolD,ay,ae,upd]) (by simp) ?_)
   (refine gy gF ?_; try intro ops hops)
   (first | refine ai [] [] (gN R root) (by simp [aM,cvA,aP,cvR,ah,cv1,cvL,cv0,bI,af,bbI,intD,boolD,ay,ae,upd]) rfl ?_ | refine ag [] [] [] (gN R root) (fun G _=>by simp [aM,cvA,aP,cvR,ah,cv1,cvL,cv0,bI,af,bbI,intD,boolD,ay,ae,upd]) rfl ?_)
   refine gx gF ?_
   refine ax [] rfl ?_
   simp [cv,cv1,cv0,upd,boolD]
theorem dN:(type_of% @Ty.T3)/\(type_of% @Ty.T4)/\(type_of% @Ty.T5)/\(type_of% @Ty.T29)/\(type_of% @Ty.T31)/\(type_of% @Ty.T32)/\(type_of% @Ty.T41)/\(type_of% @Ty.T42)/\(type_of% @Ty.T44)/\(type_of% @Ty.T49)/\(type_of% @Ty.aaC):=⟨@Ty.T3,@Ty.T4,@Ty.T5,@Ty.T29,@Ty.T31,@Ty.T32,@Ty.T41,@Ty.T42,@Ty.T44,@Ty.T49,@Ty.aaC⟩
structure TR where
 hl:Bool
 hr:Bool
 left:gu
 right:gu
def Jn (g:TR):D:=.agg [boolD g.hl,boolD g.hr,intD g.left.i,intD g.left.n,.i (bI g.left.k),.i (bI g.left.v),.i (bbI g.left.path),intD g.right.i,intD g.right.n,.i (bI g.right.k),.i (bI g.right.v),.i (bbI g.right.path)]
def Pt:TR:=⟨false,false,nK,nK⟩
def atZ (l:List aV) (b:Bool) (i:Nat):gu:=if h:b=true/\i < l.length then atF l i h.2 else nK
def Zn (l:List aV) (key:List UInt8):TR × Nat :=
 if (dQ l).1=0 then (if wF l key then (Pt,7) else (⟨decide (0 < placeF l key),decide (placeF l key < l.length),atZ l (decide (0 < placeF l key)) (placeF l key - 1),atZ l (decide (placeF l key < l.length)) (placeF l key)⟩,0)) else (Pt,(dQ l).1)
theorem abw (l:List aV) (key:List UInt8) (hl:l.length<=1048576):PureD Tryz.prog 19 [.i (psI l),.i (bI key)] (.tup [Jn (Zn l key).1,intD (Zn l key).2]):=by
 have hw:=BZ l hl
 unfold Zn
 by_cases h0:(dQ l).1=0
 ·have hr:=sP h0
  have hz:=pO h0
  rw [if_pos h0]
  rw [hz] at hw
  simp only at hw
  have hf:=Tw l key hr
  have hat:=fun (i:Nat) (h:i < l.length)=>acp l i h hl (fun p hp=>by have:=hr.big p hp; omega)
  have hple:=AQ l key
  cases ht:wF l key
  ·rw [ht] at hf
   simp only [Bool.false_eq_true,if_false]
   generalize placeF l key=j at *
   have z1:∀ b i (h:i < l.length),b=true->atZ l b i=atF l i h:=fun b i h hb=>dif_pos ⟨hb,h⟩
   have z2:∀ i,atZ l false i=nK:=fun i=>dif_neg (by simp)
   by_cases h1:0 < j
   ·have g1:decide ((0:Int) < (j:Int))=true:=decide_eq_true (by omega)
    have w1:IntKind.i64.wrap ((j:Int) - 1)=((j - 1:Nat):Int):=by rw [aD (by omega) (by omega)]; omega
    have a1:=hat (j - 1) (by omega)
    rw [decide_eq_true h1,z1 true (j - 1) (by omega) rfl]
    by_cases h2:j < l.length
    ·have g2:decide ((j:Int) < (l.length:Int))=true:=decide_eq_true (by omega)
     have a2:=hat j h2
     rw [decide_eq_true h2,z1 true j h2 rfl]
     generalize atF l (j - 1) _=A at *
     generalize atF l j _=B at *
     generalize j - 1=j1 at *
     refine aa 44 Tryz.func19 rfl rfl rfl (fun _ _=>rfl) ?_
     (refine gy (an (an dN @psI.eq_1) @bI.eq_1) ?_; try intro ops hops)
     (first | refine ai [] [] (hw) (by simp [aM,cvA,aP,cvR,ah,cv1,cvL,cv0,bI,af,bbI,psI,intD,boolD,ay,dF,ae,upd]) rfl ?_ | refine ag [] [] [] (hw) (fun G _=>by simp [aM,cvA,aP,cvR,ah,cv1,cvL,cv0,bI,af,bbI,psI,intD,boolD,ay,dF,ae,upd]) rfl ?_)
     (refine gy (an (an (an (an dN @dF.eq_1) @intD.eq_1) @psI.eq_1) @bI.eq_1) ?_; try intro ops hops)
     (first | refine ai [] [] (hf) (by simp [aM,cvA,aP,cvR,ah,cv1,cvL,cv0,bI,af,bbI,psI,intD,boolD,ay,dF,ae,upd]) rfl ?_ | refine ag [] [] [] (hf) (fun G _=>by simp [aM,cvA,aP,cvR,ah,cv1,cvL,cv0,bI,af,bbI,psI,intD,boolD,ay,dF,ae,upd]) rfl ?_)
     (refine gy (an (an (an (an (an (an dN @boolD.eq_1) @intD.eq_1) @psI.eq_1) @bI.eq_1) g1) w1) ?_; try intro ops hops)
     (first | refine aW [] (a1) (by simp [aM,cvA,aP,cvR,ah,cv1,cvL,cv0,bI,af,bbI,psI,intD,boolD,ay,dF,ae,upd]) ?_ | refine aL [] [] (a1) (fun G _=>by simp [aM,cvA,aP,cvR,ah,cv1,cvL,cv0,bI,af,bbI,psI,intD,boolD,ay,dF,ae,upd]) (by simp) ?_)
     (refine gy (an (an (an dN @ay.eq_1) @intD.eq_1) g2) ?_; try intro ops hops)
     (first | refine aW [] (a2) (by simp [aM,cvA,aP,cvR,ah,cv1,cvL,cv0,bI,af,bbI,psI,intD,boolD,ay,dF,ae,upd]) ?_ | refine aL [] [] (a2) (fun G _=>by simp [aM,cvA,aP,cvR,ah,cv1,cvL,cv0,bI,af,bbI,psI,intD,boolD,ay,dF,ae,upd]) (by simp) ?_)
     refine gx (an (an dN @ay.eq_1) @intD.eq_1) ?_
     refine nC [] rfl XA Xm (by simp [upd,aF,aj]; rfl) ?_
     simp [cv,cvT,cv1,cvL,cv0,upd,Jn,intD,boolD]
    ·have g2:decide ((j:Int) < (l.length:Int))=false:=decide_eq_false (by omega)
     rw [decide_eq_false h2,z2 j]
     generalize atF l (j - 1) _=A at *
     generalize j - 1=j1 at *
     refine aa 44 Tryz.func19 rfl rfl rfl (fun _ _=>rfl) ?_
     (refine gy (an (an dN @psI.eq_1) @bI.eq_1) ?_; try intro ops hops)
     (first | refine ai [] [] (hw) (by simp [aM,cvA,aP,cvR,ah,cv1,cvL,cv0,bI,af,bbI,psI,intD,boolD,ay,dF,ae,upd]) rfl ?_ | refine ag [] [] [] (hw) (fun G _=>by simp [aM,cvA,aP,cvR,ah,cv1,cvL,cv0,bI,af,bbI,psI,intD,boolD,ay,dF,ae,upd]) rfl ?_)
     (refine gy (an (an (an (an dN @dF.eq_1) @intD.eq_1) @psI.eq_1) @bI.eq_1) ?_; try intro ops hops)
     (first | refine ai [] [] (hf) (by simp [aM,cvA,aP,cvR,ah,cv1,cvL,cv0,bI,af,bbI,psI,intD,boolD,ay,dF,ae,upd]) rfl ?_ | refine ag [] [] [] (hf) (fun G _=>by simp [aM,cvA,aP,cvR,ah,cv1,cvL,cv0,bI,af,bbI,psI,intD,boolD,ay,dF,ae,upd]) rfl ?_)
     (refine gy (an (an (an (an (an (an dN @boolD.eq_1) @intD.eq_1) @psI.eq_1) @bI.eq_1) g1) w1) ?_; try intro ops hops)
     (first | refine aW [] (a1) (by simp [aM,cvA,aP,cvR,ah,cv1,cvL,cv0,bI,af,bbI,psI,intD,boolD,ay,dF,ae,upd]) ?_ | refine aL [] [] (a1) (fun G _=>by simp [aM,cvA,aP,cvR,ah,cv1,cvL,cv0,bI,af,bbI,psI,intD,boolD,ay,dF,ae,upd]) (by simp) ?_)
     refine gx (an (an (an dN @ay.eq_1) @intD.eq_1) g2) ?_
     refine nC [] rfl XA Xm (by simp [upd,aF,aj]; rfl) ?_
     simp [cv,cvT,cv1,cvL,cv0,upd,Jn,intD,boolD,nK,bI,bbI]
   ·have hj:j=0:=by omega
    subst hj
    rw [decide_eq_false h1,z2]
    by_cases h2:0 < l.length
    ·have g2:decide ((0:Int) < (l.length:Int))=true:=decide_eq_true (by omega)
     have a2:=hat 0 h2
     rw [decide_eq_true h2,z1 true 0 h2 rfl]
     generalize atF l 0 _=B at *
     refine aa 44 Tryz.func19 rfl rfl rfl (fun _ _=>rfl) ?_
     (refine gy (an (an dN @psI.eq_1) @bI.eq_1) ?_; try intro ops hops)
     (first | refine ai [] [] (hw) (by simp [aM,cvA,aP,cvR,ah,cv1,cvL,cv0,bI,af,bbI,psI,intD,boolD,ay,dF,ae,upd]) rfl ?_ | refine ag [] [] [] (hw) (fun G _=>by simp [aM,cvA,aP,cvR,ah,cv1,cvL,cv0,bI,af,bbI,psI,intD,boolD,ay,dF,ae,upd]) rfl ?_)
     (refine gy (an (an (an (an dN @dF.eq_1) @intD.eq_1) @psI.eq_1) @bI.eq_1) ?_; try intro ops hops)
     (first | refine ai [] [] (hf) (by simp [aM,cvA,aP,cvR,ah,cv1,cvL,cv0,bI,af,bbI,psI,intD,boolD,ay,dF,ae,upd]) rfl ?_ | refine ag [] [] [] (hf) (fun G _=>by simp [aM,cvA,aP,cvR,ah,cv1,cvL,cv0,bI,af,bbI,psI,intD,boolD,ay,dF,ae,upd]) rfl ?_)
     (refine gy (an (an (an (an (an (an dN @boolD.eq_1) @intD.eq_1) @psI.eq_1) @bI.eq_1) g2) @Int.natCast_zero) ?_; try intro ops hops)
     (first | refine aW [] (a2) (by simp [aM,cvA,aP,cvR,ah,cv1,cvL,cv0,bI,af,bbI,psI,intD,boolD,ay,dF,ae,upd]) ?_ | refine aL [] [] (a2) (fun G _=>by simp [aM,cvA,aP,cvR,ah,cv1,cvL,cv0,bI,af,bbI,psI,intD,boolD,ay,dF,ae,upd]) (by simp) ?_)
     refine gx (an (an dN @ay.eq_1) @intD.eq_1) ?_
     refine nC [] rfl XA Xm (by simp [upd,aF,aj]; rfl) ?_
     simp [cv,cvT,cv1,cvL,cv0,upd,Jn,intD,boolD,nK,bI,bbI]
    ·have g2:decide ((0:Int) < (l.length:Int))=false:=decide_eq_false (by omega)
     rw [decide_eq_false h2,z2]
     refine aa 44 Tryz.func19 rfl rfl rfl (fun _ _=>rfl) ?_
     (refine gy (an (an dN @psI.eq_1) @bI.eq_1) ?_; try intro ops hops)
     (first | refine ai [] [] (hw) (by simp [aM,cvA,aP,cvR,ah,cv1,cvL,cv0,bI,af,bbI,psI,intD,boolD,ay,dF,ae,upd]) rfl ?_ | refine ag [] [] [] (hw) (fun G _=>by simp [aM,cvA,aP,cvR,ah,cv1,cvL,cv0,bI,af,bbI,psI,intD,boolD,ay,dF,ae,upd]) rfl ?_)
     (refine gy (an (an (an (an dN @dF.eq_1) @intD.eq_1) @psI.eq_1) @bI.eq_1) ?_; try intro ops hops)
     (first | refine ai [] [] (hf) (by simp [aM,cvA,aP,cvR,ah,cv1,cvL,cv0,bI,af,bbI,psI,intD,boolD,ay,dF,ae,upd]) rfl ?_ | refine ag [] [] [] (hf) (fun G _=>by simp [aM,cvA,aP,cvR,ah,cv1,cvL,cv0,bI,af,bbI,psI,intD,boolD,ay,dF,ae,upd]) rfl ?_)
     refine gx (an (an (an (an (an (an dN @boolD.eq_1) @intD.eq_1) @psI.eq_1) @bI.eq_1) g2) @Int.natCast_zero) ?_
     refine nC [] rfl XA Xm (by simp [upd,aF,aj]; rfl) ?_
     simp [cv,cvT,cv1,cvL,cv0,upd,Jn,intD,boolD,nK,bI,bbI]
  ·rw [ht] at hf
   simp only [if_true]
   generalize placeF l key=j at *
   refine aa 44 Tryz.func19 rfl rfl rfl (fun _ _=>rfl) ?_
   (refine gy (an (an dN @psI.eq_1) @bI.eq_1) ?_; try intro ops hops)
   (first | refine ai [] [] (hw) (by simp [aM,cvA,aP,cvR,ah,cv1,cvL,cv0,bI,af,bbI,psI,intD,boolD,ay,dF,ae,upd]) rfl ?_ | refine ag [] [] [] (hw) (fun G _=>by simp [aM,cvA,aP,cvR,ah,cv1,cvL,cv0,bI,af,bbI,psI,intD,boolD,ay,dF,ae,upd]) rfl ?_)
   (refine gy (an (an (an (an dN @dF.eq_1) @intD.eq_1) @psI.eq_1) @bI.eq_1) ?_; try intro ops hops)
   (first | refine ai [] [] (hf) (by simp [aM,cvA,aP,cvR,ah,cv1,cvL,cv0,bI,af,bbI,psI,intD,boolD,ay,dF,ae,upd]) rfl ?_ | refine ag [] [] [] (hf) (fun G _=>by simp [aM,cvA,aP,cvR,ah,cv1,cvL,cv0,bI,af,bbI,psI,intD,boolD,ay,dF,ae,upd]) rfl ?_)
   refine gx (an (an (an (an dN @boolD.eq_1) @intD.eq_1) @psI.eq_1) @bI.eq_1) ?_
   refine nC [] rfl XA Xm (by simp [upd,aF,aj]; rfl) ?_
   simp [cv,cvT,cv1,cvL,cv0,upd,Jn,intD,boolD,Pt,nK,bI,bbI]
 ·rw [if_neg h0]
  generalize dQ l=W at *
  have g1:decide ((W.1:Int)=0)=false:=by simp; omega
  refine aa 44 Tryz.func19 rfl rfl rfl (fun _ _=>rfl) ?_
  (refine gy (an (an dN @psI.eq_1) @bI.eq_1) ?_; try intro ops hops)
  (first | refine ai [] [] (hw) (by simp [aM,cvA,aP,cvR,ah,cv1,cvL,cv0,bI,af,bbI,psI,intD,boolD,ay,dF,ae,upd]) rfl ?_ | refine ag [] [] [] (hw) (fun G _=>by simp [aM,cvA,aP,cvR,ah,cv1,cvL,cv0,bI,af,bbI,psI,intD,boolD,ay,dF,ae,upd]) rfl ?_)
  refine gx (an (an (an dN @dF.eq_1) @intD.eq_1) g1) ?_
  refine nC [] rfl XA Xm (by simp [upd,aF,aj]; rfl) ?_
  simp [cv,cvT,cv1,cvL,cv0,upd,Jn,intD,boolD,Pt,nK,bI,bbI]
def z_ (root key:List UInt8) (g:TR):Bool :=
 match g.hl,g.hr with
 | false,false=>decide (Fu 0 []=root)
 | true,false=>gJ root g.left && decide (Lib.compareBytes g.left.k key < 0) && decide (g.left.i=g.left.n - 1)
 | false,true=>gJ root g.right && decide (Lib.compareBytes key g.right.k < 0) && decide (g.right.i=0)
 | true,true=>gJ root g.left && decide (Lib.compareBytes g.left.k key < 0) && (gJ root g.right && decide (Lib.compareBytes key g.right.k < 0)) && (decide (g.left.n=g.right.n) && decide (g.left.i+1=g.right.i))
theorem shownF_form {r:List UInt8} {p:gu} (h:gJ r p=true):qB p=true:=by
 unfold gJ at h; simp only [Bool.and_eq_true] at h; exact h.1.1
attribute [local simp,local go_sem] ay Jn bbI
theorem Sq (root key:List UInt8) (g:TR):PureD Tryz.prog 61 [.i (bI root),.i (bI key),Jn g] (boolD (z_ root key g)):=by
 refine ak fun R hR=>?_
 obtain ⟨hl,hr,⟨li,ln,lk,lv,lp⟩,⟨ri,rn,rk,rv,rp⟩⟩:=g
 have c1:=Cs root ⟨li,ln,lk,lv,lp⟩
 have c2:=Cs root ⟨ri,rn,rk,rv,rp⟩
 have c3:=IM lk key
 have c4:=IM key rk
 have c5:=PK 0 [] (by simp)
 have c6:=gN (Fu 0 []) root
 have fL:gJ root ⟨li,ln,lk,lv,lp⟩=true->1<=ln/\ln<=200/\0<=li/\li < ln:=fun h=>by
  obtain ⟨a1,a2,a3,a4,_⟩:=formF_yes (shownF_form h)
  exact ⟨a1,a2,a3,a4⟩
 cases hl <;> cases hr <;> simp only [z_] at hR
 ·clear c1 c2 fL
  generalize Fu 0 []=T at *
  refine aa 89 Tryz.func61 rfl rfl rfl (fun _ _=>rfl) ?_
  exact wkl trivial
 ·clear c1 fL
  generalize gJ root ⟨ri,rn,rk,rv,rp⟩=S at *
  generalize Lib.compareBytes key rk=C at *
  cases S <;> by_cases q:C < 0 <;> simp only [q,decide_true,decide_false,Bool.true_and,Bool.false_and,Bool.and_false,Bool.and_true] at hR
  all_goals
   refine aa 89 Tryz.func61 rfl rfl rfl (fun _ _=>rfl) ?_
   exact wkl trivial
 ·clear c2
  generalize gJ root ⟨li,ln,lk,lv,lp⟩=S at *
  generalize Lib.compareBytes lk key=C at *
  cases S <;> by_cases q:C < 0 <;> simp only [q,decide_true,decide_false,Bool.true_and,Bool.false_and,Bool.and_false,Bool.and_true] at hR
  all_goals
   try (have fL:=fL rfl)
   refine aa 89 Tryz.func61 rfl rfl rfl (fun _ _=>rfl) ?_
   exact wkl trivial
 ·generalize gJ root ⟨li,ln,lk,lv,lp⟩=S at *
  generalize gJ root ⟨ri,rn,rk,rv,rp⟩=S' at *
  generalize Lib.compareBytes lk key=C at *
  generalize Lib.compareBytes key rk=C' at *
  cases S
  ·simp only [Bool.false_and] at hR
   refine aa 89 Tryz.func61 rfl rfl rfl (fun _ _=>rfl) ?_
   exact wkl trivial
  ·have fL:=fL rfl
   by_cases q:C < 0
   ·cases S' <;> by_cases q':C' < 0 <;> simp only [q,q',decide_true,decide_false,Bool.true_and,Bool.false_and,Bool.and_false,Bool.and_true] at hR
    all_goals
     refine aa 89 Tryz.func61 rfl rfl rfl (fun _ _=>rfl) ?_
     exact wkl trivial
   ·simp only [q,decide_false,Bool.and_false,Bool.false_and] at hR
    refine aa 89 Tryz.func61 rfl rfl rfl (fun _ _=>rfl) ?_
    exact wkl trivial
end Go.Proofs.YtfenipelcpmkpaaGreatDoor
