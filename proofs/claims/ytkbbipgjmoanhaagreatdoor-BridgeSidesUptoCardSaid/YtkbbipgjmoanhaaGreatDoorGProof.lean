/- Merged texts: ProofA, ProofB, ProofC, ProofT, R1Same, GapA, GapB. -/
import Derived.Test.YtkbbipgjmoanhaaGreatDoorGBook
import Derived.Test.YtkbbipgjmoanhaaGreatDoorGWk
set_option linter.all false
set_option maxHeartbeats 4000000
set_option maxRecDepth 20000
namespace Go.Proofs.YtkbbipgjmoanhaaGreatDoor
open Go Go.Abs Go.RowKit Go.Proofs.YtkbbipgjmoanhaaGreatDoor.Ty
theorem fT:(type_of% @Ty.T1)/\(type_of% @Ty.T3)/\(type_of% @Ty.T5)/\(type_of% @Ty.T38)/\(type_of% @Ty.T49)/\(type_of% @Ty.aaA)/\(type_of% @Ty.aas):=⟨@Ty.T1,@Ty.T3,@Ty.T5,@Ty.T38,@Ty.T49,@Ty.aaA,@Ty.aas⟩
structure fJ where
 i:Int
 n:Int
 k:List UInt8
 v:List UInt8
 path:List (List UInt8)
def ax (p:fJ):D:=.agg [intD p.i,intD p.n,.i (bI p.k),.i (bI p.v),.i (bbI p.path)]
def kM (l:List bf) (i:Nat):List (List UInt8) :=
 if h:l.length<=1 then []
 else if i < aX l.length then kM (l.take (aX l.length)) i++[gp (l.drop (aX l.length))]
 else kM (l.drop (aX l.length)) (i - aX l.length)++[gp (l.take (aX l.length))]
termination_by l.length
decreasing_by
 all_goals
  have:=jw (n:=l.length) (by omega)
  simp only [List.length_take,List.length_drop]
  omega
theorem zJ {l:List bf} (i:Nat) (h:l.length<=1):kM l i=[]:=by rw [kM,dif_pos h]
theorem Et {l:List bf} {i:Nat} (h:2<=l.length) (hi:i < aX l.length):kM l i=kM (l.take (aX l.length)) i++[gp (l.drop (aX l.length))]:=by
 rw [kM,dif_neg (by omega),if_pos hi]
theorem Eu {l:List bf} {i:Nat} (h:2<=l.length) (hi:¬ i < aX l.length):kM l i=kM (l.drop (aX l.length)) (i - aX l.length)++[gp (l.take (aX l.length))]:=by
 rw [kM,dif_neg (by omega),if_neg hi]
theorem zK:∀ (n:Nat) (l:List bf) (i:Nat),l.length=n->(kM l i).length<=n:=by
 intro n
 induction n using Nat.strongRecOn with
 | _ n ih =>
  intro l i hn
  by_cases h:l.length<=1
  ·rw [zJ i h]; simp
  ·have hs:=jw (n:=l.length) (by omega)
   by_cases hi:i < aX l.length
   ·rw [Et (by omega) hi]
    have:=ih (l.take (aX l.length)).length (by simp; omega) _ i rfl
    simp at this ⊢; omega
   ·rw [Eu (by omega) hi]
    have:=ih (l.drop (aX l.length)).length (by simp; omega) _ (i - aX l.length) rfl
    simp at this ⊢; omega
def bbE (b:List UInt8):List I:=[bI b]
theorem Wj:∀ (n:Nat) (l:List bf) (i:Nat),l.length=n->i < l.length->l.length<=1048576->(∀ p∈l,p.k.length<=1048576/\p.v.length<=1048576) ->
  aN Tryz.prog 147 [.i (.sl (l.map aI)),.i (.s (.int .i64 (i:Int)))] noH (.os 1 1 0 (kM l i).length) (hOf noH [(1,.arr 1 ((kM l i).map bbE))]):=by
 intro n
 induction n using Nat.strongRecOn with
 | _ n ih =>
  intro l i hn hi hl hb
  by_cases h1:l.length=1
  ·have g1:decide ((l.length:Int)=1)=true:=by simp; omega
   rw [zJ i (by omega)]
   refine aa 39 Tryz.func147 rfl rfl rfl (fun _ _=>rfl) ?_
   refine gx (an fT g1) ?_
   refine cK _ [] [] rfl ?_ ?_ rfl ?_ rfl
   ·simp [cv,cv1,cv0,upd,ib,lk,noH]
   ·simp [cO,ib,lk,cvO,frz,upd,noH]
   ·simp
  ·have h2:2<=l.length:=by omega
   have hs:=jw h2
   have hsp:=Bi l.length (by omega) hl
   have hpl:=zK l.length l i rfl
   have hlo:=fun h=>Et (l:=l) (i:=i) h2 h
   have hhi:=fun h=>Eu (l:=l) (i:=i) h2 h
   generalize aX l.length=k at *
   have n1:l.take k≠[]:=by intro hc; have:=congrArg List.length hc; simp only [List.length_take,List.length_drop,List.length_nil] at this; omega
   have n2:l.drop k≠[]:=by intro hc; have:=congrArg List.length hc; simp only [List.length_take,List.length_drop,List.length_nil] at this; omega
   have t1:=H_ _ (l.take k) rfl n1 (by simp; omega) (fun p hp=>hb p (List.mem_of_mem_take hp))
   have t2:=H_ _ (l.drop k) rfl n2 (by simp; omega) (fun p hp=>hb p (List.mem_of_mem_drop hp))
   have i1:=fun h=>ih (l.take k).length (by simp; omega) (l.take k) i rfl h (by simp; omega) (fun p hp=>hb p (List.mem_of_mem_take hp))
   have i2:=fun h=>ih (l.drop k).length (by simp; omega) (l.drop k) (i - k) rfl h (by simp; omega) (fun p hp=>hb p (List.mem_of_mem_drop hp))
   simp only [psI] at t1 t2
   have g1:decide ((l.length:Int)=1)=false:=by simp; omega
   have g2:((k:Int)<=(l.length:Int))=True:=eq_true (by omega)
   have u1:uni 2 (l.map aI)=true:=by simp [uni,aI]
   by_cases hc:i < k
   ·have hpi:=hlo hc
    have g3:decide ((i:Int) < (k:Int))=true:=by simp; omega
    have ip:=i1 (by simp; omega)
    rw [hpi] at hpl
    simp only [List.length_append,List.length_cons,List.length_nil] at hpl
    generalize gp (l.drop k)=T at *
    generalize hP:kM (l.take k) i=P at *
    have e3:P.length+1<=140737488355328:=by omega
    have e4:(P.length+1) * 24<=140737488355328:=by omega
    rw [hpi]
    refine aa 39 Tryz.func147 rfl rfl rfl (fun _ _=>rfl) ?_
    (refine gy (an fT g1) ?_; try intro ops hops)
    (first | refine ai [] [] (hsp) (by simp [aJ,cvA,aM,cvR,ah,cv1,cvL,cv0,bI,af,bbI,aI,psI,intD,ax,ae,upd]) rfl ?_ | refine ag [] [] [] (hsp) (fun G _=>by simp [aJ,cvA,aM,cvR,ah,cv1,cvL,cv0,bI,af,bbI,aI,psI,intD,ax,ae,upd]) rfl ?_)
    (refine gy (an (an (an (an (an (an fT @intD.eq_1) g3) g2) u1) @mtk) @mdr) ?_; try intro ops hops)
    refine ol 2284 ip (by simp [upd,noH]) rfl ?_
    (refine gy (an (an (an (an fT g2) u1) @mtk) @mdr) ?_; try intro ops hops)
    (first | refine aR [] (t2) (by simp [aJ,cvA,aM,cvR,ah,cv1,cvL,cv0,bI,af,bbI,aI,psI,intD,ax,ae,upd]) ?_ | refine aH [] [] (t2) (fun G _=>by simp [aJ,cvA,aM,cvR,ah,cv1,cvL,cv0,bI,af,bbI,aI,psI,intD,ax,ae,upd]) (by simp) ?_)
    have u2:uni 1 (P.map bbE)=true:=by simp [uni,bbE]
    refine gx (an (an (an (an fT @bI.eq_1) e3) e4) u2) ?_
    refine cK _ [] [(1,2290)] rfl ?_ ?_ rfl ?_ rfl
    ·simp [cv,cv1,cv0,upd,ib,lk,noH]
    ·simp [cO,ib,lk,cvO,frz,upd,noH,bbE,bI]
    ·simp [noH]
   ·have hpi:=hhi hc
    have g3:decide ((i:Int) < (k:Int))=false:=by simp; omega
    have ip:=i2 (by simp; omega)
    have w1:IntKind.i64.wrap ((i:Int) - (k:Int))=((i - k:Nat):Int):=by rw [ay (by omega) (by omega)]; omega
    rw [hpi] at hpl
    simp only [List.length_append,List.length_cons,List.length_nil] at hpl
    generalize gp (l.take k)=T at *
    generalize i - k=j at *
    generalize hP:kM (l.drop k) j=P at *
    have e3:P.length+1<=140737488355328:=by omega
    have e4:(P.length+1) * 24<=140737488355328:=by omega
    rw [hpi]
    refine aa 39 Tryz.func147 rfl rfl rfl (fun _ _=>rfl) ?_
    (refine gy (an fT g1) ?_; try intro ops hops)
    (first | refine ai [] [] (hsp) (by simp [aJ,cvA,aM,cvR,ah,cv1,cvL,cv0,bI,af,bbI,aI,psI,intD,ax,ae,upd]) rfl ?_ | refine ag [] [] [] (hsp) (fun G _=>by simp [aJ,cvA,aM,cvR,ah,cv1,cvL,cv0,bI,af,bbI,aI,psI,intD,ax,ae,upd]) rfl ?_)
    (refine gy (an (an (an (an (an (an (an fT @intD.eq_1) g3) g2) u1) w1) @mtk) @mdr) ?_; try intro ops hops)
    refine ol 2542 ip (by simp [upd,noH]) rfl ?_
    (refine gy (an (an (an (an fT g2) u1) @mtk) @mdr) ?_; try intro ops hops)
    (first | refine aR [] (t1) (by simp [aJ,cvA,aM,cvR,ah,cv1,cvL,cv0,bI,af,bbI,aI,psI,intD,ax,ae,upd]) ?_ | refine aH [] [] (t1) (fun G _=>by simp [aJ,cvA,aM,cvR,ah,cv1,cvL,cv0,bI,af,bbI,aI,psI,intD,ax,ae,upd]) (by simp) ?_)
    have u2:uni 1 (P.map bbE)=true:=by simp [uni,bbE]
    refine gx (an (an (an (an fT @bI.eq_1) e3) e4) u2) ?_
    refine cK _ [] [(1,2548)] rfl ?_ ?_ rfl ?_ rfl
    ·simp [cv,cv1,cv0,upd,ib,lk,noH]
    ·simp [cO,ib,lk,cvO,frz,upd,noH,bbE,bI]
    ·simp [noH]
theorem nD:(type_of% @Ty.T3)/\(type_of% @Ty.T5)/\(type_of% @Ty.T38)/\(type_of% @Ty.T49)/\(type_of% @Ty.T51)/\(type_of% @Ty.aaA)/\(type_of% @Ty.aas):=⟨@Ty.T3,@Ty.T5,@Ty.T38,@Ty.T49,@Ty.T51,@Ty.aaA,@Ty.aas⟩
theorem dU:(type_of% @Ty.T3)/\(type_of% @Ty.T4)/\(type_of% @Ty.T5)/\(type_of% @Ty.T34)/\(type_of% @Ty.T38)/\(type_of% @Ty.T49)/\(type_of% @Ty.T51)/\(type_of% @Ty.aaA)/\(type_of% @Ty.Yh)/\(type_of% @Ty.aas):=⟨@Ty.T3,@Ty.T4,@Ty.T5,@Ty.T34,@Ty.T38,@Ty.T49,@Ty.T51,@Ty.aaA,@Ty.Yh,@Ty.aas⟩
theorem mD {P:Program} {fn:Func} {sl:Nat->D} {H:Nat->Ob} {t:TypeId} {p i:Tmp} {k:Nat} {cs:List D} {r:D} (F:List Nat) (h:fn.results=#[.cell p t,.tmp i]) (ha:ng P t=some true) (hs:gq P t=some k) (hr:aC H (sl p) k=some cs) (hv:cv H F (fun _=>none) (.tup [.agg cs,sl i]) r):Fin P fn noH r noH .ret ⟨sl,H⟩ :=
 ⟨_,by simp [AC,h,gM,ha,hs,hr],jQ F hv⟩
def atF (l:List bf) (i:Nat) (h:i < l.length):fJ:=⟨i,l.length,l[i].k,l[i].v,kM l i⟩
theorem ZH (l:List bf) (i:Nat) (hi:i < l.length) (hl:l.length<=1048576) (hb:∀ p∈l,p.k.length<=1048576/\p.v.length<=1048576) :
  PureD Tryz.prog 88 [.i (psI l),intD i] (ax (atF l i hi)):=by
 have hp:=Wj _ l i rfl hi hl hb
 have hbi:=hb _ (List.getElem_mem hi)
 have e1:(l.map aI)[i]?=some [bI l[i].k,bI l[i].v]:=by rw [List.getElem?_map,List.getElem?_eq_getElem hi]; rfl
 have c1:=dN l[i].k (by omega)
 have c2:=dN l[i].v (by omega)
 have hpl:=zK l.length l i rfl
 simp only [atF]
 generalize l[i]=p at *
 generalize kM l i=Q at *
 refine aa 24 Tryz.func88 rfl rfl rfl (fun _ _=>rfl) ?_
 (refine gy (an (an (an (an nD @psI.eq_1) @intD.eq_1) e1) @bI.eq_1) ?_; try intro ops hops)
 (first | refine aR [] (c1) (by simp [aJ,cvA,aM,cvR,ah,cv1,cvL,cv0,bI,af,bbI,aI,psI,intD,boolD,ax,cB,ae,upd]) ?_ | refine aH [] [] (c1) (fun G _=>by simp [aJ,cvA,aM,cvR,ah,cv1,cvL,cv0,bI,af,bbI,aI,psI,intD,boolD,ax,cB,ae,upd]) (by simp) ?_)
 (refine gy (an (an (an (an nD @psI.eq_1) @intD.eq_1) e1) @bI.eq_1) ?_; try intro ops hops)
 (first | refine aR [] (c2) (by simp [aJ,cvA,aM,cvR,ah,cv1,cvL,cv0,bI,af,bbI,aI,psI,intD,boolD,ax,cB,ae,upd]) ?_ | refine aH [] [] (c2) (fun G _=>by simp [aJ,cvA,aM,cvR,ah,cv1,cvL,cv0,bI,af,bbI,aI,psI,intD,boolD,ax,cB,ae,upd]) (by simp) ?_)
 (refine gy (an (an (an (an nD @psI.eq_1) @intD.eq_1) e1) @bI.eq_1) ?_; try intro ops hops)
 refine ol 1273 hp (by simp [upd,noH]) rfl ?_
 refine gx (an nD @bI.eq_1) ?_
 refine CK [1273] rfl XT VA (by simp [upd,aC,ak]; rfl) ?_
 simp [cv,cv1,cvL,cv0,upd,ax,intD,bbI,ae,hO,noH,lk,eO,bbE,bI]
def mI:fJ:=⟨0,0,[],[],[]⟩
def F_ (l:List bf) (key:List UInt8):fJ × Nat :=
 if (dD l).1=0 then (if h:bM l key < l.length then (if l[bM l key].k=key then (atF l (bM l key) h,0) else (mI,6)) else (mI,6)) else (mI,(dD l).1)
theorem VH (l:List bf) (key:List UInt8) (hl:l.length<=1048576) :
  PureD Tryz.prog 41 [.i (psI l),.i (bI key)] (.tup [ax (F_ l key).1,intD (F_ l key).2]):=by
 have hw:=AV l hl
 unfold F_
 by_cases h0:(dD l).1=0
 ·have hr:=qP h0
  have hz:=oz h0
  rw [if_pos h0]
  rw [hz] at hw
  simp only at hw
  have hf:=QR l key hr
  unfold uR at hf
  have hat:=fun (h:bM l key < l.length)=>ZH l (bM l key) h hl (fun p hp=>by have:=hr.big p hp; omega)
  by_cases h1:bM l key < l.length
  ·rw [dif_pos h1] at hf ⊢
   have hat:=hat h1
   by_cases h2:l[bM l key].k=key
   ·rw [if_pos h2]
    rw [decide_eq_true h2] at hf
    simp only
    generalize atF l (bM l key) h1=A at *
    generalize bM l key=j at *
    refine aa 29 Tryz.func41 rfl rfl rfl (fun _ _=>rfl) ?_
    (refine gy (an (an dU @psI.eq_1) @bI.eq_1) ?_; try intro ops hops)
    (first | refine ai [] [] (hw) (by simp [aJ,cvA,aM,cvR,ah,cv1,cvL,cv0,bI,af,bbI,aI,psI,intD,boolD,ax,cB,ae,upd]) rfl ?_ | refine ag [] [] [] (hw) (fun G _=>by simp [aJ,cvA,aM,cvR,ah,cv1,cvL,cv0,bI,af,bbI,aI,psI,intD,boolD,ax,cB,ae,upd]) rfl ?_)
    (refine gy (an (an (an (an dU @cB.eq_1) @intD.eq_1) @psI.eq_1) @bI.eq_1) ?_; try intro ops hops)
    (first | refine ai [] [] (hf) (by simp [aJ,cvA,aM,cvR,ah,cv1,cvL,cv0,bI,af,bbI,aI,psI,intD,boolD,ax,cB,ae,upd]) rfl ?_ | refine ag [] [] [] (hf) (fun G _=>by simp [aJ,cvA,aM,cvR,ah,cv1,cvL,cv0,bI,af,bbI,aI,psI,intD,boolD,ax,cB,ae,upd]) rfl ?_)
    (refine gy (an (an (an (an dU @boolD.eq_1) @intD.eq_1) @psI.eq_1) @bI.eq_1) ?_; try intro ops hops)
    (first | refine aR [] (hat) (by simp [aJ,cvA,aM,cvR,ah,cv1,cvL,cv0,bI,af,bbI,aI,psI,intD,boolD,ax,cB,ae,upd]) ?_ | refine aH [] [] (hat) (fun G _=>by simp [aJ,cvA,aM,cvR,ah,cv1,cvL,cv0,bI,af,bbI,aI,psI,intD,boolD,ax,cB,ae,upd]) (by simp) ?_)
    refine gx (an (an dU @ax.eq_1) @intD.eq_1) ?_
    refine mD [] rfl XT VA (by simp [upd,aC,ak]; rfl) ?_
    simp [cv,cvT,cv1,cvL,cv0,upd,ax,intD]
   ·rw [if_neg h2]
    rw [decide_eq_false h2] at hf
    simp only
    generalize bM l key=j at *
    refine aa 29 Tryz.func41 rfl rfl rfl (fun _ _=>rfl) ?_
    (refine gy (an (an dU @psI.eq_1) @bI.eq_1) ?_; try intro ops hops)
    (first | refine ai [] [] (hw) (by simp [aJ,cvA,aM,cvR,ah,cv1,cvL,cv0,bI,af,bbI,aI,psI,intD,boolD,ax,cB,ae,upd]) rfl ?_ | refine ag [] [] [] (hw) (fun G _=>by simp [aJ,cvA,aM,cvR,ah,cv1,cvL,cv0,bI,af,bbI,aI,psI,intD,boolD,ax,cB,ae,upd]) rfl ?_)
    (refine gy (an (an (an (an dU @cB.eq_1) @intD.eq_1) @psI.eq_1) @bI.eq_1) ?_; try intro ops hops)
    (first | refine ai [] [] (hf) (by simp [aJ,cvA,aM,cvR,ah,cv1,cvL,cv0,bI,af,bbI,aI,psI,intD,boolD,ax,cB,ae,upd]) rfl ?_ | refine ag [] [] [] (hf) (fun G _=>by simp [aJ,cvA,aM,cvR,ah,cv1,cvL,cv0,bI,af,bbI,aI,psI,intD,boolD,ax,cB,ae,upd]) rfl ?_)
    refine gx (an (an (an (an dU @boolD.eq_1) @intD.eq_1) @psI.eq_1) @bI.eq_1) ?_
    refine mD [] rfl XT VA (by simp [upd,aC,ak]; rfl) ?_
    simp [cv,cvT,cv1,cvL,cv0,upd,ax,mI,intD,bI,bbI]
  ·rw [dif_neg h1] at hf ⊢
   simp only
   generalize bM l key=j at *
   refine aa 29 Tryz.func41 rfl rfl rfl (fun _ _=>rfl) ?_
   (refine gy (an (an dU @psI.eq_1) @bI.eq_1) ?_; try intro ops hops)
   (first | refine ai [] [] (hw) (by simp [aJ,cvA,aM,cvR,ah,cv1,cvL,cv0,bI,af,bbI,aI,psI,intD,boolD,ax,cB,ae,upd]) rfl ?_ | refine ag [] [] [] (hw) (fun G _=>by simp [aJ,cvA,aM,cvR,ah,cv1,cvL,cv0,bI,af,bbI,aI,psI,intD,boolD,ax,cB,ae,upd]) rfl ?_)
   (refine gy (an (an (an (an dU @cB.eq_1) @intD.eq_1) @psI.eq_1) @bI.eq_1) ?_; try intro ops hops)
   (first | refine ai [] [] (hf) (by simp [aJ,cvA,aM,cvR,ah,cv1,cvL,cv0,bI,af,bbI,aI,psI,intD,boolD,ax,cB,ae,upd]) rfl ?_ | refine ag [] [] [] (hf) (fun G _=>by simp [aJ,cvA,aM,cvR,ah,cv1,cvL,cv0,bI,af,bbI,aI,psI,intD,boolD,ax,cB,ae,upd]) rfl ?_)
   refine gx (an (an (an (an dU @boolD.eq_1) @intD.eq_1) @psI.eq_1) @bI.eq_1) ?_
   refine mD [] rfl XT VA (by simp [upd,aC,ak]; rfl) ?_
   simp [cv,cvT,cv1,cvL,cv0,upd,ax,mI,intD,bI,bbI]
 ·rw [if_neg h0]
  generalize dD l=W at *
  have g1:decide ((W.1:Int)=0)=false:=by simp; omega
  refine aa 29 Tryz.func41 rfl rfl rfl (fun _ _=>rfl) ?_
  (refine gy (an (an dU @psI.eq_1) @bI.eq_1) ?_; try intro ops hops)
  (first | refine ai [] [] (hw) (by simp [aJ,cvA,aM,cvR,ah,cv1,cvL,cv0,bI,af,bbI,aI,psI,intD,boolD,ax,cB,ae,upd]) rfl ?_ | refine ag [] [] [] (hw) (fun G _=>by simp [aJ,cvA,aM,cvR,ah,cv1,cvL,cv0,bI,af,bbI,aI,psI,intD,boolD,ax,cB,ae,upd]) rfl ?_)
  refine gx (an (an (an dU @cB.eq_1) @intD.eq_1) g1) ?_
  refine mD [] rfl XT VA (by simp [upd,aC,ak]; rfl) ?_
  simp [cv,cvT,cv1,cvL,cv0,upd,ax,mI,intD,bI,bbI]
theorem dK:(type_of% @Ty.T3)/\(type_of% @Ty.T5)/\(type_of% @Ty.T38)/\(type_of% @Ty.T49)/\(type_of% @Ty.T51):=⟨@Ty.T3,@Ty.T5,@Ty.T38,@Ty.T49,@Ty.T51⟩
def tT (p:fJ):List I:=[.s (.int .i64 p.i),.s (.int .i64 p.n),bI p.k,bI p.v,bbI p.path]
def Pg (p:fJ):Bool:=decide (p.n < 1) || decide (200 < p.n) || decide (p.i < 0) || decide (p.n<=p.i) || decide (60 < p.k.length) || decide (200 < p.v.length) || decide (40 < p.path.length)
def tV (p:fJ):Bool:=!Pg p && p.path.all fun d=>decide (d.length=32)
theorem Ph {p:fJ} (h:Pg p=true):tV p=false:=by simp [tV,h]
theorem Qe {l:List (List UInt8)} {i:Nat} (h:i < l.length):(l.drop i).all (fun d=>decide (d.length=32))=(decide (l[i].length=32) && (l.drop (i+1)).all fun d=>decide (d.length=32)):=by
 rw [List.drop_eq_getElem_cons h]; rfl
theorem Xe (p:fJ):PureD Tryz.prog 259 [.rp (tT p) 0] (boolD (tV p)):=by
 have hN:=Ph (p:=p)
 unfold Pg at hN
 obtain ⟨i,n,k,v,q⟩:=p
 have hl:(q.map fun b=>[bI b]).length=q.length:=by simp
 have e0:∀ j (h:j < q.length),(q.map fun b=>[bI b])[j]?=some [bI q[j]]:=fun j h=>by rw [List.getElem?_map,List.getElem?_eq_getElem h]; rfl
 cases g1:decide (n < 1)
 case true =>
  rw [hN (by simp [g1])]
  refine aa 72 Tryz.func259 rfl rfl rfl (fun _ _=>rfl) ?_
  refine gx (an (an dK @tT.eq_1) g1) ?_
  refine aB [] rfl ?_
  simp [cv,cv1,cv0,upd,boolD]
 cases g2:decide ((200:Int) < n)
 case true =>
  rw [hN (by simp [g2])]
  refine aa 72 Tryz.func259 rfl rfl rfl (fun _ _=>rfl) ?_
  refine gx (an (an (an dK @tT.eq_1) g1) g2) ?_
  refine aB [] rfl ?_
  simp [cv,cv1,cv0,upd,boolD]
 cases g3:decide (i < 0)
 case true =>
  rw [hN (by simp [g3])]
  refine aa 72 Tryz.func259 rfl rfl rfl (fun _ _=>rfl) ?_
  refine gx (an (an (an (an dK @tT.eq_1) g1) g2) g3) ?_
  refine aB [] rfl ?_
  simp [cv,cv1,cv0,upd,boolD]
 cases g4:decide (n<=i)
 case true =>
  rw [hN (by simp [g4])]
  refine aa 72 Tryz.func259 rfl rfl rfl (fun _ _=>rfl) ?_
  refine gx (an (an (an (an (an dK @tT.eq_1) g1) g2) g3) g4) ?_
  refine aB [] rfl ?_
  simp [cv,cv1,cv0,upd,boolD]
 cases g5:decide ((60:Int) < (k.length:Int))
 case true =>
  rw [hN (by simp at g5; simp; omega)]
  refine aa 72 Tryz.func259 rfl rfl rfl (fun _ _=>rfl) ?_
  refine gx (an (an (an (an (an (an (an dK @tT.eq_1) g1) g2) g3) g4) g5) @bI.eq_1) ?_
  refine aB [] rfl ?_
  simp [cv,cv1,cv0,upd,boolD]
 cases g6:decide ((200:Int) < (v.length:Int))
 case true =>
  rw [hN (by simp at g6; simp; omega)]
  refine aa 72 Tryz.func259 rfl rfl rfl (fun _ _=>rfl) ?_
  refine gx (an (an (an (an (an (an (an (an dK @tT.eq_1) g1) g2) g3) g4) g5) g6) @bI.eq_1) ?_
  refine aB [] rfl ?_
  simp [cv,cv1,cv0,upd,boolD]
 cases g7:decide ((40:Int) < (q.length:Int))
 case true =>
  rw [hN (by simp at g7; simp; omega)]
  refine aa 72 Tryz.func259 rfl rfl rfl (fun _ _=>rfl) ?_
  refine gx (an (an (an (an (an (an (an (an (an (an (an dK @tT.eq_1) g1) g2) g3) g4) g5) g6) g7) @bI.eq_1) @bbI.eq_1) @hl) ?_
  refine aB [] rfl ?_
  simp [cv,cv1,cv0,upd,boolD]
 have hF:tV ⟨i,n,k,v,q⟩=(q.drop 0).all fun d=>decide (d.length=32):=by
  have b5:decide (60 < k.length)=false:=by simp at g5 ⊢; omega
  have b6:decide (200 < v.length)=false:=by simp at g6 ⊢; omega
  have b7:decide (40 < q.length)=false:=by simp at g7 ⊢; omega
  simp [tV,Pg,g1,g2,g3,g4,b5,b6,b7]
 have hq:q.length<=40:=by simp at g7; omega
 generalize tV ⟨i,n,k,v,q⟩=R at hF
 clear hN
 refine aa 72 Tryz.func259 rfl rfl rfl (fun _ _=>rfl) ?_
 refine gx (an (an (an (an (an (an (an (an (an (an (an dK @tT.eq_1) g1) g2) g3) g4) g5) g6) g7) @bI.eq_1) @bbI.eq_1) @hl) ?_
 refine cz (ι:=Nat) (fun j=>j<=q.length/\R=(q.drop j).all fun d=>decide (d.length=32))
  (fun j=>dW [(62,.i (bbI q)),(63,intD q.length),(64,intD j)] []) (fun j=>q.length - j) 0 ⟨Nat.zero_le _,hF⟩ ?_ ?_
 ·refine le_stOf _ _ [] [] ?_ ?_ rfl rfl
  ·simp [cv,cvL,cv1,cv0,upd,lk,aZ,intD,bbI,bI]
  ·simp
 ·rintro j ⟨hj,hR⟩
  rw [au]
  refine gx (an dK @intD.eq_1) ?_
  refine Wc_split (fun h=>?_) (fun h=>?_)
  ·have h2:j < q.length:=by simp at h; omega
   clear h
   have e1:=e0 j h2
   simp only [bI] at e1
   rw [Qe h2] at hR
   have w1:IntKind.i64.wrap ((j:Int)+1)=((j+1:Nat):Int):=by rw [ay (by omega) (by omega)]; omega
   generalize q[j]=d at *
   refine gx (an (an (an dK @bbI.eq_1) e1) @bI.eq_1) ?_
   refine Wc_split (fun h=>?_) (fun h=>?_)
   ·have h3:d.length≠32:=by simp at h; omega
    simp only [h3,decide_false,Bool.false_and] at hR
    refine gx dK ?_
    refine aB [] rfl ?_
    simp [cv,cv1,cv0,upd,hR,boolD]
   ·have h3:d.length=32:=by simp at h; omega
    simp only [h3,decide_true,Bool.true_and] at hR
    refine gx (an dK w1) ?_
    refine ⟨j+1,⟨h2,hR⟩,le_stOf _ _ [] [] ?_ ?_ rfl rfl,by simp; omega⟩
    ·simp [cv,cvL,cv1,cv0,upd,lk,aZ,intD,bbI,bI]
    ·simp
  ·have h2:¬ j < q.length:=by simp at h; omega
   clear h
   rw [List.drop_eq_nil_of_le (by omega)] at hR
   refine gx dK ?_
   refine aB [] rfl ?_
   simp [cv,cv1,cv0,upd,hR,boolD]
theorem eH:(type_of% @Ty.T3)/\(type_of% @Ty.T5)/\(type_of% @Ty.T38)/\(type_of% @Ty.T49):=⟨@Ty.T3,@Ty.T5,@Ty.T38,@Ty.T49⟩
theorem fQ:(type_of% @Ty.T3)/\(type_of% @Ty.T4)/\(type_of% @Ty.T5)/\(type_of% @Ty.T38)/\(type_of% @Ty.T49)/\(type_of% @Ty.T51)/\(type_of% @Ty.aah):=⟨@Ty.T3,@Ty.T4,@Ty.T5,@Ty.T38,@Ty.T49,@Ty.T51,@Ty.aah⟩
def iy (leaf:List UInt8):Nat->Nat->List (List UInt8)->List UInt8 × Bool
 | _,n,[]=>if n=1 then (leaf,true) else ([],false)
 | i,n,d :: r=>if n=1 then (leaf,false) else if i < aX n then (oN (iy leaf i (aX n) r).1 d,(iy leaf i (aX n) r).2)
   else (oN d (iy leaf (i - aX n) (n - aX n) r).1,(iy leaf (i - aX n) (n - aX n) r).2)
theorem tX (leaf:List UInt8) (h:leaf.length<=32):∀ (r:List (List UInt8)) (i n:Nat),(iy leaf i n r).1.length<=32:=by
 intro r
 induction r with
 | nil=>intro i n; simp only [iy]; split <;> simp [h]
 | cons d r ih =>
  intro i n; simp only [iy]; split
  ·exact h
  ·split <;> simp only [oN] <;> exact Nat.le_of_eq (dn _)
theorem RQ (leaf:List UInt8) (hlf:leaf.length<=32):∀ (r:List (List UInt8)) (i n:Nat),(∀ d∈r,d.length=32)->r.length<=1048576->i<=1048576->1<=n->n<=1048576 ->
  PureD Tryz.prog 260 [.i (bI leaf),intD i,intD n,.i (bbI r.reverse)] (.tup [.i (bI (iy leaf i n r).1),boolD (iy leaf i n r).2]):=by
 intro r
 induction r with
 | nil =>
  intro i n _ _ _ h1 h2
  by_cases hn:n=1
  ·subst hn
   simp only [iy,if_true]
   refine aa 71 Tryz.func260 rfl rfl rfl (fun _ _=>rfl) ?_
   refine gx (an (an (an (an (an eH @intD.eq_1) @bI.eq_1) @bbI.eq_1) @List.reverse_nil.{0}) @List.map_nil.{0,0}) ?_
   refine bQ [] rfl ?_
   simp [cv,cvT,cv1,cv0,upd,intD,boolD,bI]
  ·simp only [iy,hn,if_false]
   have g1:decide ((n:Int)=1)=false:=by simp; omega
   refine aa 71 Tryz.func260 rfl rfl rfl (fun _ _=>rfl) ?_
   refine gx (an (an (an (an (an (an eH @intD.eq_1) @bI.eq_1) @bbI.eq_1) @List.reverse_nil.{0}) @List.map_nil.{0,0}) g1) ?_
   refine bQ [] rfl ?_
   simp [cv,cvT,cv1,cv0,upd,intD,boolD,bI]
 | cons d r ih =>
  intro i n hd hr hi h1 h2
  have hd0:d.length=32:=hd d (by simp)
  simp only [List.length_cons] at hr
  have L1:((d :: r).reverse.map fun b=>[bI b]).length=r.length+1:=by simp
  have L2:((d :: r).reverse.map fun b=>[bI b])[r.length]?=some [bI d]:=by simp
  have L3:((d :: r).reverse.map fun b=>[bI b]).take r.length=r.reverse.map fun b=>[bI b]:=by simp
  have L4:uni 1 ((d :: r).reverse.map fun b=>[bI b])=true:=by simp [uni]
  have hq:bbI (d :: r).reverse=.sl ((d :: r).reverse.map fun b=>[bI b]):=rfl
  rw [hq]
  generalize ((d :: r).reverse.map fun b=>[bI b])=L at *
  clear hq
  by_cases hn:n=1
  ·subst hn
   simp only [iy,if_true]
   have g1:decide (((r.length+1:Nat):Int)=0)=false:=by simp; omega
   refine aa 71 Tryz.func260 rfl rfl rfl (fun _ _=>rfl) ?_
   refine gx (an (an (an eH @intD.eq_1) @L1) g1) ?_
   refine bQ [] rfl ?_
   simp [cv,cvT,cv1,cv0,upd,intD,boolD,bI]
  ·have hs:=jw (n:=n) (by omega)
   have hsp:=Bi n h1 h2
   have i1:=ih i (aX n) (fun d hd'=>hd d (by simp [hd'])) (by omega) hi (by omega) (by omega)
   have i2:=ih (i - aX n) (n - aX n) (fun d hd'=>hd d (by simp [hd'])) (by omega) (by omega) (by omega) (by omega)
   have n1:=tX leaf hlf r i (aX n)
   have n2:=tX leaf hlf r (i - aX n) (n - aX n)
   have g1:decide ((n:Int)=1)=false:=by simp; omega
   have g2:decide (((r.length+1:Nat):Int)=0)=false:=by simp; omega
   have g4:((r.length:Int)<=((r.length+1:Nat):Int))=True:=eq_true (by omega)
   have w1:IntKind.i64.wrap (((r.length+1:Nat):Int) - 1)=(r.length:Int):=by rw [ay (by omega) (by omega)]; omega
   have hc1:i < aX n->iy leaf i n (d :: r)=(oN (iy leaf i (aX n) r).1 d,(iy leaf i (aX n) r).2):=fun h=>by simp only [iy,if_neg hn,if_pos h]
   have hc2:¬ i < aX n->iy leaf i n (d :: r)=(oN d (iy leaf (i - aX n) (n - aX n) r).1,(iy leaf (i - aX n) (n - aX n) r).2):=fun h=>by simp only [iy,if_neg hn,if_neg h]
   clear hd
   generalize aX n=k at *
   simp only [bbI] at i1 i2
   rw [<- L3] at i1 i2
   by_cases hc:i < k
   ·have g3:decide ((i:Int) < (k:Int))=true:=by simp; omega
    rw [hc1 hc]
    clear i2 hc1 hc2
    generalize iy leaf i k r=T at *
    have hnd:=Jt T.1 d (by omega) (by omega)
    generalize oN T.1 d=R at *
    refine aa 71 Tryz.func260 rfl rfl rfl (fun _ _=>rfl) ?_
    (refine gy (an (an (an (an (an eH @intD.eq_1) @L1) g1) g2) w1) ?_; try intro ops hops)
    (first | refine ai [] [] (hsp) (by simp [aJ,cvA,aM,cvR,ah,cv1,cvL,cv0,bI,af,bbI,intD,boolD,ax,ae,upd]) rfl ?_ | refine ag [] [] [] (hsp) (fun G _=>by simp [aJ,cvA,aM,cvR,ah,cv1,cvL,cv0,bI,af,bbI,intD,boolD,ax,ae,upd]) rfl ?_)
    (refine gy (an (an (an (an (an eH @intD.eq_1) g3) @L1) @L4) g4) ?_; try intro ops hops)
    (first | refine aR [] (i1) (by simp [aJ,cvA,aM,cvR,ah,cv1,cvL,cv0,bI,af,bbI,intD,boolD,ax,ae,upd]) ?_ | refine aH [] [] (i1) (fun G _=>by simp [aJ,cvA,aM,cvR,ah,cv1,cvL,cv0,bI,af,bbI,intD,boolD,ax,ae,upd]) (by simp) ?_)
    (refine gy (an (an eH @boolD.eq_1) @L2) ?_; try intro ops hops)
    (first | refine aR [] (hnd) (by simp [aJ,cvA,aM,cvR,ah,cv1,cvL,cv0,bI,af,bbI,intD,boolD,ax,ae,upd]) ?_ | refine aH [] [] (hnd) (fun G _=>by simp [aJ,cvA,aM,cvR,ah,cv1,cvL,cv0,bI,af,bbI,intD,boolD,ax,ae,upd]) (by simp) ?_)
    refine gx (an eH @bI.eq_1) ?_
    refine bQ [] rfl ?_
    simp [cv,cvT,cv1,cv0,upd,intD,boolD,bI]
   ·have g3:decide ((i:Int) < (k:Int))=false:=by simp; omega
    have w2:IntKind.i64.wrap ((i:Int) - (k:Int))=((i - k:Nat):Int):=by rw [ay (by omega) (by omega)]; omega
    have w3:IntKind.i64.wrap ((n:Int) - (k:Int))=((n - k:Nat):Int):=by rw [ay (by omega) (by omega)]; omega
    rw [hc2 hc]
    clear i1 hc1 hc2
    generalize iy leaf (i - k) (n - k) r=T at *
    have hnd:=Jt d T.1 (by omega) (by omega)
    generalize oN d T.1=R at *
    refine aa 71 Tryz.func260 rfl rfl rfl (fun _ _=>rfl) ?_
    (refine gy (an (an (an (an (an eH @intD.eq_1) @L1) g1) g2) w1) ?_; try intro ops hops)
    (first | refine ai [] [] (hsp) (by simp [aJ,cvA,aM,cvR,ah,cv1,cvL,cv0,bI,af,bbI,intD,boolD,ax,ae,upd]) rfl ?_ | refine ag [] [] [] (hsp) (fun G _=>by simp [aJ,cvA,aM,cvR,ah,cv1,cvL,cv0,bI,af,bbI,intD,boolD,ax,ae,upd]) rfl ?_)
    (refine gy (an (an (an (an (an (an (an eH @intD.eq_1) g3) @L1) @L4) g4) w2) w3) ?_; try intro ops hops)
    (first | refine aR [] (i2) (by simp [aJ,cvA,aM,cvR,ah,cv1,cvL,cv0,bI,af,bbI,intD,boolD,ax,ae,upd]) ?_ | refine aH [] [] (i2) (fun G _=>by simp [aJ,cvA,aM,cvR,ah,cv1,cvL,cv0,bI,af,bbI,intD,boolD,ax,ae,upd]) (by simp) ?_)
    (refine gy (an (an eH @boolD.eq_1) @L2) ?_; try intro ops hops)
    (first | refine aR [] (hnd) (by simp [aJ,cvA,aM,cvR,ah,cv1,cvL,cv0,bI,af,bbI,intD,boolD,ax,ae,upd]) ?_ | refine aH [] [] (hnd) (fun G _=>by simp [aJ,cvA,aM,cvR,ah,cv1,cvL,cv0,bI,af,bbI,intD,boolD,ax,ae,upd]) (by simp) ?_)
    refine gx (an eH @bI.eq_1) ?_
    refine bQ [] rfl ?_
    simp [cv,cvT,cv1,cv0,upd,intD,boolD,bI]
def Ia (p:fJ):List UInt8 × Bool:=iy (xG p.k p.v) p.i.toNat p.n.toNat p.path.reverse
def iJ (root:List UInt8) (p:fJ):Bool:=tV p && (Ia p).2 && decide (FW p.n.toNat (Ia p).1=root)
theorem formF_yes {p:fJ} (h:tV p=true):1<=p.n/\p.n<=200/\0<=p.i/\p.i < p.n/\p.k.length<=60/\p.v.length<=200/\p.path.length<=40/\∀ d∈p.path,d.length=32:=by
 simp [tV,Pg] at h
 exact ⟨by omega,by omega,by omega,by omega,by omega,by omega,by omega,h.2⟩
theorem Bj (root:List UInt8) (p:fJ):PureD Tryz.prog 237 [.i (bI root),ax p] (boolD (iJ root p)):=by
 have hfm:=Xe p
 unfold iJ Ia
 cases hf:tV p
 ·rw [hf] at hfm
  simp only [Bool.false_and]
  refine aa 33 Tryz.func237 rfl rfl rfl (fun _ _=>rfl) ?_
  refine gx (an (an fQ @ax.eq_1) @intD.eq_1) ?_
  refine ai [] [1000] hfm ⟨.inr ⟨1000,_,_,rfl,.inl ⟨by simp,rfl,_,by simp [upd]; rfl,by simp [tT,ah,cv0]⟩⟩,trivial⟩ rfl ?_
  refine gx (an fQ @boolD.eq_1) ?_
  refine aB [] rfl ?_
  simp [cv,cv1,cv0,upd,boolD]
 ·rw [hf] at hfm
  simp only [Bool.true_and]
  obtain ⟨a1,a2,a3,a4,a5,a6,a7,a8⟩:=formF_yes hf
  clear hf
  have hl:=QM p.k p.v (by omega) (by omega)
  have hlen:(xG p.k p.v).length=32:=dn _
  generalize xG p.k p.v=F at *
  have ht:=RQ F (by omega) p.path.reverse p.i.toNat p.n.toNat (fun d hd=>a8 d (by simpa using hd)) (by simp; omega) (by omega) (by omega) (by omega)
  have hT:=tX F (by omega) p.path.reverse p.i.toNat p.n.toNat
  rw [List.reverse_reverse,Int.toNat_of_nonneg a3,Int.toNat_of_nonneg (by omega)] at ht
  generalize iy F p.i.toNat p.n.toNat p.path.reverse=T at *
  have htp:=ND p.n.toNat T.1 (by omega)
  rw [Int.toNat_of_nonneg (by omega)] at htp
  generalize FW p.n.toNat T.1=R at *
  clear a1 a2 a3 a4 a5 a6 a7 a8
  obtain ⟨i,n,k,v,q⟩:=p
  obtain ⟨t,ok⟩:=T
  simp only at *
  refine aa 33 Tryz.func237 rfl rfl rfl (fun _ _=>rfl) ?_
  refine gx (an (an fQ @ax.eq_1) @intD.eq_1) ?_
  refine ai [] [1000] hfm ⟨.inr ⟨1000,_,_,rfl,.inl ⟨by simp,rfl,_,by simp [upd]; rfl,by simp [tT,ah,cv0]⟩⟩,trivial⟩ rfl ?_
  (refine gy (an fQ @boolD.eq_1) ?_; try intro ops hops)
  (first | refine aR [] (hl) (by simp [aJ,cvA,aM,cvR,ah,cv1,cvL,cv0,bI,af,bbI,intD,boolD,ax,ae,upd]) ?_ | refine aH [] [] (hl) (fun G _=>by simp [aJ,cvA,aM,cvR,ah,cv1,cvL,cv0,bI,af,bbI,intD,boolD,ax,ae,upd]) (by simp) ?_)
  (refine gy fQ ?_; try intro ops hops)
  (first | refine aR [] (ht) (by simp [aJ,cvA,aM,cvR,ah,cv1,cvL,cv0,bI,af,bbI,intD,boolD,ax,ae,upd]) ?_ | refine aH [] [] (ht) (fun G _=>by simp [aJ,cvA,aM,cvR,ah,cv1,cvL,cv0,bI,af,bbI,intD,boolD,ax,ae,upd]) (by simp) ?_)
  cases ok
  ·refine gx (an fQ @boolD.eq_1) ?_
   refine aB [] rfl ?_
   simp [cv,cv1,cv0,upd,boolD]
  ·(refine gy (an fQ @boolD.eq_1) ?_; try intro ops hops)
   (first | refine aR [] (htp) (by simp [aJ,cvA,aM,cvR,ah,cv1,cvL,cv0,bI,af,bbI,intD,boolD,ax,ae,upd]) ?_ | refine aH [] [] (htp) (fun G _=>by simp [aJ,cvA,aM,cvR,ah,cv1,cvL,cv0,bI,af,bbI,intD,boolD,ax,ae,upd]) (by simp) ?_)
   (refine gy fQ ?_; try intro ops hops)
   (first | refine ai [] [] (fZ R root) (by simp [aJ,cvA,aM,cvR,ah,cv1,cvL,cv0,bI,af,bbI,intD,boolD,ax,ae,upd]) rfl ?_ | refine ag [] [] [] (fZ R root) (fun G _=>by simp [aJ,cvA,aM,cvR,ah,cv1,cvL,cv0,bI,af,bbI,intD,boolD,ax,ae,upd]) rfl ?_)
   refine gx fQ ?_
   refine aB [] rfl ?_
   simp [cv,cv1,cv0,upd,boolD]
theorem gL:(type_of% @Ty.T3)/\(type_of% @Ty.T5)/\(type_of% @Ty.T38):=⟨@Ty.T3,@Ty.T5,@Ty.T38⟩
theorem Ir (x y:List UInt8) (hx:x.length<=1099511627776):PureD Tryz.prog 42 [.i (bI x),.i (bI y)] (.i (.s (.bool (decide (x=y))))):=by
 refine aa 26 Tryz.func42 rfl rfl rfl (fun _ _=>rfl) ?_
 refine gx (an gL @bI.eq_1) ?_
 refine Wc_split (fun h=>?_) (fun h=>?_)
 ·refine gx (an gL @bI.eq_1) ?_
  refine aB [] rfl ?_
  have:x≠y:=by intro e; subst e; simp at h
  simp [cv,cv1,cv0,upd,this]
 ·have hl:x.length=y.length:=by simp at h; omega
  clear h
  refine gx (an gL @bI.eq_1) ?_
  refine uy (ι:={ k:Nat // k<=x.length/\x.take k=y.take k }) (fun k=>dW [(0,.i (.sl (x.map af))),(1,.i (.sl (y.map af))),(12,.i (.s (.int .i64 x.length))),(13,.i (.s (.int .i64 (k.1:Nat))))] []) (fun k=>x.length - k.1) ⟨0,by simp⟩ ?_ ?_
  ·refine le_stOf _ _ [] [] ?_ ?_ rfl rfl
   ·simp [cv,cv1,cv0,upd,lk]
   ·simp
  ·rintro ⟨k,hk,ht⟩
   rw [au]
   refine gx gL ?_
   refine Wc_split (fun h=>?_) (fun h=>?_)
   ·have hlt:k < x.length:=by simp at h; omega
    clear h
    have e1:(x.map af)[k]?=some [.s (.int .u8 (x[k].toNat:Int))]:=by simp [hlt,af]
    have e2:(y.map af)[k]?=some [.s (.int .u8 ((y[k]'(by omega)).toNat:Int))]:=by simp [show k < y.length by omega,af]
    refine gx (an (an gL e1) e2) ?_
    refine Wc_split (fun h=>?_) (fun h=>?_)
    ·refine gx gL ?_
     refine aB [] rfl ?_
     have:x≠y:=by intro e; subst e; simp at h
     simp [cv,cv1,cv0,upd,this]
    ·have hb:x[k]=y[k]:=UInt8.toNat_inj.1 (by simp at h; omega)
     clear h
     have hw:IntKind.i64.wrap ((k:Int)+1)=((k+1:Nat):Int):=by rw [ay (by omega) (by omega)]; omega
     refine gx (an gL @hw) ?_
     refine ⟨⟨k+1,hlt,?_⟩,le_stOf _ _ [] [] ?_ ?_ rfl rfl,?_⟩
     ·rw [List.take_succ_eq_append_getElem hlt,List.take_succ_eq_append_getElem (by omega),ht,hb]
     ·simp [cv,cv1,cv0,upd,lk]
     ·simp
     ·simp; omega
   ·have hk':k=x.length:=by simp at h; omega
    subst hk'
    refine gx gL ?_
    refine aB [] rfl ?_
    have:x=y:=by rw [List.take_length,hl,List.take_length] at ht; exact ht
    simp [cv,cv1,cv0,upd,this]
theorem dC:(type_of% @Ty.T3)/\(type_of% @Ty.T4)/\(type_of% @Ty.T5)/\(type_of% @Ty.T34)/\(type_of% @Ty.T38)/\(type_of% @Ty.T49)/\(type_of% @Ty.T51)/\(type_of% @Ty.T53)/\(type_of% @Ty.aaA)/\(type_of% @Ty.Yh)/\(type_of% @Ty.aas):=⟨@Ty.T3,@Ty.T4,@Ty.T5,@Ty.T34,@Ty.T38,@Ty.T49,@Ty.T51,@Ty.T53,@Ty.aaA,@Ty.Yh,@Ty.aas⟩
structure Ri where
 hl:Bool
 hr:Bool
 left:fJ
 right:fJ
def GZ (g:Ri):D:=.agg [boolD g.hl,boolD g.hr,intD g.left.i,intD g.left.n,.i (bI g.left.k),.i (bI g.left.v),.i (bbI g.left.path),intD g.right.i,intD g.right.n,.i (bI g.right.k),.i (bI g.right.v),.i (bbI g.right.path)]
def Ns:Ri:=⟨false,false,mI,mI⟩
def atZ (l:List bf) (b:Bool) (i:Nat):fJ:=if h:b=true/\i < l.length then atF l i h.2 else mI
def Xb (l:List bf) (key:List UInt8):Ri × Nat :=
 if (dD l).1=0 then (if uR l key then (Ns,7) else (⟨decide (0 < bM l key),decide (bM l key < l.length),atZ l (decide (0 < bM l key)) (bM l key - 1),atZ l (decide (bM l key < l.length)) (bM l key)⟩,0)) else (Ns,(dD l).1)
theorem YV (l:List bf) (key:List UInt8) (hl:l.length<=1048576):PureD Tryz.prog 40 [.i (psI l),.i (bI key)] (.tup [GZ (Xb l key).1,intD (Xb l key).2]):=by
 have hw:=AV l hl
 unfold Xb
 by_cases h0:(dD l).1=0
 ·have hr:=qP h0
  have hz:=oz h0
  rw [if_pos h0]
  rw [hz] at hw
  simp only at hw
  have hf:=QR l key hr
  have hat:=fun (i:Nat) (h:i < l.length)=>ZH l i h hl (fun p hp=>by have:=hr.big p hp; omega)
  have hple:=zH l key
  cases ht:uR l key
  ·rw [ht] at hf
   simp only [Bool.false_eq_true,if_false]
   generalize bM l key=j at *
   have z1:∀ b i (h:i < l.length),b=true->atZ l b i=atF l i h:=fun b i h hb=>dif_pos ⟨hb,h⟩
   have z2:∀ i,atZ l false i=mI:=fun i=>dif_neg (by simp)
   by_cases h1:0 < j
   ·have g1:decide ((0:Int) < (j:Int))=true:=decide_eq_true (by omega)
    have w1:IntKind.i64.wrap ((j:Int) - 1)=((j - 1:Nat):Int):=by rw [ay (by omega) (by omega)]; omega
    have a1:=hat (j - 1) (by omega)
    rw [decide_eq_true h1,z1 true (j - 1) (by omega) rfl]
    by_cases h2:j < l.length
    ·have g2:decide ((j:Int) < (l.length:Int))=true:=decide_eq_true (by omega)
     have a2:=hat j h2
     rw [decide_eq_true h2,z1 true j h2 rfl]
     generalize atF l (j - 1) _=A at *
     generalize atF l j _=B at *
     generalize j - 1=j1 at *
     refine aa 44 Tryz.func40 rfl rfl rfl (fun _ _=>rfl) ?_
     (refine gy (an (an dC @psI.eq_1) @bI.eq_1) ?_; try intro ops hops)
     (first | refine ai [] [] (hw) (by simp [aJ,cvA,aM,cvR,ah,cv1,cvL,cv0,bI,af,bbI,psI,intD,boolD,ax,cB,ae,upd]) rfl ?_ | refine ag [] [] [] (hw) (fun G _=>by simp [aJ,cvA,aM,cvR,ah,cv1,cvL,cv0,bI,af,bbI,psI,intD,boolD,ax,cB,ae,upd]) rfl ?_)
     (refine gy (an (an (an (an dC @cB.eq_1) @intD.eq_1) @psI.eq_1) @bI.eq_1) ?_; try intro ops hops)
     (first | refine ai [] [] (hf) (by simp [aJ,cvA,aM,cvR,ah,cv1,cvL,cv0,bI,af,bbI,psI,intD,boolD,ax,cB,ae,upd]) rfl ?_ | refine ag [] [] [] (hf) (fun G _=>by simp [aJ,cvA,aM,cvR,ah,cv1,cvL,cv0,bI,af,bbI,psI,intD,boolD,ax,cB,ae,upd]) rfl ?_)
     (refine gy (an (an (an (an (an (an dC @boolD.eq_1) @intD.eq_1) @psI.eq_1) @bI.eq_1) g1) w1) ?_; try intro ops hops)
     (first | refine aR [] (a1) (by simp [aJ,cvA,aM,cvR,ah,cv1,cvL,cv0,bI,af,bbI,psI,intD,boolD,ax,cB,ae,upd]) ?_ | refine aH [] [] (a1) (fun G _=>by simp [aJ,cvA,aM,cvR,ah,cv1,cvL,cv0,bI,af,bbI,psI,intD,boolD,ax,cB,ae,upd]) (by simp) ?_)
     (refine gy (an (an (an dC @ax.eq_1) @intD.eq_1) g2) ?_; try intro ops hops)
     (first | refine aR [] (a2) (by simp [aJ,cvA,aM,cvR,ah,cv1,cvL,cv0,bI,af,bbI,psI,intD,boolD,ax,cB,ae,upd]) ?_ | refine aH [] [] (a2) (fun G _=>by simp [aJ,cvA,aM,cvR,ah,cv1,cvL,cv0,bI,af,bbI,psI,intD,boolD,ax,cB,ae,upd]) (by simp) ?_)
     refine gx (an (an dC @ax.eq_1) @intD.eq_1) ?_
     refine mD [] rfl Vi UY (by simp [upd,aC,ak]; rfl) ?_
     simp [cv,cvT,cv1,cvL,cv0,upd,GZ,intD,boolD]
    ·have g2:decide ((j:Int) < (l.length:Int))=false:=decide_eq_false (by omega)
     rw [decide_eq_false h2,z2 j]
     generalize atF l (j - 1) _=A at *
     generalize j - 1=j1 at *
     refine aa 44 Tryz.func40 rfl rfl rfl (fun _ _=>rfl) ?_
     (refine gy (an (an dC @psI.eq_1) @bI.eq_1) ?_; try intro ops hops)
     (first | refine ai [] [] (hw) (by simp [aJ,cvA,aM,cvR,ah,cv1,cvL,cv0,bI,af,bbI,psI,intD,boolD,ax,cB,ae,upd]) rfl ?_ | refine ag [] [] [] (hw) (fun G _=>by simp [aJ,cvA,aM,cvR,ah,cv1,cvL,cv0,bI,af,bbI,psI,intD,boolD,ax,cB,ae,upd]) rfl ?_)
     (refine gy (an (an (an (an dC @cB.eq_1) @intD.eq_1) @psI.eq_1) @bI.eq_1) ?_; try intro ops hops)
     (first | refine ai [] [] (hf) (by simp [aJ,cvA,aM,cvR,ah,cv1,cvL,cv0,bI,af,bbI,psI,intD,boolD,ax,cB,ae,upd]) rfl ?_ | refine ag [] [] [] (hf) (fun G _=>by simp [aJ,cvA,aM,cvR,ah,cv1,cvL,cv0,bI,af,bbI,psI,intD,boolD,ax,cB,ae,upd]) rfl ?_)
     (refine gy (an (an (an (an (an (an dC @boolD.eq_1) @intD.eq_1) @psI.eq_1) @bI.eq_1) g1) w1) ?_; try intro ops hops)
     (first | refine aR [] (a1) (by simp [aJ,cvA,aM,cvR,ah,cv1,cvL,cv0,bI,af,bbI,psI,intD,boolD,ax,cB,ae,upd]) ?_ | refine aH [] [] (a1) (fun G _=>by simp [aJ,cvA,aM,cvR,ah,cv1,cvL,cv0,bI,af,bbI,psI,intD,boolD,ax,cB,ae,upd]) (by simp) ?_)
     refine gx (an (an (an dC @ax.eq_1) @intD.eq_1) g2) ?_
     refine mD [] rfl Vi UY (by simp [upd,aC,ak]; rfl) ?_
     simp [cv,cvT,cv1,cvL,cv0,upd,GZ,intD,boolD,mI,bI,bbI]
   ·have hj:j=0:=by omega
    subst hj
    rw [decide_eq_false h1,z2]
    by_cases h2:0 < l.length
    ·have g2:decide ((0:Int) < (l.length:Int))=true:=decide_eq_true (by omega)
     have a2:=hat 0 h2
     rw [decide_eq_true h2,z1 true 0 h2 rfl]
     generalize atF l 0 _=B at *
     refine aa 44 Tryz.func40 rfl rfl rfl (fun _ _=>rfl) ?_
     (refine gy (an (an dC @psI.eq_1) @bI.eq_1) ?_; try intro ops hops)
     (first | refine ai [] [] (hw) (by simp [aJ,cvA,aM,cvR,ah,cv1,cvL,cv0,bI,af,bbI,psI,intD,boolD,ax,cB,ae,upd]) rfl ?_ | refine ag [] [] [] (hw) (fun G _=>by simp [aJ,cvA,aM,cvR,ah,cv1,cvL,cv0,bI,af,bbI,psI,intD,boolD,ax,cB,ae,upd]) rfl ?_)
     (refine gy (an (an (an (an dC @cB.eq_1) @intD.eq_1) @psI.eq_1) @bI.eq_1) ?_; try intro ops hops)
     (first | refine ai [] [] (hf) (by simp [aJ,cvA,aM,cvR,ah,cv1,cvL,cv0,bI,af,bbI,psI,intD,boolD,ax,cB,ae,upd]) rfl ?_ | refine ag [] [] [] (hf) (fun G _=>by simp [aJ,cvA,aM,cvR,ah,cv1,cvL,cv0,bI,af,bbI,psI,intD,boolD,ax,cB,ae,upd]) rfl ?_)
     (refine gy (an (an (an (an (an (an dC @boolD.eq_1) @intD.eq_1) @psI.eq_1) @bI.eq_1) g2) @Int.natCast_zero) ?_; try intro ops hops)
     (first | refine aR [] (a2) (by simp [aJ,cvA,aM,cvR,ah,cv1,cvL,cv0,bI,af,bbI,psI,intD,boolD,ax,cB,ae,upd]) ?_ | refine aH [] [] (a2) (fun G _=>by simp [aJ,cvA,aM,cvR,ah,cv1,cvL,cv0,bI,af,bbI,psI,intD,boolD,ax,cB,ae,upd]) (by simp) ?_)
     refine gx (an (an dC @ax.eq_1) @intD.eq_1) ?_
     refine mD [] rfl Vi UY (by simp [upd,aC,ak]; rfl) ?_
     simp [cv,cvT,cv1,cvL,cv0,upd,GZ,intD,boolD,mI,bI,bbI]
    ·have g2:decide ((0:Int) < (l.length:Int))=false:=decide_eq_false (by omega)
     rw [decide_eq_false h2,z2]
     refine aa 44 Tryz.func40 rfl rfl rfl (fun _ _=>rfl) ?_
     (refine gy (an (an dC @psI.eq_1) @bI.eq_1) ?_; try intro ops hops)
     (first | refine ai [] [] (hw) (by simp [aJ,cvA,aM,cvR,ah,cv1,cvL,cv0,bI,af,bbI,psI,intD,boolD,ax,cB,ae,upd]) rfl ?_ | refine ag [] [] [] (hw) (fun G _=>by simp [aJ,cvA,aM,cvR,ah,cv1,cvL,cv0,bI,af,bbI,psI,intD,boolD,ax,cB,ae,upd]) rfl ?_)
     (refine gy (an (an (an (an dC @cB.eq_1) @intD.eq_1) @psI.eq_1) @bI.eq_1) ?_; try intro ops hops)
     (first | refine ai [] [] (hf) (by simp [aJ,cvA,aM,cvR,ah,cv1,cvL,cv0,bI,af,bbI,psI,intD,boolD,ax,cB,ae,upd]) rfl ?_ | refine ag [] [] [] (hf) (fun G _=>by simp [aJ,cvA,aM,cvR,ah,cv1,cvL,cv0,bI,af,bbI,psI,intD,boolD,ax,cB,ae,upd]) rfl ?_)
     refine gx (an (an (an (an (an (an dC @boolD.eq_1) @intD.eq_1) @psI.eq_1) @bI.eq_1) g2) @Int.natCast_zero) ?_
     refine mD [] rfl Vi UY (by simp [upd,aC,ak]; rfl) ?_
     simp [cv,cvT,cv1,cvL,cv0,upd,GZ,intD,boolD,mI,bI,bbI]
  ·rw [ht] at hf
   simp only [if_true]
   generalize bM l key=j at *
   refine aa 44 Tryz.func40 rfl rfl rfl (fun _ _=>rfl) ?_
   (refine gy (an (an dC @psI.eq_1) @bI.eq_1) ?_; try intro ops hops)
   (first | refine ai [] [] (hw) (by simp [aJ,cvA,aM,cvR,ah,cv1,cvL,cv0,bI,af,bbI,psI,intD,boolD,ax,cB,ae,upd]) rfl ?_ | refine ag [] [] [] (hw) (fun G _=>by simp [aJ,cvA,aM,cvR,ah,cv1,cvL,cv0,bI,af,bbI,psI,intD,boolD,ax,cB,ae,upd]) rfl ?_)
   (refine gy (an (an (an (an dC @cB.eq_1) @intD.eq_1) @psI.eq_1) @bI.eq_1) ?_; try intro ops hops)
   (first | refine ai [] [] (hf) (by simp [aJ,cvA,aM,cvR,ah,cv1,cvL,cv0,bI,af,bbI,psI,intD,boolD,ax,cB,ae,upd]) rfl ?_ | refine ag [] [] [] (hf) (fun G _=>by simp [aJ,cvA,aM,cvR,ah,cv1,cvL,cv0,bI,af,bbI,psI,intD,boolD,ax,cB,ae,upd]) rfl ?_)
   refine gx (an (an (an (an dC @boolD.eq_1) @intD.eq_1) @psI.eq_1) @bI.eq_1) ?_
   refine mD [] rfl Vi UY (by simp [upd,aC,ak]; rfl) ?_
   simp [cv,cvT,cv1,cvL,cv0,upd,GZ,intD,boolD,Ns,mI,bI,bbI]
 ·rw [if_neg h0]
  generalize dD l=W at *
  have g1:decide ((W.1:Int)=0)=false:=by simp; omega
  refine aa 44 Tryz.func40 rfl rfl rfl (fun _ _=>rfl) ?_
  (refine gy (an (an dC @psI.eq_1) @bI.eq_1) ?_; try intro ops hops)
  (first | refine ai [] [] (hw) (by simp [aJ,cvA,aM,cvR,ah,cv1,cvL,cv0,bI,af,bbI,psI,intD,boolD,ax,cB,ae,upd]) rfl ?_ | refine ag [] [] [] (hw) (fun G _=>by simp [aJ,cvA,aM,cvR,ah,cv1,cvL,cv0,bI,af,bbI,psI,intD,boolD,ax,cB,ae,upd]) rfl ?_)
  refine gx (an (an (an dC @cB.eq_1) @intD.eq_1) g1) ?_
  refine mD [] rfl Vi UY (by simp [upd,aC,ak]; rfl) ?_
  simp [cv,cvT,cv1,cvL,cv0,upd,GZ,intD,boolD,Ns,mI,bI,bbI]
def yT (root key:List UInt8) (g:Ri):Bool :=
 match g.hl,g.hr with
 | false,false=>decide (FW 0 []=root)
 | true,false=>iJ root g.left && decide (Lib.compareBytes g.left.k key < 0) && decide (g.left.i=g.left.n - 1)
 | false,true=>iJ root g.right && decide (Lib.compareBytes key g.right.k < 0) && decide (g.right.i=0)
 | true,true=>iJ root g.left && decide (Lib.compareBytes g.left.k key < 0) && (iJ root g.right && decide (Lib.compareBytes key g.right.k < 0)) && (decide (g.left.n=g.right.n) && decide (g.left.i+1=g.right.i))
theorem shownF_form {r:List UInt8} {p:fJ} (h:iJ r p=true):tV p=true:=by
 unfold iJ at h; simp only [Bool.and_eq_true] at h; exact h.1.1
attribute [local simp,local go_sem] ax GZ bbI
theorem Qg (root key:List UInt8) (g:Ri):PureD Tryz.prog 239 [.i (bI root),.i (bI key),GZ g] (boolD (yT root key g)):=by
 refine aj fun R hR=>?_
 obtain ⟨hl,hr,⟨li,ln,lk,lv,lp⟩,⟨ri,rn,rk,rv,rp⟩⟩:=g
 have c1:=Bj root ⟨li,ln,lk,lv,lp⟩
 have c2:=Bj root ⟨ri,rn,rk,rv,rp⟩
 have c3:=Gv lk key
 have c4:=Gv key rk
 have c5:=ND 0 [] (by simp)
 have c6:=fZ (FW 0 []) root
 have fL:iJ root ⟨li,ln,lk,lv,lp⟩=true->1<=ln/\ln<=200/\0<=li/\li < ln:=fun h=>by
  obtain ⟨a1,a2,a3,a4,_⟩:=formF_yes (shownF_form h)
  exact ⟨a1,a2,a3,a4⟩
 cases hl <;> cases hr <;> simp only [yT] at hR
 ·clear c1 c2 fL
  generalize FW 0 []=T at *
  refine aa 89 Tryz.func239 rfl rfl rfl (fun _ _=>rfl) ?_
  exact wkl trivial
 ·clear c1 fL
  generalize iJ root ⟨ri,rn,rk,rv,rp⟩=S at *
  generalize Lib.compareBytes key rk=C at *
  cases S <;> by_cases q:C < 0 <;> simp only [q,decide_true,decide_false,Bool.true_and,Bool.false_and,Bool.and_false,Bool.and_true] at hR
  all_goals
   refine aa 89 Tryz.func239 rfl rfl rfl (fun _ _=>rfl) ?_
   exact wkl trivial
 ·clear c2
  generalize iJ root ⟨li,ln,lk,lv,lp⟩=S at *
  generalize Lib.compareBytes lk key=C at *
  cases S <;> by_cases q:C < 0 <;> simp only [q,decide_true,decide_false,Bool.true_and,Bool.false_and,Bool.and_false,Bool.and_true] at hR
  all_goals
   try (have fL:=fL rfl)
   refine aa 89 Tryz.func239 rfl rfl rfl (fun _ _=>rfl) ?_
   exact wkl trivial
 ·generalize iJ root ⟨li,ln,lk,lv,lp⟩=S at *
  generalize iJ root ⟨ri,rn,rk,rv,rp⟩=S' at *
  generalize Lib.compareBytes lk key=C at *
  generalize Lib.compareBytes key rk=C' at *
  cases S
  ·simp only [Bool.false_and] at hR
   refine aa 89 Tryz.func239 rfl rfl rfl (fun _ _=>rfl) ?_
   exact wkl trivial
  ·have fL:=fL rfl
   by_cases q:C < 0
   ·cases S' <;> by_cases q':C' < 0 <;> simp only [q,q',decide_true,decide_false,Bool.true_and,Bool.false_and,Bool.and_false,Bool.and_true] at hR
    all_goals
     refine aa 89 Tryz.func239 rfl rfl rfl (fun _ _=>rfl) ?_
     exact wkl trivial
   ·simp only [q,decide_false,Bool.and_false,Bool.false_and] at hR
    refine aa 89 Tryz.func239 rfl rfl rfl (fun _ _=>rfl) ?_
    exact wkl trivial
end Go.Proofs.YtkbbipgjmoanhaaGreatDoor
