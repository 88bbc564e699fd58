/- Merged texts: ProofA, ProofB, ProofC, ProofT, R1Same, GapA, GapB. -/
import Derived.Test.YtfenipelcpmkpaaGreatDoorGBook
set_option linter.all false
set_option maxHeartbeats 4000000
set_option maxRecDepth 20000
namespace Go.Proofs.YtfenipelcpmkpaaGreatDoor
open Go Go.Abs Go.RowKit Go.Proofs.YtfenipelcpmkpaaGreatDoor.Ty
theorem gq:(type_of% @Ty.T1)/\(type_of% @Ty.T3)/\(type_of% @Ty.T5)/\(type_of% @Ty.T29)/\(type_of% @Ty.T31)/\(type_of% @Ty.T41)/\(type_of% @Ty.T42):=⟨@Ty.T1,@Ty.T3,@Ty.T5,@Ty.T29,@Ty.T31,@Ty.T41,@Ty.T42⟩
structure fU where
 i:Int
 n:Int
 k:List UInt8
 v:List UInt8
 path:List (List UInt8)
def az (p:fU):D:=.agg [intD p.i,intD p.n,.i (bI p.k),.i (bI p.v),.i (bbI p.path)]
def kY (l:List bn) (i:Nat):List (List UInt8) :=
 if h:l.length<=1 then []
 else if i < bg l.length then kY (l.take (bg l.length)) i++[gI (l.drop (bg l.length))]
 else kY (l.drop (bg l.length)) (i - bg l.length)++[gI (l.take (bg l.length))]
termination_by l.length
decreasing_by
 all_goals
  have:=jJ (n:=l.length) (by omega)
  simp only [List.length_take,List.length_drop]
  omega
theorem Ac {l:List bn} (i:Nat) (h:l.length<=1):kY l i=[]:=by rw [kY,dif_pos h]
theorem EX {l:List bn} {i:Nat} (h:2<=l.length) (hi:i < bg l.length):kY l i=kY (l.take (bg l.length)) i++[gI (l.drop (bg l.length))]:=by
 rw [kY,dif_neg (by omega),if_pos hi]
theorem EY {l:List bn} {i:Nat} (h:2<=l.length) (hi:¬ i < bg l.length):kY l i=kY (l.drop (bg l.length)) (i - bg l.length)++[gI (l.take (bg l.length))]:=by
 rw [kY,dif_neg (by omega),if_neg hi]
theorem Ad:∀ (n:Nat) (l:List bn) (i:Nat),l.length=n->(kY l i).length<=n:=by
 intro n
 induction n using Nat.strongRecOn with
 | _ n ih =>
  intro l i hn
  by_cases h:l.length<=1
  ·rw [Ac i h]; simp
  ·have hs:=jJ (n:=l.length) (by omega)
   by_cases hi:i < bg l.length
   ·rw [EX (by omega) hi]
    have:=ih (l.take (bg l.length)).length (by simp; omega) _ i rfl
    simp at this ⊢; omega
   ·rw [EY (by omega) hi]
    have:=ih (l.drop (bg l.length)).length (by simp; omega) _ (i - bg l.length) rfl
    simp at this ⊢; omega
def bbE (b:List UInt8):List I:=[bI b]
theorem Xr:∀ (n:Nat) (l:List bn) (i:Nat),l.length=n->i < l.length->l.length<=1048576->(∀ p∈l,p.k.length<=1048576/\p.v.length<=1048576) ->
  aT Tryz.prog 110 [.i (.sl (l.map aN)),.i (.s (.int .i64 (i:Int)))] noH (.os 1 1 0 (kY l i).length) (hOf noH [(1,.arr 1 ((kY l i).map bbE))]):=by
 intro n
 induction n using Nat.strongRecOn with
 | _ n ih =>
  intro l i hn hi hl hb
  by_cases h1:l.length=1
  ·have g1:decide ((l.length:Int)=1)=true:=by simp; omega
   rw [Ac i (by omega)]
   refine aa 39 Tryz.func110 rfl rfl rfl (fun _ _=>rfl) ?_
   refine gx (an gq g1) ?_
   refine dz _ [] [] rfl ?_ ?_ rfl ?_ rfl
   ·simp [cv,cv1,cv0,upd,iG,lk,noH]
   ·simp [bC,iG,lk,cvO,frz,upd,noH]
   ·simp
  ·have h2:2<=l.length:=by omega
   have hs:=jJ h2
   have hsp:=BI l.length (by omega) hl
   have hpl:=Ad l.length l i rfl
   have hlo:=fun h=>EX (l:=l) (i:=i) h2 h
   have hhi:=fun h=>EY (l:=l) (i:=i) h2 h
   generalize bg l.length=k at *
   have n1:l.take k≠[]:=by intro hc; have:=congrArg List.length hc; simp only [List.length_take,List.length_drop,List.length_nil] at this; omega
   have n2:l.drop k≠[]:=by intro hc; have:=congrArg List.length hc; simp only [List.length_take,List.length_drop,List.length_nil] at this; omega
   have t1:=IR _ (l.take k) rfl n1 (by simp; omega) (fun p hp=>hb p (List.mem_of_mem_take hp))
   have t2:=IR _ (l.drop k) rfl n2 (by simp; omega) (fun p hp=>hb p (List.mem_of_mem_drop hp))
   have i1:=fun h=>ih (l.take k).length (by simp; omega) (l.take k) i rfl h (by simp; omega) (fun p hp=>hb p (List.mem_of_mem_take hp))
   have i2:=fun h=>ih (l.drop k).length (by simp; omega) (l.drop k) (i - k) rfl h (by simp; omega) (fun p hp=>hb p (List.mem_of_mem_drop hp))
   simp only [psI] at t1 t2
   have g1:decide ((l.length:Int)=1)=false:=by simp; omega
   have g2:((k:Int)<=(l.length:Int))=True:=eq_true (by omega)
   have u1:uni 2 (l.map aN)=true:=by simp [uni,aN]
   by_cases hc:i < k
   ·have hpi:=hlo hc
    have g3:decide ((i:Int) < (k:Int))=true:=by simp; omega
    have ip:=i1 (by simp; omega)
    rw [hpi] at hpl
    simp only [List.length_append,List.length_cons,List.length_nil] at hpl
    generalize gI (l.drop k)=T at *
    generalize hP:kY (l.take k) i=P at *
    have e3:P.length+1<=140737488355328:=by omega
    have e4:(P.length+1) * 24<=140737488355328:=by omega
    rw [hpi]
    refine aa 39 Tryz.func110 rfl rfl rfl (fun _ _=>rfl) ?_
    (refine gy (an gq g1) ?_; try intro ops hops)
    (first | refine ai [] [] (hsp) (by simp [aL,cvA,aO,cvR,ah,cv1,cvL,cv0,bI,af,bbI,aN,psI,intD,az,ae,upd]) rfl ?_ | refine ag [] [] [] (hsp) (fun G _=>by simp [aL,cvA,aO,cvR,ah,cv1,cvL,cv0,bI,af,bbI,aN,psI,intD,az,ae,upd]) rfl ?_)
    (refine gy (an (an (an (an (an (an gq @intD.eq_1) g3) g2) u1) @mtk) @mdr) ?_; try intro ops hops)
    refine oF 2284 ip (by simp [upd,noH]) rfl ?_
    (refine gy (an (an (an (an gq g2) u1) @mtk) @mdr) ?_; try intro ops hops)
    (first | refine aV [] (t2) (by simp [aL,cvA,aO,cvR,ah,cv1,cvL,cv0,bI,af,bbI,aN,psI,intD,az,ae,upd]) ?_ | refine aK [] [] (t2) (fun G _=>by simp [aL,cvA,aO,cvR,ah,cv1,cvL,cv0,bI,af,bbI,aN,psI,intD,az,ae,upd]) (by simp) ?_)
    have u2:uni 1 (P.map bbE)=true:=by simp [uni,bbE]
    refine gx (an (an (an (an gq @bI.eq_1) e3) e4) u2) ?_
    refine dz _ [] [(1,2290)] rfl ?_ ?_ rfl ?_ rfl
    ·simp [cv,cv1,cv0,upd,iG,lk,noH]
    ·simp [bC,iG,lk,cvO,frz,upd,noH,bbE,bI]
    ·simp [noH]
   ·have hpi:=hhi hc
    have g3:decide ((i:Int) < (k:Int))=false:=by simp; omega
    have ip:=i2 (by simp; omega)
    have w1:IntKind.i64.wrap ((i:Int) - (k:Int))=((i - k:Nat):Int):=by rw [aC (by omega) (by omega)]; omega
    rw [hpi] at hpl
    simp only [List.length_append,List.length_cons,List.length_nil] at hpl
    generalize gI (l.take k)=T at *
    generalize i - k=j at *
    generalize hP:kY (l.drop k) j=P at *
    have e3:P.length+1<=140737488355328:=by omega
    have e4:(P.length+1) * 24<=140737488355328:=by omega
    rw [hpi]
    refine aa 39 Tryz.func110 rfl rfl rfl (fun _ _=>rfl) ?_
    (refine gy (an gq g1) ?_; try intro ops hops)
    (first | refine ai [] [] (hsp) (by simp [aL,cvA,aO,cvR,ah,cv1,cvL,cv0,bI,af,bbI,aN,psI,intD,az,ae,upd]) rfl ?_ | refine ag [] [] [] (hsp) (fun G _=>by simp [aL,cvA,aO,cvR,ah,cv1,cvL,cv0,bI,af,bbI,aN,psI,intD,az,ae,upd]) rfl ?_)
    (refine gy (an (an (an (an (an (an (an gq @intD.eq_1) g3) g2) u1) w1) @mtk) @mdr) ?_; try intro ops hops)
    refine oF 2542 ip (by simp [upd,noH]) rfl ?_
    (refine gy (an (an (an (an gq g2) u1) @mtk) @mdr) ?_; try intro ops hops)
    (first | refine aV [] (t1) (by simp [aL,cvA,aO,cvR,ah,cv1,cvL,cv0,bI,af,bbI,aN,psI,intD,az,ae,upd]) ?_ | refine aK [] [] (t1) (fun G _=>by simp [aL,cvA,aO,cvR,ah,cv1,cvL,cv0,bI,af,bbI,aN,psI,intD,az,ae,upd]) (by simp) ?_)
    have u2:uni 1 (P.map bbE)=true:=by simp [uni,bbE]
    refine gx (an (an (an (an gq @bI.eq_1) e3) e4) u2) ?_
    refine dz _ [] [(1,2548)] rfl ?_ ?_ rfl ?_ rfl
    ·simp [cv,cv1,cv0,upd,iG,lk,noH]
    ·simp [bC,iG,lk,cvO,frz,upd,noH,bbE,bI]
    ·simp [noH]
theorem nM:(type_of% @Ty.T3)/\(type_of% @Ty.T5)/\(type_of% @Ty.T29)/\(type_of% @Ty.T31)/\(type_of% @Ty.T41)/\(type_of% @Ty.T42)/\(type_of% @Ty.T44):=⟨@Ty.T3,@Ty.T5,@Ty.T29,@Ty.T31,@Ty.T41,@Ty.T42,@Ty.T44⟩
theorem eu:(type_of% @Ty.T3)/\(type_of% @Ty.T4)/\(type_of% @Ty.T5)/\(type_of% @Ty.T29)/\(type_of% @Ty.T31)/\(type_of% @Ty.T32)/\(type_of% @Ty.T41)/\(type_of% @Ty.T42)/\(type_of% @Ty.T44)/\(type_of% @Ty.Zw):=⟨@Ty.T3,@Ty.T4,@Ty.T5,@Ty.T29,@Ty.T31,@Ty.T32,@Ty.T41,@Ty.T42,@Ty.T44,@Ty.Zw⟩
theorem mM {P:Program} {fn:Func} {sl:Nat->D} {H:Nat->Ob} {t:TypeId} {p i:Tmp} {k:Nat} {cs:List D} {r:D} (F:List Nat) (h:fn.results=#[.cell p t,.tmp i]) (ha:nD P t=some true) (hs:gJ P t=some k) (hr:aD H (sl p) k=some cs) (hv:cv H F (fun _=>none) (.tup [.agg cs,sl i]) r):Fin P fn noH r noH .ret ⟨sl,H⟩ :=
 ⟨_,by simp [Bg,h,ib,ha,hs,hr],jY F hv⟩
def atF (l:List bn) (i:Nat) (h:i < l.length):fU:=⟨i,l.length,l[i].k,l[i].v,kY l i⟩
theorem abd (l:List bn) (i:Nat) (hi:i < l.length) (hl:l.length<=1048576) (hb:∀ p∈l,p.k.length<=1048576/\p.v.length<=1048576) :
  PureD Tryz.prog 55 [.i (psI l),intD i] (az (atF l i hi)):=by
 have hp:=Xr _ l i rfl hi hl hb
 have hbi:=hb _ (List.getElem_mem hi)
 have e1:(l.map aN)[i]?=some [bI l[i].k,bI l[i].v]:=by rw [List.getElem?_map,List.getElem?_eq_getElem hi]; rfl
 have c1:=dV l[i].k (by omega)
 have c2:=dV l[i].v (by omega)
 have hpl:=Ad l.length l i rfl
 simp only [atF]
 generalize l[i]=p at *
 generalize kY l i=Q at *
 refine aa 24 Tryz.func55 rfl rfl rfl (fun _ _=>rfl) ?_
 (refine gy (an (an (an (an nM @psI.eq_1) @intD.eq_1) e1) @bI.eq_1) ?_; try intro ops hops)
 (first | refine aV [] (c1) (by simp [aL,cvA,aO,cvR,ah,cv1,cvL,cv0,bI,af,bbI,aN,psI,intD,boolD,az,dw,ae,upd]) ?_ | refine aK [] [] (c1) (fun G _=>by simp [aL,cvA,aO,cvR,ah,cv1,cvL,cv0,bI,af,bbI,aN,psI,intD,boolD,az,dw,ae,upd]) (by simp) ?_)
 (refine gy (an (an (an (an nM @psI.eq_1) @intD.eq_1) e1) @bI.eq_1) ?_; try intro ops hops)
 (first | refine aV [] (c2) (by simp [aL,cvA,aO,cvR,ah,cv1,cvL,cv0,bI,af,bbI,aN,psI,intD,boolD,az,dw,ae,upd]) ?_ | refine aK [] [] (c2) (fun G _=>by simp [aL,cvA,aO,cvR,ah,cv1,cvL,cv0,bI,af,bbI,aN,psI,intD,boolD,az,dw,ae,upd]) (by simp) ?_)
 (refine gy (an (an (an (an nM @psI.eq_1) @intD.eq_1) e1) @bI.eq_1) ?_; try intro ops hops)
 refine oF 1273 hp (by simp [upd,noH]) rfl ?_
 refine gx (an nM @bI.eq_1) ?_
 refine Dj [1273] rfl Ze WN (by simp [upd,aD,aj]; rfl) ?_
 simp [cv,cv1,cvL,cv0,upd,az,intD,bbI,ae,hO,noH,lk,eX,bbE,bI]
def mU:fU:=⟨0,0,[],[],[]⟩
def GL (l:List bn) (key:List UInt8):fU × Nat :=
 if (dK l).1=0 then (if h:bU l key < l.length then (if l[bU l key].k=key then (atF l (bU l key) h,0) else (mU,6)) else (mU,6)) else (mU,(dK l).1)
theorem WT (l:List bn) (key:List UInt8) (hl:l.length<=1048576) :
  PureD Tryz.prog 17 [.i (psI l),.i (bI key)] (.tup [az (GL l key).1,intD (GL l key).2]):=by
 have hw:=Br l hl
 unfold GL
 by_cases h0:(dK l).1=0
 ·have hr:=rE h0
  have hz:=oL h0
  rw [if_pos h0]
  rw [hz] at hw
  simp only at hw
  have hf:=Sa l key hr
  unfold vG at hf
  have hat:=fun (h:bU l key < l.length)=>abd l (bU l key) h hl (fun p hp=>by have:=hr.big p hp; omega)
  by_cases h1:bU l key < l.length
  ·rw [dif_pos h1] at hf ⊢
   have hat:=hat h1
   by_cases h2:l[bU l key].k=key
   ·rw [if_pos h2]
    rw [decide_eq_true h2] at hf
    simp only
    generalize atF l (bU l key) h1=A at *
    generalize bU l key=j at *
    refine aa 29 Tryz.func17 rfl rfl rfl (fun _ _=>rfl) ?_
    (refine gy (an (an eu @psI.eq_1) @bI.eq_1) ?_; try intro ops hops)
    (first | refine ai [] [] (hw) (by simp [aL,cvA,aO,cvR,ah,cv1,cvL,cv0,bI,af,bbI,aN,psI,intD,boolD,az,dw,ae,upd]) rfl ?_ | refine ag [] [] [] (hw) (fun G _=>by simp [aL,cvA,aO,cvR,ah,cv1,cvL,cv0,bI,af,bbI,aN,psI,intD,boolD,az,dw,ae,upd]) rfl ?_)
    (refine gy (an (an (an (an eu @dw.eq_1) @intD.eq_1) @psI.eq_1) @bI.eq_1) ?_; try intro ops hops)
    (first | refine ai [] [] (hf) (by simp [aL,cvA,aO,cvR,ah,cv1,cvL,cv0,bI,af,bbI,aN,psI,intD,boolD,az,dw,ae,upd]) rfl ?_ | refine ag [] [] [] (hf) (fun G _=>by simp [aL,cvA,aO,cvR,ah,cv1,cvL,cv0,bI,af,bbI,aN,psI,intD,boolD,az,dw,ae,upd]) rfl ?_)
    (refine gy (an (an (an (an eu @boolD.eq_1) @intD.eq_1) @psI.eq_1) @bI.eq_1) ?_; try intro ops hops)
    (first | refine aV [] (hat) (by simp [aL,cvA,aO,cvR,ah,cv1,cvL,cv0,bI,af,bbI,aN,psI,intD,boolD,az,dw,ae,upd]) ?_ | refine aK [] [] (hat) (fun G _=>by simp [aL,cvA,aO,cvR,ah,cv1,cvL,cv0,bI,af,bbI,aN,psI,intD,boolD,az,dw,ae,upd]) (by simp) ?_)
    refine gx (an (an eu @az.eq_1) @intD.eq_1) ?_
    refine mM [] rfl Ze WN (by simp [upd,aD,aj]; rfl) ?_
    simp [cv,cvT,cv1,cvL,cv0,upd,az,intD]
   ·rw [if_neg h2]
    rw [decide_eq_false h2] at hf
    simp only
    generalize bU l key=j at *
    refine aa 29 Tryz.func17 rfl rfl rfl (fun _ _=>rfl) ?_
    (refine gy (an (an eu @psI.eq_1) @bI.eq_1) ?_; try intro ops hops)
    (first | refine ai [] [] (hw) (by simp [aL,cvA,aO,cvR,ah,cv1,cvL,cv0,bI,af,bbI,aN,psI,intD,boolD,az,dw,ae,upd]) rfl ?_ | refine ag [] [] [] (hw) (fun G _=>by simp [aL,cvA,aO,cvR,ah,cv1,cvL,cv0,bI,af,bbI,aN,psI,intD,boolD,az,dw,ae,upd]) rfl ?_)
    (refine gy (an (an (an (an eu @dw.eq_1) @intD.eq_1) @psI.eq_1) @bI.eq_1) ?_; try intro ops hops)
    (first | refine ai [] [] (hf) (by simp [aL,cvA,aO,cvR,ah,cv1,cvL,cv0,bI,af,bbI,aN,psI,intD,boolD,az,dw,ae,upd]) rfl ?_ | refine ag [] [] [] (hf) (fun G _=>by simp [aL,cvA,aO,cvR,ah,cv1,cvL,cv0,bI,af,bbI,aN,psI,intD,boolD,az,dw,ae,upd]) rfl ?_)
    refine gx (an (an (an (an eu @boolD.eq_1) @intD.eq_1) @psI.eq_1) @bI.eq_1) ?_
    refine mM [] rfl Ze WN (by simp [upd,aD,aj]; rfl) ?_
    simp [cv,cvT,cv1,cvL,cv0,upd,az,mU,intD,bI,bbI]
  ·rw [dif_neg h1] at hf ⊢
   simp only
   generalize bU l key=j at *
   refine aa 29 Tryz.func17 rfl rfl rfl (fun _ _=>rfl) ?_
   (refine gy (an (an eu @psI.eq_1) @bI.eq_1) ?_; try intro ops hops)
   (first | refine ai [] [] (hw) (by simp [aL,cvA,aO,cvR,ah,cv1,cvL,cv0,bI,af,bbI,aN,psI,intD,boolD,az,dw,ae,upd]) rfl ?_ | refine ag [] [] [] (hw) (fun G _=>by simp [aL,cvA,aO,cvR,ah,cv1,cvL,cv0,bI,af,bbI,aN,psI,intD,boolD,az,dw,ae,upd]) rfl ?_)
   (refine gy (an (an (an (an eu @dw.eq_1) @intD.eq_1) @psI.eq_1) @bI.eq_1) ?_; try intro ops hops)
   (first | refine ai [] [] (hf) (by simp [aL,cvA,aO,cvR,ah,cv1,cvL,cv0,bI,af,bbI,aN,psI,intD,boolD,az,dw,ae,upd]) rfl ?_ | refine ag [] [] [] (hf) (fun G _=>by simp [aL,cvA,aO,cvR,ah,cv1,cvL,cv0,bI,af,bbI,aN,psI,intD,boolD,az,dw,ae,upd]) rfl ?_)
   refine gx (an (an (an (an eu @boolD.eq_1) @intD.eq_1) @psI.eq_1) @bI.eq_1) ?_
   refine mM [] rfl Ze WN (by simp [upd,aD,aj]; rfl) ?_
   simp [cv,cvT,cv1,cvL,cv0,upd,az,mU,intD,bI,bbI]
 ·rw [if_neg h0]
  generalize dK l=W at *
  have g1:decide ((W.1:Int)=0)=false:=by simp; omega
  refine aa 29 Tryz.func17 rfl rfl rfl (fun _ _=>rfl) ?_
  (refine gy (an (an eu @psI.eq_1) @bI.eq_1) ?_; try intro ops hops)
  (first | refine ai [] [] (hw) (by simp [aL,cvA,aO,cvR,ah,cv1,cvL,cv0,bI,af,bbI,aN,psI,intD,boolD,az,dw,ae,upd]) rfl ?_ | refine ag [] [] [] (hw) (fun G _=>by simp [aL,cvA,aO,cvR,ah,cv1,cvL,cv0,bI,af,bbI,aN,psI,intD,boolD,az,dw,ae,upd]) rfl ?_)
  refine gx (an (an (an eu @dw.eq_1) @intD.eq_1) g1) ?_
  refine mM [] rfl Ze WN (by simp [upd,aD,aj]; rfl) ?_
  simp [cv,cvT,cv1,cvL,cv0,upd,az,mU,intD,bI,bbI]
theorem dP:(type_of% @Ty.T3)/\(type_of% @Ty.T5)/\(type_of% @Ty.T29)/\(type_of% @Ty.T42)/\(type_of% @Ty.T44):=⟨@Ty.T3,@Ty.T5,@Ty.T29,@Ty.T42,@Ty.T44⟩
def ut (p:fU):List I:=[.s (.int .i64 p.i),.s (.int .i64 p.n),bI p.k,bI p.v,bbI p.path]
def Qd (p:fU):Bool:=decide (p.n < 1) || decide (200 < p.n) || decide (p.i < 0) || decide (p.n<=p.i) || decide (60 < p.k.length) || decide (200 < p.v.length) || decide (40 < p.path.length)
def uu (p:fU):Bool:=!Qd p && p.path.all fun d=>decide (d.length=32)
theorem Qe {p:fU} (h:Qd p=true):uu p=false:=by simp [uu,h]
theorem QW {l:List (List UInt8)} {i:Nat} (h:i < l.length):(l.drop i).all (fun d=>decide (d.length=32))=(decide (l[i].length=32) && (l.drop (i+1)).all fun d=>decide (d.length=32)):=by
 rw [List.drop_eq_getElem_cons h]; rfl
theorem Yp (p:fU):PureD Tryz.prog 113 [.rp (ut p) 0] (boolD (uu p)):=by
 have hN:=Qe (p:=p)
 unfold Qd at hN
 obtain ⟨i,n,k,v,q⟩:=p
 have hl:(q.map fun b=>[bI b]).length=q.length:=by simp
 have e0:∀ j (h:j < q.length),(q.map fun b=>[bI b])[j]?=some [bI q[j]]:=fun j h=>by rw [List.getElem?_map,List.getElem?_eq_getElem h]; rfl
 cases g1:decide (n < 1)
 case true =>
  rw [hN (by simp [g1])]
  refine aa 72 Tryz.func113 rfl rfl rfl (fun _ _=>rfl) ?_
  refine gx (an (an dP @ut.eq_1) g1) ?_
  refine av [] rfl ?_
  simp [cv,cv1,cv0,upd,boolD]
 cases g2:decide ((200:Int) < n)
 case true =>
  rw [hN (by simp [g2])]
  refine aa 72 Tryz.func113 rfl rfl rfl (fun _ _=>rfl) ?_
  refine gx (an (an (an dP @ut.eq_1) g1) g2) ?_
  refine av [] rfl ?_
  simp [cv,cv1,cv0,upd,boolD]
 cases g3:decide (i < 0)
 case true =>
  rw [hN (by simp [g3])]
  refine aa 72 Tryz.func113 rfl rfl rfl (fun _ _=>rfl) ?_
  refine gx (an (an (an (an dP @ut.eq_1) g1) g2) g3) ?_
  refine av [] rfl ?_
  simp [cv,cv1,cv0,upd,boolD]
 cases g4:decide (n<=i)
 case true =>
  rw [hN (by simp [g4])]
  refine aa 72 Tryz.func113 rfl rfl rfl (fun _ _=>rfl) ?_
  refine gx (an (an (an (an (an dP @ut.eq_1) g1) g2) g3) g4) ?_
  refine av [] rfl ?_
  simp [cv,cv1,cv0,upd,boolD]
 cases g5:decide ((60:Int) < (k.length:Int))
 case true =>
  rw [hN (by simp at g5; simp; omega)]
  refine aa 72 Tryz.func113 rfl rfl rfl (fun _ _=>rfl) ?_
  refine gx (an (an (an (an (an (an (an dP @ut.eq_1) g1) g2) g3) g4) g5) @bI.eq_1) ?_
  refine av [] rfl ?_
  simp [cv,cv1,cv0,upd,boolD]
 cases g6:decide ((200:Int) < (v.length:Int))
 case true =>
  rw [hN (by simp at g6; simp; omega)]
  refine aa 72 Tryz.func113 rfl rfl rfl (fun _ _=>rfl) ?_
  refine gx (an (an (an (an (an (an (an (an dP @ut.eq_1) g1) g2) g3) g4) g5) g6) @bI.eq_1) ?_
  refine av [] rfl ?_
  simp [cv,cv1,cv0,upd,boolD]
 cases g7:decide ((40:Int) < (q.length:Int))
 case true =>
  rw [hN (by simp at g7; simp; omega)]
  refine aa 72 Tryz.func113 rfl rfl rfl (fun _ _=>rfl) ?_
  refine gx (an (an (an (an (an (an (an (an (an (an (an dP @ut.eq_1) g1) g2) g3) g4) g5) g6) g7) @bI.eq_1) @bbI.eq_1) @hl) ?_
  refine av [] rfl ?_
  simp [cv,cv1,cv0,upd,boolD]
 have hF:uu ⟨i,n,k,v,q⟩=(q.drop 0).all fun d=>decide (d.length=32):=by
  have b5:decide (60 < k.length)=false:=by simp at g5 ⊢; omega
  have b6:decide (200 < v.length)=false:=by simp at g6 ⊢; omega
  have b7:decide (40 < q.length)=false:=by simp at g7 ⊢; omega
  simp [uu,Qd,g1,g2,g3,g4,b5,b6,b7]
 have hq:q.length<=40:=by simp at g7; omega
 generalize uu ⟨i,n,k,v,q⟩=R at hF
 clear hN
 refine aa 72 Tryz.func113 rfl rfl rfl (fun _ _=>rfl) ?_
 refine gx (an (an (an (an (an (an (an (an (an (an (an dP @ut.eq_1) g1) g2) g3) g4) g5) g6) g7) @bI.eq_1) @bbI.eq_1) @hl) ?_
 refine bY (ι:=Nat) (fun j=>j<=q.length/\R=(q.drop j).all fun d=>decide (d.length=32))
  (fun j=>dQ [(62,.i (bbI q)),(63,intD q.length),(64,intD j)] []) (fun j=>q.length - j) 0 ⟨Nat.zero_le _,hF⟩ ?_ ?_
 ·refine ay _ _ [] [] ?_ ?_ rfl rfl
  ·simp [cv,cvL,cv1,cv0,upd,lk,aI,intD,bbI,bI]
  ·simp
 ·rintro j ⟨hj,hR⟩
  rw [ak]
  refine gx (an dP @intD.eq_1) ?_
  refine aY (fun h=>?_) (fun h=>?_)
  ·have h2:j < q.length:=by simp at h; omega
   clear h
   have e1:=e0 j h2
   simp only [bI] at e1
   rw [QW h2] at hR
   have w1:IntKind.i64.wrap ((j:Int)+1)=((j+1:Nat):Int):=by rw [aC (by omega) (by omega)]; omega
   generalize q[j]=d at *
   refine gx (an (an (an dP @bbI.eq_1) e1) @bI.eq_1) ?_
   refine aY (fun h=>?_) (fun h=>?_)
   ·have h3:d.length≠32:=by simp at h; omega
    simp only [h3,decide_false,Bool.false_and] at hR
    refine gx dP ?_
    refine av [] rfl ?_
    simp [cv,cv1,cv0,upd,hR,boolD]
   ·have h3:d.length=32:=by simp at h; omega
    simp only [h3,decide_true,Bool.true_and] at hR
    refine gx (an dP w1) ?_
    refine ⟨j+1,⟨h2,hR⟩,ay _ _ [] [] ?_ ?_ rfl rfl,by simp; omega⟩
    ·simp [cv,cvL,cv1,cv0,upd,lk,aI,intD,bbI,bI]
    ·simp
  ·have h2:¬ j < q.length:=by simp at h; omega
   clear h
   rw [List.drop_eq_nil_of_le (by omega)] at hR
   refine gx dP ?_
   refine av [] rfl ?_
   simp [cv,cv1,cv0,upd,hR,boolD]
theorem eU:(type_of% @Ty.T3)/\(type_of% @Ty.T5)/\(type_of% @Ty.T29)/\(type_of% @Ty.T42):=⟨@Ty.T3,@Ty.T5,@Ty.T29,@Ty.T42⟩
theorem gp:(type_of% @Ty.T3)/\(type_of% @Ty.T4)/\(type_of% @Ty.T5)/\(type_of% @Ty.T29)/\(type_of% @Ty.T42)/\(type_of% @Ty.T44)/\(type_of% @Ty.abP):=⟨@Ty.T3,@Ty.T4,@Ty.T5,@Ty.T29,@Ty.T42,@Ty.T44,@Ty.abP⟩
def iM (leaf:List UInt8):Nat->Nat->List (List UInt8)->List UInt8 × Bool
 | _,n,[]=>if n=1 then (leaf,true) else ([],false)
 | i,n,d :: r=>if n=1 then (leaf,false) else if i < bg n then (pF (iM leaf i (bg n) r).1 d,(iM leaf i (bg n) r).2)
   else (pF d (iM leaf (i - bg n) (n - bg n) r).1,(iM leaf (i - bg n) (n - bg n) r).2)
theorem uw (leaf:List UInt8) (h:leaf.length<=32):∀ (r:List (List UInt8)) (i n:Nat),(iM leaf i n r).1.length<=32:=by
 intro r
 induction r with
 | nil=>intro i n; simp only [iM]; split <;> simp [h]
 | cons d r ih =>
  intro i n; simp only [iM]; split
  ·exact h
  ·split <;> simp only [pF] <;> exact Nat.le_of_eq (dD _)
theorem Tq (leaf:List UInt8) (hlf:leaf.length<=32):∀ (r:List (List UInt8)) (i n:Nat),(∀ d∈r,d.length=32)->r.length<=1048576->i<=1048576->1<=n->n<=1048576 ->
  PureD Tryz.prog 114 [.i (bI leaf),intD i,intD n,.i (bbI r.reverse)] (.tup [.i (bI (iM leaf i n r).1),boolD (iM leaf i n r).2]):=by
 intro r
 induction r with
 | nil =>
  intro i n _ _ _ h1 h2
  by_cases hn:n=1
  ·subst hn
   simp only [iM,if_true]
   refine aa 71 Tryz.func114 rfl rfl rfl (fun _ _=>rfl) ?_
   refine gx (an (an (an (an (an eU @intD.eq_1) @bI.eq_1) @bbI.eq_1) @List.reverse_nil.{0}) @List.map_nil.{0,0}) ?_
   refine bZ [] rfl ?_
   simp [cv,cvT,cv1,cv0,upd,intD,boolD,bI]
  ·simp only [iM,hn,if_false]
   have g1:decide ((n:Int)=1)=false:=by simp; omega
   refine aa 71 Tryz.func114 rfl rfl rfl (fun _ _=>rfl) ?_
   refine gx (an (an (an (an (an (an eU @intD.eq_1) @bI.eq_1) @bbI.eq_1) @List.reverse_nil.{0}) @List.map_nil.{0,0}) g1) ?_
   refine bZ [] rfl ?_
   simp [cv,cvT,cv1,cv0,upd,intD,boolD,bI]
 | cons d r ih =>
  intro i n hd hr hi h1 h2
  have hd0:d.length=32:=hd d (by simp)
  simp only [List.length_cons] at hr
  have L1:((d :: r).reverse.map fun b=>[bI b]).length=r.length+1:=by simp
  have L2:((d :: r).reverse.map fun b=>[bI b])[r.length]?=some [bI d]:=by simp
  have L3:((d :: r).reverse.map fun b=>[bI b]).take r.length=r.reverse.map fun b=>[bI b]:=by simp
  have L4:uni 1 ((d :: r).reverse.map fun b=>[bI b])=true:=by simp [uni]
  have hq:bbI (d :: r).reverse=.sl ((d :: r).reverse.map fun b=>[bI b]):=rfl
  rw [hq]
  generalize ((d :: r).reverse.map fun b=>[bI b])=L at *
  clear hq
  by_cases hn:n=1
  ·subst hn
   simp only [iM,if_true]
   have g1:decide (((r.length+1:Nat):Int)=0)=false:=by simp; omega
   refine aa 71 Tryz.func114 rfl rfl rfl (fun _ _=>rfl) ?_
   refine gx (an (an (an eU @intD.eq_1) @L1) g1) ?_
   refine bZ [] rfl ?_
   simp [cv,cvT,cv1,cv0,upd,intD,boolD,bI]
  ·have hs:=jJ (n:=n) (by omega)
   have hsp:=BI n h1 h2
   have i1:=ih i (bg n) (fun d hd'=>hd d (by simp [hd'])) (by omega) hi (by omega) (by omega)
   have i2:=ih (i - bg n) (n - bg n) (fun d hd'=>hd d (by simp [hd'])) (by omega) (by omega) (by omega) (by omega)
   have n1:=uw leaf hlf r i (bg n)
   have n2:=uw leaf hlf r (i - bg n) (n - bg n)
   have g1:decide ((n:Int)=1)=false:=by simp; omega
   have g2:decide (((r.length+1:Nat):Int)=0)=false:=by simp; omega
   have g4:((r.length:Int)<=((r.length+1:Nat):Int))=True:=eq_true (by omega)
   have w1:IntKind.i64.wrap (((r.length+1:Nat):Int) - 1)=(r.length:Int):=by rw [aC (by omega) (by omega)]; omega
   have hc1:i < bg n->iM leaf i n (d :: r)=(pF (iM leaf i (bg n) r).1 d,(iM leaf i (bg n) r).2):=fun h=>by simp only [iM,if_neg hn,if_pos h]
   have hc2:¬ i < bg n->iM leaf i n (d :: r)=(pF d (iM leaf (i - bg n) (n - bg n) r).1,(iM leaf (i - bg n) (n - bg n) r).2):=fun h=>by simp only [iM,if_neg hn,if_neg h]
   clear hd
   generalize bg n=k at *
   simp only [bbI] at i1 i2
   rw [<- L3] at i1 i2
   by_cases hc:i < k
   ·have g3:decide ((i:Int) < (k:Int))=true:=by simp; omega
    rw [hc1 hc]
    clear i2 hc1 hc2
    generalize iM leaf i k r=T at *
    have hnd:=Ke T.1 d (by omega) (by omega)
    generalize pF T.1 d=R at *
    refine aa 71 Tryz.func114 rfl rfl rfl (fun _ _=>rfl) ?_
    (refine gy (an (an (an (an (an eU @intD.eq_1) @L1) g1) g2) w1) ?_; try intro ops hops)
    (first | refine ai [] [] (hsp) (by simp [aL,cvA,aO,cvR,ah,cv1,cvL,cv0,bI,af,bbI,intD,boolD,az,ae,upd]) rfl ?_ | refine ag [] [] [] (hsp) (fun G _=>by simp [aL,cvA,aO,cvR,ah,cv1,cvL,cv0,bI,af,bbI,intD,boolD,az,ae,upd]) rfl ?_)
    (refine gy (an (an (an (an (an eU @intD.eq_1) g3) @L1) @L4) g4) ?_; try intro ops hops)
    (first | refine aV [] (i1) (by simp [aL,cvA,aO,cvR,ah,cv1,cvL,cv0,bI,af,bbI,intD,boolD,az,ae,upd]) ?_ | refine aK [] [] (i1) (fun G _=>by simp [aL,cvA,aO,cvR,ah,cv1,cvL,cv0,bI,af,bbI,intD,boolD,az,ae,upd]) (by simp) ?_)
    (refine gy (an (an eU @boolD.eq_1) @L2) ?_; try intro ops hops)
    (first | refine aV [] (hnd) (by simp [aL,cvA,aO,cvR,ah,cv1,cvL,cv0,bI,af,bbI,intD,boolD,az,ae,upd]) ?_ | refine aK [] [] (hnd) (fun G _=>by simp [aL,cvA,aO,cvR,ah,cv1,cvL,cv0,bI,af,bbI,intD,boolD,az,ae,upd]) (by simp) ?_)
    refine gx (an eU @bI.eq_1) ?_
    refine bZ [] rfl ?_
    simp [cv,cvT,cv1,cv0,upd,intD,boolD,bI]
   ·have g3:decide ((i:Int) < (k:Int))=false:=by simp; omega
    have w2:IntKind.i64.wrap ((i:Int) - (k:Int))=((i - k:Nat):Int):=by rw [aC (by omega) (by omega)]; omega
    have w3:IntKind.i64.wrap ((n:Int) - (k:Int))=((n - k:Nat):Int):=by rw [aC (by omega) (by omega)]; omega
    rw [hc2 hc]
    clear i1 hc1 hc2
    generalize iM leaf (i - k) (n - k) r=T at *
    have hnd:=Ke d T.1 (by omega) (by omega)
    generalize pF d T.1=R at *
    refine aa 71 Tryz.func114 rfl rfl rfl (fun _ _=>rfl) ?_
    (refine gy (an (an (an (an (an eU @intD.eq_1) @L1) g1) g2) w1) ?_; try intro ops hops)
    (first | refine ai [] [] (hsp) (by simp [aL,cvA,aO,cvR,ah,cv1,cvL,cv0,bI,af,bbI,intD,boolD,az,ae,upd]) rfl ?_ | refine ag [] [] [] (hsp) (fun G _=>by simp [aL,cvA,aO,cvR,ah,cv1,cvL,cv0,bI,af,bbI,intD,boolD,az,ae,upd]) rfl ?_)
    (refine gy (an (an (an (an (an (an (an eU @intD.eq_1) g3) @L1) @L4) g4) w2) w3) ?_; try intro ops hops)
    (first | refine aV [] (i2) (by simp [aL,cvA,aO,cvR,ah,cv1,cvL,cv0,bI,af,bbI,intD,boolD,az,ae,upd]) ?_ | refine aK [] [] (i2) (fun G _=>by simp [aL,cvA,aO,cvR,ah,cv1,cvL,cv0,bI,af,bbI,intD,boolD,az,ae,upd]) (by simp) ?_)
    (refine gy (an (an eU @boolD.eq_1) @L2) ?_; try intro ops hops)
    (first | refine aV [] (hnd) (by simp [aL,cvA,aO,cvR,ah,cv1,cvL,cv0,bI,af,bbI,intD,boolD,az,ae,upd]) ?_ | refine aK [] [] (hnd) (fun G _=>by simp [aL,cvA,aO,cvR,ah,cv1,cvL,cv0,bI,af,bbI,intD,boolD,az,ae,upd]) (by simp) ?_)
    refine gx (an eU @bI.eq_1) ?_
    refine bZ [] rfl ?_
    simp [cv,cvT,cv1,cv0,upd,intD,boolD,bI]
def IU (p:fU):List UInt8 × Bool:=iM (x_ p.k p.v) p.i.toNat p.n.toNat p.path.reverse
def iX (root:List UInt8) (p:fU):Bool:=uu p && (IU p).2 && decide (GG p.n.toNat (IU p).1=root)
theorem formF_yes {p:fU} (h:uu p=true):1<=p.n/\p.n<=200/\0<=p.i/\p.i < p.n/\p.k.length<=60/\p.v.length<=200/\p.path.length<=40/\∀ d∈p.path,d.length=32:=by
 simp [uu,Qd] at h
 exact ⟨by omega,by omega,by omega,by omega,by omega,by omega,by omega,h.2⟩
theorem BK (root:List UInt8) (p:fU):PureD Tryz.prog 60 [.i (bI root),az p] (boolD (iX root p)):=by
 have hfm:=Yp p
 unfold iX IU
 cases hf:uu p
 ·rw [hf] at hfm
  simp only [Bool.false_and]
  refine aa 33 Tryz.func60 rfl rfl rfl (fun _ _=>rfl) ?_
  refine gx (an (an gp @az.eq_1) @intD.eq_1) ?_
  refine ai [] [1000] hfm ⟨.inr ⟨1000,_,_,rfl,.inl ⟨by simp,rfl,_,by simp [upd]; rfl,by simp [ut,ah,cv0]⟩⟩,trivial⟩ rfl ?_
  refine gx (an gp @boolD.eq_1) ?_
  refine av [] rfl ?_
  simp [cv,cv1,cv0,upd,boolD]
 ·rw [hf] at hfm
  simp only [Bool.true_and]
  obtain ⟨a1,a2,a3,a4,a5,a6,a7,a8⟩:=formF_yes hf
  clear hf
  have hl:=RV p.k p.v (by omega) (by omega)
  have hlen:(x_ p.k p.v).length=32:=dD _
  generalize x_ p.k p.v=F at *
  have ht:=Tq F (by omega) p.path.reverse p.i.toNat p.n.toNat (fun d hd=>a8 d (by simpa using hd)) (by simp; omega) (by omega) (by omega) (by omega)
  have hT:=uw F (by omega) p.path.reverse p.i.toNat p.n.toNat
  rw [List.reverse_reverse,Int.toNat_of_nonneg a3,Int.toNat_of_nonneg (by omega)] at ht
  generalize iM F p.i.toNat p.n.toNat p.path.reverse=T at *
  have htp:=Oz p.n.toNat T.1 (by omega)
  rw [Int.toNat_of_nonneg (by omega)] at htp
  generalize GG p.n.toNat T.1=R at *
  clear a1 a2 a3 a4 a5 a6 a7 a8
  obtain ⟨i,n,k,v,q⟩:=p
  obtain ⟨t,ok⟩:=T
  simp only at *
  refine aa 33 Tryz.func60 rfl rfl rfl (fun _ _=>rfl) ?_
  refine gx (an (an gp @az.eq_1) @intD.eq_1) ?_
  refine ai [] [1000] hfm ⟨.inr ⟨1000,_,_,rfl,.inl ⟨by simp,rfl,_,by simp [upd]; rfl,by simp [ut,ah,cv0]⟩⟩,trivial⟩ rfl ?_
  (refine gy (an gp @boolD.eq_1) ?_; try intro ops hops)
  (first | refine aV [] (hl) (by simp [aL,cvA,aO,cvR,ah,cv1,cvL,cv0,bI,af,bbI,intD,boolD,az,ae,upd]) ?_ | refine aK [] [] (hl) (fun G _=>by simp [aL,cvA,aO,cvR,ah,cv1,cvL,cv0,bI,af,bbI,intD,boolD,az,ae,upd]) (by simp) ?_)
  (refine gy gp ?_; try intro ops hops)
  (first | refine aV [] (ht) (by simp [aL,cvA,aO,cvR,ah,cv1,cvL,cv0,bI,af,bbI,intD,boolD,az,ae,upd]) ?_ | refine aK [] [] (ht) (fun G _=>by simp [aL,cvA,aO,cvR,ah,cv1,cvL,cv0,bI,af,bbI,intD,boolD,az,ae,upd]) (by simp) ?_)
  cases ok
  ·refine gx (an gp @boolD.eq_1) ?_
   refine av [] rfl ?_
   simp [cv,cv1,cv0,upd,boolD]
  ·(refine gy (an gp @boolD.eq_1) ?_; try intro ops hops)
   (first | refine aV [] (htp) (by simp [aL,cvA,aO,cvR,ah,cv1,cvL,cv0,bI,af,bbI,intD,boolD,az,ae,upd]) ?_ | refine aK [] [] (htp) (fun G _=>by simp [aL,cvA,aO,cvR,ah,cv1,cvL,cv0,bI,af,bbI,intD,boolD,az,ae,upd]) (by simp) ?_)
   (refine gy gp ?_; try intro ops hops)
   (first | refine ai [] [] (gD R root) (by simp [aL,cvA,aO,cvR,ah,cv1,cvL,cv0,bI,af,bbI,intD,boolD,az,ae,upd]) rfl ?_ | refine ag [] [] [] (gD R root) (fun G _=>by simp [aL,cvA,aO,cvR,ah,cv1,cvL,cv0,bI,af,bbI,intD,boolD,az,ae,upd]) rfl ?_)
   refine gx gp ?_
   refine av [] rfl ?_
   simp [cv,cv1,cv0,upd,boolD]
theorem h_:(type_of% @Ty.T3)/\(type_of% @Ty.T5)/\(type_of% @Ty.T29):=⟨@Ty.T3,@Ty.T5,@Ty.T29⟩
theorem WU (x y:List UInt8) (hx:x.length<=1099511627776):PureD Tryz.prog 32 [.i (bI x),.i (bI y)] (.i (.s (.bool (decide (x=y))))):=by
 refine aa 26 Tryz.func32 rfl rfl rfl (fun _ _=>rfl) ?_
 refine gx (an h_ @bI.eq_1) ?_
 refine aY (fun h=>?_) (fun h=>?_)
 ·refine gx (an h_ @bI.eq_1) ?_
  refine av [] rfl ?_
  have:x≠y:=by intro e; subst e; simp at h
  simp [cv,cv1,cv0,upd,this]
 ·have hl:x.length=y.length:=by simp at h; omega
  clear h
  refine gx (an h_ @bI.eq_1) ?_
  refine uS (ι:={ k:Nat // k<=x.length/\x.take k=y.take k }) (fun k=>dQ [(0,.i (.sl (x.map af))),(1,.i (.sl (y.map af))),(12,.i (.s (.int .i64 x.length))),(13,.i (.s (.int .i64 (k.1:Nat))))] []) (fun k=>x.length - k.1) ⟨0,by simp⟩ ?_ ?_
  ·refine ay _ _ [] [] ?_ ?_ rfl rfl
   ·simp [cv,cv1,cv0,upd,lk]
   ·simp
  ·rintro ⟨k,hk,ht⟩
   rw [ak]
   refine gx h_ ?_
   refine aY (fun h=>?_) (fun h=>?_)
   ·have hlt:k < x.length:=by simp at h; omega
    clear h
    have e1:(x.map af)[k]?=some [.s (.int .u8 (x[k].toNat:Int))]:=by simp [hlt,af]
    have e2:(y.map af)[k]?=some [.s (.int .u8 ((y[k]'(by omega)).toNat:Int))]:=by simp [show k < y.length by omega,af]
    refine gx (an (an h_ e1) e2) ?_
    refine aY (fun h=>?_) (fun h=>?_)
    ·refine gx h_ ?_
     refine av [] rfl ?_
     have:x≠y:=by intro e; subst e; simp at h
     simp [cv,cv1,cv0,upd,this]
    ·have hb:x[k]=y[k]:=UInt8.toNat_inj.1 (by simp at h; omega)
     clear h
     have hw:IntKind.i64.wrap ((k:Int)+1)=((k+1:Nat):Int):=by rw [aC (by omega) (by omega)]; omega
     refine gx (an h_ @hw) ?_
     refine ⟨⟨k+1,hlt,?_⟩,ay _ _ [] [] ?_ ?_ rfl rfl,?_⟩
     ·rw [List.take_succ_eq_append_getElem hlt,List.take_succ_eq_append_getElem (by omega),ht,hb]
     ·simp [cv,cv1,cv0,upd,lk]
     ·simp
     ·simp; omega
   ·have hk':k=x.length:=by simp at h; omega
    subst hk'
    refine gx h_ ?_
    refine av [] rfl ?_
    have:x=y:=by rw [List.take_length,hl,List.take_length] at ht; exact ht
    simp [cv,cv1,cv0,upd,this]
theorem dI:(type_of% @Ty.T3)/\(type_of% @Ty.T4)/\(type_of% @Ty.T5)/\(type_of% @Ty.T29)/\(type_of% @Ty.T31)/\(type_of% @Ty.T32)/\(type_of% @Ty.T41)/\(type_of% @Ty.T42)/\(type_of% @Ty.T44)/\(type_of% @Ty.T49)/\(type_of% @Ty.Zw):=⟨@Ty.T3,@Ty.T4,@Ty.T5,@Ty.T29,@Ty.T31,@Ty.T32,@Ty.T41,@Ty.T42,@Ty.T44,@Ty.T49,@Ty.Zw⟩
structure SE where
 hl:Bool
 hr:Bool
 left:fU
 right:fU
def Ip (g:SE):D:=.agg [boolD g.hl,boolD g.hr,intD g.left.i,intD g.left.n,.i (bI g.left.k),.i (bI g.left.v),.i (bbI g.left.path),intD g.right.i,intD g.right.n,.i (bI g.right.k),.i (bI g.right.v),.i (bbI g.right.path)]
def Ol:SE:=⟨false,false,mU,mU⟩
def atZ (l:List bn) (b:Bool) (i:Nat):fU:=if h:b=true/\i < l.length then atF l i h.2 else mU
def Yl (l:List bn) (key:List UInt8):SE × Nat :=
 if (dK l).1=0 then (if vG l key then (Ol,7) else (⟨decide (0 < bU l key),decide (bU l key < l.length),atZ l (decide (0 < bU l key)) (bU l key - 1),atZ l (decide (bU l key < l.length)) (bU l key)⟩,0)) else (Ol,(dK l).1)
theorem aaq (l:List bn) (key:List UInt8) (hl:l.length<=1048576):PureD Tryz.prog 19 [.i (psI l),.i (bI key)] (.tup [Ip (Yl l key).1,intD (Yl l key).2]):=by
 have hw:=Br l hl
 unfold Yl
 by_cases h0:(dK l).1=0
 ·have hr:=rE h0
  have hz:=oL h0
  rw [if_pos h0]
  rw [hz] at hw
  simp only at hw
  have hf:=Sa l key hr
  have hat:=fun (i:Nat) (h:i < l.length)=>abd l i h hl (fun p hp=>by have:=hr.big p hp; omega)
  have hple:=Aa l key
  cases ht:vG l key
  ·rw [ht] at hf
   simp only [Bool.false_eq_true,if_false]
   generalize bU l key=j at *
   have z1:∀ b i (h:i < l.length),b=true->atZ l b i=atF l i h:=fun b i h hb=>dif_pos ⟨hb,h⟩
   have z2:∀ i,atZ l false i=mU:=fun i=>dif_neg (by simp)
   by_cases h1:0 < j
   ·have g1:decide ((0:Int) < (j:Int))=true:=decide_eq_true (by omega)
    have w1:IntKind.i64.wrap ((j:Int) - 1)=((j - 1:Nat):Int):=by rw [aC (by omega) (by omega)]; omega
    have a1:=hat (j - 1) (by omega)
    rw [decide_eq_true h1,z1 true (j - 1) (by omega) rfl]
    by_cases h2:j < l.length
    ·have g2:decide ((j:Int) < (l.length:Int))=true:=decide_eq_true (by omega)
     have a2:=hat j h2
     rw [decide_eq_true h2,z1 true j h2 rfl]
     generalize atF l (j - 1) _=A at *
     generalize atF l j _=B at *
     generalize j - 1=j1 at *
     refine aa 44 Tryz.func19 rfl rfl rfl (fun _ _=>rfl) ?_
     (refine gy (an (an dI @psI.eq_1) @bI.eq_1) ?_; try intro ops hops)
     (first | refine ai [] [] (hw) (by simp [aL,cvA,aO,cvR,ah,cv1,cvL,cv0,bI,af,bbI,psI,intD,boolD,az,dw,ae,upd]) rfl ?_ | refine ag [] [] [] (hw) (fun G _=>by simp [aL,cvA,aO,cvR,ah,cv1,cvL,cv0,bI,af,bbI,psI,intD,boolD,az,dw,ae,upd]) rfl ?_)
     (refine gy (an (an (an (an dI @dw.eq_1) @intD.eq_1) @psI.eq_1) @bI.eq_1) ?_; try intro ops hops)
     (first | refine ai [] [] (hf) (by simp [aL,cvA,aO,cvR,ah,cv1,cvL,cv0,bI,af,bbI,psI,intD,boolD,az,dw,ae,upd]) rfl ?_ | refine ag [] [] [] (hf) (fun G _=>by simp [aL,cvA,aO,cvR,ah,cv1,cvL,cv0,bI,af,bbI,psI,intD,boolD,az,dw,ae,upd]) rfl ?_)
     (refine gy (an (an (an (an (an (an dI @boolD.eq_1) @intD.eq_1) @psI.eq_1) @bI.eq_1) g1) w1) ?_; try intro ops hops)
     (first | refine aV [] (a1) (by simp [aL,cvA,aO,cvR,ah,cv1,cvL,cv0,bI,af,bbI,psI,intD,boolD,az,dw,ae,upd]) ?_ | refine aK [] [] (a1) (fun G _=>by simp [aL,cvA,aO,cvR,ah,cv1,cvL,cv0,bI,af,bbI,psI,intD,boolD,az,dw,ae,upd]) (by simp) ?_)
     (refine gy (an (an (an dI @az.eq_1) @intD.eq_1) g2) ?_; try intro ops hops)
     (first | refine aV [] (a2) (by simp [aL,cvA,aO,cvR,ah,cv1,cvL,cv0,bI,af,bbI,psI,intD,boolD,az,dw,ae,upd]) ?_ | refine aK [] [] (a2) (fun G _=>by simp [aL,cvA,aO,cvR,ah,cv1,cvL,cv0,bI,af,bbI,psI,intD,boolD,az,dw,ae,upd]) (by simp) ?_)
     refine gx (an (an dI @az.eq_1) @intD.eq_1) ?_
     refine mM [] rfl Wv We (by simp [upd,aD,aj]; rfl) ?_
     simp [cv,cvT,cv1,cvL,cv0,upd,Ip,intD,boolD]
    ·have g2:decide ((j:Int) < (l.length:Int))=false:=decide_eq_false (by omega)
     rw [decide_eq_false h2,z2 j]
     generalize atF l (j - 1) _=A at *
     generalize j - 1=j1 at *
     refine aa 44 Tryz.func19 rfl rfl rfl (fun _ _=>rfl) ?_
     (refine gy (an (an dI @psI.eq_1) @bI.eq_1) ?_; try intro ops hops)
     (first | refine ai [] [] (hw) (by simp [aL,cvA,aO,cvR,ah,cv1,cvL,cv0,bI,af,bbI,psI,intD,boolD,az,dw,ae,upd]) rfl ?_ | refine ag [] [] [] (hw) (fun G _=>by simp [aL,cvA,aO,cvR,ah,cv1,cvL,cv0,bI,af,bbI,psI,intD,boolD,az,dw,ae,upd]) rfl ?_)
     (refine gy (an (an (an (an dI @dw.eq_1) @intD.eq_1) @psI.eq_1) @bI.eq_1) ?_; try intro ops hops)
     (first | refine ai [] [] (hf) (by simp [aL,cvA,aO,cvR,ah,cv1,cvL,cv0,bI,af,bbI,psI,intD,boolD,az,dw,ae,upd]) rfl ?_ | refine ag [] [] [] (hf) (fun G _=>by simp [aL,cvA,aO,cvR,ah,cv1,cvL,cv0,bI,af,bbI,psI,intD,boolD,az,dw,ae,upd]) rfl ?_)
     (refine gy (an (an (an (an (an (an dI @boolD.eq_1) @intD.eq_1) @psI.eq_1) @bI.eq_1) g1) w1) ?_; try intro ops hops)
     (first | refine aV [] (a1) (by simp [aL,cvA,aO,cvR,ah,cv1,cvL,cv0,bI,af,bbI,psI,intD,boolD,az,dw,ae,upd]) ?_ | refine aK [] [] (a1) (fun G _=>by simp [aL,cvA,aO,cvR,ah,cv1,cvL,cv0,bI,af,bbI,psI,intD,boolD,az,dw,ae,upd]) (by simp) ?_)
     refine gx (an (an (an dI @az.eq_1) @intD.eq_1) g2) ?_
     refine mM [] rfl Wv We (by simp [upd,aD,aj]; rfl) ?_
     simp [cv,cvT,cv1,cvL,cv0,upd,Ip,intD,boolD,mU,bI,bbI]
   ·have hj:j=0:=by omega
    subst hj
    rw [decide_eq_false h1,z2]
    by_cases h2:0 < l.length
    ·have g2:decide ((0:Int) < (l.length:Int))=true:=decide_eq_true (by omega)
     have a2:=hat 0 h2
     rw [decide_eq_true h2,z1 true 0 h2 rfl]
     generalize atF l 0 _=B at *
     refine aa 44 Tryz.func19 rfl rfl rfl (fun _ _=>rfl) ?_
     (refine gy (an (an dI @psI.eq_1) @bI.eq_1) ?_; try intro ops hops)
     (first | refine ai [] [] (hw) (by simp [aL,cvA,aO,cvR,ah,cv1,cvL,cv0,bI,af,bbI,psI,intD,boolD,az,dw,ae,upd]) rfl ?_ | refine ag [] [] [] (hw) (fun G _=>by simp [aL,cvA,aO,cvR,ah,cv1,cvL,cv0,bI,af,bbI,psI,intD,boolD,az,dw,ae,upd]) rfl ?_)
     (refine gy (an (an (an (an dI @dw.eq_1) @intD.eq_1) @psI.eq_1) @bI.eq_1) ?_; try intro ops hops)
     (first | refine ai [] [] (hf) (by simp [aL,cvA,aO,cvR,ah,cv1,cvL,cv0,bI,af,bbI,psI,intD,boolD,az,dw,ae,upd]) rfl ?_ | refine ag [] [] [] (hf) (fun G _=>by simp [aL,cvA,aO,cvR,ah,cv1,cvL,cv0,bI,af,bbI,psI,intD,boolD,az,dw,ae,upd]) rfl ?_)
     (refine gy (an (an (an (an (an (an dI @boolD.eq_1) @intD.eq_1) @psI.eq_1) @bI.eq_1) g2) @Int.natCast_zero) ?_; try intro ops hops)
     (first | refine aV [] (a2) (by simp [aL,cvA,aO,cvR,ah,cv1,cvL,cv0,bI,af,bbI,psI,intD,boolD,az,dw,ae,upd]) ?_ | refine aK [] [] (a2) (fun G _=>by simp [aL,cvA,aO,cvR,ah,cv1,cvL,cv0,bI,af,bbI,psI,intD,boolD,az,dw,ae,upd]) (by simp) ?_)
     refine gx (an (an dI @az.eq_1) @intD.eq_1) ?_
     refine mM [] rfl Wv We (by simp [upd,aD,aj]; rfl) ?_
     simp [cv,cvT,cv1,cvL,cv0,upd,Ip,intD,boolD,mU,bI,bbI]
    ·have g2:decide ((0:Int) < (l.length:Int))=false:=decide_eq_false (by omega)
     rw [decide_eq_false h2,z2]
     refine aa 44 Tryz.func19 rfl rfl rfl (fun _ _=>rfl) ?_
     (refine gy (an (an dI @psI.eq_1) @bI.eq_1) ?_; try intro ops hops)
     (first | refine ai [] [] (hw) (by simp [aL,cvA,aO,cvR,ah,cv1,cvL,cv0,bI,af,bbI,psI,intD,boolD,az,dw,ae,upd]) rfl ?_ | refine ag [] [] [] (hw) (fun G _=>by simp [aL,cvA,aO,cvR,ah,cv1,cvL,cv0,bI,af,bbI,psI,intD,boolD,az,dw,ae,upd]) rfl ?_)
     (refine gy (an (an (an (an dI @dw.eq_1) @intD.eq_1) @psI.eq_1) @bI.eq_1) ?_; try intro ops hops)
     (first | refine ai [] [] (hf) (by simp [aL,cvA,aO,cvR,ah,cv1,cvL,cv0,bI,af,bbI,psI,intD,boolD,az,dw,ae,upd]) rfl ?_ | refine ag [] [] [] (hf) (fun G _=>by simp [aL,cvA,aO,cvR,ah,cv1,cvL,cv0,bI,af,bbI,psI,intD,boolD,az,dw,ae,upd]) rfl ?_)
     refine gx (an (an (an (an (an (an dI @boolD.eq_1) @intD.eq_1) @psI.eq_1) @bI.eq_1) g2) @Int.natCast_zero) ?_
     refine mM [] rfl Wv We (by simp [upd,aD,aj]; rfl) ?_
     simp [cv,cvT,cv1,cvL,cv0,upd,Ip,intD,boolD,mU,bI,bbI]
  ·rw [ht] at hf
   simp only [if_true]
   generalize bU l key=j at *
   refine aa 44 Tryz.func19 rfl rfl rfl (fun _ _=>rfl) ?_
   (refine gy (an (an dI @psI.eq_1) @bI.eq_1) ?_; try intro ops hops)
   (first | refine ai [] [] (hw) (by simp [aL,cvA,aO,cvR,ah,cv1,cvL,cv0,bI,af,bbI,psI,intD,boolD,az,dw,ae,upd]) rfl ?_ | refine ag [] [] [] (hw) (fun G _=>by simp [aL,cvA,aO,cvR,ah,cv1,cvL,cv0,bI,af,bbI,psI,intD,boolD,az,dw,ae,upd]) rfl ?_)
   (refine gy (an (an (an (an dI @dw.eq_1) @intD.eq_1) @psI.eq_1) @bI.eq_1) ?_; try intro ops hops)
   (first | refine ai [] [] (hf) (by simp [aL,cvA,aO,cvR,ah,cv1,cvL,cv0,bI,af,bbI,psI,intD,boolD,az,dw,ae,upd]) rfl ?_ | refine ag [] [] [] (hf) (fun G _=>by simp [aL,cvA,aO,cvR,ah,cv1,cvL,cv0,bI,af,bbI,psI,intD,boolD,az,dw,ae,upd]) rfl ?_)
   refine gx (an (an (an (an dI @boolD.eq_1) @intD.eq_1) @psI.eq_1) @bI.eq_1) ?_
   refine mM [] rfl Wv We (by simp [upd,aD,aj]; rfl) ?_
   simp [cv,cvT,cv1,cvL,cv0,upd,Ip,intD,boolD,Ol,mU,bI,bbI]
 ·rw [if_neg h0]
  generalize dK l=W at *
  have g1:decide ((W.1:Int)=0)=false:=by simp; omega
  refine aa 44 Tryz.func19 rfl rfl rfl (fun _ _=>rfl) ?_
  (refine gy (an (an dI @psI.eq_1) @bI.eq_1) ?_; try intro ops hops)
  (first | refine ai [] [] (hw) (by simp [aL,cvA,aO,cvR,ah,cv1,cvL,cv0,bI,af,bbI,psI,intD,boolD,az,dw,ae,upd]) rfl ?_ | refine ag [] [] [] (hw) (fun G _=>by simp [aL,cvA,aO,cvR,ah,cv1,cvL,cv0,bI,af,bbI,psI,intD,boolD,az,dw,ae,upd]) rfl ?_)
  refine gx (an (an (an dI @dw.eq_1) @intD.eq_1) g1) ?_
  refine mM [] rfl Wv We (by simp [upd,aD,aj]; rfl) ?_
  simp [cv,cvT,cv1,cvL,cv0,upd,Ip,intD,boolD,Ol,mU,bI,bbI]
def zq (root key:List UInt8) (g:SE):Bool :=
 match g.hl,g.hr with
 | false,false=>decide (GG 0 []=root)
 | true,false=>iX root g.left && decide (Lib.compareBytes g.left.k key < 0) && decide (g.left.i=g.left.n - 1)
 | false,true=>iX root g.right && decide (Lib.compareBytes key g.right.k < 0) && decide (g.right.i=0)
 | true,true=>iX root g.left && decide (Lib.compareBytes g.left.k key < 0) && (iX root g.right && decide (Lib.compareBytes key g.right.k < 0)) && (decide (g.left.n=g.right.n) && decide (g.left.i+1=g.right.i))
theorem shownF_form {r:List UInt8} {p:fU} (h:iX r p=true):uu p=true:=by
 unfold iX at h; simp only [Bool.and_eq_true] at h; exact h.1.1
attribute [local simp,local go_sem] az Ip bbI
theorem QY (root key:List UInt8) (g:SE):PureD Tryz.prog 61 [.i (bI root),.i (bI key),Ip g] (boolD (zq root key g)):=by
 refine au fun R hR=>?_
 obtain ⟨hl,hr,⟨li,ln,lk,lv,lp⟩,⟨ri,rn,rk,rv,rp⟩⟩:=g
 have c1:=BK root ⟨li,ln,lk,lv,lp⟩
 have c2:=BK root ⟨ri,rn,rk,rv,rp⟩
 have c3:=Hu lk key
 have c4:=Hu key rk
 have c5:=Oz 0 [] (by simp)
 have c6:=gD (GG 0 []) root
 have fL:iX root ⟨li,ln,lk,lv,lp⟩=true->1<=ln/\ln<=200/\0<=li/\li < ln:=fun h=>by
  obtain ⟨a1,a2,a3,a4,_⟩:=formF_yes (shownF_form h)
  exact ⟨a1,a2,a3,a4⟩
 cases hl <;> cases hr <;> simp only [zq] at hR
 ·clear c1 c2 fL
  generalize GG 0 []=T at *
  refine aa 89 Tryz.func61 rfl rfl rfl (fun _ _=>rfl) ?_
  exact wkl trivial
 ·clear c1 fL
  generalize iX root ⟨ri,rn,rk,rv,rp⟩=S at *
  generalize Lib.compareBytes key rk=C at *
  cases S <;> by_cases q:C < 0 <;> simp only [q,decide_true,decide_false,Bool.true_and,Bool.false_and,Bool.and_false,Bool.and_true] at hR
  all_goals
   refine aa 89 Tryz.func61 rfl rfl rfl (fun _ _=>rfl) ?_
   exact wkl trivial
 ·clear c2
  generalize iX root ⟨li,ln,lk,lv,lp⟩=S at *
  generalize Lib.compareBytes lk key=C at *
  cases S <;> by_cases q:C < 0 <;> simp only [q,decide_true,decide_false,Bool.true_and,Bool.false_and,Bool.and_false,Bool.and_true] at hR
  all_goals
   try (have fL:=fL rfl)
   refine aa 89 Tryz.func61 rfl rfl rfl (fun _ _=>rfl) ?_
   exact wkl trivial
 ·generalize iX root ⟨li,ln,lk,lv,lp⟩=S at *
  generalize iX root ⟨ri,rn,rk,rv,rp⟩=S' at *
  generalize Lib.compareBytes lk key=C at *
  generalize Lib.compareBytes key rk=C' at *
  cases S
  ·simp only [Bool.false_and] at hR
   refine aa 89 Tryz.func61 rfl rfl rfl (fun _ _=>rfl) ?_
   exact wkl trivial
  ·have fL:=fL rfl
   by_cases q:C < 0
   ·cases S' <;> by_cases q':C' < 0 <;> simp only [q,q',decide_true,decide_false,Bool.true_and,Bool.false_and,Bool.and_false,Bool.and_true] at hR
    all_goals
     refine aa 89 Tryz.func61 rfl rfl rfl (fun _ _=>rfl) ?_
     exact wkl trivial
   ·simp only [q,decide_false,Bool.and_false,Bool.false_and] at hR
    refine aa 89 Tryz.func61 rfl rfl rfl (fun _ _=>rfl) ?_
    exact wkl trivial
end Go.Proofs.YtfenipelcpmkpaaGreatDoor
