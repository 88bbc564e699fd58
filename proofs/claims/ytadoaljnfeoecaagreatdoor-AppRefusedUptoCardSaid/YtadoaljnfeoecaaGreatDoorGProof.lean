/- Merged texts: ProofA, ProofB, ProofC, ProofT, R1Same, GapA, GapB. -/
import Derived.Test.YtadoaljnfeoecaaGreatDoorGBook
import Derived.Test.YtadoaljnfeoecaaGreatDoorGx
import Derived.Test.YtadoaljnfeoecaaGreatDoorGy
import Derived.Test.YtadoaljnfeoecaaGreatDoorAbs4
import Derived.Test.YtadoaljnfeoecaaGreatDoorTy
import Derived.Test.YtadoaljnfeoecaaGreatDoorGWk
set_option linter.all false
namespace Go.Proofs.YtadoaljnfeoecaaGreatDoor
open Go Go.Abs Go.RowKit Go.Proofs.YtadoaljnfeoecaaGreatDoor.Ty
structure ProofD where
 i:Int
 n:Int
 k:List UInt8
 v:List UInt8
 path:List (List UInt8)
def proofD (p:ProofD):D:=.agg [intD p.i,intD p.n,.i (bI p.k),.i (bI p.v),.i (bbI p.path)]
set_option maxHeartbeats 2000000
end Go.Proofs.YtadoaljnfeoecaaGreatDoor
set_option linter.all false
namespace Go.Proofs.YtadoaljnfeoecaaGreatDoor
open Go Go.Abs Go.RowKit Go.Proofs.YtadoaljnfeoecaaGreatDoor.Ty
set_option maxHeartbeats 2000000
end Go.Proofs.YtadoaljnfeoecaaGreatDoor
set_option linter.all false
namespace Go.Proofs.YtadoaljnfeoecaaGreatDoor
open Go Go.Abs Go.RowKit Go.Proofs.YtadoaljnfeoecaaGreatDoor.Ty
theorem tyProofC0:(type_of% @Ty.T3)∧(type_of% @Ty.T5)∧(type_of% @Ty.T29)∧(type_of% @Ty.T40)∧(type_of% @Ty.T42):=⟨@Ty.T3,@Ty.T5,@Ty.T29,@Ty.T40,@Ty.T42⟩
def formI (p:ProofD):List I:=[.s (.int .i64 p.i),.s (.int .i64 p.n),bI p.k,bI p.v,bbI p.path]
def formG (p:ProofD):Bool:=decide (p.n < 1) || decide (200 < p.n) || decide (p.i < 0) || decide (p.n≤p.i) || decide (60 < p.k.length) || decide (200 < p.v.length) || decide (40 < p.path.length)
def formF (p:ProofD):Bool:=!formG p && p.path.all fun d=>decide (d.length=32)
theorem formF_no {p:ProofD} (h:formG p=true):formF p=false:=by simp [formF,h]
theorem all_drop {l:List (List UInt8)} {i:Nat} (h:i < l.length):(l.drop i).all (fun d=>decide (d.length=32))=(decide (l[i].length=32) && (l.drop (i+1)).all fun d=>decide (d.length=32)):=by
 rw [List.drop_eq_getElem_cons h]; rfl
set_option maxHeartbeats 4000000
theorem form_A (p:ProofD):PureD Tryz.prog 158 [.rp (formI p) 0] (boolD (formF p)):=by
 have hN:=formF_no (p:=p)
 unfold formG at hN
 obtain ⟨i,n,k,v,q⟩:=p
 have hl:(q.map fun b=>[bI b]).length=q.length:=by simp
 have e0:∀ j (h:j < q.length),(q.map fun b=>[bI b])[j]?=some [bI q[j]]:=fun j h=>by rw [List.getElem?_map,List.getElem?_eq_getElem h]; rfl
 cases g1:decide (n < 1)
 case true =>
  rw [hN (by simp [g1])]
  refine callD_W 72 Tryz.func158 rfl rfl rfl (fun _ _=>rfl) ?_
  refine gx (an (an tyProofC0 @formI.eq_1) g1) ?_
  refine fin_ret [] rfl ?_
  simp [cv,cv1,cv0,upd,boolD]
 cases g2:decide ((200:Int) < n)
 case true =>
  rw [hN (by simp [g2])]
  refine callD_W 72 Tryz.func158 rfl rfl rfl (fun _ _=>rfl) ?_
  refine gx (an (an (an tyProofC0 @formI.eq_1) g1) g2) ?_
  refine fin_ret [] rfl ?_
  simp [cv,cv1,cv0,upd,boolD]
 cases g3:decide (i < 0)
 case true =>
  rw [hN (by simp [g3])]
  refine callD_W 72 Tryz.func158 rfl rfl rfl (fun _ _=>rfl) ?_
  refine gx (an (an (an (an tyProofC0 @formI.eq_1) g1) g2) g3) ?_
  refine fin_ret [] rfl ?_
  simp [cv,cv1,cv0,upd,boolD]
 cases g4:decide (n≤i)
 case true =>
  rw [hN (by simp [g4])]
  refine callD_W 72 Tryz.func158 rfl rfl rfl (fun _ _=>rfl) ?_
  refine gx (an (an (an (an (an tyProofC0 @formI.eq_1) g1) g2) g3) g4) ?_
  refine fin_ret [] rfl ?_
  simp [cv,cv1,cv0,upd,boolD]
 cases g5:decide ((60:Int) < (k.length:Int))
 case true =>
  rw [hN (by simp at g5; simp; omega)]
  refine callD_W 72 Tryz.func158 rfl rfl rfl (fun _ _=>rfl) ?_
  refine gx (an (an (an (an (an (an (an tyProofC0 @formI.eq_1) g1) g2) g3) g4) g5) @bI.eq_1) ?_
  refine fin_ret [] rfl ?_
  simp [cv,cv1,cv0,upd,boolD]
 cases g6:decide ((200:Int) < (v.length:Int))
 case true =>
  rw [hN (by simp at g6; simp; omega)]
  refine callD_W 72 Tryz.func158 rfl rfl rfl (fun _ _=>rfl) ?_
  refine gx (an (an (an (an (an (an (an (an tyProofC0 @formI.eq_1) g1) g2) g3) g4) g5) g6) @bI.eq_1) ?_
  refine fin_ret [] rfl ?_
  simp [cv,cv1,cv0,upd,boolD]
 cases g7:decide ((40:Int) < (q.length:Int))
 case true =>
  rw [hN (by simp at g7; simp; omega)]
  refine callD_W 72 Tryz.func158 rfl rfl rfl (fun _ _=>rfl) ?_
  refine gx (an (an (an (an (an (an (an (an (an (an (an tyProofC0 @formI.eq_1) g1) g2) g3) g4) g5) g6) g7) @bI.eq_1) @bbI.eq_1) @hl) ?_
  refine fin_ret [] rfl ?_
  simp [cv,cv1,cv0,upd,boolD]
 have hF:formF ⟨i,n,k,v,q⟩=(q.drop 0).all fun d=>decide (d.length=32):=by
  have b5:decide (60 < k.length)=false:=by simp at g5 ⊢; omega
  have b6:decide (200 < v.length)=false:=by simp at g6 ⊢; omega
  have b7:decide (40 < q.length)=false:=by simp at g7 ⊢; omega
  simp [formF,formG,g1,g2,g3,g4,b5,b6,b7]
 have hq:q.length≤40:=by simp at g7; omega
 generalize formF ⟨i,n,k,v,q⟩=R at hF
 clear hN
 refine callD_W 72 Tryz.func158 rfl rfl rfl (fun _ _=>rfl) ?_
 refine gx (an (an (an (an (an (an (an (an (an (an (an tyProofC0 @formI.eq_1) g1) g2) g3) g4) g5) g6) g7) @bI.eq_1) @bbI.eq_1) @hl) ?_
 refine W_loopI (ι:=Nat) (fun j=>j≤q.length∧R=(q.drop j).all fun d=>decide (d.length=32))
  (fun j=>stOf [(62,.i (bbI q)),(63,intD q.length),(64,intD j)] []) (fun j=>q.length - j) 0 ⟨Nat.zero_le _,hF⟩ ?_ ?_
 ·refine le_stOf _ _ [] [] ?_ ?_ rfl rfl
  ·simp [cv,cvL,cv1,cv0,upd,lk,srcOf,intD,bbI,bI]
  ·simp
 ·rintro j ⟨hj,hR⟩
  rw [stOf_eq]
  refine gx (an tyProofC0 @intD.eq_1) ?_
  refine Wc_split (fun h=>?_) (fun h=>?_)
  ·have h2:j < q.length:=by simp at h; omega
   clear h
   have e1:=e0 j h2
   simp only [bI] at e1
   rw [all_drop h2] at hR
   have w1:IntKind.i64.wrap ((j:Int)+1)=((j+1:Nat):Int):=by rw [wrap64 (by omega) (by omega)]; omega
   generalize q[j]=d at *
   refine gx (an (an (an tyProofC0 @bbI.eq_1) e1) @bI.eq_1) ?_
   refine Wc_split (fun h=>?_) (fun h=>?_)
   ·have h3:d.length≠32:=by simp at h; omega
    simp only [h3,decide_false,Bool.false_and] at hR
    refine gx tyProofC0 ?_
    refine fin_ret [] rfl ?_
    simp [cv,cv1,cv0,upd,hR,boolD]
   ·have h3:d.length=32:=by simp at h; omega
    simp only [h3,decide_true,Bool.true_and] at hR
    refine gx (an tyProofC0 w1) ?_
    refine ⟨j+1,⟨h2,hR⟩,le_stOf _ _ [] [] ?_ ?_ rfl rfl,by simp; omega⟩
    ·simp [cv,cvL,cv1,cv0,upd,lk,srcOf,intD,bbI,bI]
    ·simp
  ·have h2:¬ j < q.length:=by simp at h; omega
   clear h
   rw [List.drop_eq_nil_of_le (by omega)] at hR
   refine gx tyProofC0 ?_
   refine fin_ret [] rfl ?_
   simp [cv,cv1,cv0,upd,hR,boolD]
end Go.Proofs.YtadoaljnfeoecaaGreatDoor
set_option linter.all false
namespace Go.Proofs.YtadoaljnfeoecaaGreatDoor
open Go Go.Abs Go.RowKit Go.Proofs.YtadoaljnfeoecaaGreatDoor.Ty
theorem tyProofT0:(type_of% @Ty.T3)∧(type_of% @Ty.T5)∧(type_of% @Ty.T29)∧(type_of% @Ty.T40):=⟨@Ty.T3,@Ty.T5,@Ty.T29,@Ty.T40⟩
theorem tyProofT1:(type_of% @Ty.T3)∧(type_of% @Ty.T4)∧(type_of% @Ty.T5)∧(type_of% @Ty.T29)∧(type_of% @Ty.T40)∧(type_of% @Ty.T42)∧(type_of% @Ty.T246):=⟨@Ty.T3,@Ty.T4,@Ty.T5,@Ty.T29,@Ty.T40,@Ty.T42,@Ty.T246⟩
def foldR (leaf:List UInt8):Nat→Nat→List (List UInt8)→List UInt8 × Bool
 | _,n,[]=>if n=1 then (leaf,true) else ([],false)
 | i,n,d :: r=>if n=1 then (leaf,false) else if i < splitF n then (nodeF (foldR leaf i (splitF n) r).1 d,(foldR leaf i (splitF n) r).2)
   else (nodeF d (foldR leaf (i - splitF n) (n - splitF n) r).1,(foldR leaf (i - splitF n) (n - splitF n) r).2)
theorem foldR_len (leaf:List UInt8) (h:leaf.length≤32):∀ (r:List (List UInt8)) (i n:Nat),(foldR leaf i n r).1.length≤32:=by
 intro r
 induction r with
 | nil=>intro i n; simp only [foldR]; split <;> simp [h]
 | cons d r ih =>
  intro i n; simp only [foldR]; split
  ·exact h
  ·split <;> simp only [nodeF] <;> exact Nat.le_of_eq (sha_length _)
set_option maxHeartbeats 4000000
theorem ptree_A (leaf:List UInt8) (hlf:leaf.length≤32):∀ (r:List (List UInt8)) (i n:Nat),(∀ d∈r,d.length=32)→r.length≤1048576→i≤1048576→1≤n→n≤1048576 →
  PureD Tryz.prog 159 [.i (bI leaf),intD i,intD n,.i (bbI r.reverse)] (.tup [.i (bI (foldR leaf i n r).1),boolD (foldR leaf i n r).2]):=by
 intro r
 induction r with
 | nil =>
  intro i n _ _ _ h1 h2
  by_cases hn:n=1
  ·subst hn
   simp only [foldR,if_true]
   refine callD_W 71 Tryz.func159 rfl rfl rfl (fun _ _=>rfl) ?_
   refine gx (an (an (an (an (an tyProofT0 @intD.eq_1) @bI.eq_1) @bbI.eq_1) @List.reverse_nil.{0}) @List.map_nil.{0,0}) ?_
   refine fin_tt [] rfl ?_
   simp [cv,cvT,cv1,cv0,upd,intD,boolD,bI]
  ·simp only [foldR,hn,if_false]
   have g1:decide ((n:Int)=1)=false:=by simp; omega
   refine callD_W 71 Tryz.func159 rfl rfl rfl (fun _ _=>rfl) ?_
   refine gx (an (an (an (an (an (an tyProofT0 @intD.eq_1) @bI.eq_1) @bbI.eq_1) @List.reverse_nil.{0}) @List.map_nil.{0,0}) g1) ?_
   refine fin_tt [] rfl ?_
   simp [cv,cvT,cv1,cv0,upd,intD,boolD,bI]
 | cons d r ih =>
  intro i n hd hr hi h1 h2
  have hd0:d.length=32:=hd d (by simp)
  simp only [List.length_cons] at hr
  have L1:((d :: r).reverse.map fun b=>[bI b]).length=r.length+1:=by simp
  have L2:((d :: r).reverse.map fun b=>[bI b])[r.length]?=some [bI d]:=by simp
  have L3:((d :: r).reverse.map fun b=>[bI b]).take r.length=r.reverse.map fun b=>[bI b]:=by simp
  have L4:uni 1 ((d :: r).reverse.map fun b=>[bI b])=true:=by simp [uni]
  have hq:bbI (d :: r).reverse=.sl ((d :: r).reverse.map fun b=>[bI b]):=rfl
  rw [hq]
  generalize ((d :: r).reverse.map fun b=>[bI b])=L at *
  clear hq
  by_cases hn:n=1
  ·subst hn
   simp only [foldR,if_true]
   have g1:decide (((r.length+1:Nat):Int)=0)=false:=by simp; omega
   refine callD_W 71 Tryz.func159 rfl rfl rfl (fun _ _=>rfl) ?_
   refine gx (an (an (an tyProofT0 @intD.eq_1) @L1) g1) ?_
   refine fin_tt [] rfl ?_
   simp [cv,cvT,cv1,cv0,upd,intD,boolD,bI]
  ·have hs:=splitF_lt (n:=n) (by omega)
   have hsp:=split_A n h1 h2
   have i1:=ih i (splitF n) (fun d hd'=>hd d (by simp [hd'])) (by omega) hi (by omega) (by omega)
   have i2:=ih (i - splitF n) (n - splitF n) (fun d hd'=>hd d (by simp [hd'])) (by omega) (by omega) (by omega) (by omega)
   have n1:=foldR_len leaf hlf r i (splitF n)
   have n2:=foldR_len leaf hlf r (i - splitF n) (n - splitF n)
   have g1:decide ((n:Int)=1)=false:=by simp; omega
   have g2:decide (((r.length+1:Nat):Int)=0)=false:=by simp; omega
   have g4:((r.length:Int)≤((r.length+1:Nat):Int))=True:=eq_true (by omega)
   have w1:IntKind.i64.wrap (((r.length+1:Nat):Int) - 1)=(r.length:Int):=by rw [wrap64 (by omega) (by omega)]; omega
   have hc1:i < splitF n→foldR leaf i n (d :: r)=(nodeF (foldR leaf i (splitF n) r).1 d,(foldR leaf i (splitF n) r).2):=fun h=>by simp only [foldR,if_neg hn,if_pos h]
   have hc2:¬ i < splitF n→foldR leaf i n (d :: r)=(nodeF d (foldR leaf (i - splitF n) (n - splitF n) r).1,(foldR leaf (i - splitF n) (n - splitF n) r).2):=fun h=>by simp only [foldR,if_neg hn,if_neg h]
   clear hd
   generalize splitF n=k at *
   simp only [bbI] at i1 i2
   rw [← L3] at i1 i2
   by_cases hc:i < k
   ·have g3:decide ((i:Int) < (k:Int))=true:=by simp; omega
    rw [hc1 hc]
    clear i2 hc1 hc2
    generalize foldR leaf i k r=T at *
    have hnd:=node_A T.1 d (by omega) (by omega)
    generalize nodeF T.1 d=R at *
    refine callD_W 71 Tryz.func159 rfl rfl rfl (fun _ _=>rfl) ?_
    (refine gy (an (an (an (an (an tyProofT0 @intD.eq_1) @L1) g1) g2) w1) ?_; try intro ops hops)
    (first | refine Call_flat [] [] (hsp) (by simp [cvAs,cvA,cvRL,cvR,cvBox,cv1,cvL,cv0,bI,byteI,bbI,intD,boolD,proofD,elemsOf,upd]) rfl ?_ | refine CallF_flat [] [] [] (hsp) (fun G _=>by simp [cvAs,cvA,cvRL,cvR,cvBox,cv1,cvL,cv0,bI,byteI,bbI,intD,boolD,proofD,elemsOf,upd]) rfl ?_)
    (refine gy (an (an (an (an (an tyProofT0 @intD.eq_1) g3) @L1) @L4) g4) ?_; try intro ops hops)
    (first | refine Call_frz [] (i1) (by simp [cvAs,cvA,cvRL,cvR,cvBox,cv1,cvL,cv0,bI,byteI,bbI,intD,boolD,proofD,elemsOf,upd]) ?_ | refine CallF_frz [] [] (i1) (fun G _=>by simp [cvAs,cvA,cvRL,cvR,cvBox,cv1,cvL,cv0,bI,byteI,bbI,intD,boolD,proofD,elemsOf,upd]) (by simp) ?_)
    (refine gy (an (an tyProofT0 @boolD.eq_1) @L2) ?_; try intro ops hops)
    (first | refine Call_frz [] (hnd) (by simp [cvAs,cvA,cvRL,cvR,cvBox,cv1,cvL,cv0,bI,byteI,bbI,intD,boolD,proofD,elemsOf,upd]) ?_ | refine CallF_frz [] [] (hnd) (fun G _=>by simp [cvAs,cvA,cvRL,cvR,cvBox,cv1,cvL,cv0,bI,byteI,bbI,intD,boolD,proofD,elemsOf,upd]) (by simp) ?_)
    refine gx (an tyProofT0 @bI.eq_1) ?_
    refine fin_tt [] rfl ?_
    simp [cv,cvT,cv1,cv0,upd,intD,boolD,bI]
   ·have g3:decide ((i:Int) < (k:Int))=false:=by simp; omega
    have w2:IntKind.i64.wrap ((i:Int) - (k:Int))=((i - k:Nat):Int):=by rw [wrap64 (by omega) (by omega)]; omega
    have w3:IntKind.i64.wrap ((n:Int) - (k:Int))=((n - k:Nat):Int):=by rw [wrap64 (by omega) (by omega)]; omega
    rw [hc2 hc]
    clear i1 hc1 hc2
    generalize foldR leaf (i - k) (n - k) r=T at *
    have hnd:=node_A d T.1 (by omega) (by omega)
    generalize nodeF d T.1=R at *
    refine callD_W 71 Tryz.func159 rfl rfl rfl (fun _ _=>rfl) ?_
    (refine gy (an (an (an (an (an tyProofT0 @intD.eq_1) @L1) g1) g2) w1) ?_; try intro ops hops)
    (first | refine Call_flat [] [] (hsp) (by simp [cvAs,cvA,cvRL,cvR,cvBox,cv1,cvL,cv0,bI,byteI,bbI,intD,boolD,proofD,elemsOf,upd]) rfl ?_ | refine CallF_flat [] [] [] (hsp) (fun G _=>by simp [cvAs,cvA,cvRL,cvR,cvBox,cv1,cvL,cv0,bI,byteI,bbI,intD,boolD,proofD,elemsOf,upd]) rfl ?_)
    (refine gy (an (an (an (an (an (an (an tyProofT0 @intD.eq_1) g3) @L1) @L4) g4) w2) w3) ?_; try intro ops hops)
    (first | refine Call_frz [] (i2) (by simp [cvAs,cvA,cvRL,cvR,cvBox,cv1,cvL,cv0,bI,byteI,bbI,intD,boolD,proofD,elemsOf,upd]) ?_ | refine CallF_frz [] [] (i2) (fun G _=>by simp [cvAs,cvA,cvRL,cvR,cvBox,cv1,cvL,cv0,bI,byteI,bbI,intD,boolD,proofD,elemsOf,upd]) (by simp) ?_)
    (refine gy (an (an tyProofT0 @boolD.eq_1) @L2) ?_; try intro ops hops)
    (first | refine Call_frz [] (hnd) (by simp [cvAs,cvA,cvRL,cvR,cvBox,cv1,cvL,cv0,bI,byteI,bbI,intD,boolD,proofD,elemsOf,upd]) ?_ | refine CallF_frz [] [] (hnd) (fun G _=>by simp [cvAs,cvA,cvRL,cvR,cvBox,cv1,cvL,cv0,bI,byteI,bbI,intD,boolD,proofD,elemsOf,upd]) (by simp) ?_)
    refine gx (an tyProofT0 @bI.eq_1) ?_
    refine fin_tt [] rfl ?_
    simp [cv,cvT,cv1,cv0,upd,intD,boolD,bI]
def treeOf (p:ProofD):List UInt8 × Bool:=foldR (leafF p.k p.v) p.i.toNat p.n.toNat p.path.reverse
def shownF (root:List UInt8) (p:ProofD):Bool:=formF p && (treeOf p).2 && decide (topF p.n.toNat (treeOf p).1=root)
theorem formF_yes {p:ProofD} (h:formF p=true):1≤p.n∧p.n≤200∧0≤p.i∧p.i < p.n∧p.k.length≤60∧p.v.length≤200∧p.path.length≤40∧∀ d∈p.path,d.length=32:=by
 simp [formF,formG] at h
 exact ⟨by omega,by omega,by omega,by omega,by omega,by omega,by omega,h.2⟩
theorem shown_A (root:List UInt8) (p:ProofD):PureD Tryz.prog 139 [.i (bI root),proofD p] (boolD (shownF root p)):=by
 have hfm:=form_A p
 unfold shownF treeOf
 cases hf:formF p
 ·rw [hf] at hfm
  simp only [Bool.false_and]
  refine callD_W 33 Tryz.func139 rfl rfl rfl (fun _ _=>rfl) ?_
  refine gx (an (an tyProofT1 @proofD.eq_1) @intD.eq_1) ?_
  refine Call_flat [] [1000] hfm ⟨.inr ⟨1000,_,_,rfl,.inl ⟨by simp,rfl,_,by simp [upd]; rfl,by simp [formI,cvBox,cv0]⟩⟩,trivial⟩ rfl ?_
  refine gx (an tyProofT1 @boolD.eq_1) ?_
  refine fin_ret [] rfl ?_
  simp [cv,cv1,cv0,upd,boolD]
 ·rw [hf] at hfm
  simp only [Bool.true_and]
  obtain ⟨a1,a2,a3,a4,a5,a6,a7,a8⟩:=formF_yes hf
  clear hf
  have hl:=leaf_A p.k p.v (by omega) (by omega)
  have hlen:(leafF p.k p.v).length=32:=sha_length _
  generalize leafF p.k p.v=F at *
  have ht:=ptree_A F (by omega) p.path.reverse p.i.toNat p.n.toNat (fun d hd=>a8 d (by simpa using hd)) (by simp; omega) (by omega) (by omega) (by omega)
  have hT:=foldR_len F (by omega) p.path.reverse p.i.toNat p.n.toNat
  rw [List.reverse_reverse,Int.toNat_of_nonneg a3,Int.toNat_of_nonneg (by omega)] at ht
  generalize foldR F p.i.toNat p.n.toNat p.path.reverse=T at *
  have htp:=top_A p.n.toNat T.1 (by omega)
  rw [Int.toNat_of_nonneg (by omega)] at htp
  generalize topF p.n.toNat T.1=R at *
  clear a1 a2 a3 a4 a5 a6 a7 a8
  obtain ⟨i,n,k,v,q⟩:=p
  obtain ⟨t,ok⟩:=T
  simp only at *
  refine callD_W 33 Tryz.func139 rfl rfl rfl (fun _ _=>rfl) ?_
  refine gx (an (an tyProofT1 @proofD.eq_1) @intD.eq_1) ?_
  refine Call_flat [] [1000] hfm ⟨.inr ⟨1000,_,_,rfl,.inl ⟨by simp,rfl,_,by simp [upd]; rfl,by simp [formI,cvBox,cv0]⟩⟩,trivial⟩ rfl ?_
  (refine gy (an tyProofT1 @boolD.eq_1) ?_; try intro ops hops)
  (first | refine Call_frz [] (hl) (by simp [cvAs,cvA,cvRL,cvR,cvBox,cv1,cvL,cv0,bI,byteI,bbI,intD,boolD,proofD,elemsOf,upd]) ?_ | refine CallF_frz [] [] (hl) (fun G _=>by simp [cvAs,cvA,cvRL,cvR,cvBox,cv1,cvL,cv0,bI,byteI,bbI,intD,boolD,proofD,elemsOf,upd]) (by simp) ?_)
  (refine gy tyProofT1 ?_; try intro ops hops)
  (first | refine Call_frz [] (ht) (by simp [cvAs,cvA,cvRL,cvR,cvBox,cv1,cvL,cv0,bI,byteI,bbI,intD,boolD,proofD,elemsOf,upd]) ?_ | refine CallF_frz [] [] (ht) (fun G _=>by simp [cvAs,cvA,cvRL,cvR,cvBox,cv1,cvL,cv0,bI,byteI,bbI,intD,boolD,proofD,elemsOf,upd]) (by simp) ?_)
  cases ok
  ·refine gx (an tyProofT1 @boolD.eq_1) ?_
   refine fin_ret [] rfl ?_
   simp [cv,cv1,cv0,upd,boolD]
  ·(refine gy (an tyProofT1 @boolD.eq_1) ?_; try intro ops hops)
   (first | refine Call_frz [] (htp) (by simp [cvAs,cvA,cvRL,cvR,cvBox,cv1,cvL,cv0,bI,byteI,bbI,intD,boolD,proofD,elemsOf,upd]) ?_ | refine CallF_frz [] [] (htp) (fun G _=>by simp [cvAs,cvA,cvRL,cvR,cvBox,cv1,cvL,cv0,bI,byteI,bbI,intD,boolD,proofD,elemsOf,upd]) (by simp) ?_)
   (refine gy tyProofT1 ?_; try intro ops hops)
   (first | refine Call_flat [] [] (equal_A R root) (by simp [cvAs,cvA,cvRL,cvR,cvBox,cv1,cvL,cv0,bI,byteI,bbI,intD,boolD,proofD,elemsOf,upd]) rfl ?_ | refine CallF_flat [] [] [] (equal_A R root) (fun G _=>by simp [cvAs,cvA,cvRL,cvR,cvBox,cv1,cvL,cv0,bI,byteI,bbI,intD,boolD,proofD,elemsOf,upd]) rfl ?_)
   refine gx tyProofT1 ?_
   refine fin_ret [] rfl ?_
   simp [cv,cv1,cv0,upd,boolD]
end Go.Proofs.YtadoaljnfeoecaaGreatDoor
set_option linter.all false
namespace Go.Proofs.YtadoaljnfeoecaaGreatDoor
open Go Go.Abs Go.RowKit Go.Proofs.YtadoaljnfeoecaaGreatDoor.Ty
theorem tyR1Same0:(type_of% @Ty.T3)∧(type_of% @Ty.T5)∧(type_of% @Ty.T29):=⟨@Ty.T3,@Ty.T5,@Ty.T29⟩
set_option maxHeartbeats 1000000
theorem same_A (x y:List UInt8) (hx:x.length≤1099511627776):PureD Tryz.prog 69 [.i (bI x),.i (bI y)] (.i (.s (.bool (decide (x=y))))):=by
 refine callD_W 26 Tryz.func69 rfl rfl rfl (fun _ _=>rfl) ?_
 refine gx (an tyR1Same0 @bI.eq_1) ?_
 refine Wc_split (fun h=>?_) (fun h=>?_)
 ·refine gx (an tyR1Same0 @bI.eq_1) ?_
  refine fin_ret [] rfl ?_
  have:x≠y:=by intro e; subst e; simp at h
  simp [cv,cv1,cv0,upd,this]
 ·have hl:x.length=y.length:=by simp at h; omega
  clear h
  refine gx (an tyR1Same0 @bI.eq_1) ?_
  refine W_loop (ι:={ k:Nat // k≤x.length∧x.take k=y.take k }) (fun k=>stOf [(0,.i (.sl (x.map byteI))),(1,.i (.sl (y.map byteI))),(12,.i (.s (.int .i64 x.length))),(13,.i (.s (.int .i64 (k.1:Nat))))] []) (fun k=>x.length - k.1) ⟨0,by simp⟩ ?_ ?_
  ·refine le_stOf _ _ [] [] ?_ ?_ rfl rfl
   ·simp [cv,cv1,cv0,upd,lk]
   ·simp
  ·rintro ⟨k,hk,ht⟩
   rw [stOf_eq]
   refine gx tyR1Same0 ?_
   refine Wc_split (fun h=>?_) (fun h=>?_)
   ·have hlt:k < x.length:=by simp at h; omega
    clear h
    have e1:(x.map byteI)[k]?=some [.s (.int .u8 (x[k].toNat:Int))]:=by simp [hlt,byteI]
    have e2:(y.map byteI)[k]?=some [.s (.int .u8 ((y[k]'(by omega)).toNat:Int))]:=by simp [show k < y.length by omega,byteI]
    refine gx (an (an tyR1Same0 e1) e2) ?_
    refine Wc_split (fun h=>?_) (fun h=>?_)
    ·refine gx tyR1Same0 ?_
     refine fin_ret [] rfl ?_
     have:x≠y:=by intro e; subst e; simp at h
     simp [cv,cv1,cv0,upd,this]
    ·have hb:x[k]=y[k]:=UInt8.toNat_inj.1 (by simp at h; omega)
     clear h
     have hw:IntKind.i64.wrap ((k:Int)+1)=((k+1:Nat):Int):=by rw [wrap64 (by omega) (by omega)]; omega
     refine gx (an tyR1Same0 @hw) ?_
     refine ⟨⟨k+1,hlt,?_⟩,le_stOf _ _ [] [] ?_ ?_ rfl rfl,?_⟩
     ·rw [List.take_succ_eq_append_getElem hlt,List.take_succ_eq_append_getElem (by omega),ht,hb]
     ·simp [cv,cv1,cv0,upd,lk]
     ·simp
     ·simp; omega
   ·have hk':k=x.length:=by simp at h; omega
    subst hk'
    refine gx tyR1Same0 ?_
    refine fin_ret [] rfl ?_
    have:x=y:=by rw [List.take_length,hl,List.take_length] at ht; exact ht
    simp [cv,cv1,cv0,upd,this]
end Go.Proofs.YtadoaljnfeoecaaGreatDoor
set_option linter.all false
namespace Go.Proofs.YtadoaljnfeoecaaGreatDoor
open Go Go.Abs Go.RowKit Go.Proofs.YtadoaljnfeoecaaGreatDoor.Ty
structure GapD where
 hl:Bool
 hr:Bool
 left:ProofD
 right:ProofD
def gapD (g:GapD):D:=.agg [boolD g.hl,boolD g.hr,intD g.left.i,intD g.left.n,.i (bI g.left.k),.i (bI g.left.v),.i (bbI g.left.path),intD g.right.i,intD g.right.n,.i (bI g.right.k),.i (bI g.right.v),.i (bbI g.right.path)]
set_option maxHeartbeats 4000000
end Go.Proofs.YtadoaljnfeoecaaGreatDoor
set_option linter.all false
namespace Go.Proofs.YtadoaljnfeoecaaGreatDoor
open Go Go.Abs Go.RowKit Go.Proofs.YtadoaljnfeoecaaGreatDoor.Ty
def absentF (root key:List UInt8) (g:GapD):Bool :=
 match g.hl,g.hr with
 | false,false=>decide (topF 0 []=root)
 | true,false=>shownF root g.left && decide (Lib.compareBytes g.left.k key < 0) && decide (g.left.i=g.left.n - 1)
 | false,true=>shownF root g.right && decide (Lib.compareBytes key g.right.k < 0) && decide (g.right.i=0)
 | true,true=>shownF root g.left && decide (Lib.compareBytes g.left.k key < 0) && (shownF root g.right && decide (Lib.compareBytes key g.right.k < 0)) && (decide (g.left.n=g.right.n) && decide (g.left.i+1=g.right.i))
theorem shownF_form {r:List UInt8} {p:ProofD} (h:shownF r p=true):formF p=true:=by
 unfold shownF at h; simp only [Bool.and_eq_true] at h; exact h.1.1
attribute [local simp,local go_sem] proofD gapD bbI
set_option maxHeartbeats 4000000
set_option maxRecDepth 20000
theorem absent_A (root key:List UInt8) (g:GapD):PureD Tryz.prog 144 [.i (bI root),.i (bI key),gapD g] (boolD (absentF root key g)):=by
 refine hide_r fun R hR=>?_
 obtain ⟨hl,hr,⟨li,ln,lk,lv,lp⟩,⟨ri,rn,rk,rv,rp⟩⟩:=g
 have c1:=shown_A root ⟨li,ln,lk,lv,lp⟩
 have c2:=shown_A root ⟨ri,rn,rk,rv,rp⟩
 have c3:=cmp_A lk key
 have c4:=cmp_A key rk
 have c5:=top_A 0 [] (by simp)
 have c6:=equal_A (topF 0 []) root
 have fL:shownF root ⟨li,ln,lk,lv,lp⟩=true→1≤ln∧ln≤200∧0≤li∧li < ln:=fun h=>by
  obtain ⟨a1,a2,a3,a4,_⟩:=formF_yes (shownF_form h)
  exact ⟨a1,a2,a3,a4⟩
 cases hl <;> cases hr <;> simp only [absentF] at hR
 ·clear c1 c2 fL
  generalize topF 0 []=T at *
  refine callD_W 89 Tryz.func144 rfl rfl rfl (fun _ _=>rfl) ?_
  exact wkl trivial
 ·clear c1 fL
  generalize shownF root ⟨ri,rn,rk,rv,rp⟩=S at *
  generalize Lib.compareBytes key rk=C at *
  cases S <;> by_cases q:C < 0 <;> simp only [q,decide_true,decide_false,Bool.true_and,Bool.false_and,Bool.and_false,Bool.and_true] at hR
  all_goals
   refine callD_W 89 Tryz.func144 rfl rfl rfl (fun _ _=>rfl) ?_
   exact wkl trivial
 ·clear c2
  generalize shownF root ⟨li,ln,lk,lv,lp⟩=S at *
  generalize Lib.compareBytes lk key=C at *
  cases S <;> by_cases q:C < 0 <;> simp only [q,decide_true,decide_false,Bool.true_and,Bool.false_and,Bool.and_false,Bool.and_true] at hR
  all_goals
   try (have fL:=fL rfl)
   refine callD_W 89 Tryz.func144 rfl rfl rfl (fun _ _=>rfl) ?_
   exact wkl trivial
 ·generalize shownF root ⟨li,ln,lk,lv,lp⟩=S at *
  generalize shownF root ⟨ri,rn,rk,rv,rp⟩=S' at *
  generalize Lib.compareBytes lk key=C at *
  generalize Lib.compareBytes key rk=C' at *
  cases S
  ·simp only [Bool.false_and] at hR
   refine callD_W 89 Tryz.func144 rfl rfl rfl (fun _ _=>rfl) ?_
   exact wkl trivial
  ·have fL:=fL rfl
   by_cases q:C < 0
   ·cases S' <;> by_cases q':C' < 0 <;> simp only [q,q',decide_true,decide_false,Bool.true_and,Bool.false_and,Bool.and_false,Bool.and_true] at hR
    all_goals
     refine callD_W 89 Tryz.func144 rfl rfl rfl (fun _ _=>rfl) ?_
     exact wkl trivial
   ·simp only [q,decide_false,Bool.and_false,Bool.false_and] at hR
    refine callD_W 89 Tryz.func144 rfl rfl rfl (fun _ _=>rfl) ?_
    exact wkl trivial
end Go.Proofs.YtadoaljnfeoecaaGreatDoor
