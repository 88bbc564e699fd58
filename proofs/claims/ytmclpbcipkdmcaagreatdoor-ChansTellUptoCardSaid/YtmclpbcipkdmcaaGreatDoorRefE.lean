/- landref5.Shown, Absent: by value. -/
import Derived.Test.YtmclpbcipkdmcaaGreatDoorRefD
set_option linter.all false
namespace Go.Proofs.YtmclpbcipkdmcaaGreatDoor
open Go Go.Abs Go.RowKit Go.Proofs.YtmclpbcipkdmcaaGreatDoor.Ty
theorem tyRefE0:(type_of% @Ty.T3)∧(type_of% @Ty.T4)∧(type_of% @Ty.T5)∧(type_of% @Ty.T29)∧(type_of% @Ty.T30)∧(type_of% @Ty.T32)∧(type_of% @Ty.T168)∧(type_of% @Ty.T172):=⟨@Ty.T3,@Ty.T4,@Ty.T5,@Ty.T29,@Ty.T30,@Ty.T32,@Ty.T168,@Ty.T172⟩
def foldW (leaf:List UInt8):List TurnD→List (List UInt8)→List UInt8
 | t :: w,d :: r=>if t.r then nodeF d (foldW leaf w r) else nodeF (foldW leaf w r) d
 | _,_=>leaf
theorem foldW_len (leaf:List UInt8) (h:leaf.length≤32):∀ (w:List TurnD) (r:List (List UInt8)),(foldW leaf w r).length≤32
 | t :: w,d :: r=>by
  simp only [foldW]; split <;> simp only [nodeF] <;> exact Nat.le_of_eq (sha_length _)
 | [],_=>by simp only [foldW]; exact h
 | _ :: _,[]=>by simp only [foldW]; exact h
theorem foldR_way (leaf:List UInt8):∀ (r:List (List UInt8)) (i n fr:Nat),1≤n→((foldR leaf i n r).2=decide ((wayF fr i n).length=r.length))∧((wayF fr i n).length=r.length→(foldR leaf i n r).1=foldW leaf (wayF fr i n) r):=by
 intro r
 induction r with
 | nil =>
  intro i n fr h1
  by_cases hn:n=1
  ·subst hn
   rw [wayF_one (by omega)]
   simp [foldR,foldW]
  ·have hs:=splitF_lt (n:=n) (by omega)
   simp only [foldR,if_neg hn]
   by_cases hc:i < splitF n
   ·rw [wayF_lo (by omega) hc]; simp
   ·rw [wayF_hi (by omega) hc]; simp
 | cons d r ih =>
  intro i n fr h1
  by_cases hn:n=1
  ·subst hn
   rw [wayF_one (by omega)]
   simp [foldR]
  ·have hs:=splitF_lt (n:=n) (by omega)
   simp only [foldR,if_neg hn]
   by_cases hc:i < splitF n
   ·rw [wayF_lo (by omega) hc,if_pos hc]
    have:=ih i (splitF n) fr (by omega)
    simp only [List.length_cons,Nat.add_right_cancel_iff,foldW,Bool.false_eq_true,if_false]
    exact ⟨this.1,fun h=>by rw [this.2 h]⟩
   ·rw [wayF_hi (by omega) hc,if_neg hc]
    have:=ih (i - splitF n) (n - splitF n) (fr+splitF n) (by omega)
    simp only [List.length_cons,Nat.add_right_cancel_iff,foldW,if_true]
    exact ⟨this.1,fun h=>by rw [this.2 h]⟩
theorem foldW_step (leaf:List UInt8) {w:List TurnD} {q:List (List UInt8)} {k:Nat} (hw:w.length=q.length) (hk:k < q.length) :
  foldW leaf (w.drop (w.length - (k+1))) (q.take (k+1)).reverse=if (w[w.length - 1 - k]'(by omega)).r then nodeF q[k] (foldW leaf (w.drop (w.length - k)) (q.take k).reverse) else nodeF (foldW leaf (w.drop (w.length - k)) (q.take k).reverse) q[k]:=by
 rw [List.take_succ_eq_append_getElem hk,List.reverse_append,List.reverse_cons,List.reverse_nil,List.nil_append,List.singleton_append]
 have e:w.length - (k+1)=w.length - 1 - k:=by omega
 rw [e,List.drop_eq_getElem_cons (by omega),show w.length - 1 - k+1=w.length - k by omega]
 rfl
def rbad (p:ProofD):Bool:=decide (p.n < 1) || decide (200 < p.n) || decide (p.i < 0) || decide (p.n≤p.i) || decide (60 < p.k.length) || decide (200 < p.v.length)
theorem shownF_ref (root:List UInt8) (p:ProofD):shownF root p=(!rbad p && decide ((wayF 0 p.i.toNat p.n.toNat).length=p.path.length) && (p.path.all fun d=>decide (d.length=32)) && decide (topF p.n.toNat (foldW (leafF p.k p.v) (wayF 0 p.i.toNat p.n.toNat) p.path.reverse)=root)):=by
 unfold shownF formF formG
 rw [show (decide (p.n < 1) || decide (200 < p.n) || decide (p.i < 0) || decide (p.n≤p.i) || decide (60 < p.k.length) || decide (200 < p.v.length))=rbad p from rfl]
 cases hb:rbad p
 ·have hb':=hb
  simp only [rbad,Bool.or_eq_false_iff] at hb'
  obtain ⟨⟨⟨⟨⟨b1,b2⟩,b3⟩,b4⟩,b5⟩,b6⟩:=hb'
  have b1:=of_decide_eq_false b1
  have b2:=of_decide_eq_false b2
  have h:=foldR_way (leafF p.k p.v) p.path.reverse p.i.toNat p.n.toNat 0 (by omega)
  rw [List.length_reverse] at h
  have hw:=wayF_short 8 p.n.toNat 0 p.i.toNat (by omega)
  unfold treeOf
  rw [h.1]
  by_cases hl:(wayF 0 p.i.toNat p.n.toNat).length=p.path.length
  ·rw [h.2 hl,decide_eq_true hl,decide_eq_false (by omega)]
   simp only [Bool.or_self,Bool.not_false,Bool.true_and,Bool.and_true]
  ·rw [decide_eq_false hl]; simp
 ·simp
set_option maxHeartbeats 4000000
theorem rshown_A (root:List UInt8) (p:ProofD) (hroot:root.length≤1048576):PureD Tryz.prog 60 [.i (bI root),proofD p] (boolD (shownF root p)):=by
 rw [shownF_ref]
 have hN:rbad p=true→(!rbad p && decide ((wayF 0 p.i.toNat p.n.toNat).length=p.path.length) && (p.path.all fun d=>decide (d.length=32)) && decide (topF p.n.toNat (foldW (leafF p.k p.v) (wayF 0 p.i.toNat p.n.toNat) p.path.reverse)=root))=false:=fun h=>by rw [h]; rfl
 generalize hR:(!rbad p && decide ((wayF 0 p.i.toNat p.n.toNat).length=p.path.length) && (p.path.all fun d=>decide (d.length=32)) && decide (topF p.n.toNat (foldW (leafF p.k p.v) (wayF 0 p.i.toNat p.n.toNat) p.path.reverse)=root))=R at *
 have hR2:R=(!rbad p && decide ((wayF 0 p.i.toNat p.n.toNat).length=p.path.length) && (p.path.all fun d=>decide (d.length=32)) && decide (topF p.n.toNat (foldW (leafF p.k p.v) (wayF 0 p.i.toNat p.n.toNat) p.path.reverse)=root)):=hR.symm
 clear hR
 unfold rbad at *
 obtain ⟨i,n,k,v,q⟩:=p
 simp only [proofD] at *
 have hl:(q.map fun b=>[bI b]).length=q.length:=by simp
 have e0:∀ j (h:j < q.length),(q.map fun b=>[bI b])[j]?=some [bI q[j]]:=fun j h=>by rw [List.getElem?_map,List.getElem?_eq_getElem h]; rfl
 cases g1:decide (n < 1)
 case true =>
  rw [hN (by simp [g1])]
  refine callD_W 90 Tryz.func60 rfl rfl rfl (fun _ _=>rfl) ?_
  (repeat (first | (simp -implicitDefEqProofs only [ev,mixed,Nat.reduceLT,Nat.reduceAdd,Nat.reduceMul,reduceIte,Nat.reduceEqDiff,reduceCtorEq,Nat.reducePow,Nat.reduceLeDiff,Int.reduceLE,Int.reduceLT,Int.reduceToNat,Int.reduceEq,Nat.reduceBEq,itsOf,gdA,byteI,opid,lenQ,ixQ,ldH,readAt,readCells,asCell,faQ,exQ,fldQ,partA,buildQ,slQ,stH,bslH,appH,dcells,convI,elemsOf,D.one,nilS,fillD,convN,cvH,tyRefE0,intD,g1]) | (with_reducible refine ⟨?_,?_⟩; (· first | (obtain ⟨rfl⟩:=‹Hq _ _›; with_reducible refine chk_ok ?_; kernel_rfl) | kernel_rfl)) | (with_reducible intro ops hops)))
  refine fin_ret [] rfl ?_
  simp [cv,cv1,cv0,upd,boolD]
 cases g2:decide ((200:Int) < n)
 case true =>
  rw [hN (by simp [g2])]
  refine callD_W 90 Tryz.func60 rfl rfl rfl (fun _ _=>rfl) ?_
  (repeat (first | (simp -implicitDefEqProofs only [ev,mixed,Nat.reduceLT,Nat.reduceAdd,Nat.reduceMul,reduceIte,Nat.reduceEqDiff,reduceCtorEq,Nat.reducePow,Nat.reduceLeDiff,Int.reduceLE,Int.reduceLT,Int.reduceToNat,Int.reduceEq,Nat.reduceBEq,itsOf,gdA,byteI,opid,lenQ,ixQ,ldH,readAt,readCells,asCell,faQ,exQ,fldQ,partA,buildQ,slQ,stH,bslH,appH,dcells,convI,elemsOf,D.one,nilS,fillD,convN,cvH,tyRefE0,intD,g1,g2]) | (with_reducible refine ⟨?_,?_⟩; (· first | (obtain ⟨rfl⟩:=‹Hq _ _›; with_reducible refine chk_ok ?_; kernel_rfl) | kernel_rfl)) | (with_reducible intro ops hops)))
  refine fin_ret [] rfl ?_
  simp [cv,cv1,cv0,upd,boolD]
 cases g3:decide (i < 0)
 case true =>
  rw [hN (by simp [g3])]
  refine callD_W 90 Tryz.func60 rfl rfl rfl (fun _ _=>rfl) ?_
  (repeat (first | (simp -implicitDefEqProofs only [ev,mixed,Nat.reduceLT,Nat.reduceAdd,Nat.reduceMul,reduceIte,Nat.reduceEqDiff,reduceCtorEq,Nat.reducePow,Nat.reduceLeDiff,Int.reduceLE,Int.reduceLT,Int.reduceToNat,Int.reduceEq,Nat.reduceBEq,itsOf,gdA,byteI,opid,lenQ,ixQ,ldH,readAt,readCells,asCell,faQ,exQ,fldQ,partA,buildQ,slQ,stH,bslH,appH,dcells,convI,elemsOf,D.one,nilS,fillD,convN,cvH,tyRefE0,intD,g1,g2,g3]) | (with_reducible refine ⟨?_,?_⟩; (· first | (obtain ⟨rfl⟩:=‹Hq _ _›; with_reducible refine chk_ok ?_; kernel_rfl) | kernel_rfl)) | (with_reducible intro ops hops)))
  refine fin_ret [] rfl ?_
  simp [cv,cv1,cv0,upd,boolD]
 cases g4:decide (n≤i)
 case true =>
  rw [hN (by simp [g4])]
  refine callD_W 90 Tryz.func60 rfl rfl rfl (fun _ _=>rfl) ?_
  (repeat (first | (simp -implicitDefEqProofs only [ev,mixed,Nat.reduceLT,Nat.reduceAdd,Nat.reduceMul,reduceIte,Nat.reduceEqDiff,reduceCtorEq,Nat.reducePow,Nat.reduceLeDiff,Int.reduceLE,Int.reduceLT,Int.reduceToNat,Int.reduceEq,Nat.reduceBEq,itsOf,gdA,byteI,opid,lenQ,ixQ,ldH,readAt,readCells,asCell,faQ,exQ,fldQ,partA,buildQ,slQ,stH,bslH,appH,dcells,convI,elemsOf,D.one,nilS,fillD,convN,cvH,tyRefE0,intD,g1,g2,g3,g4]) | (with_reducible refine ⟨?_,?_⟩; (· first | (obtain ⟨rfl⟩:=‹Hq _ _›; with_reducible refine chk_ok ?_; kernel_rfl) | kernel_rfl)) | (with_reducible intro ops hops)))
  refine fin_ret [] rfl ?_
  simp [cv,cv1,cv0,upd,boolD]
 cases g5:decide ((60:Int) < (k.length:Int))
 case true =>
  rw [hN (by simp at g5; simp; omega)]
  refine callD_W 90 Tryz.func60 rfl rfl rfl (fun _ _=>rfl) ?_
  (repeat (first | (simp -implicitDefEqProofs only [ev,mixed,Nat.reduceLT,Nat.reduceAdd,Nat.reduceMul,reduceIte,Nat.reduceEqDiff,reduceCtorEq,Nat.reducePow,Nat.reduceLeDiff,Int.reduceLE,Int.reduceLT,Int.reduceToNat,Int.reduceEq,Nat.reduceBEq,itsOf,gdA,byteI,opid,lenQ,ixQ,ldH,readAt,readCells,asCell,faQ,exQ,fldQ,partA,buildQ,slQ,stH,bslH,appH,dcells,convI,elemsOf,D.one,nilS,fillD,convN,cvH,tyRefE0,intD,g1,g2,g3,g4,g5,bI]) | (with_reducible refine ⟨?_,?_⟩; (· first | (obtain ⟨rfl⟩:=‹Hq _ _›; with_reducible refine chk_ok ?_; kernel_rfl) | kernel_rfl)) | (with_reducible intro ops hops)))
  refine fin_ret [] rfl ?_
  simp [cv,cv1,cv0,upd,boolD]
 cases g6:decide ((200:Int) < (v.length:Int))
 case true =>
  rw [hN (by simp at g6; simp; omega)]
  refine callD_W 90 Tryz.func60 rfl rfl rfl (fun _ _=>rfl) ?_
  (repeat (first | (simp -implicitDefEqProofs only [ev,mixed,Nat.reduceLT,Nat.reduceAdd,Nat.reduceMul,reduceIte,Nat.reduceEqDiff,reduceCtorEq,Nat.reducePow,Nat.reduceLeDiff,Int.reduceLE,Int.reduceLT,Int.reduceToNat,Int.reduceEq,Nat.reduceBEq,itsOf,gdA,byteI,opid,lenQ,ixQ,ldH,readAt,readCells,asCell,faQ,exQ,fldQ,partA,buildQ,slQ,stH,bslH,appH,dcells,convI,elemsOf,D.one,nilS,fillD,convN,cvH,tyRefE0,intD,g1,g2,g3,g4,g5,g6,bI]) | (with_reducible refine ⟨?_,?_⟩; (· first | (obtain ⟨rfl⟩:=‹Hq _ _›; with_reducible refine chk_ok ?_; kernel_rfl) | kernel_rfl)) | (with_reducible intro ops hops)))
  refine fin_ret [] rfl ?_
  simp [cv,cv1,cv0,upd,boolD]
 clear hN
 have b5:decide (60 < k.length)=false:=by simp at g5 ⊢; omega
 have b6:decide (200 < v.length)=false:=by simp at g6 ⊢; omega
 simp only [g1,g2,g3,g4,b5,b6,Bool.or_self,Bool.not_false,Bool.true_and] at hR2
 have a1:=of_decide_eq_false g1
 have a2:=of_decide_eq_false g2
 have a3:=of_decide_eq_false g3
 have a4:=of_decide_eq_false g4
 have a5:=of_decide_eq_false b5
 have a6:=of_decide_eq_false b6
 have hwy:=way_A i.toNat n.toNat (by omega) (by omega) (by omega)
 have hws:=wayF_short 8 n.toNat 0 i.toNat (by omega)
 rw [Int.toNat_of_nonneg (by omega:0≤i),Int.toNat_of_nonneg (by omega:0≤n)] at hwy
 generalize wayF 0 i.toNat n.toNat=W at *
 by_cases hlq:W.length=q.length
 ·have g7:decide ((W.length:Int)=(q.length:Int))=true:=decide_eq_true (by omega)
  rw [decide_eq_true hlq,Bool.true_and] at hR2
  have hlf:=rleaf_A k v (by omega) (by omega)
  have hll:(leafF k v).length≤32:=Nat.le_of_eq (sha_length _)
  generalize leafF k v=F at *
  have hfl:=foldW_len F hll
  have hst:=fun k (hk:k < q.length)=>foldW_step F hlq hk
  have h0:foldW F (W.drop (W.length - 0)) (q.take 0).reverse=F:=by simp [foldW]
  have hend:foldW F (W.drop (W.length - q.length)) (q.take q.length).reverse=foldW F W q.reverse:=by
   rw [hlq,Nat.sub_self,List.drop_zero,List.take_length]
  have htp:=rtop_A n.toNat (foldW F W q.reverse) (by omega) (by have:=hfl W q.reverse; omega)
  rw [Int.toNat_of_nonneg (by omega:0≤n)] at htp
  generalize hG:(fun k=>foldW F (W.drop (W.length - k)) (q.take k).reverse)=G
  have hGk:∀ k,foldW F (W.drop (W.length - k)) (q.take k).reverse=G k:=fun k=>by rw [← hG]
  have hGl:∀ k,(G k).length≤32:=fun k=>by rw [← hGk]; exact hfl _ _
  clear hG
  simp only [hGk] at h0 hend hst
  clear hGk
  rw [← hend] at htp hR2
  clear hend
  refine callD_W 90 Tryz.func60 rfl rfl rfl (fun _ _=>rfl) ?_
  (repeat (first | (simp -implicitDefEqProofs only [ev,mixed,Nat.reduceLT,Nat.reduceAdd,Nat.reduceMul,reduceIte,Nat.reduceEqDiff,reduceCtorEq,Nat.reducePow,Nat.reduceLeDiff,Int.reduceLE,Int.reduceLT,Int.reduceToNat,Int.reduceEq,Nat.reduceBEq,itsOf,gdA,byteI,opid,lenQ,ixQ,ldH,readAt,readCells,asCell,faQ,exQ,fldQ,partA,buildQ,slQ,stH,bslH,appH,dcells,convI,elemsOf,D.one,nilS,fillD,convN,cvH,tyRefE0,intD,g1,g2,g3,g4,g5,g6,bI]) | (with_reducible refine ⟨?_,?_⟩; (· first | (obtain ⟨rfl⟩:=‹Hq _ _›; with_reducible refine chk_ok ?_; kernel_rfl) | kernel_rfl)) | (with_reducible intro ops hops)))
  (first | refine Call_frz [] (hwy) (by simp [cvAs,cvA,cvRL,cvR,cvBox,cv1,cvL,cv0,bI,byteI,bbI,intD,boolD,proofD,elemsOf,upd]) ?_ | refine CallF_frz [] [] (hwy) (fun G _=>by simp [cvAs,cvA,cvRL,cvR,cvBox,cv1,cvL,cv0,bI,byteI,bbI,intD,boolD,proofD,elemsOf,upd]) (by simp) ?_)
  (repeat (first | (simp -implicitDefEqProofs only [ev,mixed,Nat.reduceLT,Nat.reduceAdd,Nat.reduceMul,reduceIte,Nat.reduceEqDiff,reduceCtorEq,Nat.reducePow,Nat.reduceLeDiff,Int.reduceLE,Int.reduceLT,Int.reduceToNat,Int.reduceEq,Nat.reduceBEq,itsOf,gdA,byteI,opid,lenQ,ixQ,ldH,readAt,readCells,asCell,faQ,exQ,fldQ,partA,buildQ,slQ,stH,bslH,appH,dcells,convI,elemsOf,D.one,nilS,fillD,convN,cvH,tyRefE0,intD,bI,bbI,List.length_map,g7]) | (with_reducible refine ⟨?_,?_⟩; (· first | (obtain ⟨rfl⟩:=‹Hq _ _›; with_reducible refine chk_ok ?_; kernel_rfl) | kernel_rfl)) | (with_reducible intro ops hops)))
  (first | refine Call_frz [] (hlf) (by simp [cvAs,cvA,cvRL,cvR,cvBox,cv1,cvL,cv0,bI,byteI,bbI,intD,boolD,proofD,elemsOf,upd]) ?_ | refine CallF_frz [] [] (hlf) (fun G _=>by simp [cvAs,cvA,cvRL,cvR,cvBox,cv1,cvL,cv0,bI,byteI,bbI,intD,boolD,proofD,elemsOf,upd]) (by simp) ?_)
  (repeat (first | (simp -implicitDefEqProofs only [ev,mixed,Nat.reduceLT,Nat.reduceAdd,Nat.reduceMul,reduceIte,Nat.reduceEqDiff,reduceCtorEq,Nat.reducePow,Nat.reduceLeDiff,Int.reduceLE,Int.reduceLT,Int.reduceToNat,Int.reduceEq,Nat.reduceBEq,itsOf,gdA,byteI,opid,lenQ,ixQ,ldH,readAt,readCells,asCell,faQ,exQ,fldQ,partA,buildQ,slQ,stH,bslH,appH,dcells,convI,elemsOf,D.one,nilS,fillD,convN,cvH,tyRefE0,intD,bI,bbI,List.length_map]) | (with_reducible refine ⟨?_,?_⟩; (· first | (obtain ⟨rfl⟩:=‹Hq _ _›; with_reducible refine chk_ok ?_; kernel_rfl) | kernel_rfl)) | (with_reducible intro ops hops)))
  have hR3:R=(((q.drop 0).all fun d=>decide (d.length=32)) && decide (topF n.toNat (G q.length)=root)):=hR2
  have hsm:=same_A (topF n.toNat (G q.length)) root (by rw [topF,sha_length]; decide)
  generalize topF n.toNat (G q.length)=T at *
  clear hR2
  refine W_loopI (ι:=Nat) (fun j=>j≤q.length∧R=(((q.drop j).all fun d=>decide (d.length=32)) && decide (T=root)))
   (fun j=>stOf [(0,.i (bI root)),(3,.pt 100 0 0 0),(5,.i (.sl (W.map encT))),(6,.i (bI (G j))),(58,.i (bbI q)),(59,intD q.length),(60,intD j)]
    [(100,.box [intD i,intD n,.i (bI k),.i (bI v),.i (bbI q)])]) (fun j=>q.length - j) 0 ⟨Nat.zero_le _,hR3⟩ ?_ ?_
  ·refine le_stOf _ _ [] [(100,1000)] ?_ ?_ rfl rfl
   ·simp [cv,cvL,cv1,cv0,upd,lk,srcOf,intD,bI,bbI,h0]
   ·simp [objOk,srcOf,lk,cvO,cvL,cv0,frz,upd,D.one,intD,hO,bI,bbI]
  ·clear hR3
   rintro j ⟨hj,hR⟩
   rw [stOf_eq]
   by_cases hlt:j < q.length
   ·have g8:decide ((j:Int) < (q.length:Int))=true:=decide_eq_true (by omega)
    have e1:=e0 j hlt
    simp only [bI] at e1
    rw [all_drop hlt] at hR
    by_cases h32:q[j].length=32
    ·have g9:decide ((q[j].length:Int)=32)=true:=decide_eq_true (by omega)
     rw [decide_eq_true h32,Bool.true_and] at hR
     have hjl:W.length - 1 - j < W.length:=by omega
     have e2:(W.map encT)[W.length - 1 - j]?=some [.s (.bool W[W.length - 1 - j].r),.s (.int .i64 (W[W.length - 1 - j].fr:Int)),.s (.int .i64 (W[W.length - 1 - j].n:Int))]:=by rw [List.getElem?_map,List.getElem?_eq_getElem hjl]; rfl
     have w1:IntKind.i64.wrap (IntKind.i64.wrap ((W.length:Int) - 1) - (j:Int))=((W.length - 1 - j:Nat):Int):=by
      have e5:IntKind.i64.wrap ((W.length:Int) - 1)=(W.length:Int) - 1:=wrap64 (by omega) (by omega)
      rw [e5,wrap64 (by omega) (by omega)]; omega
     have w2:IntKind.i64.wrap ((j:Int)+1)=((j+1:Nat):Int):=by rw [wrap64 (by omega) (by omega)]; omega
     have hstep:=hst j hlt
     have hGj:=hGl j
     clear hst
     generalize W[W.length - 1 - j]=t at *
     obtain ⟨tr,tf,tn⟩:=t
     generalize q[j]=d at *
     cases tr
     ·simp only [Bool.false_eq_true,if_false] at hstep
      have hnd:=rnode_A (G j) d (by omega) (by omega)
      rw [← hstep] at hnd
      (repeat (first | (simp -implicitDefEqProofs only [ev,mixed,Nat.reduceLT,Nat.reduceAdd,Nat.reduceMul,reduceIte,Nat.reduceEqDiff,reduceCtorEq,Nat.reducePow,Nat.reduceLeDiff,Int.reduceLE,Int.reduceLT,Int.reduceToNat,Int.reduceEq,Nat.reduceBEq,itsOf,gdA,byteI,opid,lenQ,ixQ,ldH,readAt,readCells,asCell,faQ,exQ,fldQ,partA,buildQ,slQ,stH,bslH,appH,dcells,convI,elemsOf,D.one,nilS,fillD,convN,cvH,tyRefE0,intD,bbI,bI,g8,e1]) | (with_reducible refine ⟨?_,?_⟩; (· first | (obtain ⟨rfl⟩:=‹Hq _ _›; with_reducible refine chk_ok ?_; kernel_rfl) | kernel_rfl)) | (with_reducible intro ops hops)))
      (repeat (first | (simp -implicitDefEqProofs only [ev,mixed,Nat.reduceLT,Nat.reduceAdd,Nat.reduceMul,reduceIte,Nat.reduceEqDiff,reduceCtorEq,Nat.reducePow,Nat.reduceLeDiff,Int.reduceLE,Int.reduceLT,Int.reduceToNat,Int.reduceEq,Nat.reduceBEq,itsOf,gdA,byteI,opid,lenQ,ixQ,ldH,readAt,readCells,asCell,faQ,exQ,fldQ,partA,buildQ,slQ,stH,bslH,appH,dcells,convI,elemsOf,D.one,nilS,fillD,convN,cvH,tyRefE0,intD,g9,e2,w1,List.length_map]) | (with_reducible refine ⟨?_,?_⟩; (· first | (obtain ⟨rfl⟩:=‹Hq _ _›; with_reducible refine chk_ok ?_; kernel_rfl) | kernel_rfl)) | (with_reducible intro ops hops)))
      (first | refine Call_frz [] (hnd) (by simp [cvAs,cvA,cvRL,cvR,cvBox,cv1,cvL,cv0,bI,byteI,bbI,intD,boolD,proofD,elemsOf,upd]) ?_ | refine CallF_frz [] [] (hnd) (fun G _=>by simp [cvAs,cvA,cvRL,cvR,cvBox,cv1,cvL,cv0,bI,byteI,bbI,intD,boolD,proofD,elemsOf,upd]) (by simp) ?_)
      (repeat (first | (simp -implicitDefEqProofs only [ev,mixed,Nat.reduceLT,Nat.reduceAdd,Nat.reduceMul,reduceIte,Nat.reduceEqDiff,reduceCtorEq,Nat.reducePow,Nat.reduceLeDiff,Int.reduceLE,Int.reduceLT,Int.reduceToNat,Int.reduceEq,Nat.reduceBEq,itsOf,gdA,byteI,opid,lenQ,ixQ,ldH,readAt,readCells,asCell,faQ,exQ,fldQ,partA,buildQ,slQ,stH,bslH,appH,dcells,convI,elemsOf,D.one,nilS,fillD,convN,cvH,tyRefE0,intD,bI,w2]) | (with_reducible refine ⟨?_,?_⟩; (· first | (obtain ⟨rfl⟩:=‹Hq _ _›; with_reducible refine chk_ok ?_; kernel_rfl) | kernel_rfl)) | (with_reducible intro ops hops)))
      refine ⟨j+1,⟨hlt,hR⟩,le_stOf _ _ [] [(100,100)] ?_ ?_ rfl rfl,by simp; omega⟩
      ·simp [cv,cvL,cv1,cv0,upd,lk,srcOf,intD,bI,bbI]
      ·simp [objOk,srcOf,lk,cvO,cvL,cv0,frz,upd,D.one,intD,hO,bI,bbI]
     ·simp only [if_true] at hstep
      have hnd:=rnode_A d (G j) (by omega) (by omega)
      rw [← hstep] at hnd
      (repeat (first | (simp -implicitDefEqProofs only [ev,mixed,Nat.reduceLT,Nat.reduceAdd,Nat.reduceMul,reduceIte,Nat.reduceEqDiff,reduceCtorEq,Nat.reducePow,Nat.reduceLeDiff,Int.reduceLE,Int.reduceLT,Int.reduceToNat,Int.reduceEq,Nat.reduceBEq,itsOf,gdA,byteI,opid,lenQ,ixQ,ldH,readAt,readCells,asCell,faQ,exQ,fldQ,partA,buildQ,slQ,stH,bslH,appH,dcells,convI,elemsOf,D.one,nilS,fillD,convN,cvH,tyRefE0,intD,bbI,bI,g8,e1]) | (with_reducible refine ⟨?_,?_⟩; (· first | (obtain ⟨rfl⟩:=‹Hq _ _›; with_reducible refine chk_ok ?_; kernel_rfl) | kernel_rfl)) | (with_reducible intro ops hops)))
      (repeat (first | (simp -implicitDefEqProofs only [ev,mixed,Nat.reduceLT,Nat.reduceAdd,Nat.reduceMul,reduceIte,Nat.reduceEqDiff,reduceCtorEq,Nat.reducePow,Nat.reduceLeDiff,Int.reduceLE,Int.reduceLT,Int.reduceToNat,Int.reduceEq,Nat.reduceBEq,itsOf,gdA,byteI,opid,lenQ,ixQ,ldH,readAt,readCells,asCell,faQ,exQ,fldQ,partA,buildQ,slQ,stH,bslH,appH,dcells,convI,elemsOf,D.one,nilS,fillD,convN,cvH,tyRefE0,intD,g9,e2,w1,List.length_map]) | (with_reducible refine ⟨?_,?_⟩; (· first | (obtain ⟨rfl⟩:=‹Hq _ _›; with_reducible refine chk_ok ?_; kernel_rfl) | kernel_rfl)) | (with_reducible intro ops hops)))
      (first | refine Call_frz [] (hnd) (by simp [cvAs,cvA,cvRL,cvR,cvBox,cv1,cvL,cv0,bI,byteI,bbI,intD,boolD,proofD,elemsOf,upd]) ?_ | refine CallF_frz [] [] (hnd) (fun G _=>by simp [cvAs,cvA,cvRL,cvR,cvBox,cv1,cvL,cv0,bI,byteI,bbI,intD,boolD,proofD,elemsOf,upd]) (by simp) ?_)
      (repeat (first | (simp -implicitDefEqProofs only [ev,mixed,Nat.reduceLT,Nat.reduceAdd,Nat.reduceMul,reduceIte,Nat.reduceEqDiff,reduceCtorEq,Nat.reducePow,Nat.reduceLeDiff,Int.reduceLE,Int.reduceLT,Int.reduceToNat,Int.reduceEq,Nat.reduceBEq,itsOf,gdA,byteI,opid,lenQ,ixQ,ldH,readAt,readCells,asCell,faQ,exQ,fldQ,partA,buildQ,slQ,stH,bslH,appH,dcells,convI,elemsOf,D.one,nilS,fillD,convN,cvH,tyRefE0,intD,bI,w2]) | (with_reducible refine ⟨?_,?_⟩; (· first | (obtain ⟨rfl⟩:=‹Hq _ _›; with_reducible refine chk_ok ?_; kernel_rfl) | kernel_rfl)) | (with_reducible intro ops hops)))
      refine ⟨j+1,⟨hlt,hR⟩,le_stOf _ _ [] [(100,100)] ?_ ?_ rfl rfl,by simp; omega⟩
      ·simp [cv,cvL,cv1,cv0,upd,lk,srcOf,intD,bI,bbI]
      ·simp [objOk,srcOf,lk,cvO,cvL,cv0,frz,upd,D.one,intD,hO,bI,bbI]
    ·have g9:decide ((q[j].length:Int)=32)=false:=decide_eq_false (by omega)
     rw [decide_eq_false h32,Bool.false_and,Bool.false_and] at hR
     subst hR
     generalize q[j]=d at *
     (repeat (first | (simp -implicitDefEqProofs only [ev,mixed,Nat.reduceLT,Nat.reduceAdd,Nat.reduceMul,reduceIte,Nat.reduceEqDiff,reduceCtorEq,Nat.reducePow,Nat.reduceLeDiff,Int.reduceLE,Int.reduceLT,Int.reduceToNat,Int.reduceEq,Nat.reduceBEq,itsOf,gdA,byteI,opid,lenQ,ixQ,ldH,readAt,readCells,asCell,faQ,exQ,fldQ,partA,buildQ,slQ,stH,bslH,appH,dcells,convI,elemsOf,D.one,nilS,fillD,convN,cvH,tyRefE0,intD,bbI,bI,g8,e1]) | (with_reducible refine ⟨?_,?_⟩; (· first | (obtain ⟨rfl⟩:=‹Hq _ _›; with_reducible refine chk_ok ?_; kernel_rfl) | kernel_rfl)) | (with_reducible intro ops hops)))
     (repeat (first | (simp -implicitDefEqProofs only [ev,mixed,Nat.reduceLT,Nat.reduceAdd,Nat.reduceMul,reduceIte,Nat.reduceEqDiff,reduceCtorEq,Nat.reducePow,Nat.reduceLeDiff,Int.reduceLE,Int.reduceLT,Int.reduceToNat,Int.reduceEq,Nat.reduceBEq,itsOf,gdA,byteI,opid,lenQ,ixQ,ldH,readAt,readCells,asCell,faQ,exQ,fldQ,partA,buildQ,slQ,stH,bslH,appH,dcells,convI,elemsOf,D.one,nilS,fillD,convN,cvH,tyRefE0,intD,g9,List.length_map]) | (with_reducible refine ⟨?_,?_⟩; (· first | (obtain ⟨rfl⟩:=‹Hq _ _›; with_reducible refine chk_ok ?_; kernel_rfl) | kernel_rfl)) | (with_reducible intro ops hops)))
     refine fin_ret [] rfl ?_
     simp [cv,cv1,cv0,upd,boolD]
   ·have g8:decide ((j:Int) < (q.length:Int))=false:=decide_eq_false (by omega)
    have hj':j=q.length:=by omega
    subst hj'
    rw [List.drop_eq_nil_of_le (by omega),List.all_nil,Bool.true_and] at hR
    subst hR
    (repeat (first | (simp -implicitDefEqProofs only [ev,mixed,Nat.reduceLT,Nat.reduceAdd,Nat.reduceMul,reduceIte,Nat.reduceEqDiff,reduceCtorEq,Nat.reducePow,Nat.reduceLeDiff,Int.reduceLE,Int.reduceLT,Int.reduceToNat,Int.reduceEq,Nat.reduceBEq,itsOf,gdA,byteI,opid,lenQ,ixQ,ldH,readAt,readCells,asCell,faQ,exQ,fldQ,partA,buildQ,slQ,stH,bslH,appH,dcells,convI,elemsOf,D.one,nilS,fillD,convN,cvH,tyRefE0,intD,g8,bI]) | (with_reducible refine ⟨?_,?_⟩; (· first | (obtain ⟨rfl⟩:=‹Hq _ _›; with_reducible refine chk_ok ?_; kernel_rfl) | kernel_rfl)) | (with_reducible intro ops hops)))
    (first | refine Call_frz [] (htp) (by simp [cvAs,cvA,cvRL,cvR,cvBox,cv1,cvL,cv0,bI,byteI,bbI,intD,boolD,proofD,elemsOf,upd]) ?_ | refine CallF_frz [] [] (htp) (fun G _=>by simp [cvAs,cvA,cvRL,cvR,cvBox,cv1,cvL,cv0,bI,byteI,bbI,intD,boolD,proofD,elemsOf,upd]) (by simp) ?_)
    (repeat (first | (simp -implicitDefEqProofs only [ev,mixed,Nat.reduceLT,Nat.reduceAdd,Nat.reduceMul,reduceIte,Nat.reduceEqDiff,reduceCtorEq,Nat.reducePow,Nat.reduceLeDiff,Int.reduceLE,Int.reduceLT,Int.reduceToNat,Int.reduceEq,Nat.reduceBEq,itsOf,gdA,byteI,opid,lenQ,ixQ,ldH,readAt,readCells,asCell,faQ,exQ,fldQ,partA,buildQ,slQ,stH,bslH,appH,dcells,convI,elemsOf,D.one,nilS,fillD,convN,cvH,tyRefE0,intD,bI]) | (with_reducible refine ⟨?_,?_⟩; (· first | (obtain ⟨rfl⟩:=‹Hq _ _›; with_reducible refine chk_ok ?_; kernel_rfl) | kernel_rfl)) | (with_reducible intro ops hops)))
    (first | refine Call_flat [] [] (hsm) (by simp [cvAs,cvA,cvRL,cvR,cvBox,cv1,cvL,cv0,bI,byteI,bbI,intD,boolD,proofD,elemsOf,upd]) rfl ?_ | refine CallF_flat [] [] [] (hsm) (fun G _=>by simp [cvAs,cvA,cvRL,cvR,cvBox,cv1,cvL,cv0,bI,byteI,bbI,intD,boolD,proofD,elemsOf,upd]) rfl ?_)
    (repeat (first | (simp -implicitDefEqProofs only [ev,mixed,Nat.reduceLT,Nat.reduceAdd,Nat.reduceMul,reduceIte,Nat.reduceEqDiff,reduceCtorEq,Nat.reducePow,Nat.reduceLeDiff,Int.reduceLE,Int.reduceLT,Int.reduceToNat,Int.reduceEq,Nat.reduceBEq,itsOf,gdA,byteI,opid,lenQ,ixQ,ldH,readAt,readCells,asCell,faQ,exQ,fldQ,partA,buildQ,slQ,stH,bslH,appH,dcells,convI,elemsOf,D.one,nilS,fillD,convN,cvH,tyRefE0,intD,bI]) | (with_reducible refine ⟨?_,?_⟩; (· first | (obtain ⟨rfl⟩:=‹Hq _ _›; with_reducible refine chk_ok ?_; kernel_rfl) | kernel_rfl)) | (with_reducible intro ops hops)))
    refine fin_ret [] rfl ?_
    simp [cv,cv1,cv0,upd,boolD]
 ·have g7:decide ((W.length:Int)=(q.length:Int))=false:=decide_eq_false (by omega)
  rw [decide_eq_false hlq,Bool.false_and,Bool.false_and] at hR2
  subst hR2
  refine callD_W 90 Tryz.func60 rfl rfl rfl (fun _ _=>rfl) ?_
  (repeat (first | (simp -implicitDefEqProofs only [ev,mixed,Nat.reduceLT,Nat.reduceAdd,Nat.reduceMul,reduceIte,Nat.reduceEqDiff,reduceCtorEq,Nat.reducePow,Nat.reduceLeDiff,Int.reduceLE,Int.reduceLT,Int.reduceToNat,Int.reduceEq,Nat.reduceBEq,itsOf,gdA,byteI,opid,lenQ,ixQ,ldH,readAt,readCells,asCell,faQ,exQ,fldQ,partA,buildQ,slQ,stH,bslH,appH,dcells,convI,elemsOf,D.one,nilS,fillD,convN,cvH,tyRefE0,intD,g1,g2,g3,g4,g5,g6,bI]) | (with_reducible refine ⟨?_,?_⟩; (· first | (obtain ⟨rfl⟩:=‹Hq _ _›; with_reducible refine chk_ok ?_; kernel_rfl) | kernel_rfl)) | (with_reducible intro ops hops)))
  (first | refine Call_frz [] (hwy) (by simp [cvAs,cvA,cvRL,cvR,cvBox,cv1,cvL,cv0,bI,byteI,bbI,intD,boolD,proofD,elemsOf,upd]) ?_ | refine CallF_frz [] [] (hwy) (fun G _=>by simp [cvAs,cvA,cvRL,cvR,cvBox,cv1,cvL,cv0,bI,byteI,bbI,intD,boolD,proofD,elemsOf,upd]) (by simp) ?_)
  (repeat (first | (simp -implicitDefEqProofs only [ev,mixed,Nat.reduceLT,Nat.reduceAdd,Nat.reduceMul,reduceIte,Nat.reduceEqDiff,reduceCtorEq,Nat.reducePow,Nat.reduceLeDiff,Int.reduceLE,Int.reduceLT,Int.reduceToNat,Int.reduceEq,Nat.reduceBEq,itsOf,gdA,byteI,opid,lenQ,ixQ,ldH,readAt,readCells,asCell,faQ,exQ,fldQ,partA,buildQ,slQ,stH,bslH,appH,dcells,convI,elemsOf,D.one,nilS,fillD,convN,cvH,tyRefE0,intD,bI,bbI,List.length_map,g7]) | (with_reducible refine ⟨?_,?_⟩; (· first | (obtain ⟨rfl⟩:=‹Hq _ _›; with_reducible refine chk_ok ?_; kernel_rfl) | kernel_rfl)) | (with_reducible intro ops hops)))
  refine fin_ret [] rfl ?_
  simp [cv,cv1,cv0,upd,boolD]
end Go.Proofs.YtmclpbcipkdmcaaGreatDoor
