/- Walk of landref3.Read. -/
import Derived.Test.YtckjpabekmhnhaaDoorR3Read
set_option linter.all false
namespace Go.Proofs.YtckjpabekmhnhaaDoor
open Go Go.Abs Go.RowKit Go.Proofs.YtckjpabekmhnhaaDoor.Ty
theorem tyR3Rd0:(type_of% @Ty.T1)∧(type_of% @Ty.T3)∧(type_of% @Ty.T5)∧(type_of% @Ty.T23)∧(type_of% @Ty.T39)∧(type_of% @Ty.T62)∧(type_of% @Ty.T66):=⟨@Ty.T1,@Ty.T3,@Ty.T5,@Ty.T23,@Ty.T39,@Ty.T62,@Ty.T66⟩
theorem vnum_pos (n:Nat):0 < (vnum n).length:=by simp only [vnum,vnumF]; split <;> simp
set_option maxHeartbeats 2000000
theorem read3_A (b:List UInt8) (hb:b.length≤1048576):PureD Tryd.prog 44 [.i (bI b)] (pairR (readF b).1 (readF b).2):=by
 refine callD_W 93 Tryd.func44 rfl rfl rfl (fun _ _=>rfl) ?_
 (repeat (first | (simp -implicitDefEqProofs only [ev,mixed,Nat.reduceLT,Nat.reduceAdd,Nat.reduceMul,reduceIte,Nat.reduceEqDiff,reduceCtorEq,Nat.reducePow,Nat.reduceLeDiff,Int.reduceLE,Int.reduceLT,Int.reduceToNat,Int.reduceEq,Nat.reduceBEq,itsOf,gdA,byteI,opid,lenQ,ixQ,ldH,readAt,readCells,asCell,faQ,exQ,fldQ,partA,buildQ,slQ,stH,bslH,appH,dcells,convI,elemsOf,D.one,nilS,fillD,convN,cvH,tyR3Rd0,bI]) | (with_reducible refine ⟨?_,?_⟩; (· first | (obtain ⟨rfl⟩:=‹Hq _ _›; with_reducible refine chk_ok ?_; kernel_rfl) | kernel_rfl)) | (with_reducible intro ops hops)))
 refine Wc_split (fun h=>?_) (fun h=>?_)
 ·have h1:20000 < b.length:=by simp at h; omega
  (repeat (first | (simp -implicitDefEqProofs only [ev,mixed,Nat.reduceLT,Nat.reduceAdd,Nat.reduceMul,reduceIte,Nat.reduceEqDiff,reduceCtorEq,Nat.reducePow,Nat.reduceLeDiff,Int.reduceLE,Int.reduceLT,Int.reduceToNat,Int.reduceEq,Nat.reduceBEq,itsOf,gdA,byteI,opid,lenQ,ixQ,ldH,readAt,readCells,asCell,faQ,exQ,fldQ,partA,buildQ,slQ,stH,bslH,appH,dcells,convI,elemsOf,D.one,nilS,fillD,convN,cvH,tyR3Rd0]) | (with_reducible refine ⟨?_,?_⟩; (· first | (obtain ⟨rfl⟩:=‹Hq _ _›; with_reducible refine chk_ok ?_; kernel_rfl) | kernel_rfl)) | (with_reducible intro ops hops)))
  refine fin_tt [] rfl ?_
  simp [cv,cvT,cv1,cv0,upd,readF,h1,pairR]
 ·have h1:¬ 20000 < b.length:=by simp at h; omega
  clear h
  rw [readF,if_neg h1]
  (repeat (first | (simp -implicitDefEqProofs only [ev,mixed,Nat.reduceLT,Nat.reduceAdd,Nat.reduceMul,reduceIte,Nat.reduceEqDiff,reduceCtorEq,Nat.reducePow,Nat.reduceLeDiff,Int.reduceLE,Int.reduceLT,Int.reduceToNat,Int.reduceEq,Nat.reduceBEq,itsOf,gdA,byteI,opid,lenQ,ixQ,ldH,readAt,readCells,asCell,faQ,exQ,fldQ,partA,buildQ,slQ,stH,bslH,appH,dcells,convI,elemsOf,D.one,nilS,fillD,convN,cvH,tyR3Rd0]) | (with_reducible refine ⟨?_,?_⟩; (· first | (obtain ⟨rfl⟩:=‹Hq _ _›; with_reducible refine chk_ok ?_; kernel_rfl) | kernel_rfl)) | (with_reducible intro ops hops)))
  refine Call_flat [] [] (take3_A b hb) (by simp [cvAs,cvA,cv1,cv0,bI]) (by cases takeN 0 0 b <;> rfl) ?_
  cases h2:takeN 0 0 b with
  | none =>
   (repeat (first | (simp -implicitDefEqProofs only [ev,mixed,Nat.reduceLT,Nat.reduceAdd,Nat.reduceMul,reduceIte,Nat.reduceEqDiff,reduceCtorEq,Nat.reducePow,Nat.reduceLeDiff,Int.reduceLE,Int.reduceLT,Int.reduceToNat,Int.reduceEq,Nat.reduceBEq,itsOf,gdA,byteI,opid,lenQ,ixQ,ldH,readAt,readCells,asCell,faQ,exQ,fldQ,partA,buildQ,slQ,stH,bslH,appH,dcells,convI,elemsOf,D.one,nilS,fillD,convN,cvH,tyR3Rd0,takeR]) | (with_reducible refine ⟨?_,?_⟩; (· first | (obtain ⟨rfl⟩:=‹Hq _ _›; with_reducible refine chk_ok ?_; kernel_rfl) | kernel_rfl)) | (with_reducible intro ops hops)))
   refine fin_tt [] rfl ?_
   simp [cv,cvT,cv1,cv0,upd,pairR]
  | some p =>
   obtain ⟨n,r⟩:=p
   have hrl:r.length < b.length:=by
    have:=(takeN_vnum h2).1; rw [this]; have:=vnum_pos n; simp; omega
   have hrd:r=b.drop (b.length - r.length):=by
    have:=(takeN_vnum h2).1
    conv=>rhs; rw [this]
    rw [List.drop_append_of_le_length (by simp)]; simp
   have g1:decide (((b.length - r.length:Nat):Int)=0)=false:=by simp; omega
   (repeat (first | (simp -implicitDefEqProofs only [ev,mixed,Nat.reduceLT,Nat.reduceAdd,Nat.reduceMul,reduceIte,Nat.reduceEqDiff,reduceCtorEq,Nat.reducePow,Nat.reduceLeDiff,Int.reduceLE,Int.reduceLT,Int.reduceToNat,Int.reduceEq,Nat.reduceBEq,itsOf,gdA,byteI,opid,lenQ,ixQ,ldH,readAt,readCells,asCell,faQ,exQ,fldQ,partA,buildQ,slQ,stH,bslH,appH,dcells,convI,elemsOf,D.one,nilS,fillD,convN,cvH,tyR3Rd0,takeR,g1]) | (with_reducible refine ⟨?_,?_⟩; (· first | (obtain ⟨rfl⟩:=‹Hq _ _›; with_reducible refine chk_ok ?_; kernel_rfl) | kernel_rfl)) | (with_reducible intro ops hops)))
   refine Wc_split (fun h=>?_) (fun h=>?_)
   ·have h3:200 < n:=by simp at h; omega
    (repeat (first | (simp -implicitDefEqProofs only [ev,mixed,Nat.reduceLT,Nat.reduceAdd,Nat.reduceMul,reduceIte,Nat.reduceEqDiff,reduceCtorEq,Nat.reducePow,Nat.reduceLeDiff,Int.reduceLE,Int.reduceLT,Int.reduceToNat,Int.reduceEq,Nat.reduceBEq,itsOf,gdA,byteI,opid,lenQ,ixQ,ldH,readAt,readCells,asCell,faQ,exQ,fldQ,partA,buildQ,slQ,stH,bslH,appH,dcells,convI,elemsOf,D.one,nilS,fillD,convN,cvH,tyR3Rd0]) | (with_reducible refine ⟨?_,?_⟩; (· first | (obtain ⟨rfl⟩:=‹Hq _ _›; with_reducible refine chk_ok ?_; kernel_rfl) | kernel_rfl)) | (with_reducible intro ops hops)))
    refine fin_tt [] rfl ?_
    simp [cv,cvT,cv1,cv0,upd,pairR,h3]
   ·have h3:¬ 200 < n:=by simp at h; omega
    clear h
    simp only [if_neg h3]
    (repeat (first | (simp -implicitDefEqProofs only [ev,mixed,Nat.reduceLT,Nat.reduceAdd,Nat.reduceMul,reduceIte,Nat.reduceEqDiff,reduceCtorEq,Nat.reducePow,Nat.reduceLeDiff,Int.reduceLE,Int.reduceLT,Int.reduceToNat,Int.reduceEq,Nat.reduceBEq,itsOf,gdA,byteI,opid,lenQ,ixQ,ldH,readAt,readCells,asCell,faQ,exQ,fldQ,partA,buildQ,slQ,stH,bslH,appH,dcells,convI,elemsOf,D.one,nilS,fillD,convN,cvH,tyR3Rd0]) | (with_reducible refine ⟨?_,?_⟩; (· first | (obtain ⟨rfl⟩:=‹Hq _ _›; with_reducible refine chk_ok ?_; kernel_rfl) | kernel_rfl)) | (with_reducible intro ops hops)))
    refine W_loopI (ι:=List PieceD × Nat × Nat) (fun p=>p.2.1≤n∧p.1.length=p.2.1∧p.2.2≤b.length∧readGo n r=(readGo (n - p.2.1) (b.drop p.2.2)).map (p.1++·))
     (fun p=>stOf [(0,.i (.sl (b.map byteI))),(4,.i (.s (.int .u64 n))),(5,.i (.s (.int .i64 (p.2.2:Nat)))),(6,.os 100 3 0 p.1.length),(7,.i (.s (.int .u64 (p.2.1:Nat))))] [(100,.arr 3 (p.1.map encP))]) (fun p=>n - p.2.1) ([],0,b.length - r.length) ⟨by simp,rfl,by simp,by simp [← hrd]⟩ ?_ ?_
    ·refine le_stOf _ _ [] [] ?_ ?_ rfl rfl
     ·simp [cv,cv1,cv0,upd,lk,srcOf]
     ·simp [objOk,srcOf,lk,cvO,cvL,cv0,frz,upd,D.one]
    ·rintro ⟨acc,i,at'⟩ ⟨hi,hal,hat,hq⟩
     simp only at hi hal hat hq
     rw [stOf_eq]
     (repeat (first | (simp -implicitDefEqProofs only [ev,mixed,Nat.reduceLT,Nat.reduceAdd,Nat.reduceMul,reduceIte,Nat.reduceEqDiff,reduceCtorEq,Nat.reducePow,Nat.reduceLeDiff,Int.reduceLE,Int.reduceLT,Int.reduceToNat,Int.reduceEq,Nat.reduceBEq,itsOf,gdA,byteI,opid,lenQ,ixQ,ldH,readAt,readCells,asCell,faQ,exQ,fldQ,partA,buildQ,slQ,stH,bslH,appH,dcells,convI,elemsOf,D.one,nilS,fillD,convN,cvH,tyR3Rd0]) | (with_reducible refine ⟨?_,?_⟩; (· first | (obtain ⟨rfl⟩:=‹Hq _ _›; with_reducible refine chk_ok ?_; kernel_rfl) | kernel_rfl)) | (with_reducible intro ops hops)))
     refine Wc_split (fun h=>?_) (fun h=>?_)
     ·have h4:i < n:=by simp at h; omega
      clear h
      have hni:n - i=(n - (i+1))+1:=by omega
      rw [hni] at hq
      (repeat (first | (simp -implicitDefEqProofs only [ev,mixed,Nat.reduceLT,Nat.reduceAdd,Nat.reduceMul,reduceIte,Nat.reduceEqDiff,reduceCtorEq,Nat.reducePow,Nat.reduceLeDiff,Int.reduceLE,Int.reduceLT,Int.reduceToNat,Int.reduceEq,Nat.reduceBEq,itsOf,gdA,byteI,opid,lenQ,ixQ,ldH,readAt,readCells,asCell,faQ,exQ,fldQ,partA,buildQ,slQ,stH,bslH,appH,dcells,convI,elemsOf,D.one,nilS,fillD,convN,cvH,tyR3Rd0]) | (with_reducible refine ⟨?_,?_⟩; (· first | (obtain ⟨rfl⟩:=‹Hq _ _›; with_reducible refine chk_ok ?_; kernel_rfl) | kernel_rfl)) | (with_reducible intro ops hops)))
      cases hd:b.drop at' with
      | nil =>
       have hge:at'=b.length:=by have:=congrArg List.length hd; simp at this; omega
       have g2:decide ((b.length:Int)≤(at':Int))=true:=by simp; omega
       have hR:readGo n r=none:=by rw [hq,hd]; rfl
       (repeat (first | (simp -implicitDefEqProofs only [ev,mixed,Nat.reduceLT,Nat.reduceAdd,Nat.reduceMul,reduceIte,Nat.reduceEqDiff,reduceCtorEq,Nat.reducePow,Nat.reduceLeDiff,Int.reduceLE,Int.reduceLT,Int.reduceToNat,Int.reduceEq,Nat.reduceBEq,itsOf,gdA,byteI,opid,lenQ,ixQ,ldH,readAt,readCells,asCell,faQ,exQ,fldQ,partA,buildQ,slQ,stH,bslH,appH,dcells,convI,elemsOf,D.one,nilS,fillD,convN,cvH,tyR3Rd0,g2]) | (with_reducible refine ⟨?_,?_⟩; (· first | (obtain ⟨rfl⟩:=‹Hq _ _›; with_reducible refine chk_ok ?_; kernel_rfl) | kernel_rfl)) | (with_reducible intro ops hops)))
       refine fin_tt [] rfl ?_
       simp [cv,cvT,cv1,cv0,upd,pairR,hR]
      | cons c s =>
       have hlt:at' < b.length:=by have:=congrArg List.length hd; simp at this; omega
       have g2:decide ((b.length:Int)≤(at':Int))=false:=by simp; omega
       have hcb:b[at']?=some c:=by have:=congrArg (·[0]?) hd; simpa using this
       have hsd:b.drop (at'+1)=s:=by have:=congrArg (List.drop 1) hd; simpa [Nat.add_comm] using this
       have hx:(b.map byteI)[at']?=some [.s (.int .u8 (c.toNat:Int))]:=by simp [hcb,byteI]
       have c0:(c=0)↔c.toNat=0:=by rw [← UInt8.toNat_inj]; rfl
       have c1:(c=1)↔c.toNat=1:=by rw [← UInt8.toNat_inj]; rfl
       rw [hd,readGo] at hq
       (repeat (first | (simp -implicitDefEqProofs only [ev,mixed,Nat.reduceLT,Nat.reduceAdd,Nat.reduceMul,reduceIte,Nat.reduceEqDiff,reduceCtorEq,Nat.reducePow,Nat.reduceLeDiff,Int.reduceLE,Int.reduceLT,Int.reduceToNat,Int.reduceEq,Nat.reduceBEq,itsOf,gdA,byteI,opid,lenQ,ixQ,ldH,readAt,readCells,asCell,faQ,exQ,fldQ,partA,buildQ,slQ,stH,bslH,appH,dcells,convI,elemsOf,D.one,nilS,fillD,convN,cvH,tyR3Rd0,g2,hx]) | (with_reducible refine ⟨?_,?_⟩; (· first | (obtain ⟨rfl⟩:=‹Hq _ _›; with_reducible refine chk_ok ?_; kernel_rfl) | kernel_rfl)) | (with_reducible intro ops hops)))
       refine Wc_split (fun h=>?_) (fun h=>?_)
       ·have h5:1 < c.toNat:=by simp at h; omega
        have h50:c≠0:=by rw [Ne,c0]; omega
        have h51:c≠1:=by rw [Ne,c1]; omega
        have hR:readGo n r=none:=by rw [hq]; cases takeN 0 0 s <;> simp [h50,h51]
        (repeat (first | (simp -implicitDefEqProofs only [ev,mixed,Nat.reduceLT,Nat.reduceAdd,Nat.reduceMul,reduceIte,Nat.reduceEqDiff,reduceCtorEq,Nat.reducePow,Nat.reduceLeDiff,Int.reduceLE,Int.reduceLT,Int.reduceToNat,Int.reduceEq,Nat.reduceBEq,itsOf,gdA,byteI,opid,lenQ,ixQ,ldH,readAt,readCells,asCell,faQ,exQ,fldQ,partA,buildQ,slQ,stH,bslH,appH,dcells,convI,elemsOf,D.one,nilS,fillD,convN,cvH,tyR3Rd0]) | (with_reducible refine ⟨?_,?_⟩; (· first | (obtain ⟨rfl⟩:=‹Hq _ _›; with_reducible refine chk_ok ?_; kernel_rfl) | kernel_rfl)) | (with_reducible intro ops hops)))
        refine fin_tt [] rfl ?_
        simp [cv,cvT,cv1,cv0,upd,pairR,hR]
       ·have h5:c.toNat≤1:=by simp at h; omega
        clear h
        have w1:IntKind.i64.wrap ((at':Int)+1)=((at'+1:Nat):Int):=by rw [wrap64 (by omega) (by omega)]; omega
        have l1:(((at'+1:Nat):Int)≤(b.length:Int))=True:=by simp; omega
        have hsl:s.length≤1048576:=by rw [← hsd]; simp; omega
        (repeat (first | (simp -implicitDefEqProofs only [ev,mixed,Nat.reduceLT,Nat.reduceAdd,Nat.reduceMul,reduceIte,Nat.reduceEqDiff,reduceCtorEq,Nat.reducePow,Nat.reduceLeDiff,Int.reduceLE,Int.reduceLT,Int.reduceToNat,Int.reduceEq,Nat.reduceBEq,itsOf,gdA,byteI,opid,lenQ,ixQ,ldH,readAt,readCells,asCell,faQ,exQ,fldQ,partA,buildQ,slQ,stH,bslH,appH,dcells,convI,elemsOf,D.one,nilS,fillD,convN,cvH,tyR3Rd0,w1,l1,uni_byteI,← List.map_drop,hsd]) | (with_reducible refine ⟨?_,?_⟩; (· first | (obtain ⟨rfl⟩:=‹Hq _ _›; with_reducible refine chk_ok ?_; kernel_rfl) | kernel_rfl)) | (with_reducible intro ops hops)))
        refine Call_flat [] [] (take3_A s hsl) (by simp [cvAs,cvA,cv1,cv0,bI]) (by cases takeN 0 0 s <;> rfl) ?_
        cases h6:takeN 0 0 s with
        | none =>
         have hR:readGo n r=none:=by rw [hq,h6]; rfl
         (repeat (first | (simp -implicitDefEqProofs only [ev,mixed,Nat.reduceLT,Nat.reduceAdd,Nat.reduceMul,reduceIte,Nat.reduceEqDiff,reduceCtorEq,Nat.reducePow,Nat.reduceLeDiff,Int.reduceLE,Int.reduceLT,Int.reduceToNat,Int.reduceEq,Nat.reduceBEq,itsOf,gdA,byteI,opid,lenQ,ixQ,ldH,readAt,readCells,asCell,faQ,exQ,fldQ,partA,buildQ,slQ,stH,bslH,appH,dcells,convI,elemsOf,D.one,nilS,fillD,convN,cvH,tyR3Rd0,takeR]) | (with_reducible refine ⟨?_,?_⟩; (· first | (obtain ⟨rfl⟩:=‹Hq _ _›; with_reducible refine chk_ok ?_; kernel_rfl) | kernel_rfl)) | (with_reducible intro ops hops)))
         refine fin_tt [] rfl ?_
         simp [cv,cvT,cv1,cv0,upd,pairR,hR]
        | some p =>
         obtain ⟨v,s'⟩:=p
         have hsv:=(takeN_vnum h6).1
         have hv:=(takeN_vnum h6).2
         have hsl':s'.length < s.length:=by rw [hsv]; have:=vnum_pos v; simp; omega
         have hbl:s.length=b.length - (at'+1):=by rw [← hsd]; simp
         have hs':b.drop (at'+1+(s.length - s'.length))=s':=by
          rw [← List.drop_drop,hsd]
          conv=>lhs; rw [hsv]
          rw [List.drop_append_of_le_length (by simp)]; simp
         have hsb:s'.length=b.length - (at'+1+(s.length - s'.length)):=by omega
         simp only [h6] at hq
         have g3:decide (((s.length - s'.length:Nat):Int)=0)=false:=by simp; omega
         have w2:IntKind.i64.wrap (((at'+1:Nat):Int)+((s.length - s'.length:Nat):Int))=((at'+1+(s.length - s'.length):Nat):Int):=by rw [wrap64 (by omega) (by omega)]; omega
         have e3:acc.length+1≤140737488355328:=by omega
         have e3':(acc.length+1) * 40≤140737488355328:=by omega
         have w5:IntKind.u64.wrap ((i:Int)+1)=((i+1:Nat):Int):=by rw [IntKind.wrap_u64]; omega
         have hle2:at'+1+(s.length - s'.length)≤b.length:=by omega
         generalize hat2:at'+1+(s.length - s'.length)=at2 at hs' hsb w2 hle2
         (repeat (first | (simp -implicitDefEqProofs only [ev,mixed,Nat.reduceLT,Nat.reduceAdd,Nat.reduceMul,reduceIte,Nat.reduceEqDiff,reduceCtorEq,Nat.reducePow,Nat.reduceLeDiff,Int.reduceLE,Int.reduceLT,Int.reduceToNat,Int.reduceEq,Nat.reduceBEq,itsOf,gdA,byteI,opid,lenQ,ixQ,ldH,readAt,readCells,asCell,faQ,exQ,fldQ,partA,buildQ,slQ,stH,bslH,appH,dcells,convI,elemsOf,D.one,nilS,fillD,convN,cvH,tyR3Rd0,takeR,g3,hx,w1,w2]) | (with_reducible refine ⟨?_,?_⟩; (· first | (obtain ⟨rfl⟩:=‹Hq _ _›; with_reducible refine chk_ok ?_; kernel_rfl) | kernel_rfl)) | (with_reducible intro ops hops)))
         refine Wc_split (fun h=>?_) (fun h=>?_)
         ·have h7:c=0:=by rw [c0]; simp at h; omega
          clear h
          rw [if_pos h7] at hq
          (repeat (first | (simp -implicitDefEqProofs only [ev,mixed,Nat.reduceLT,Nat.reduceAdd,Nat.reduceMul,reduceIte,Nat.reduceEqDiff,reduceCtorEq,Nat.reducePow,Nat.reduceLeDiff,Int.reduceLE,Int.reduceLT,Int.reduceToNat,Int.reduceEq,Nat.reduceBEq,itsOf,gdA,byteI,opid,lenQ,ixQ,ldH,readAt,readCells,asCell,faQ,exQ,fldQ,partA,buildQ,slQ,stH,bslH,appH,dcells,convI,elemsOf,D.one,nilS,fillD,convN,cvH,tyR3Rd0,e3,e3',uni_encP,w5]) | (with_reducible refine ⟨?_,?_⟩; (· first | (obtain ⟨rfl⟩:=‹Hq _ _›; with_reducible refine chk_ok ?_; kernel_rfl) | kernel_rfl)) | (with_reducible intro ops hops)))
          refine ⟨(acc++[⟨1,v,[]⟩],i+1,at2),⟨h4,by simp [hal],by simp; omega,?_⟩,le_stOf _ _ [] [(100,5612)] ?_ ?_ rfl rfl,?_⟩
          ·rw [hq,hs']; simp [Option.map_map]; congr
          ·simp [cv,cv1,cv0,upd,lk,srcOf]
          ·simp [objOk,srcOf,lk,cvO,cvL,cv0,frz,upd,D.one,hO,encP,bI]
          ·simp; omega
         ·have h7:c=1:=by rw [c1]; simp at h; omega
          have h70:c≠0:=by rw [h7]; decide
          clear h
          rw [if_neg h70,if_pos h7] at hq
          have w6:IntKind.i64.wrap ((b.length:Int) - (at2:Int))=((b.length - at2:Nat):Int):=by rw [wrap64 (by omega) (by omega)]; omega
          have w7:IntKind.u64.wrap ((b.length - at2:Nat):Int)=((b.length - at2:Nat):Int):=by rw [IntKind.wrap_u64]; omega
          (repeat (first | (simp -implicitDefEqProofs only [ev,mixed,Nat.reduceLT,Nat.reduceAdd,Nat.reduceMul,reduceIte,Nat.reduceEqDiff,reduceCtorEq,Nat.reducePow,Nat.reduceLeDiff,Int.reduceLE,Int.reduceLT,Int.reduceToNat,Int.reduceEq,Nat.reduceBEq,itsOf,gdA,byteI,opid,lenQ,ixQ,ldH,readAt,readCells,asCell,faQ,exQ,fldQ,partA,buildQ,slQ,stH,bslH,appH,dcells,convI,elemsOf,D.one,nilS,fillD,convN,cvH,tyR3Rd0,w6,w7]) | (with_reducible refine ⟨?_,?_⟩; (· first | (obtain ⟨rfl⟩:=‹Hq _ _›; with_reducible refine chk_ok ?_; kernel_rfl) | kernel_rfl)) | (with_reducible intro ops hops)))
          refine Wc_split (fun h=>?_) (fun h=>?_)
          ·have h8:s'.length < v:=by simp at h; omega
           have hR:readGo n r=none:=by rw [hq]; simp [h8]
           (repeat (first | (simp -implicitDefEqProofs only [ev,mixed,Nat.reduceLT,Nat.reduceAdd,Nat.reduceMul,reduceIte,Nat.reduceEqDiff,reduceCtorEq,Nat.reducePow,Nat.reduceLeDiff,Int.reduceLE,Int.reduceLT,Int.reduceToNat,Int.reduceEq,Nat.reduceBEq,itsOf,gdA,byteI,opid,lenQ,ixQ,ldH,readAt,readCells,asCell,faQ,exQ,fldQ,partA,buildQ,slQ,stH,bslH,appH,dcells,convI,elemsOf,D.one,nilS,fillD,convN,cvH,tyR3Rd0]) | (with_reducible refine ⟨?_,?_⟩; (· first | (obtain ⟨rfl⟩:=‹Hq _ _›; with_reducible refine chk_ok ?_; kernel_rfl) | kernel_rfl)) | (with_reducible intro ops hops)))
           refine fin_tt [] rfl ?_
           simp [cv,cvT,cv1,cv0,upd,pairR,hR]
          ·have h8:¬ s'.length < v:=by simp at h; omega
           rw [if_neg h8] at hq
           have w8:IntKind.i64.wrap (v:Int)=(v:Int):=by rw [wrap64 (by omega) (by omega)]
           have w9:IntKind.i64.wrap ((at2:Int)+(v:Int))=((at2+v:Nat):Int):=by rw [wrap64 (by omega) (by omega)]; omega
           have l2:((at2:Int)≤((at2+v:Nat):Int))=True:=eq_true (by omega)
           have l3:(((at2+v:Nat):Int)≤(b.length:Int))=True:=by simp; omega
           have hsl2:(b.take (at2+v)).drop at2=s'.take v:=by rw [List.drop_take,hs']; congr 1; omega
           (repeat (first | (simp -implicitDefEqProofs only [ev,mixed,Nat.reduceLT,Nat.reduceAdd,Nat.reduceMul,reduceIte,Nat.reduceEqDiff,reduceCtorEq,Nat.reducePow,Nat.reduceLeDiff,Int.reduceLE,Int.reduceLT,Int.reduceToNat,Int.reduceEq,Nat.reduceBEq,itsOf,gdA,byteI,opid,lenQ,ixQ,ldH,readAt,readCells,asCell,faQ,exQ,fldQ,partA,buildQ,slQ,stH,bslH,appH,dcells,convI,elemsOf,D.one,nilS,fillD,convN,cvH,tyR3Rd0,e3,e3',uni_encP,uni_byteI,w5,w8,w9,l2,l3,← List.map_drop,← List.map_take,hsl2]) | (with_reducible refine ⟨?_,?_⟩; (· first | (obtain ⟨rfl⟩:=‹Hq _ _›; with_reducible refine chk_ok ?_; kernel_rfl) | kernel_rfl)) | (with_reducible intro ops hops)))
           refine ⟨(acc++[⟨2,0,s'.take v⟩],i+1,at2+v),⟨h4,by simp [hal],by simp; omega,?_⟩,le_stOf _ _ [] [(100,6386)] ?_ ?_ rfl rfl,?_⟩
           ·rw [hq,← hs',List.drop_drop]; simp [Option.map_map]; congr
           ·simp [cv,cv1,cv0,upd,lk,srcOf]
           ·simp [objOk,srcOf,lk,cvO,cvL,cv0,frz,upd,D.one,hO,encP,bI]
           ·simp; omega
     ·have h4:i=n:=by simp at h; omega
      subst h4
      have hz:i - i=0:=by omega
      rw [hz,readGo] at hq
      (repeat (first | (simp -implicitDefEqProofs only [ev,mixed,Nat.reduceLT,Nat.reduceAdd,Nat.reduceMul,reduceIte,Nat.reduceEqDiff,reduceCtorEq,Nat.reducePow,Nat.reduceLeDiff,Int.reduceLE,Int.reduceLT,Int.reduceToNat,Int.reduceEq,Nat.reduceBEq,itsOf,gdA,byteI,opid,lenQ,ixQ,ldH,readAt,readCells,asCell,faQ,exQ,fldQ,partA,buildQ,slQ,stH,bslH,appH,dcells,convI,elemsOf,D.one,nilS,fillD,convN,cvH,tyR3Rd0]) | (with_reducible refine ⟨?_,?_⟩; (· first | (obtain ⟨rfl⟩:=‹Hq _ _›; with_reducible refine chk_ok ?_; kernel_rfl) | kernel_rfl)) | (with_reducible intro ops hops)))
      refine Wc_split (fun h=>?_) (fun h=>?_)
      ·have hR:readGo i r=none:=by rw [hq,if_neg (by intro he; have:=congrArg List.length he; simp at this h; omega)]; rfl
       (repeat (first | (simp -implicitDefEqProofs only [ev,mixed,Nat.reduceLT,Nat.reduceAdd,Nat.reduceMul,reduceIte,Nat.reduceEqDiff,reduceCtorEq,Nat.reducePow,Nat.reduceLeDiff,Int.reduceLE,Int.reduceLT,Int.reduceToNat,Int.reduceEq,Nat.reduceBEq,itsOf,gdA,byteI,opid,lenQ,ixQ,ldH,readAt,readCells,asCell,faQ,exQ,fldQ,partA,buildQ,slQ,stH,bslH,appH,dcells,convI,elemsOf,D.one,nilS,fillD,convN,cvH,tyR3Rd0]) | (with_reducible refine ⟨?_,?_⟩; (· first | (obtain ⟨rfl⟩:=‹Hq _ _›; with_reducible refine chk_ok ?_; kernel_rfl) | kernel_rfl)) | (with_reducible intro ops hops)))
       refine fin_tt [] rfl ?_
       simp [cv,cvT,cv1,cv0,upd,pairR,hR]
      ·have hR:readGo i r=some acc:=by rw [hq,if_pos (by apply List.drop_eq_nil_of_le; simp at h; omega)]; simp
       (repeat (first | (simp -implicitDefEqProofs only [ev,mixed,Nat.reduceLT,Nat.reduceAdd,Nat.reduceMul,reduceIte,Nat.reduceEqDiff,reduceCtorEq,Nat.reducePow,Nat.reduceLeDiff,Int.reduceLE,Int.reduceLT,Int.reduceToNat,Int.reduceEq,Nat.reduceBEq,itsOf,gdA,byteI,opid,lenQ,ixQ,ldH,readAt,readCells,asCell,faQ,exQ,fldQ,partA,buildQ,slQ,stH,bslH,appH,dcells,convI,elemsOf,D.one,nilS,fillD,convN,cvH,tyR3Rd0]) | (with_reducible refine ⟨?_,?_⟩; (· first | (obtain ⟨rfl⟩:=‹Hq _ _›; with_reducible refine chk_ok ?_; kernel_rfl) | kernel_rfl)) | (with_reducible intro ops hops)))
       refine fin_tt [100] rfl ?_
       simp [cv,cvT,cv1,cv0,upd,pairR,hR,hO,lk,elemsOf,List.take_of_length_le]
end Go.Proofs.YtckjpabekmhnhaaDoor
