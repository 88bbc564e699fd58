/- HeaderUnlike: by value. (hdrD signedD) -/
import Derived.Test.YtkodnlkgblkfdaaLaw6M
import Derived.Test.YtkodnlkgblkfdaaRHdS
set_option linter.all false
namespace Go.Proofs.Ytkodnlkgblkfdaa
open Go Go.Abs Go.RowKit Go.Proofs.Ytkodnlkgblkfdaa.Ty
theorem wpiece_len {p:PieceD} (h:p.kind=1∨p.kind=2):∃ x,wpiece p=some x∧x.length≤21+p.b.length:=by
 unfold wpiece
 rcases h with h | h
 ·have:=vnum_len_le p.n
  exact ⟨0 :: vnum p.n,by rw [if_pos h],by simp; omega⟩
 ·have:=vnum_len_le p.b.length
  exact ⟨1 :: (vnum p.b.length++p.b),by rw [if_neg (by omega),if_pos h],by simp; omega⟩
theorem writeGo_ok:∀ (l:List PieceD) (acc:List UInt8) (i:Nat),(∀ p∈l,p.kind=1∨p.kind=2)→acc.length+(l.map fun p=>21+p.b.length).sum≤20000→(writeGo acc i l).2.1=0
 | [],_,_,_,_=>rfl
 | p :: r,acc,i,hk,hs=>by
  obtain ⟨x,hx,hl⟩:=wpiece_len (hk p (List.mem_cons_self ..))
  simp only [List.map_cons,List.sum_cons] at hs
  simp only [writeGo,hx]
  rw [if_neg (by rw [List.length_append]; omega)]
  exact writeGo_ok r _ _ (fun q hq=>hk q (List.mem_cons_of_mem _ hq)) (by rw [List.length_append]; omega)
theorem writeF_ok {l:List PieceD} (hl:l.length≤200) (hk:∀ p∈l,p.kind=1∨p.kind=2) (hs:(l.map fun p=>21+p.b.length).sum≤19990):(writeF l).2.1=0:=by
 unfold writeF
 rw [if_neg (by omega)]
 exact writeGo_ok l _ _ hk (by have:=vnum_len_le l.length; omega)
structure HdrOk (x:HdrD):Prop where
 c:x.c.size≤20
 h:1≤x.h∧x.h≤1000000000000
 t:0≤x.t∧x.t≤1000000000000
 root:x.root.length=32
 vals:x.vals.length=32
 next:x.next.length=32
theorem wrongH_ok {h:HdrD} (e:wrongH h=0):HdrOk h:=by
 unfold wrongH numB at e
 split at e
 ·rename_i h1
  split at e
  ·cases e
  ·rename_i h2
   split at e
   ·cases e
   ·rename_i h3
    simp only [decide_eq_true_eq] at h2
    have hn:h.c.size≤20:=by
     unfold nameOk at h1
     simp only [Bool.and_eq_true,decide_eq_true_eq] at h1
     exact h1.1.2
    exact ⟨hn,by omega,by omega,by omega,by omega,by omega⟩
 ·cases e
theorem pcsH_64 (h:HdrD):n64s (pcsH h):=by
 intro p hp
 simp only [pcsH,rawB,numP,List.mem_cons,List.not_mem_nil,or_false] at hp
 rcases hp with rfl | rfl | rfl | rfl | rfl | rfl <;> first | exact u64_lt _ | (simp only; omega)
theorem bytesH_ok {h:HdrD} (r:HdrOk h):∃ a,writeF (pcsH h)=(bytesH h,0,a):=by
 have h0:(writeF (pcsH h)).2.1=0:=writeF_ok (by simp [pcsH]) (fun p hp=>by
   simp only [pcsH,rawB,numP,List.mem_cons,List.not_mem_nil,or_false] at hp
   rcases hp with rfl | rfl | rfl | rfl | rfl | rfl <;> simp) (by
   have:=r.c; have:=r.root; have:=r.vals; have:=r.next
   simp only [pcsH,rawB,numP,List.map_cons,List.map_nil,List.sum_cons,List.sum_nil,unB_len,List.length_nil]; omega)
 exact ⟨(writeF (pcsH h)).2.2,by unfold bytesH; rw [← h0]⟩
theorem unB_inj {a b:ByteArray} (h:unB a=unB b):a=b:=by rw [← strB_un a,← strB_un b,h]
theorem bytesH_same {a b:HdrD} (ra:HdrOk a) (rb:HdrOk b):decide (bytesH a=bytesH b)=sameH a b:=by
 obtain ⟨i,hi⟩:=bytesH_ok ra
 obtain ⟨j,hj⟩:=bytesH_ok rb
 rw [write_unlike hi hj (pcsH_64 a) (pcsH_64 b),Bool.eq_iff_iff,sameH_iff]
 have a1:=ra.h; have a2:=ra.t; have b1:=rb.h; have b2:=rb.t
 simp only [pcsH,rawB,numP,piecesSame,pieceSame]
 constructor
 ·intro h
  simp at h
  obtain ⟨h1,h2,h3,h4,h5,h6⟩:=h
  unfold u64 at h2 h3
  have e1:=unB_inj (of_decide_eq_true (by simpa using h1))
  have e2:a.h=b.h:=by omega
  have e3:a.t=b.t:=by omega
  obtain ⟨ac,ah,at',ar,av,an⟩:=a
  obtain ⟨bc,bh,bt,br,bv,bn⟩:=b
  simp only at *
  subst e1; subst e2; subst e3
  have e4:ar=br:=by simpa using h4
  have e5:av=bv:=by simpa using h5
  have e6:an=bn:=by simpa using h6
  rw [e4,e5,e6]
 ·rintro rfl
  simp
set_option maxHeartbeats 4000000
end Go.Proofs.Ytkodnlkgblkfdaa
