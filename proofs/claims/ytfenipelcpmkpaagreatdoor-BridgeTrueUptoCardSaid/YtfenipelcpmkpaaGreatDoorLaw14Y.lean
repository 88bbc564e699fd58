/- The law BridgeTrue: the walk. -/
import Derived.Test.YtfenipelcpmkpaaGreatDoorLaw14A
import Derived.Test.YtfenipelcpmkpaaGreatDoorLaw14W
import Derived.Test.YtfenipelcpmkpaaGreatDoorHon
import Derived.Test.YtfenipelcpmkpaaGreatDoorWld
set_option linter.all false
set_option maxHeartbeats 16000000
set_option maxRecDepth 20000
namespace Go.Proofs.YtfenipelcpmkpaaGreatDoor
open Go Go.Abs Go.RowKit Go.Proofs.YtfenipelcpmkpaaGreatDoor.Ty
@[local go_sem] theorem abo:aB Tryz.prog 90=some (.map 3 98):=by kernel_rfl
@[local go_sem] theorem abk:g_ Tryz.prog 98=some (.agg #[.int .i64 0,.slice none 0 0]):=by kernel_rfl
theorem past_no {w:qA} {e:EvD} (h:¬ (e.kind=1/\(iC w e).2.err=0)):(iC w e).1.1.past=w.1.past/\(iC w e).1.2.past=w.2.past:=by
 have key:∀ {c o:aJ},¬ (e.kind=1/\(fM c o e).2.err=0)->(fM c o e).1.past=c.past:=fun {c o} h=>by
  by_cases k:e.kind=1
  ·rw [TA (fun q=>h ⟨k,q⟩)]
  ·unfold fM gN gM
   rw [if_neg k]
   split
   ·split
    ·rfl
    ·exact (act_past c _).1
   ·split
    ·split
     ·rfl
     ·exact (act_past c _).1
    ·split
     ·exact (act_past c _).1
     ·split
      ·exact (act_past c _).1
      ·rfl
 by_cases k0:e.side=0
 ·rw [wY k0] at h ⊢
  exact ⟨key h,rfl⟩
 ·by_cases k1:e.side=1
  ·rw [zN k1] at h ⊢
   exact ⟨rfl,key h⟩
  ·rw [Tc k0 k1]; exact ⟨rfl,rfl⟩
theorem past_one {c o:aJ} {e:EvD} (k:e.kind=1) (h:(fM c o e).2.err=0) (po:iy c):(fM c o e).1.past.map oG=c.past.map oG++[(.int .i64 c.s.h,(true,[.s (.int .i64 c.s.t),bI (gu c.s).1]))]/\(gu c.s).2=0 /\
  luM (.int .i64) (.int .i64 c.s.h) (c.past.map oG)=some none/\upM (.int .i64) (.int .i64 c.s.h) (true,[.s (.int .i64 c.s.t),bI (gu c.s).1]) (c.past.map oG)=c.past.map oG++[(.int .i64 c.s.h,(true,[.s (.int .i64 c.s.t),bI (gu c.s).1]))]:=by
 have ee:fM c o e=dn c e.later:=by unfold fM; rw [if_pos k]
 rw [ee] at h ⊢
 obtain ⟨_,h2,_,e2⟩:=block_done h
 have hn:=row_new (h:=c.s.h) (v:=(true,[.s (.int .i64 c.s.t),bI (gu c.s).1])) (l:=c.past) (fun e he=>(po.lt e he).1)
 refine ⟨?_,h2,hn.1,hn.2⟩
 rw [e2]
 simp only [List.map_append,List.map_cons,List.map_nil]
 rfl
theorem PG {o:aJ} (po:iy o) {x:aG} (h:Gp o x) {k:aS} (hk:k∈x.known):luM (.int .i64) (.int .i64 k.h) (o.past.map oG)=some (some (true,[.s (.int .i64 k.t),bI k.root])):=by
 obtain ⟨e,he,rfl⟩:=h.2 k hk
 rw [po.hdr e he]
 exact Rx po.rise he
theorem walk_BridgeTrue (y0:I) (l:List EvD) (e0:y0=Zq l/\∀ e∈l,uT e.m) (hb:bkI y0<=1048576) :
  ∃ Ds,PureD Tryz.prog 5 Ds (.i (.s (.bool true)))/\Ds=[.i y0]:=by
 obtain ⟨rfl,h64⟩:=e0
 refine ⟨_,?_,rfl⟩
 obtain ⟨he,hl⟩:=evs_sm (n:=1048576) hb (by omega) h64
 clear hb h64
 refine au fun R hR=>?_
 have c1:=Nj
 have c2:=Jv l (by omega) he
 unfold Zq
 by_cases h:(120:Int) < l.length
 ·rw [if_pos h] at c2
  clear he
  refine aa 143 Tryz.func5 rfl rfl rfl (fun _ _=>rfl) ?_
  exact wkl trivial
 ·rw [if_neg h] at c2
  by_cases hh:∀ e∈l,trueEv e
  rotate_left
  ·have c3:=Yj l (by omega) false ⟨fun q=>(nomatch q),fun q=>absurd q hh⟩
   clear he hh
   generalize sV l=W at *
   obtain ⟨⟨A,B⟩,ds⟩:=W
   refine aa 143 Tryz.func5 rfl rfl rfl (fun _ _=>rfl) ?_
   exact wkl trivial
  ·have c3:=Yj l (by omega) true ⟨fun _=>hh,fun _=>rfl⟩
   have ht:∀ i,i<=l.length->qz (gW fD (l.take i)).1/\zw (gW fD (l.take i)).1 i:=fun i hi=>by
    have h1:=Jn (l.take i) lL (by simp; omega)
    have h2:=EJ (l.take i) Ea lL (by simp; omega) (fun e he=>hh e (List.mem_of_mem_take he))
    rw [List.length_take,Nat.min_eq_left hi,Nat.zero_add] at h1
    exact ⟨h2,h1⟩
   have d1:(sV l).2.length=l.length:=rD l fD
   have d2:∀ i (hi:i < l.length),(sV l).2[i]?=some (iC (gW fD (l.take i)).1 l[i]).2:=fun i hi=>(Rw hi fD).2
   have d3:∀ i (hi:i < l.length),(gW fD (l.take (i+1))).1=(iC (gW fD (l.take i)).1 l[i]).1:=fun i hi=>(Rw hi fD).1
   have cp:=fun (i:Nat) (hi:i < l.length)=>Jv (l.take i) (by simp; omega) (fun e q=>he e (List.mem_of_mem_take q))
   have hlast:(gW fD (l.take l.length)).1=(sV l).1:=by rw [List.take_length]; rfl
   have un:uni 67 (l.map encEv)=true:=by simp [uni,encEv]
   clear he hh
   generalize sV l=W at *
   obtain ⟨⟨A,B⟩,da⟩:=W
   simp only at c2 d1 d2 hlast
   refine aa 143 Tryz.func5 rfl rfl rfl (fun _ _=>rfl) ?_
   refine wkl ?_
   clear hR; intro hR
   repeat' (intro _)
   clear c1 c2 c3
   have lda:da.length<=120:=by omega
   refine aW (ι:=Nat) (fun i=>i<=l.length) (fun i=>dQ [(0,.i (.sl (l.map encEv))),(3,.pt 100 0 0 0),(4,.i (.sl (da.map j_))),(6,.pt 101 0 0 0),(40,.i (.sl (l.map encEv))),(41,intD l.length),(42,intD i)]
    [(100,.box (Rm (A,B))),(101,.box [.mp 102,.mp 103]),(102,.mp ((gW fD (l.take i)).1.1.past.map oG)),(103,.mp ((gW fD (l.take i)).1.2.past.map oG))]) (fun i=>l.length - i) 0 (Nat.zero_le _) ?_ ?_
   ·simp only [List.take_zero,show (gW fD []).1.1.past=[] from rfl,show (gW fD []).1.2.past=[] from rfl,List.map_nil]
    exact dA [] [(100,1774),(101,2539),(102,2536),(103,2537)]
   ·rintro i hi RL hL
    rw [ak]
    by_cases h2:i < l.length
    ·obtain ⟨hT,hok⟩:=ht i hi
     have c2:=cp i h2
     have s0:=aF (f:=encEv) h2
     have k1:i < da.length:=by omega
     have hd:=d2 i h2
     rw [List.getElem?_eq_getElem k1] at hd
     injection hd with hd
     have s1:=aF (f:=j_) k1
     have hL2:=fun σ'=>hL (i+1) σ' h2
     rw [d3 i h2] at hL2
     have hi120:i < 120:=by omega
     have g5:¬ (120:Int) < ((l.take i).length:Nat):=by simp; omega
     rw [if_neg g5,List.map_take,show (sV (l.take i)).1=(gW fD (l.take i)).1 from rfl] at c2
     generalize (sV (l.take i)).2=ds2 at c2
     clear hL d2 d3 ht hlast cp g5
     generalize (gW fD (l.take i)).1=V at *
     generalize l[i]=e at *
     generalize da[i]=dd at *
     by_cases kb:e.kind=1/\dd.err=0
     ·obtain ⟨kk,ke⟩:=kb
      by_cases k0:e.side=0
      ·rw [wY k0] at hd hL2
       simp only at hd hL2
       subst hd
       obtain ⟨p1,p2,p3,p4⟩:=past_one kk ke hT.pa
       rw [p1] at hL2
       have c3:=Jc V
       have c4:=DZ V.1.s hok.a.ok.sm
       rw [p2] at c4
       have b1:=fun σ'=>bk [] [(100,100),(101,101),(102,102),(103,103)] (hL2 σ')
       clear hL2 hT hok p1
       generalize V.1.past.map oG=ra at *
       generalize V.2.past.map oG=rb at *
       generalize (gu V.1.s).1=rt at *
       generalize (fM V.1 V.2 e).2=q at *
       simp only [bI] at p4
       exact wkl trivial
      ·have k1':e.side=1:=by
        refine Classical.byContradiction fun k1=>?_
        rw [Tc k0 k1] at hd
        rw [hd] at ke; exact absurd ke (show ¬ (1:Int)=0 by decide)
       rw [zN k1'] at hd hL2
       simp only at hd hL2
       subst hd
       obtain ⟨p1,p2,p3,p4⟩:=past_one kk ke hT.pb
       rw [p1] at hL2
       have c3:=Jb V 1 (by decide)
       have c4:=DZ V.2.s hok.b.ok.sm
       rw [p2] at c4
       have b1:=fun σ'=>bk [] [(100,100),(101,101),(102,102),(103,103)] (hL2 σ')
       clear hL2 hT hok p1
       generalize V.1.past.map oG=ra at *
       generalize V.2.past.map oG=rb at *
       generalize (gu V.2.s).1=rt at *
       generalize (fM V.2 V.1 e).2=q at *
       simp only [bI] at p4
       exact wkl trivial
     ·have hn:¬ (e.kind=1/\(iC V e).2.err=0):=by rw [<- hd]; exact kb
      obtain ⟨p1,p2⟩:=past_no hn
      rw [p1,p2] at hL2
      have b1:=fun σ'=>bk [] [(100,100),(101,101),(102,102),(103,103)] (hL2 σ')
      clear hL2 hT hok p1 p2 hn hd c2
      generalize V.1.past.map oG=ra at *
      generalize V.2.past.map oG=rb at *
      by_cases kk:e.kind=1
      ·have ke:¬ dd.err=0:=fun q=>kb ⟨kk,q⟩
       clear kb
       exact wkl trivial
      ·clear kb
       exact wkl trivial
    ·have hi2:i=l.length:=by omega
     subst hi2
     obtain ⟨hT,hok⟩:=ht l.length (Nat.le_refl _)
     rw [hlast] at hT hok ⊢
     clear hL d2 d3 ht hlast cp
     have key:∀ k:Nat,k < 2->∃ (S O:aJ) (n:Nat),PureD Tryz.prog 30 [.agg (Rm (A,B)),intD k] (stateD S.s)/\((k=0/\O=B)\/(k=1/\O=A))/\qB S O/\iy O/\StOk S.s:=fun k hk=>by
      rcases (by omega:k=0\/k=1) with rfl | rfl
      ·exact ⟨A,B,0,Jc (A,B),.inl ⟨rfl,rfl⟩,hT.a,hT.pb,hok.a.ok⟩
      ·exact ⟨B,A,0,Jb (A,B) ((1:Nat):Int) (by decide),.inr ⟨rfl,rfl⟩,hT.b,hT.pa,hok.b.ok⟩
     refine wkl ?_
     clear hR; intro hR
     repeat' (intro _)
     refine aW (ι:=Nat) (fun k=>k<=2) (fun k=>dQ [(3,.pt 100 0 0 0),(6,.pt 101 0 0 0),(92,intD k)]
      [(100,.box (Rm (A,B))),(101,.box [.mp 102,.mp 103]),(102,.mp (A.past.map oG)),(103,.mp (B.past.map oG))]) (fun k=>2 - k) 0 (Nat.zero_le _) ?_ ?_
     ·exact dA [] [(100,100),(101,101),(102,102),(103,103)]
     ·rintro k hk RL2 hL
      rw [ak]
      by_cases h2:k < 2
      ·obtain ⟨S,O,_,c1,hO,hK,pO,okS⟩:=key k h2
       have b0:=fun σ'=>bk [] [(100,100),(101,101),(102,102),(103,103)] (hL (k+1) σ' h2)
       have lcl:=okS.lcl
       have hcl:=okS.cls
       clear hL key hT hok okS
       refine wkl ?_
       clear hR; intro hR
       intros
       clear c1
       refine aW (ι:=Nat) (fun i=>i<=S.s.cls.length) (fun i=>dQ [(3,.pt 100 0 0 0),(6,.pt 101 0 0 0),(15,intD k),(92,intD k),(98,.i (.sl (S.s.cls.map fZ))),(99,intD S.s.cls.length),(100,intD i)]
        [(100,.box (Rm (A,B))),(101,.box [.mp 102,.mp 103]),(102,.mp (A.past.map oG)),(103,.mp (B.past.map oG))]) (fun i=>S.s.cls.length - i) 0 (Nat.zero_le _) ?_ ?_
       ·exact dA [] [(100,100),(101,101),(102,102),(103,103)]
       ·rintro i hi RL3 hL
        rw [ak]
        by_cases h3:i < S.s.cls.length
        ·have s0:=aF (f:=fZ) h3
         have hx:=hK _ (List.getElem_mem h3)
         have hc:=hcl _ (List.getElem_mem h3)
         have b2:=fun σ'=>bk [] [(100,100),(101,101),(102,102),(103,103)] (hL (i+1) σ' h3)
         have fz:=hx.1
         have lkn:=hc.len
         have kat:=fun k hk=>PG pO hx (k:=k) hk
         have kro:=fun k hk=>(hc.k k hk).r
         clear hL hK hcl hx hc pO b0
         generalize S.s.cls[i]=x at *
         refine wkl ?_
         clear hR; intro hR
         intros
         refine aW (ι:=Nat) (fun j=>j<=x.known.length) (fun j=>dQ [(3,.pt 100 0 0 0),(6,.pt 101 0 0 0),(15,intD k),(92,intD k),(98,.i (.sl (S.s.cls.map fZ))),(99,intD S.s.cls.length),(100,intD i),(107,.i (.sl (x.known.map iP))),(108,intD x.known.length),(109,intD j)]
          [(100,.box (Rm (A,B))),(101,.box [.mp 102,.mp 103]),(102,.mp (A.past.map oG)),(103,.mp (B.past.map oG))]) (fun j=>x.known.length - j) 0 (Nat.zero_le _) ?_ ?_
         ·exact dA [] [(100,100),(101,101),(102,102),(103,103)]
         ·rintro j hj RL4 hL
          rw [ak]
          by_cases h4:j < x.known.length
          ·have s2:=aF (f:=iP) h4
           have u1:=kat _ (List.getElem_mem h4)
           have c1:=WU x.known[j].root x.known[j].root (by have:=kro _ (List.getElem_mem h4); omega)
           have b1:=fun σ'=>bk [] [(100,100),(101,101),(102,102),(103,103)] (hL (j+1) σ' h4)
           rw [decide_eq_true rfl] at c1
           clear hL b2 kat kro s0
           generalize x.known[j]=y at *
           generalize hra:A.past.map oG=ra at *
           generalize hrb:B.past.map oG=rb at *
           rcases hO with ⟨rfl,rfl⟩ | ⟨rfl,rfl⟩
           ·rw [hrb] at u1
            have w9:(1:Int) - 0=1:=by decide
            clear hra hrb
            exact wkl trivial
           ·rw [hra] at u1
            have w9:(1:Int) - 1=0:=by decide
            clear hra hrb
            exact wkl trivial
          ·have hj2:j=x.known.length:=by omega
           subst hj2
           clear hL kat kro
           have b1:=b2
           clear b2
           exact wkl trivial
        ·have hi2:i=S.s.cls.length:=by omega
         subst hi2
         clear hL hK hcl
         have b1:=b0
         clear b0
         exact wkl trivial
      ·clear hL key
       exact wkl trivial
end Go.Proofs.YtfenipelcpmkpaaGreatDoor
