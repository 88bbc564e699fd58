/- client.Follow: by value. -/
import Derived.Test.YtkodnlkgblkfdaaGCl
import Derived.Test.YtkodnlkgblkfdaaClC
import Derived.Test.YtkodnlkgblkfdaaInsKn
set_option linter.all false
namespace Go.Proofs.Ytkodnlkgblkfdaa
open Go Go.Abs Go.RowKit Go.Proofs.Ytkodnlkgblkfdaa.Ty
set_option maxHeartbeats 4000000
set_option maxRecDepth 20000
theorem cdiff_A (k:KnownD) (h:Int) (hk:KnOk k) (hh:1≤h∧h≤1000000000000):PureD Try.prog 27 [knownD k,intD h] (intD (k.h - h)):=by
 refine hide_r fun R hR=>?_
 have k1:=hk.h
 have w1:IntKind.i64.wrap (k.h - h)=k.h - h:=wrap64 (by omega) (by omega)
 refine callD_W 9 Try.func27 rfl rfl rfl (fun _ _=>rfl) ?_
 exact wkl trivial
theorem csearch_A (l:List KnownD) (h:Int) (p:Nat) (hl:l.length≤1048576) (hp:p≤l.length) (hk:∀ k∈l,KnOk k) (hh:1≤h∧h≤1000000000000) (hm:∀ a (ha:a < l.length),l[a].h < h↔a < p) :
  PureD Try.prog 26 [.i (knownI l),intD h,.fn 27 []]
   (.tup [intD p,boolD (if ha:p < l.length then decide (l[p].h=h) else false)]):=by
 refine hide_r fun R hR=>?_
 refine callD_W 49 Try.func26 rfl rfl rfl (fun _ _=>rfl) ?_
 refine wkl ?_
 clear hR; intro hR
 refine W_loopR (ι:=Nat × Nat) (fun q=>q.1≤p∧p≤q.2∧q.2≤l.length)
  (fun q=>stOf [(0,.i (knownI l)),(1,intD h),(2,.fn 27 []),(8,intD l.length),(9,intD q.1),(10,intD q.2)] []) (fun q=>q.2 - q.1) (0,l.length) ⟨Nat.zero_le _,hp,Nat.le_refl _⟩ ?_ ?_
 ·exact le_ok [] []
 ·rintro ⟨i,j⟩ ⟨h1,h2,h3⟩ RL hL
  simp only at h1 h2 h3
  rw [stOf_eq]
  by_cases hij:i < j
  ·have hml:(i+j) / 2 < l.length:=by omega
   have s0:=get_lt (f:=encK) hml
   have hmm:=hm _ hml
   have c1:=cdiff_A _ h (hk _ (List.getElem_mem hml)) hh
   have w1:IntKind.i64.wrap ((i:Int)+(j:Int))=((i+j:Nat):Int):=by rw [wrap64 (by omega) (by omega)]; omega
   have w2:IntKind.u64.wrap ((i+j:Nat):Int)=((i+j:Nat):Int):=by rw [IntKind.wrap_u64]; omega
   have w3:((i+j:Nat):Int).fdiv (2 ^ min 1 64)=(((i+j) / 2:Nat):Int):=by
    rw [show min 1 64=1 from rfl,Int.fdiv_eq_ediv_of_nonneg _ (by decide)]; omega
   have w4:IntKind.i64.wrap (((i+j) / 2:Nat):Int)=(((i+j) / 2:Nat):Int):=by rw [wrap64 (by omega) (by omega)]
   have hmid1:i≤(i+j) / 2:=by omega
   have hmid2:(i+j) / 2 < j:=by omega
   generalize l[(i+j) / 2]=q at *
   by_cases hq:q.h < h
   ·have b1:=fun σ'=>bk [] [] (hL ((i+j) / 2+1,j) σ' ⟨hmm.1 hq,h2,h3⟩)
    clear hL
    simp only at b1
    generalize (i+j) / 2=m at *
    have hq':q.h - h < 0:=by omega
    clear hm hmm hk hR
    exact wkl trivial
   ·have b1:=fun σ'=>bk [] [] (hL (i,(i+j) / 2) σ' ⟨h1,by have:=fun e=>hq (hmm.2 e); omega,by omega⟩)
    clear hL
    simp only at b1
    generalize (i+j) / 2=m at *
    have hq':¬ q.h - h < 0:=by omega
    clear hm hmm hk hR
    exact wkl trivial
  ·have hi:i=p:=by omega
   subst hi
   clear hL hm
   by_cases hlt:i < l.length
   ·have s0:=get_lt (f:=encK) hlt
    have c1:=cdiff_A _ h (hk _ (List.getElem_mem hlt)) hh
    rw [dif_pos hlt] at hR
    clear hk
    generalize l[i]=q at *
    have he:decide (q.h - h=0)=decide (q.h=h):=decide_eq_decide.2 (by omega)
    exact wkl trivial
   ·rw [dif_neg hlt] at hR
    clear hk
    exact wkl trivial
theorem cown_D (c:ClientD) (hc:ClSm c):CallD Try.prog 20 [clientD c] noH (.agg [.i (.s (.string c.c)),.i (.s (.int .i64 c.trust)),.i (.s (.bool c.frozen)),.os 1 4 0 c.known.length]) (hOf noH [(1,.arr 4 (c.known.map encK))]):=by
 refine hide_c fun R R' hR hR'=>?_
 have hcl:=hc.l
 have e1:=clone_Kn c.known hcl
 refine callD_W 35 Try.func20 rfl rfl rfl (fun _ _=>rfl) ?_
 refine wkl ?_
 clear hR; intro hR
 refine W_loopR (ι:=Nat) (fun i=>i≤c.known.length)
  (fun i=>stOf [(1,.pt 100 0 0 0),(2,.pt 101 0 0 0),(10,.os 102 4 0 c.known.length),(11,intD c.known.length),(12,intD i)] [(100,.box [.i (.s (.string c.c)),.i (.s (.int .i64 c.trust)),.i (.s (.bool c.frozen)),.os 102 4 0 c.known.length]),(101,.box ((encC zeroC).map .i)),(102,.arr 4 (c.known.map encK))])
  (fun i=>c.known.length - i) 0 (Nat.zero_le _) ?_ ?_
 ·exact le_ok [] [(100,1000),(101,1001),(102,901)]
 ·rintro i hi RL hL
  rw [stOf_eq]
  by_cases h:i < c.known.length
  ·have s0:=get_lt (f:=encK) h
   have s1:=set_map (f:=encK) h
   have hk:=hc.k _ (List.getElem_mem h)
   have c1:=clone_A c.known[i].root (by have:=hk.r; omega)
   have c2:=clone_A c.known[i].next (by have:=hk.n; omega)
   have b1:=fun σ'=>bk [] [(100,100),(101,101),(102,102)] (hL (i+1) σ' h)
   clear hL e1 hk
   generalize c.known[i]=k at *
   simp only [encK,bI] at s0 s1
   exact wkl trivial
  ·have d1:SrcIs [] [(1,102)]:=⟨trivial⟩
   obtain ⟨rfl⟩:=hR'
   exact wkl trivial
theorem uK (l:List KnownD):∀ e∈l.map encK,e.length=4:=by simp [encK]
theorem bad_at {l:List KnownD} {p:Nat} {k:KnownD}:(badK l p k=true)=((0 < p∧∃ h:p - 1 < l.length,k.t≤l[p - 1].t)∨∃ h:p < l.length,l[p].t≤k.t):=by
 unfold badK
 by_cases h1:p - 1 < l.length <;> by_cases h2:p < l.length <;> simp [h1,h2]
theorem cfollow_A (c:ClientD) (u:UpdD) (now:Int) (hl:c.known.length≤1048576) (hu:UpSm u) :
  PureD Try.prog 12 [clientD c,updD u,intD now] (.tup [clientD (followC c u now).1,intD (followC c u now).2]):=by
 refine hide_r fun R hR=>?_
 have c1:=casked_A c now hl
 unfold followC at hR
 by_cases h1:askedE c now=0
 ·obtain ⟨ok,hn,hfz⟩:=asked_zero.1 h1
  have c2:=cbelieve_A c u now ok hu hn
  rw [if_pos h1] at hR
  rw [h1] at c1
  by_cases h2:beE c u now=0
  ·rw [if_pos h2] at hR
   rw [h2] at c2
   obtain ⟨hk,hv⟩:=be_hdr h2
   have e1:=cown_D c ok.sm
   have k1:=hk.r
   have k2:=hk.n
   have c3:=clone_A u.sg.hdr.root (by simp only [ofH] at k1; omega)
   have c4:=clone_A u.sg.hdr.next (by simp only [ofH] at k2; omega)
   have c5:=csearch_A c.known u.sg.hdr.h (lowK c.known u.sg.hdr.h) hl (low_le _ _) ok.k hk.h (low_iff ok.rise)
   have hlen:=ok.len
   have hle:=low_le c.known u.sg.hdr.h
   unfold putK at hR
   rcases low_case u.sg.hdr.h ok.rise with ⟨hp,hk0,hat⟩ | ⟨hno,hat⟩
   ·rw [dif_pos hp,decide_eq_true hk0] at c5
    simp only [ofH,hat] at hR
    have s0:=get_lt (f:=encK) hp
    clear hu h1 h2 hk hv k1 k2 hk0 hat ok hle
    generalize c.known[lowK c.known u.sg.hdr.h]=o at *
    generalize lowK c.known u.sg.hdr.h=p at *
    have c6:=equal_A o.root u.sg.hdr.root
    have c7:=equal_A o.next u.sg.hdr.next
    unfold samK at hR
    by_cases a1:o.t=u.sg.hdr.t <;> by_cases a2:o.root=u.sg.hdr.root <;> by_cases a3:o.next=u.sg.hdr.next <;> simp [a1,a2,a3] at hR c6 c7
    all_goals
     refine callD_W 131 Try.func12 rfl rfl rfl (fun _ _=>rfl) ?_
     exact wkl trivial
   ·have c5':PureD Try.prog 26 [.i (knownI c.known),intD u.sg.hdr.h,.fn 27 []] (.tup [intD (lowK c.known u.sg.hdr.h),boolD false]):=by
     have e:(if ha:lowK c.known u.sg.hdr.h < c.known.length then decide (c.known[lowK c.known u.sg.hdr.h].h=u.sg.hdr.h) else false)=false:=by
      split
      ·rename_i ha; exact decide_eq_false (hno ha)
      ·rfl
     rw [e] at c5; exact c5
    clear c5
    have c5:=c5'
    clear c5'
    simp only [ofH,hat] at hR
    have hbad:=@bad_at c.known (lowK c.known u.sg.hdr.h) ⟨u.sg.hdr.h,u.sg.hdr.t,u.sg.hdr.root,u.sg.hdr.next⟩
    simp only [hbad] at hR
    have e2:=insert_Kn (c.known.map encK) (encK ⟨u.sg.hdr.h,u.sg.hdr.t,u.sg.hdr.root,u.sg.hdr.next⟩) (lowK c.known u.sg.hdr.h) (by simpa using hle) (by simpa using hl) (uK c.known) rfl
    rw [← List.map_take,← List.map_drop,← List.map_cons,← List.map_append,List.length_map] at e2
    have hne:∃ a L,c.known.take (lowK c.known u.sg.hdr.h)++(⟨u.sg.hdr.h,u.sg.hdr.t,u.sg.hdr.root,u.sg.hdr.next⟩:KnownD) :: c.known.drop (lowK c.known u.sg.hdr.h)=a :: L∧L.length=c.known.length:=by
     have hll:(c.known.take (lowK c.known u.sg.hdr.h)++(⟨u.sg.hdr.h,u.sg.hdr.t,u.sg.hdr.root,u.sg.hdr.next⟩:KnownD) :: c.known.drop (lowK c.known u.sg.hdr.h)).length=c.known.length+1:=by simp; omega
     revert hll
     cases c.known.take (lowK c.known u.sg.hdr.h)++(⟨u.sg.hdr.h,u.sg.hdr.t,u.sg.hdr.root,u.sg.hdr.next⟩:KnownD) :: c.known.drop (lowK c.known u.sg.hdr.h) with
     | nil=>intro h; simp at h
     | cons a L=>intro h; exact ⟨a,L,rfl,by simpa using h⟩
    obtain ⟨a,L,hL,hLl⟩:=hne
    rw [hL] at e2 hR
    have s0:=fun h=>get_lt (f:=encK) (l:=c.known) (i:=lowK c.known u.sg.hdr.h - 1) h
    have s1:=fun h=>get_lt (f:=encK) (l:=c.known) (i:=lowK c.known u.sg.hdr.h) h
    clear hu h1 h2 hk hv k1 k2 hat ok hno hL hbad
    generalize lowK c.known u.sg.hdr.h=p at *
    have hcut:cutK (a :: L)=if (30:Int) < ((c.known.length+1:Nat):Int) then L else a :: L:=by
     unfold cutK; rw [List.length_cons,hLl]; rfl
    rw [hcut] at hR
    simp only [encK,bI,intD] at e2
    have z1:(a :: L).map encK=encK a :: L.map encK:=rfl
    clear hcut
    have z2:(L.map encK).take c.known.length=L.map encK:=by rw [← hLl]; exact take_len_map
    by_cases q1:0 < p <;> by_cases q2:p < c.known.length
    ·have a0:=s0 (by omega)
     have a1:=s1 q2
     have hc:((0 < p∧∃ h:p - 1 < c.known.length,u.sg.hdr.t≤c.known[p - 1].t)∨∃ h:p < c.known.length,c.known[p].t≤u.sg.hdr.t)=(u.sg.hdr.t≤c.known[p - 1].t∨c.known[p].t≤u.sg.hdr.t):=by simp [q1,q2,show p - 1 < c.known.length by omega]
     simp only [hc] at hR
     have w1:IntKind.i64.wrap ((p:Int) - 1)=((p - 1:Nat):Int):=by rw [wrap64 (by omega) (by omega)]; omega
     clear hc s0 s1
     generalize c.known[p - 1]=x at *
     generalize c.known[p]=y at *
     refine callD_W 131 Try.func12 rfl rfl rfl (fun _ _=>rfl) ?_
     exact wkl trivial
    ·have a0:=s0 (by omega)
     have hc:((0 < p∧∃ h:p - 1 < c.known.length,u.sg.hdr.t≤c.known[p - 1].t)∨∃ h:p < c.known.length,c.known[p].t≤u.sg.hdr.t)=(u.sg.hdr.t≤c.known[p - 1].t):=by simp [q1,q2,show p - 1 < c.known.length by omega]
     simp only [hc] at hR
     have w1:IntKind.i64.wrap ((p:Int) - 1)=((p - 1:Nat):Int):=by rw [wrap64 (by omega) (by omega)]; omega
     clear hc s0 s1
     generalize c.known[p - 1]=x at *
     refine callD_W 131 Try.func12 rfl rfl rfl (fun _ _=>rfl) ?_
     exact wkl trivial
    ·have a1:=s1 q2
     have hc:((0 < p∧∃ h:p - 1 < c.known.length,u.sg.hdr.t≤c.known[p - 1].t)∨∃ h:p < c.known.length,c.known[p].t≤u.sg.hdr.t)=(c.known[p].t≤u.sg.hdr.t):=by simp [q1,q2]
     simp only [hc] at hR
     clear hc s0 s1
     generalize c.known[p]=y at *
     obtain rfl:p=0:=by omega
     refine callD_W 131 Try.func12 rfl rfl rfl (fun _ _=>rfl) ?_
     exact wkl trivial
    ·omega
  ·rw [if_neg h2] at hR
   generalize beE c u now=W at *
   clear hu ok hn hfz h1
   refine callD_W 131 Try.func12 rfl rfl rfl (fun _ _=>rfl) ?_
   exact wkl trivial
 ·rw [if_neg h1] at hR
  generalize askedE c now=W at *
  clear hu
  refine callD_W 131 Try.func12 rfl rfl rfl (fun _ _=>rfl) ?_
  exact wkl trivial
end Go.Proofs.Ytkodnlkgblkfdaa
