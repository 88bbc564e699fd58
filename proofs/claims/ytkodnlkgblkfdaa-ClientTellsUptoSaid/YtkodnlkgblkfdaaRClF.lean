/- landref7.Follow: by value. -/
import Derived.Test.YtkodnlkgblkfdaaRClB
set_option linter.all false
namespace Go.Proofs.Ytkodnlkgblkfdaa
open Go Go.Abs Go.RowKit Go.Proofs.Ytkodnlkgblkfdaa.Ty
set_option maxHeartbeats 16000000
set_option maxRecDepth 20000
theorem kn_sz {n:Nat} (h:n≤31):(n+1) * 64≤140737488355328∧(n+1+1) * 64≤140737488355328∧n+1≤140737488355328∧n+1+1≤140737488355328:=by omega
theorem rfollow_A (c:ClientD) (u:UpdD) (now:Int) (hl:c.known.length≤1048576) (hu:UpSm u) :
  PureD Try.prog 13 [clientD c,updD u,intD now] (.tup [clientD (followC c u now).1,intD (followC c u now).2]):=by
 refine hide_r fun R hR=>?_
 have c1:=raskedC_A c now hl
 unfold followC at hR
 by_cases h1:askedE c now=0
 rotate_left
 ·rw [if_neg h1] at hR
  simp only [zeroC] at hR
  generalize askedE c now=W at *
  clear hu
  refine callD_W 183 Try.func13 rfl rfl rfl (fun _ _=>rfl) ?_
  exact wkl trivial
 obtain ⟨ok,hn,hfz⟩:=asked_zero.1 h1
 have c2:=rbelieve_A c u now ok hu hn
 rw [if_pos h1] at hR
 rw [h1] at c1
 by_cases h2:beE c u now=0
 rotate_left
 ·rw [if_neg h2] at hR
  simp only [zeroC] at hR
  generalize beE c u now=W at *
  clear hu ok hfz h1
  refine callD_W 183 Try.func13 rfl rfl rfl (fun _ _=>rfl) ?_
  exact wkl trivial
 rw [if_pos h2] at hR
 rw [h2] at c2
 obtain ⟨hk,hv⟩:=be_hdr h2
 rw [← refK_eq ok.rise hfz] at hR
 have hl30:=ok.len
 have hkn:=ok.k
 have r4:=rsam_A c u.sg.hdr ok
 clear hu h1 h2 hn hv hk hl
 unfold refK at hR
 simp only [ofH] at hR r4
 generalize hF0:frzL c.known (⟨u.sg.hdr.h,u.sg.hdr.t,u.sg.hdr.root,u.sg.hdr.next⟩:KnownD) c.known false=F at *
 generalize hP0:putL (⟨u.sg.hdr.h,u.sg.hdr.t,u.sg.hdr.root,u.sg.hdr.next⟩:KnownD) c.known false=P at *
 generalize hT0:insK (⟨u.sg.hdr.h,u.sg.hdr.t,u.sg.hdr.root,u.sg.hdr.next⟩:KnownD) c.known=T at *
 refine callD_W 183 Try.func13 rfl rfl rfl (fun _ _=>rfl) ?_
 refine wkl ?_
 clear hR c1 c2; intro hR
 repeat' (intro _)
 refine W_loopR (ι:=Nat × Bool × Bool) (fun q=>q.1≤c.known.length∧frzL c.known (⟨u.sg.hdr.h,u.sg.hdr.t,u.sg.hdr.root,u.sg.hdr.next⟩:KnownD) (c.known.drop q.1) q.2.2=F∧putL (⟨u.sg.hdr.h,u.sg.hdr.t,u.sg.hdr.root,u.sg.hdr.next⟩:KnownD) (c.known.drop q.1) q.2.1=P)
  (fun q=>stOf [(3,.pt 100 0 0 0),(6,.pt 102 0 0 0),(10,.pt 103 0 0 0),(11,.pt 104 0 0 0),(12,.pt 105 0 0 0),(13,boolD q.2.1),(51,.i (knownI c.known)),(52,intD c.known.length),(53,intD q.1)]
   [(100,.box ((encC c).map .i)),(102,.box ((encC zeroC).map .i)),(103,.box ((encH u.sg.hdr).map .i)),(104,.box [.i (.s (.string c.c)),.i (.s (.int .i64 c.trust)),.i (.s (.bool q.2.2)),.i (.s (.slice none 0 0))]),(105,.box [.i (.s (.int .i64 u.sg.hdr.h)),.i (.s (.int .i64 u.sg.hdr.t)),.i (bI u.sg.hdr.root),.i (bI u.sg.hdr.next)])]) (fun q=>c.known.length - q.1) (0,false,false) ⟨Nat.zero_le _,hF0,hP0⟩ ?_ ?_
 ·exact le_ok [] [(100,1000),(102,1002),(103,2795),(104,3053),(105,3313)]
 ·rintro ⟨i,p,f⟩ ⟨hi,hF,hP⟩ RL hL
  simp only at hi hF hP
  rw [stOf_eq]
  by_cases hlt:i < c.known.length
  ·have s0:=get_lt (f:=encK) hlt
   have hkk:=hkn _ (List.getElem_mem hlt)
   rw [List.drop_eq_getElem_cons hlt] at hF hP
   rw [frzL,stF] at hF
   rw [putL] at hP
   have b0:=fun p' f' hF' hP' σ'=>bk [] [(100,100),(102,102),(103,103),(104,104),(105,105)] (hL (i+1,p',f') σ' ⟨hlt,hF',hP'⟩)
   simp only at b0
   clear hL hF0 hP0 hT0 r4 hR hkn ok
   generalize c.known[i]=k at *
   have k1:=hkk.r
   have k2:=hkk.n
   clear hkk
   have c1:=rnei_A c k.h u.sg.hdr.h (by omega)
   have c2:=same_A k.root u.sg.hdr.root (by omega)
   have c3:=same_A k.next u.sg.hdr.next (by omega)
   by_cases e:k.h=u.sg.hdr.h
   ·rw [if_pos e] at hF hP
    unfold samK at hF
    simp only at hF
    generalize decide (k.root=u.sg.hdr.root)=B2 at *
    generalize decide (k.next=u.sg.hdr.next)=B3 at *
    clear c1
    by_cases a1:k.t=u.sg.hdr.t
    ·rw [decide_eq_true a1] at hF
     cases B2 <;> cases B3 <;> simp only [Bool.true_and,Bool.and_true,Bool.and_false,Bool.false_and,Bool.false_eq_true,if_false,if_true,Bool.and_self] at hF
     all_goals
      have b1:=b0 _ _ hF hP
      clear b0 hF hP
      exact wkl trivial
    ·rw [decide_eq_false a1] at hF
     simp only [Bool.false_and,Bool.false_eq_true,if_false] at hF
     have b1:=b0 _ _ hF hP
     clear b0 hF hP
     exact wkl trivial
   ·rw [if_neg e] at hF hP
    clear c2 c3
    simp only at hF
    by_cases q:(k.h < u.sg.hdr.h∧u.sg.hdr.t≤k.t)∨(u.sg.hdr.h < k.h∧k.t≤u.sg.hdr.t)
    ·rw [if_pos q] at hF
     cases f
     ·simp only [Bool.false_or] at hF
      have b1:=b0 _ _ hF hP
      clear b0 hF hP
      generalize neiL k.h u.sg.hdr.h c.known=B at *
      exact wkl trivial
     ·simp only [Bool.true_or] at hF
      have b1:=b0 _ _ hF hP
      clear b0 hF hP c1
      exact wkl trivial
    ·rw [if_neg q] at hF
     have b1:=b0 _ _ hF hP
     clear b0 hF hP c1
     exact wkl trivial
  ·rw [List.drop_eq_nil_of_le (by omega)] at hF hP
   simp only [frzL,putL] at hF hP
   subst hF
   subst hP
   clear hL hF0 hP0
   cases p
   ·cases f
    ·simp only [finK,Bool.false_eq_true,if_false] at hR
     refine wkl ?_
     clear hR; intro hR
     repeat' (intro _)
     refine W_loopR (ι:=Nat × Bool × List KnownD) (fun q=>q.1≤c.known.length∧q.2.2.length≤q.1+(if q.2.1=true then 1 else 0)∧T=q.2.2++(if q.2.1=true then c.known.drop q.1 else insK (⟨u.sg.hdr.h,u.sg.hdr.t,u.sg.hdr.root,u.sg.hdr.next⟩:KnownD) (c.known.drop q.1)))
      (fun q=>stOf [(6,.pt 102 0 0 0),(10,.pt 103 0 0 0),(11,.pt 104 0 0 0),(12,.pt 105 0 0 0),(13,boolD q.2.1),(138,.i (knownI c.known)),(139,intD c.known.length),(140,intD q.1)]
       [(102,.box ((encC zeroC).map .i)),(103,.box ((encH u.sg.hdr).map .i)),(104,.box [.i (.s (.string c.c)),.i (.s (.int .i64 c.trust)),.i (.s (.bool false)),.os 106 4 0 q.2.2.length]),(105,.box [.i (.s (.int .i64 u.sg.hdr.h)),.i (.s (.int .i64 u.sg.hdr.t)),.i (bI u.sg.hdr.root),.i (bI u.sg.hdr.next)]),(106,.arr 4 (q.2.2.map encK))]) (fun q=>c.known.length - q.1) (0,false,[]) ⟨Nat.zero_le _,by simp,by simp [hT0]⟩ ?_ ?_
     ·exact le_ok [] [(102,102),(103,103),(104,104),(105,105)]
     ·rintro ⟨i,p,O⟩ ⟨hi,hO,hq⟩ RL hL
      simp only at hi hO hq
      rw [stOf_eq]
      have q0:O.length≤31:=by
       have:O.length≤i+1:=by cases p <;> simp at hO <;> omega
       omega
      obtain ⟨q1,q2,q3,q4⟩:=kn_sz q0
      clear hkn ok r4 hT0
      by_cases h:i < c.known.length
      ·have s0:=get_lt (f:=encK) h
       rw [List.drop_eq_getElem_cons h] at hq
       have b0:=fun p' O' g1 g2 σ'=>bk [] [(102,102),(103,103),(104,104),(105,105),(106,9708)] (hL (i+1,p',O') σ' ⟨h,g1,g2⟩)
       simp only at b0
       clear hL hR
       generalize c.known[i]=k at *
       cases p
       ·simp only [Bool.false_eq_true,if_false,insK] at hq hO
        by_cases g:u.sg.hdr.h < k.h
        ·rw [if_pos g] at hq
         have b1:=b0 true (O++[⟨u.sg.hdr.h,u.sg.hdr.t,u.sg.hdr.root,u.sg.hdr.next⟩]++[k]) (by simp; omega) (by simpa using hq)
         clear b0 hq
         exact wkl trivial
        ·rw [if_neg g] at hq
         have b1:=b0 false (O++[k]) (by simp; omega) (by simpa using hq)
         clear b0 hq
         exact wkl trivial
       ·simp only [if_true] at hq hO
        have b1:=b0 true (O++[k]) (by simp; omega) (by simpa using hq)
        clear b0 hq
        exact wkl trivial
      ·rw [List.drop_eq_nil_of_le (by omega)] at hq
       clear hL
       cases p
       ·simp only [Bool.false_eq_true,if_false,insK] at hq hO
        rw [hq] at hR
        clear hq hO hlt hi
        cases O with
        | nil =>
         simp only [List.length_nil,Nat.zero_add] at q0 q1 q2 q3 q4
         rw [show cutK ([]++[(⟨u.sg.hdr.h,u.sg.hdr.t,u.sg.hdr.root,u.sg.hdr.next⟩:KnownD)])=[⟨u.sg.hdr.h,u.sg.hdr.t,u.sg.hdr.root,u.sg.hdr.next⟩] from by simp [cutK]] at hR
         exact wkl trivial
        | cons a L =>
         simp only [List.length_cons] at q0 q1 q2 q3 q4
         have z2:(L.map encK++[encK (⟨u.sg.hdr.h,u.sg.hdr.t,u.sg.hdr.root,u.sg.hdr.next⟩:KnownD)]).take (L.length+1)=L.map encK++[encK (⟨u.sg.hdr.h,u.sg.hdr.t,u.sg.hdr.root,u.sg.hdr.next⟩:KnownD)]:=List.take_of_length_le (by simp)
         simp only [encK,bI] at z2
         have hlen:(a :: L++[(⟨u.sg.hdr.h,u.sg.hdr.t,u.sg.hdr.root,u.sg.hdr.next⟩:KnownD)]).length=L.length+2:=by simp
         by_cases h30:(30:Int) < ((L.length+2:Nat):Int)
         ·rw [cutK,hlen,if_pos h30,List.cons_append,List.drop_succ_cons,List.drop_zero] at hR
          clear hlen
          exact wkl trivial
         ·rw [cutK,hlen,if_neg h30,List.cons_append] at hR
          clear hlen
          exact wkl trivial
       ·simp only [if_true,List.append_nil] at hq
        subst hq
        clear hO hlt hi
        by_cases h30:(30:Int) < (T.length:Int)
        ·rw [cutK,if_pos h30] at hR
         cases T with
         | nil=>simp at h30
         | cons a L =>
          have z2:(L.map encK).take L.length=L.map encK:=take_len_map
          rw [List.drop_succ_cons,List.drop_zero] at hR
          rw [List.length_cons] at h30
          exact wkl trivial
        ·rw [cutK,if_neg h30] at hR
         exact wkl trivial
    ·simp only [finK,Bool.false_eq_true,if_false,if_true] at hR
     clear hT0 hkn ok r4
     exact wkl trivial
   ·simp only [finK,if_true] at hR
    have c1:=r4
    clear hT0 hkn ok r4
    generalize samK (atR c u.sg.hdr.h).1 (⟨u.sg.hdr.h,u.sg.hdr.t,u.sg.hdr.root,u.sg.hdr.next⟩:KnownD)=B at *
    exact wkl trivial
end Go.Proofs.Ytkodnlkgblkfdaa
