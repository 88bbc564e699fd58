/- landref7.Catch: by value. -/
import Derived.Test.YtkodnlkgblkfdaaRClB
import Derived.Test.YtkodnlkgblkfdaaLaw6U
set_option linter.all false
namespace Go.Proofs.Ytkodnlkgblkfdaa
open Go Go.Abs Go.RowKit Go.Proofs.Ytkodnlkgblkfdaa.Ty
set_option maxHeartbeats 8000000
set_option maxRecDepth 20000
theorem rcatch_A (c:ClientD) (a b:UpdD) (now:Int) (hl:c.known.length≤1048576) (ha:UpSm a) (hb:UpSm b) :
  PureD Try.prog 15 [clientD c,updD a,updD b,intD now] (.tup [clientD (catchC c a b now).1,intD (catchC c a b now).2]):=by
 refine hide_r fun R hR=>?_
 have c1:=raskedC_A c now hl
 unfold catchC at hR
 by_cases h1:askedE c now=0
 rotate_left
 ·rw [if_neg h1] at hR
  simp only [zeroC] at hR
  generalize askedE c now=W at *
  clear ha hb
  refine callD_W 57 Try.func15 rfl rfl rfl (fun _ _=>rfl) ?_
  exact wkl trivial
 obtain ⟨ok,hn,hfz⟩:=asked_zero.1 h1
 have c2:=rbelieve_A c a now ok ha hn
 have c3:=rbelieve_A c b now ok hb hn
 have c4:=rsameH_A a.sg.hdr b.sg.hdr ha.s.h
 rw [if_pos h1] at hR
 rw [h1] at c1
 by_cases h2:beE c a now=0
 rotate_left
 ·rw [if_neg h2] at hR
  simp only [zeroC] at hR
  generalize beE c a now=W at *
  clear ha hb ok hfz h1 c3 c4
  refine callD_W 57 Try.func15 rfl rfl rfl (fun _ _=>rfl) ?_
  exact wkl trivial
 rw [if_pos h2] at hR
 rw [h2] at c2
 by_cases h3:beE c b now=0
 rotate_left
 ·rw [if_neg h3] at hR
  simp only [zeroC] at hR
  generalize beE c b now=W at *
  clear ha hb ok hfz h1 c4
  refine callD_W 57 Try.func15 rfl rfl rfl (fun _ _=>rfl) ?_
  exact wkl trivial
 rw [if_pos h3] at hR
 rw [h3] at c3
 have w1:=wrongH_ok (check_vals (be_zero h2).1).2.2
 have w2:=wrongH_ok (check_vals (be_zero h3).1).2.2
 have hs:=bytesH_same w1 w2
 have hx:(a.sg.hdr.h=b.sg.hdr.h∧¬ bytesH a.sg.hdr=bytesH b.sg.hdr)=(a.sg.hdr.h=b.sg.hdr.h∧¬ sameH a.sg.hdr b.sg.hdr=true):=by rw [← hs,decide_eq_true_eq]
 simp only [hx] at hR
 clear hx hs w1 w2 h1 h2 h3 ok ha hb hfz
 simp only [zeroC] at hR
 generalize sameH a.sg.hdr b.sg.hdr=B at *
 cases B
 ·by_cases h:a.sg.hdr.h=b.sg.hdr.h
  ·simp only [h,Bool.false_eq_true,not_false_eq_true,and_self,if_true] at hR
   refine callD_W 57 Try.func15 rfl rfl rfl (fun _ _=>rfl) ?_
   exact wkl trivial
  ·simp only [h,false_and,if_false] at hR
   refine callD_W 57 Try.func15 rfl rfl rfl (fun _ _=>rfl) ?_
   exact wkl trivial
 ·simp only [not_true_eq_false,and_false,if_false] at hR
  refine callD_W 57 Try.func15 rfl rfl rfl (fun _ _=>rfl) ?_
  exact wkl trivial
end Go.Proofs.Ytkodnlkgblkfdaa
