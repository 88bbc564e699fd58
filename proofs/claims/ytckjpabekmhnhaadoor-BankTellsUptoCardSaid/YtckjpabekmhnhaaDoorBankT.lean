/- bank.Bytes, Parse: by value. (sD, trD, intD) -/
import Derived.Test.YtckjpabekmhnhaaDoorDecPu
import Derived.Test.YtckjpabekmhnhaaDoorGWire
import Derived.Test.YtckjpabekmhnhaaDoorWRead
import Derived.Test.YtckjpabekmhnhaaDoorG0
set_option linter.all false
namespace Go.Proofs.YtckjpabekmhnhaaDoor
open Go Go.Abs Go.RowKit Go.Proofs.YtckjpabekmhnhaaDoor.Ty
def rawP (s:ByteArray):PieceD:=⟨2,0,unB s⟩
def pcsT (t:TranD):List PieceD:=[rawP t.d,⟨1,t.n,[]⟩,rawP t.s,rawP t.r]
def bytesT (t:TranD):List UInt8:=(writeF (pcsT t)).1
def zeroT:TranD:=⟨⟨#[]⟩,0,⟨#[]⟩,⟨#[]⟩⟩
def wordsE (l:List ByteArray):Int:=if l.all wordOk then 0 else 4
def checkT (t:TranD):TranD × Int:=if wordsE [t.d,t.s,t.r]=0 then (if t.n=0 then (zeroT,3) else (t,0)) else (zeroT,wordsE [t.d,t.s,t.r])
def formT:List PieceD→TranD × Int
 | [a,b,c,d]=>if a.kind=2∧b.kind=1∧c.kind=2∧d.kind=2 then checkT ⟨strB a.b,b.n,strB c.b,strB d.b⟩ else (zeroT,2)
 | _=>(zeroT,2)
def parseT (b:List UInt8):TranD × Int:=if (readF b).2=0 then formT (readF b).1 else (zeroT,(readF b).2)
theorem formT_no {l:List PieceD} (h:l.length≠4):formT l=(zeroT,2):=by
 unfold formT
 split
 ·simp at h
 ·rfl
set_option maxHeartbeats 4000000
theorem raw_A (s:ByteArray) (hs:s.size≤140737488355328):PureD Tryd.prog 46 [sD s] (.agg [.i (.s (.int .i64 2)),.i (.s (.int .u64 0)),.i (bI (unB s))]):=by
 refine hide_r fun R hR=>?_
 refine callD_W 6 Tryd.func46 rfl rfl rfl (fun _ _=>rfl) ?_
 (repeat' (first | (simp -implicitDefEqProofs only [go_sem,Nat.reduceLT,Nat.reduceAdd,Nat.reduceMul,reduceIte,Nat.reduceEqDiff,reduceCtorEq,Nat.reducePow,Nat.reduceLeDiff,Int.reduceLE,Int.reduceLT,Int.reduceToNat,Int.reduceEq,Nat.reduceBEq,sD,strI_un, *]) | (with_reducible refine ⟨?_,?_⟩; (· first | (obtain ⟨rfl⟩:=‹Hq _ _›; with_reducible refine chk_ok ?_; kernel_rfl) | kernel_rfl)) | (with_reducible intro ops hops) | (simp -implicitDefEqProofs (disch:=omega) only [wr64,wru64,get_lt]) | ((first | refine Wc_split (fun hg=>?_) (fun hg=>?_) | refine RoG_split (fun hg=>?_) (fun hg=>?_) | refine RdG_split (fun hg=>?_) (fun hg=>?_)) <;> (try simp only [nrm] at hg) <;> (try simp only [hg,lgc,reduceIte,reduceCtorEq] at hR) <;> (try (exfalso; omega))) | ((try simp only [*,lgc,reduceIte,reduceCtorEq] at hR); obtain ⟨rfl⟩:=hR; refine fin_q (rs:=[.cell 2 66]) rfl ?_; (try simp only [go_sem,Nat.reduceLT,Nat.reduceAdd,Nat.reduceMul,reduceIte,Nat.reduceEqDiff,reduceCtorEq,Nat.reducePow,Nat.reduceLeDiff,Int.reduceLE,Int.reduceLT,Int.reduceToNat,Int.reduceEq,Nat.reduceBEq,sD,strI_un]); (simp [sD,strI_un]; done))))
theorem bytes_A (t:TranD) (hn:t.n < 18446744073709551616) (h1:t.d.size≤1048576) (h2:t.s.size≤1048576) (h3:t.r.size≤1048576):PureD Tryd.prog 16 [trD t] (.i (bI (bytesT t))):=by
 have r1:=raw_A t.d (by omega)
 have r2:=raw_A t.s (by omega)
 have r3:=raw_A t.r (by omega)
 have hw:=write_A (pcsT t) (by simp [pcsT]) (by intro p hp; simp only [pcsT,rawP,List.mem_cons,List.not_mem_nil,or_false] at hp; rcases hp with rfl | rfl | rfl | rfl <;> simp only [unB_len,List.length_nil] <;> omega)
  (by intro p hp; simp only [pcsT,rawP,List.mem_cons,List.not_mem_nil,or_false] at hp; rcases hp with rfl | rfl | rfl | rfl <;> first | exact hn | (simp only; omega))
 unfold bytesT
 generalize writeF (pcsT t)=W at *
 simp only [pcsT,rawP,List.map_cons,List.map_nil,encP] at hw
 refine hide_r fun R hR=>?_
 refine callD_W 27 Tryd.func16 rfl rfl rfl (fun _ _=>rfl) ?_
 (repeat' (first | (simp -implicitDefEqProofs only [go_sem,Nat.reduceLT,Nat.reduceAdd,Nat.reduceMul,reduceIte,Nat.reduceEqDiff,reduceCtorEq,Nat.reducePow,Nat.reduceLeDiff,Int.reduceLE,Int.reduceLT,Int.reduceToNat,Int.reduceEq,Nat.reduceBEq,trD,bI,sD,faultD, *]) | (with_reducible refine ⟨?_,?_⟩; (· first | (obtain ⟨rfl⟩:=‹Hq _ _›; with_reducible refine chk_ok ?_; kernel_rfl) | kernel_rfl)) | (with_reducible intro ops hops) | (simp -implicitDefEqProofs (disch:=omega) only [wr64,wru64,get_lt]) | ((with_reducible refine call_id ?_); (first | ((with_reducible refine Call_fz (r1) ?_ ?_); (· (simp [trD,bI,sD,faultD,and_assoc]; done))) | ((with_reducible refine Call_fz (r2) ?_ ?_); (· (simp [trD,bI,sD,faultD,and_assoc]; done))) | ((with_reducible refine Call_fz (r3) ?_ ?_); (· (simp [trD,bI,sD,faultD,and_assoc]; done))) | ((with_reducible refine Call_fl (hw) ?_ ?_ ?_); (· (simp [trD,bI,sD,faultD]; done)); (· (simp [trD,bI,sD,faultD,and_assoc]; done))) | ((with_reducible refine Call_fz (hw) ?_ ?_); (· (simp [trD,bI,sD,faultD,and_assoc]; done))))) | ((with_reducible refine callF_id ?_); (first | ((with_reducible refine CallF_fz (r1) ?_ ?_); (· (intro G hG; simp [trD,bI,sD,faultD] at hG; simp [trD,bI,sD,faultD,hG,and_assoc]; done))) | ((with_reducible refine CallF_fz (r2) ?_ ?_); (· (intro G hG; simp [trD,bI,sD,faultD] at hG; simp [trD,bI,sD,faultD,hG,and_assoc]; done))) | ((with_reducible refine CallF_fz (r3) ?_ ?_); (· (intro G hG; simp [trD,bI,sD,faultD] at hG; simp [trD,bI,sD,faultD,hG,and_assoc]; done))) | ((with_reducible refine CallF_fl (hw) ?_ ?_ ?_); (· (simp [trD,bI,sD,faultD]; done)); (· (intro G hG; simp [trD,bI,sD,faultD] at hG; simp [trD,bI,sD,faultD,hG,and_assoc]; done))) | ((with_reducible refine CallF_fz (hw) ?_ ?_); (· (intro G hG; simp [trD,bI,sD,faultD] at hG; simp [trD,bI,sD,faultD,hG,and_assoc]; done))))) | ((first | refine Wc_split (fun hg=>?_) (fun hg=>?_) | refine RoG_split (fun hg=>?_) (fun hg=>?_) | refine RdG_split (fun hg=>?_) (fun hg=>?_)) <;> (try simp only [nrm] at hg) <;> (try simp only [hg,lgc,reduceIte,reduceCtorEq] at hR) <;> (try (exfalso; omega))) | ((try simp only [*,lgc,reduceIte,reduceCtorEq] at hR); obtain ⟨rfl⟩:=hR; refine fin_q (rs:=[.tmp 2]) rfl ?_; (try simp only [go_sem,Nat.reduceLT,Nat.reduceAdd,Nat.reduceMul,reduceIte,Nat.reduceEqDiff,reduceCtorEq,Nat.reducePow,Nat.reduceLeDiff,Int.reduceLE,Int.reduceLT,Int.reduceToNat,Int.reduceEq,Nat.reduceBEq,trD,bI,sD,faultD]); (simp [trD,bI,sD,faultD]; done))))
theorem four4 (l:List PieceD) (h:l.length=4):∃ a b c d,l=[a,b,c,d]:=by
 match l,h with
 | [a,b,c,d],_=>exact ⟨a,b,c,d,rfl⟩
theorem parse_A (b:List UInt8) (hb:b.length≤1048576):PureD Tryd.prog 14 [.i (bI b)] (.tup [trD (parseT b).1,intD (parseT b).2]):=by
 have hr:=read_A b hb
 refine hide_r fun R hR=>?_
 simp only [parseT] at hR
 generalize readF b=L at *
 obtain ⟨l,e⟩:=L
 simp only [pairR] at hr hR
 by_cases h4:l.length=4
 ·obtain ⟨p,q,r,s,rfl⟩:=four4 l h4
  have hw:PureD _ _ _ (intD (wordsE [strB p.b,strB r.b,strB s.b])):=word_A [strB p.b,strB r.b,strB s.b] (by simp)
  simp only [List.map_cons,List.map_nil,sI] at hw
  simp only [formT,checkT] at hR
  generalize wordsE [strB p.b,strB r.b,strB s.b]=w at *
  clear h4
  refine callD_W 86 Tryd.func14 rfl rfl rfl (fun _ _=>rfl) ?_
  (repeat' (first | (simp -implicitDefEqProofs only [go_sem,Nat.reduceLT,Nat.reduceAdd,Nat.reduceMul,reduceIte,Nat.reduceEqDiff,reduceCtorEq,Nat.reducePow,Nat.reduceLeDiff,Int.reduceLE,Int.reduceLT,Int.reduceToNat,Int.reduceEq,Nat.reduceBEq,trD,bI,sD,intD,encP,zeroT,strB, *]) | (with_reducible refine ⟨?_,?_⟩; (· first | (obtain ⟨rfl⟩:=‹Hq _ _›; with_reducible refine chk_ok ?_; kernel_rfl) | kernel_rfl)) | (with_reducible intro ops hops) | (simp -implicitDefEqProofs (disch:=omega) only [wr64,wru64,get_lt]) | ((with_reducible refine call_id ?_); (first | ((with_reducible refine Call_fl (hr) ?_ ?_ ?_); (· (simp [trD,bI,sD,intD,encP,zeroT,strB]; done)); (· (simp [trD,bI,sD,intD,encP,zeroT,strB,and_assoc]; done))) | ((with_reducible refine Call_fz (hr) ?_ ?_); (· (simp [trD,bI,sD,intD,encP,zeroT,strB,and_assoc]; done))) | ((with_reducible refine Call_fl (hw) ?_ ?_ ?_); (· (simp [trD,bI,sD,intD,encP,zeroT,strB]; done)); (· (simp [trD,bI,sD,intD,encP,zeroT,strB,and_assoc]; done))) | ((with_reducible refine Call_fz (hw) ?_ ?_); (· (simp [trD,bI,sD,intD,encP,zeroT,strB,and_assoc]; done))))) | ((with_reducible refine callF_id ?_); (first | ((with_reducible refine CallF_fl (hr) ?_ ?_ ?_); (· (simp [trD,bI,sD,intD,encP,zeroT,strB]; done)); (· (intro G hG; simp [trD,bI,sD,intD,encP,zeroT,strB] at hG; simp [trD,bI,sD,intD,encP,zeroT,strB,hG,and_assoc]; done))) | ((with_reducible refine CallF_fz (hr) ?_ ?_); (· (intro G hG; simp [trD,bI,sD,intD,encP,zeroT,strB] at hG; simp [trD,bI,sD,intD,encP,zeroT,strB,hG,and_assoc]; done))) | ((with_reducible refine CallF_fl (hw) ?_ ?_ ?_); (· (simp [trD,bI,sD,intD,encP,zeroT,strB]; done)); (· (intro G hG; simp [trD,bI,sD,intD,encP,zeroT,strB] at hG; simp [trD,bI,sD,intD,encP,zeroT,strB,hG,and_assoc]; done))) | ((with_reducible refine CallF_fz (hw) ?_ ?_); (· (intro G hG; simp [trD,bI,sD,intD,encP,zeroT,strB] at hG; simp [trD,bI,sD,intD,encP,zeroT,strB,hG,and_assoc]; done))))) | ((first | refine Wc_split (fun hg=>?_) (fun hg=>?_) | refine RoG_split (fun hg=>?_) (fun hg=>?_) | refine RdG_split (fun hg=>?_) (fun hg=>?_)) <;> (try simp only [nrm] at hg) <;> (try simp only [hg,lgc,reduceIte,reduceCtorEq] at hR) <;> (try (exfalso; omega))) | ((try simp only [*,lgc,reduceIte,reduceCtorEq] at hR); obtain ⟨rfl⟩:=hR; refine fin_q (rs:=[.cell 2 25,.tmp 3]) rfl ?_; (try simp only [go_sem,Nat.reduceLT,Nat.reduceAdd,Nat.reduceMul,reduceIte,Nat.reduceEqDiff,reduceCtorEq,Nat.reducePow,Nat.reduceLeDiff,Int.reduceLE,Int.reduceLT,Int.reduceToNat,Int.reduceEq,Nat.reduceBEq,trD,bI,sD,intD,encP,zeroT,strB]); (simp [trD,bI,sD,intD,encP,zeroT,strB]; done))))
 ·rw [formT_no h4] at hR
  refine callD_W 86 Tryd.func14 rfl rfl rfl (fun _ _=>rfl) ?_
  (repeat' (first | (simp -implicitDefEqProofs only [go_sem,Nat.reduceLT,Nat.reduceAdd,Nat.reduceMul,reduceIte,Nat.reduceEqDiff,reduceCtorEq,Nat.reducePow,Nat.reduceLeDiff,Int.reduceLE,Int.reduceLT,Int.reduceToNat,Int.reduceEq,Nat.reduceBEq,trD,bI,sD,intD,encP,zeroT, *]) | (with_reducible refine ⟨?_,?_⟩; (· first | (obtain ⟨rfl⟩:=‹Hq _ _›; with_reducible refine chk_ok ?_; kernel_rfl) | kernel_rfl)) | (with_reducible intro ops hops) | (simp -implicitDefEqProofs (disch:=omega) only [wr64,wru64,get_lt]) | ((with_reducible refine call_id ?_); (first | ((with_reducible refine Call_fl (hr) ?_ ?_ ?_); (· (simp [trD,bI,sD,intD,encP,zeroT]; done)); (· (simp [trD,bI,sD,intD,encP,zeroT,and_assoc]; done))) | ((with_reducible refine Call_fz (hr) ?_ ?_); (· (simp [trD,bI,sD,intD,encP,zeroT,and_assoc]; done))))) | ((with_reducible refine callF_id ?_); (first | ((with_reducible refine CallF_fl (hr) ?_ ?_ ?_); (· (simp [trD,bI,sD,intD,encP,zeroT]; done)); (· (intro G hG; simp [trD,bI,sD,intD,encP,zeroT] at hG; simp [trD,bI,sD,intD,encP,zeroT,hG,and_assoc]; done))) | ((with_reducible refine CallF_fz (hr) ?_ ?_); (· (intro G hG; simp [trD,bI,sD,intD,encP,zeroT] at hG; simp [trD,bI,sD,intD,encP,zeroT,hG,and_assoc]; done))))) | ((first | refine Wc_split (fun hg=>?_) (fun hg=>?_) | refine RoG_split (fun hg=>?_) (fun hg=>?_) | refine RdG_split (fun hg=>?_) (fun hg=>?_)) <;> (try simp only [nrm] at hg) <;> (try simp only [hg,lgc,reduceIte,reduceCtorEq] at hR) <;> (try (exfalso; omega))) | ((try simp only [*,lgc,reduceIte,reduceCtorEq] at hR); obtain ⟨rfl⟩:=hR; refine fin_q (rs:=[.cell 2 25,.tmp 3]) rfl ?_; (try simp only [go_sem,Nat.reduceLT,Nat.reduceAdd,Nat.reduceMul,reduceIte,Nat.reduceEqDiff,reduceCtorEq,Nat.reducePow,Nat.reduceLeDiff,Int.reduceLE,Int.reduceLT,Int.reduceToNat,Int.reduceEq,Nat.reduceBEq,trD,bI,sD,intD,encP,zeroT]); (simp [trD,bI,sD,intD,encP,zeroT]; done))))
end Go.Proofs.YtckjpabekmhnhaaDoor
