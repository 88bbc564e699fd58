/- landref10.Bytes, Parse: by value. -/
import Derived.Test.YtckjpabekmhnhaaDoorRBkC
import Derived.Test.YtckjpabekmhnhaaDoorBankT
import Derived.Test.YtckjpabekmhnhaaDoorR3Rd
set_option linter.all false
namespace Go.Proofs.YtckjpabekmhnhaaDoor
open Go Go.Abs Go.RowKit Go.Proofs.YtckjpabekmhnhaaDoor.Ty
set_option maxHeartbeats 16000000
set_option maxRecDepth 20000
theorem rBk_A (b:List UInt8):PureD Tryd.prog 49 [.i (bI b)] (.agg [.i (.s (.int .i64 2)),.i (.s (.int .u64 0)),.i (bI b)]):=by
 refine hide_r fun R hR=>?_
 refine callD_W 5 Tryd.func49 rfl rfl rfl (fun _ _=>rfl) ?_
 exact wkl trivial
theorem rbytesk_A (l:List PieceD) (hl:l.length≤1048576) (hb:∀ p∈l,p.b.length≤1048576) (hn:n64s l):PureD Tryd.prog 48 [.i (.sl (l.map encP))] (.i (bI (writeF l).1)):=by
 have c1:=write3_A l hl hb hn
 refine hide_r fun R hR=>?_
 generalize writeF l=W at *
 simp only [faultD] at c1
 refine callD_W 11 Tryd.func48 rfl rfl rfl (fun _ _=>rfl) ?_
 exact wkl trivial
theorem rbytesT_A (t:TranD) (hn:t.n < 18446744073709551616) (h1:t.d.size≤1048576) (h2:t.s.size≤1048576) (h3:t.r.size≤1048576):PureD Tryd.prog 17 [trD t] (.i (bI (bytesT t))):=by
 refine hide_r fun R hR=>?_
 have c1:=rBk_A (unB t.d)
 have c2:=rBk_A (unB t.s)
 have c3:=rBk_A (unB t.r)
 have c4:=rbytesk_A (pcsT t) (by simp [pcsT]) (by intro p hp; simp only [pcsT,rawP,List.mem_cons,List.not_mem_nil,or_false] at hp; rcases hp with rfl | rfl | rfl | rfl <;> simp only [unB_len,List.length_nil] <;> omega)
  (by intro p hp; simp only [pcsT,rawP,List.mem_cons,List.not_mem_nil,or_false] at hp; rcases hp with rfl | rfl | rfl | rfl <;> first | exact hn | (simp only; omega))
 unfold bytesT at hR
 have s1:=@strI_un t.d
 have s2:=@strI_un t.s
 have s3:=@strI_un t.r
 have z1:t.d.size≤140737488355328:=by omega
 have z2:t.s.size≤140737488355328:=by omega
 have z3:t.r.size≤140737488355328:=by omega
 generalize writeF (pcsT t)=W at *
 simp only [pcsT,rawP,List.map_cons,List.map_nil,encP] at c4
 generalize unB t.d=B1 at *
 generalize unB t.s=B2 at *
 generalize unB t.r=B3 at *
 refine callD_W 20 Tryd.func17 rfl rfl rfl (fun _ _=>rfl) ?_
 exact wkl trivial
theorem goKinds:∀ (k:Nat) (r:List UInt8) (l:List PieceD),readGo k r=some l→l.length=k∧∀ p∈l,p.kind=1∨p.kind=2
 | 0,r,l,h=>by
  unfold readGo at h
  split at h
  ·cases h; simp
  ·cases h
 | k+1,[],l,h=>by simp [readGo] at h
 | k+1,c :: r,l,h=>by
  rw [readGo] at h
  split at h
  ·cases h
  ·split at h
   ·simp only [Option.map_eq_some_iff] at h
    obtain ⟨m,hm,rfl⟩:=h
    obtain ⟨i1,i2⟩:=goKinds k _ m hm
    exact ⟨by simp [i1],by simp only [List.mem_cons]; rintro p (rfl | hp); exact .inl rfl; exact i2 p hp⟩
   ·split at h
    ·split at h
     ·cases h
     ·simp only [Option.map_eq_some_iff] at h
      obtain ⟨m,hm,rfl⟩:=h
      obtain ⟨i1,i2⟩:=goKinds k _ m hm
      exact ⟨by simp [i1],by simp only [List.mem_cons]; rintro p (rfl | hp); exact .inr rfl; exact i2 p hp⟩
    ·cases h
theorem rdKinds (b:List UInt8):(readF b).1.length≤200∧∀ p∈(readF b).1,p.kind=1∨p.kind=2:=by
 unfold readF
 split
 ·simp
 ·split
  ·simp
  ·split
   ·simp
   ·split
    ·simp
    ·rename_i hg
     obtain ⟨h1,h2⟩:=goKinds _ _ _ hg
     exact ⟨by simp only; omega,h2⟩
def kdB (p:PieceD):UInt8:=if p.kind=1 then 49 else 50
def kdS (l:List PieceD):ByteArray:=⟨(l.map kdB).toArray⟩
theorem kd_dig {p:PieceD} (h:p.kind=1∨p.kind=2):Lib.itoa p.kind=[kdB p]:=by
 have d1:Lib.decDigits 1=[49]:=Lib.decDigits_one (by decide)
 have d2:Lib.decDigits 2=[50]:=Lib.decDigits_one (by decide)
 rcases h with h | h
 ·rw [h,show (1:Int)=((1:Nat):Int) from rfl,itoa_dec,d1]; simp [kdB,h]
 ·rw [h,show (2:Int)=((2:Nat):Int) from rfl,itoa_dec,d2]; simp [kdB,h]
theorem kd_take {l:List PieceD} {i:Nat} (h:i < l.length):kdS (l.take (i+1))=kdS (l.take i)++⟨[kdB l[i]].toArray⟩:=by
 apply ByteArray.ext
 simp only [kdS,ByteArray.data_append,List.take_succ_eq_append_getElem h,List.map_append,List.map_cons,List.map_nil]
 simp
theorem kd_four {l:List PieceD} (hk:∀ p∈l,p.kind=1∨p.kind=2):kdS l=⟨#[50,49,50,50]⟩↔∃ a b c d,l=[a,b,c,d]∧a.kind=2∧b.kind=1∧c.kind=2∧d.kind=2:=by
 have hb:∀ p:PieceD,(p.kind=1∨p.kind=2)→(kdB p=50↔p.kind=2)∧(kdB p=49↔p.kind=1):=fun p hp=>by
  unfold kdB
  rcases hp with hp | hp <;> simp [hp]
 constructor
 ·intro h
  have h:l.map kdB=[50,49,50,50]:=by
   have:=congrArg ByteArray.data h
   simpa [kdS] using this
  rcases l with _ | ⟨a,_ | ⟨b,_ | ⟨c,_ | ⟨d,_ | ⟨e,l⟩⟩⟩⟩⟩ <;> try (simp at h; done)
  simp only [List.map_cons,List.map_nil,List.cons.injEq,and_true] at h
  exact ⟨a,b,c,d,rfl,(hb a (hk a (by simp))).1.1 h.1,(hb b (hk b (by simp))).2.1 h.2.1,(hb c (hk c (by simp))).1.1 h.2.2.1,(hb d (hk d (by simp))).1.1 h.2.2.2⟩
 ·rintro ⟨a,b,c,d,rfl,h1,h2,h3,h4⟩
  simp [kdS,kdB,h1,h2,h3,h4]
theorem rparse_A (b:List UInt8) (hb:b.length≤1048576):PureD Tryd.prog 15 [.i (bI b)] (.tup [trD (parseT b).1,intD (parseT b).2]):=by
 refine hide_r fun R hR=>?_
 have c1:=read3_A b hb
 obtain ⟨hl,hk⟩:=rdKinds b
 simp only [parseT] at hR
 generalize readF b=L at *
 obtain ⟨l,e⟩:=L
 simp only [pairR] at c1 hR hl hk
 by_cases he:e=0
 rotate_left
 ·rw [if_neg he] at hR
  have he':¬ (e:Int)=0:=by omega
  simp only [zeroT] at hR
  refine callD_W 76 Tryd.func15 rfl rfl rfl (fun _ _=>rfl) ?_
  exact wkl trivial
 rw [if_pos he] at hR
 subst he
 simp only [Int.natCast_zero] at c1
 refine callD_W 76 Tryd.func15 rfl rfl rfl (fun _ _=>rfl) ?_
 refine wkl ?_
 clear hR c1; intro hR
 intros
 refine W_loopR (ι:=Nat) (fun i=>i≤l.length) (fun i=>stOf [(2,.pt 100 0 0 0),(4,.i (.sl (l.map encP))),(6,.i (.s (.string (kdS (l.take i))))),(19,.i (.sl (l.map encP))),(20,intD l.length),(21,intD i)] [(100,.box [.i (.s (.string ⟨#[]⟩)),.i (.s (.int .u64 0)),.i (.s (.string ⟨#[]⟩)),.i (.s (.string ⟨#[]⟩))])]) (fun i=>l.length - i) 0 (Nat.zero_le _) ?_ ?_
 ·rw [show kdS (l.take 0)=⟨#[]⟩ from rfl]
  exact le_ok [] [(100,1000)]
 ·rintro i hi RL hL
  rw [stOf_eq]
  by_cases h:i < l.length
  ·have s0:=get_lt (f:=encP) h
   have hki:=hk _ (List.getElem_mem h)
   have c1:=digs_A l[i].kind (by omega) (by omega)
   rw [kd_dig hki] at c1
   have hsz:(kdS (l.take i)).size≤200:=by simp [kdS,ByteArray.size]; omega
   have s1:∀ P t x y,binQ P .add t x y (some (.string (kdS (l.take i)))) (some (.string ⟨[kdB l[i]].toArray⟩))=some (.i (.s (.string (kdS (l.take (i+1)))))):=fun P t x y=>by rw [kd_take h]; exact bq_add_str (by have:(⟨[kdB l[i]].toArray⟩:ByteArray).size=1:=rfl; omega)
   have b1:=fun σ'=>bk [] [(100,100)] (hL (i+1) σ' h)
   clear hL hk hR hki hsz
   generalize (⟨[kdB l[i]].toArray⟩:ByteArray)=q1 at *
   generalize kdS (l.take (i+1))=q2 at *
   generalize kdS (l.take i)=q3 at *
   generalize l[i]=p at *
   simp only [encP] at s0
   exact wkl trivial
  ·rw [List.take_of_length_le (by omega)]
   clear hL
   by_cases hf:kdS l=⟨#[50,49,50,50]⟩
   ·obtain ⟨p,q,r,s,rfl,k1,k2,k3,k4⟩:=(kd_four hk).1 hf
    have g1:(kdS [p,q,r,s] == ⟨#[50,49,50,50]⟩)=true:=by rw [beqS]; exact decide_eq_true hf
    simp only [formT,checkT,k1,k2,k3,k4,and_self,if_true] at hR
    have c1:=rword_A ⟨p.b.toArray⟩
    have c2:=rword_A ⟨r.b.toArray⟩
    have c3:=rword_A ⟨s.b.toArray⟩
    simp only [wordsE,List.all_cons,List.all_nil,Bool.and_true,strB,zeroT] at hR
    have hi4:i=4:=by simp only [List.length_cons,List.length_nil] at h hi; omega
    subst hi4
    clear hf hk h hi
    generalize kdS [p,q,r,s]=K at *
    simp only [List.map_cons,List.map_nil,encP]
    cases e1:wordOk ⟨p.b.toArray⟩
    ·rw [e1] at c1
     simp [e1] at hR
     exact wkl trivial
    ·cases e2:wordOk ⟨r.b.toArray⟩
     ·rw [e1] at c1
      rw [e2] at c2
      simp [e1,e2] at hR
      exact wkl trivial
     ·cases e3:wordOk ⟨s.b.toArray⟩
      ·rw [e1] at c1
       rw [e2] at c2
       rw [e3] at c3
       simp [e1,e2,e3] at hR
       exact wkl trivial
      ·rw [e1] at c1
       rw [e2] at c2
       rw [e3] at c3
       by_cases hz:q.n=0
       ·have g2:(q.n:Int)=0:=by omega
        simp [e1,e2,e3,hz] at hR
        exact wkl trivial
       ·have g2:¬ (q.n:Int)=0:=by omega
        simp [e1,e2,e3,hz] at hR
        exact wkl trivial
   ·have g1:=beq_no hf
    have hform:formT l=(zeroT,2):=by
     unfold formT
     split
     ·rename_i a b' c d
      rw [if_neg]
      rintro ⟨k1,k2,k3,k4⟩
      exact hf ((kd_four hk).2 ⟨a,b',c,d,rfl,k1,k2,k3,k4⟩)
     ·rfl
    rw [hform] at hR
    simp only [zeroT] at hR
    clear hf hk hform
    generalize kdS l=K at *
    exact wkl trivial
end Go.Proofs.YtckjpabekmhnhaaDoor
