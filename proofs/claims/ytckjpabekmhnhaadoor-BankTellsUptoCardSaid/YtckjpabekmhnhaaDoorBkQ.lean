/- Purses that leave over a channel and come back: plain. -/
import Derived.Test.YtckjpabekmhnhaaDoorBankP
import Derived.Test.YtckjpabekmhnhaaDoorDecPu
import Derived.Lib.ItoaLen
set_option linter.all false
namespace Go.Proofs.YtckjpabekmhnhaaDoor
open Go Go.Abs
def mkOf (ch:Int):ByteArray:=⟨(Lib.itoa ch++[47]).toArray⟩
def safeOf (ch:Int):ByteArray:=⟨([35]++Lib.itoa ch).toArray⟩
def hasP (s p:ByteArray):Bool:=decide (p.size≤s.size) && (s.extract 0 p.size == p)
def cutP (s p:ByteArray):ByteArray:=s.extract p.size s.size
def leaveP (l:List PurseD) (ch:Int) (t:TranD):List PurseD × Nat:=if hasP t.d (mkOf ch)=true then burnP l t.s t.d t.n else moveP l t.s (safeOf ch) t.d t.n
def backP (l:List PurseD) (ch:Int) (t:TranD):List PurseD × Nat:=if hasP t.d (mkOf ch)=true then mintP l t.s t.d t.n else moveP l (safeOf ch) t.s t.d t.n
def comeP (l:List PurseD) (ch other:Int) (t:TranD):List PurseD × Nat:=if hasP t.d (mkOf other)=true then moveP l (safeOf ch) t.r (cutP t.d (mkOf other)) t.n else mintP l t.r (mkOf ch++t.d) t.n
theorem hasP_app (p d:ByteArray):hasP (p++d) p=true:=by
 have h1:(p++d).size=p.size+d.size:=by simp
 have h2:(p++d).extract 0 p.size=p:=by
  apply ByteArray.ext
  rw [ByteArray.data_extract,ByteArray.data_append]
  show (p.data++d.data).extract 0 p.data.size=p.data
  simp
 rw [hasP,h1,h2,beqS]
 simp
theorem burn_word {l:List PurseD} {o d:ByteArray} {n:Nat} (he:(burnP l o d n).2=0):wordOk o=true∧wordOk d=true:=by
 unfold burnP at he
 split at he
 ·cases he
 ·rename_i hw; simpa using hw
theorem mint_word {l:List PurseD} {o d:ByteArray} {n:Nat} (he:(mintP l o d n).2=0):wordOk o=true∧wordOk d=true:=by
 unfold mintP at he
 split at he
 ·cases he
 ·rename_i hw; simpa using hw
theorem burn_can {l:List PurseD} {o d:ByteArray} {n:Nat} (ho:wordOk o=true) (hd:wordOk d=true) (hn:n≤amtP l o d):(burnP l o d n).2=0:=by
 unfold burnP
 rw [if_neg (by simp [ho,hd]),if_neg (by omega)]
theorem mint_can {l:List PurseD} {o d:ByteArray} {n:Nat} (ho:wordOk o=true) (hd:wordOk d=true) (hn:n≠0) (hs:supP l d+n < 18446744073709551616):(mintP l o d n).2=0∨((mintP l o d n).2=5∧l.length=60):=by
 unfold mintP
 rw [if_neg (by simp [ho,hd]),if_neg hn,if_neg (by omega)]
 split
 ·rename_i h; exact .inr ⟨rfl,h.2⟩
 ·exact .inl rfl
theorem pair_eq {l:List PurseD} {x:List PurseD × Nat} (h1:x.1=l) (h2:x.2=0):x=(l,0):=by cases x; simp_all
theorem burn_mint {l:List PurseD} (h:RightP l) {o d:ByteArray} {n:Nat} (hn:n≠0) (hs:supP l d < 18446744073709551616) (he:(burnP l o d n).2=0) :
  mintP (burnP l o d n).1 o d n=(l,0)∨((mintP (burnP l o d n).1 o d n).2=5∧(burnP l o d n).1.length=60):=by
 obtain ⟨w1,w2⟩:=burn_word he
 obtain ⟨b1,b2,b3⟩:=burn_ok h he
 have hr:=burn_right h o d n
 have h3:=b3 d
 rw [if_pos rfl] at h3
 rcases mint_can (l:=(burnP l o d n).1) w1 w2 hn (by omega) with hm | hm
 ·refine .inl (pair_eq ?_ hm)
  obtain ⟨m1,_,_⟩:=mint_ok hr hm
  refine ext_amt (mint_right hr o d n) h fun o' d'=>?_
  rw [m1,b2,b2]
  by_cases hk:o'=o∧d'=d
  ·rw [if_pos hk,if_pos ⟨rfl,rfl⟩,hk.1,hk.2]; omega
  ·rw [if_neg hk,if_neg hk]
 ·exact .inr hm
theorem mint_burn {l:List PurseD} (h:RightP l) {o d:ByteArray} {n:Nat} (he:(mintP l o d n).2=0):burnP (mintP l o d n).1 o d n=(l,0):=by
 obtain ⟨w1,w2⟩:=mint_word he
 obtain ⟨m1,_,_⟩:=mint_ok h he
 have hr:=mint_right h o d n
 have ha:=m1 o d
 rw [if_pos ⟨rfl,rfl⟩] at ha
 have hb:=burn_can (l:=(mintP l o d n).1) (n:=n) w1 w2 (by omega)
 refine pair_eq ?_ hb
 obtain ⟨_,b2,_⟩:=burn_ok hr hb
 refine ext_amt (burn_right hr o d n) h fun o' d'=>?_
 rw [b2,ha,m1]
 by_cases hk:o'=o∧d'=d
 ·rw [if_pos hk,hk.1,hk.2]; omega
 ·rw [if_neg hk,if_neg hk]
theorem move_back {l:List PurseD} (h:RightP l) {o s d:ByteArray} {n:Nat} (hn:n≠0) (he:(moveP l o s d n).2=0) :
  moveP (moveP l o s d n).1 s o d n=(l,0)∨((moveP (moveP l o s d n).1 s o d n).2=5∧(moveP l o s d n).1.length=60):=by
 have hm:=move_right h o s d n
 obtain ⟨a1,a2,a3⟩:=move_ok h he
 have hb0:(burnP l o d n).2=0:=by
  unfold moveP at he; split at he
  ·assumption
  ·rename_i hb; exact absurd he hb
 have hmt:(mintP (burnP l o d n).1 s d n).2=0:=by unfold moveP at he; rw [if_pos hb0] at he; exact he
 obtain ⟨w1,w2⟩:=burn_word hb0
 obtain ⟨w3,_⟩:=mint_word hmt
 obtain ⟨_,_,hsup⟩:=mint_ok (burn_right h o d n) hmt
 have hsup:=hsup hn
 have h3:=(burn_ok h hb0).2.2 d
 rw [if_pos rfl] at h3
 have ham:=a2 s d
 rw [if_pos (show s=s∧d=d from ⟨rfl,rfl⟩)] at ham
 have hs:=a3 d
 generalize (moveP l o s d n).1=m at *
 have hb:=burn_can (l:=m) (n:=n) w3 w2 (by omega)
 have hbr:=burn_right hm s d n
 obtain ⟨b1,b2,b3⟩:=burn_ok hm hb
 have h4:=b3 d
 rw [if_pos rfl] at h4
 have hmove:moveP m s o d n=mintP (burnP m s d n).1 o d n:=by unfold moveP; rw [if_pos hb]
 rcases mint_can (l:=(burnP m s d n).1) (n:=n) w1 w2 hn (by omega) with hc | ⟨hc,hlen⟩
 ·refine .inl (pair_eq ?_ (by rw [hmove]; exact hc))
  rw [hmove]
  obtain ⟨m1,_,_⟩:=mint_ok hbr hc
  refine ext_amt (mint_right hbr o d n) h fun o' d'=>?_
  rw [m1,b2,b2,a2,a2,a2]
  by_cases hd:d'=d
  ·subst hd
   by_cases e1:o'=o
   ·subst e1
    by_cases e2:o'=s
    ·subst e2; simp; omega
    ·simp [e2]; omega
   ·by_cases e2:o'=s
    ·subst e2; simp [e1]
    ·simp [e1,e2]
  ·simp [hd]
 ·refine .inr ⟨by rw [hmove]; exact hc,?_⟩
  have h5:(burnP m s d n).1.length≤m.length:=by
   unfold burnP at hb ⊢
   split at hb
   ·cases hb
   ·rename_i q1
    rw [if_neg q1]
    split at hb
    ·cases hb
    ·rename_i q2
     rw [if_neg q2]
     simp only
     rw [set_len hm]
     rw [if_neg (by omega)]
     split <;> omega
  have:=hm.len
  omega
theorem leave_back {l:List PurseD} (h:RightP l) {ch:Int} {t:TranD} (hn:t.n≠0) (hs:supP l t.d < 18446744073709551616) (he:(leaveP l ch t).2=0) :
  backP (leaveP l ch t).1 ch t=(l,0)∨((backP (leaveP l ch t).1 ch t).2=5∧(leaveP l ch t).1.length=60):=by
 unfold leaveP at he ⊢
 unfold backP
 by_cases hp:hasP t.d (mkOf ch)=true
 ·rw [if_pos hp] at he ⊢
  rw [if_pos hp]
  exact burn_mint h hn hs he
 ·rw [if_neg hp] at he ⊢
  rw [if_neg hp]
  exact move_back h hn he
def homeT (ch other:Int) (t:TranD):TranD:=if hasP t.d (mkOf other)=true then ⟨cutP t.d (mkOf other),t.n,t.r,t.r⟩ else ⟨mkOf ch++t.d,t.n,t.r,t.r⟩
theorem come_leave {l:List PurseD} (h:RightP l) {ch other:Int} {t:TranD} (hn:t.n≠0) (he:(comeP l ch other t).2=0)
  (hno:hasP t.d (mkOf other)=true→¬ hasP (cutP t.d (mkOf other)) (mkOf ch)=true) :
  leaveP (comeP l ch other t).1 ch (homeT ch other t)=(l,0)∨(leaveP (comeP l ch other t).1 ch (homeT ch other t)).2=5:=by
 unfold comeP homeT at *
 by_cases hp:hasP t.d (mkOf other)=true
 ·rw [if_pos hp] at he
  simp only [if_pos hp]
  unfold leaveP
  rw [if_neg (hno hp)]
  rcases move_back h hn he with h1 | h1
  ·exact .inl h1
  ·exact .inr h1.1
 ·rw [if_neg hp] at he
  simp only [if_neg hp]
  unfold leaveP
  rw [if_pos (hasP_app _ _)]
  exact .inl (mint_burn h he)
end Go.Proofs.YtckjpabekmhnhaaDoor
