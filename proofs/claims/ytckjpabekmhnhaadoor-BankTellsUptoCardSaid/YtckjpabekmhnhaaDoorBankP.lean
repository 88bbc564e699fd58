/- Purses, plain: what comes, what goes, how much there is. No program here. -/
import Derived.Test.YtckjpabekmhnhaaDoorPurse
set_option linter.all false
namespace Go.Proofs.YtckjpabekmhnhaaDoor
open Go Go.Abs
structure RightP (l:List PurseD):Prop where
 len:l.length≤60
 wo:∀ p∈l,1≤p.o.size∧p.o.size≤40
 wd:∀ p∈l,1≤p.d.size∧p.d.size≤40
 pos:∀ p∈l,0 < p.n∧p.n < 18446744073709551616
 srt:SrtP l
def wordOk (s:ByteArray):Bool:=decide (1≤s.size) && decide (s.size≤40)
def supP (l:List PurseD) (d:ByteArray):Nat:=(l.map fun p=>if p.d=d then p.n else 0).sum
abbrev putPu (l:List PurseD) (o d:ByteArray) (v:Option PurseD):List PurseD:=KL.put pk cmpP l (o,d) v
def setP (l:List PurseD) (o d:ByteArray) (n:Nat):List PurseD:=putPu l o d (if n=0 then none else some ⟨o,d,n⟩)
def mintP (l:List PurseD) (o d:ByteArray) (n:Nat):List PurseD × Nat :=
 if !(wordOk o && wordOk d) then ([],4)
 else if n=0 then (l,0)
 else if 18446744073709551616≤supP l d+n then ([],3)
 else if amtP l o d=0∧l.length=60 then ([],5)
 else (setP l o d (amtP l o d+n),0)
def burnP (l:List PurseD) (o d:ByteArray) (n:Nat):List PurseD × Nat :=
 if !(wordOk o && wordOk d) then ([],4)
 else if amtP l o d < n then ([],8)
 else (setP l o d (amtP l o d - n),0)
def moveP (l:List PurseD) (o t d:ByteArray) (n:Nat):List PurseD × Nat :=
 if (burnP l o d n).2=0 then mintP (burnP l o d n).1 t d n else ([],(burnP l o d n).2)
theorem getP_key {l:List PurseD} (h:RightP l) {o d:ByteArray} {p:PurseD} (hg:getP l o d=some p):p∈l∧p.o=o∧p.d=d:=by
 have:=(KL.get_iff cmpP_ok h.srt).1 hg
 exact ⟨this.1,congrArg Prod.fst this.2,congrArg Prod.snd this.2⟩
theorem getP_amt {l:List PurseD} (h:RightP l) (o d:ByteArray):getP l o d=if amtP l o d=0 then none else some ⟨o,d,amtP l o d⟩:=by
 unfold amtP
 cases hg:getP l o d with
 | none=>rfl
 | some p =>
  obtain ⟨h1,h2,h3⟩:=getP_key h hg
  have:=(h.pos p h1).1
  simp only
  rw [if_neg (by omega),← h2,← h3]
theorem amtP_lt {l:List PurseD} (h:RightP l) (o d:ByteArray):amtP l o d < 18446744073709551616:=by
 unfold amtP
 cases hg:getP l o d with
 | none=>simp
 | some p=>exact (h.pos p (getP_key h hg).1).2
theorem ext_amt {l m:List PurseD} (hl:RightP l) (hm:RightP m) (h:∀ o d,amtP l o d=amtP m o d):l=m:=by
 refine KL.ext cmpP_ok hl.srt hm.srt fun k=>?_
 show getP l k.1 k.2=getP m k.1 k.2
 rw [getP_amt hl,getP_amt hm,h]
theorem setP_hv {o d:ByteArray} {n:Nat}:∀ x,(if n=0 then none else some (⟨o,d,n⟩:PurseD))=some x→pk x=(o,d):=by
 intro x hx
 split at hx
 ·cases hx
 ·injection hx with hx; subst hx; rfl
theorem setP_srt {l:List PurseD} (h:RightP l) (o d:ByteArray) (n:Nat):SrtP (setP l o d n):=KL.srt_put cmpP_ok h.srt setP_hv
theorem amt_set {l:List PurseD} (h:RightP l) (o d:ByteArray) (n:Nat) (o' d':ByteArray):amtP (setP l o d n) o' d'=if o'=o∧d'=d then n else amtP l o' d':=by
 unfold amtP
 have hd:Decidable ((o',d')=(o,d)):=Classical.propDecidable _
 have hg:getP (setP l o d n) o' d'=if (o',d')=(o,d) then (if n=0 then none else some ⟨o,d,n⟩) else getP l o' d':=KL.get_put cmpP_ok h.srt setP_hv (o',d')
 rw [hg]
 by_cases hk:o'=o∧d'=d
 ·rw [if_pos (by rw [hk.1,hk.2]),if_pos hk]
  by_cases h0:n=0
  ·rw [if_pos h0]; exact h0.symm
  ·rw [if_neg h0]
 ·rw [if_neg (fun e=>hk ⟨congrArg Prod.fst e,congrArg Prod.snd e⟩),if_neg hk]
theorem mem_set {l:List PurseD} {o d:ByteArray} {n:Nat} {x:PurseD} (hx:x∈setP l o d n):x∈l∨(x=⟨o,d,n⟩∧n≠0):=by
 rcases (KL.mem_put cmpP_ok).1 hx with h1 | h1
 ·exact .inl h1.1
 ·split at h1
  ·cases h1
  ·injection h1 with h1; exact .inr ⟨h1.symm,by assumption⟩
theorem wordOk_iff {s:ByteArray}:wordOk s=true↔1≤s.size∧s.size≤40:=by simp [wordOk]
theorem set_len {l:List PurseD} (h:RightP l) (o d:ByteArray) (n:Nat):(setP l o d n).length=if amtP l o d=0 then (if n=0 then l.length else l.length+1) else (if n=0 then l.length - 1 else l.length):=by
 have hg:=getP_amt h o d
 by_cases h0:amtP l o d=0
 ·rw [if_pos h0] at hg ⊢
  unfold setP putPu
  by_cases hn:n=0
  ·rw [if_pos hn,if_pos hn,KL.put_none cmpP_ok h.srt hg]
  ·rw [if_neg hn,if_neg hn,KL.put_miss cmpP_ok h.srt hg]
   have:=KL.place_le (κ:=pk) cmpP_ok l (o,d)
   simp; omega
 ·rw [if_neg h0] at hg ⊢
  obtain ⟨hp,_⟩:=KL.place_lt cmpP_ok h.srt hg
  unfold setP putPu
  by_cases hn:n=0
  ·rw [if_pos hn,if_pos hn,KL.put_del cmpP_ok h.srt hg]; simp; omega
  ·rw [if_neg hn,if_neg hn,KL.put_hit cmpP_ok h.srt hg]; simp; omega
theorem set_right {l:List PurseD} (h:RightP l) {o d:ByteArray} {n:Nat} (ho:wordOk o=true) (hd:wordOk d=true) (hn:n < 18446744073709551616) (hl:(setP l o d n).length≤60):RightP (setP l o d n) where
 len:=hl
 wo:=fun p hp=>by rcases mem_set hp with h1 | ⟨rfl,_⟩; exact h.wo p h1; exact wordOk_iff.1 ho
 wd:=fun p hp=>by rcases mem_set hp with h1 | ⟨rfl,_⟩; exact h.wd p h1; exact wordOk_iff.1 hd
 pos:=fun p hp=>by rcases mem_set hp with h1 | ⟨rfl,h1⟩; exact h.pos p h1; exact ⟨by simp only; omega,hn⟩
 srt:=setP_srt h o d n
theorem sum_split (f:PurseD→Nat) (k:PKey) (l:List PurseD):(l.map f).sum=((l.filter fun x=>decide (cmpP (pk x) k < 0)).map f).sum+(((l.filter fun x=>decide (cmpP (pk x) k=0)).map f).sum+((l.filter fun x=>decide (0 < cmpP (pk x) k)).map f).sum):=by
 induction l with
 | nil=>rfl
 | cons x t ih =>
  rw [List.map_cons,List.sum_cons,ih]
  by_cases h1:cmpP (pk x) k < 0
  ·rw [List.filter_cons_of_pos (by simpa using h1),List.filter_cons_of_neg (by simp; omega),List.filter_cons_of_neg (by simp; omega)]
   simp; omega
  ·by_cases h2:cmpP (pk x) k=0
   ·rw [List.filter_cons_of_neg (by simp; omega),List.filter_cons_of_pos (by simpa using h2),List.filter_cons_of_neg (by simp; omega)]
    simp; omega
   ·rw [List.filter_cons_of_neg (by simp; omega),List.filter_cons_of_neg (by simp; omega),List.filter_cons_of_pos (by simp; omega)]
    simp; omega
theorem filter_eq {l:List PurseD} (h:SrtP l) (k:PKey):(l.filter fun x=>decide (cmpP (pk x) k=0))=(KL.get pk cmpP l k).toList:=by
 induction l with
 | nil=>rfl
 | cons x t ih =>
  rw [KL.get_cons cmpP_ok]
  have hs:=List.pairwise_cons.1 h
  by_cases hx:cmpP (pk x) k=0
  ·rw [if_pos hx,List.filter_cons_of_pos (by simpa using hx)]
   have hk:=(cmpP_ok.zero _ _).1 hx
   have:(t.filter fun x=>decide (cmpP (pk x) k=0))=[]:=by
    rw [List.filter_eq_nil_iff]
    intro y hy
    have h1:=hs.1 y hy
    rw [hk] at h1
    have:=(cmpP_ok.neg k (pk y)).1 h1
    simp; omega
   rw [this]; rfl
  ·rw [if_neg hx,List.filter_cons_of_neg (by simpa using hx),ih hs.2]
theorem opt_sum (o d d':ByteArray) (n:Nat):(((if n=0 then none else some (⟨o,d,n⟩:PurseD)).toList).map fun p=>if p.d=d' then p.n else 0).sum=if d=d' then n else 0:=by
 by_cases hn:n=0
 ·rw [if_pos hn,hn]; simp
 ·rw [if_neg hn]; simp
theorem sup_set {l:List PurseD} (h:RightP l) (o d:ByteArray) (n:Nat) (d':ByteArray):supP (setP l o d n) d'+(if d=d' then amtP l o d else 0)=supP l d'+(if d=d' then n else 0):=by
 have h1:=sum_split (fun p=>if p.d=d' then p.n else 0) (o,d) l
 rw [filter_eq h.srt (o,d),show KL.get pk cmpP l (o,d)=getP l o d from rfl,getP_amt h o d,opt_sum] at h1
 unfold supP setP putPu KL.put
 rw [h1]
 simp only [List.map_append,List.sum_append,opt_sum]
 omega
theorem amt_le_sup {l:List PurseD} (h:RightP l) (o d:ByteArray):amtP l o d≤supP l d:=by
 have:=sup_set h o d 0 d
 simp at this
 omega
theorem burn_right {l:List PurseD} (h:RightP l) (o d:ByteArray) (n:Nat):RightP (burnP l o d n).1:=by
 have hnil:RightP []:=⟨by simp,by simp,by simp,by simp,List.Pairwise.nil⟩
 unfold burnP
 split
 ·exact hnil
 ·split
  ·exact hnil
  ·rename_i hw ha
   simp only [Bool.not_eq_true',Bool.not_eq_false,Bool.and_eq_true] at hw
   have:=amtP_lt h o d
   refine set_right h hw.1 hw.2 (by omega) ?_
   rw [set_len h]
   have:=h.len
   split <;> split <;> omega
theorem mint_right {l:List PurseD} (h:RightP l) (o d:ByteArray) (n:Nat):RightP (mintP l o d n).1:=by
 have hnil:RightP []:=⟨by simp,by simp,by simp,by simp,List.Pairwise.nil⟩
 unfold mintP
 split
 ·exact hnil
 ·split
  ·exact h
  ·split
   ·exact hnil
   ·split
    ·exact hnil
    ·rename_i hw h0 hs ha
     simp only [Bool.not_eq_true',Bool.not_eq_false,Bool.and_eq_true] at hw
     have:=amt_le_sup h o d
     refine set_right h hw.1 hw.2 (by omega) ?_
     rw [set_len h]
     have:=h.len
     split <;> split <;> omega
theorem move_right {l:List PurseD} (h:RightP l) (o t d:ByteArray) (n:Nat):RightP (moveP l o t d n).1:=by
 unfold moveP
 split
 ·exact mint_right (burn_right h o d n) t d n
 ·exact ⟨by simp,by simp,by simp,by simp,List.Pairwise.nil⟩
theorem burn_ok {l:List PurseD} (h:RightP l) {o d:ByteArray} {n:Nat} (he:(burnP l o d n).2=0) :
  n≤amtP l o d∧(∀ o' d',amtP (burnP l o d n).1 o' d'=if o'=o∧d'=d then amtP l o d - n else amtP l o' d')∧∀ d',supP (burnP l o d n).1 d'+(if d=d' then n else 0)=supP l d':=by
 unfold burnP at he ⊢
 split at he
 ·cases he
 ·split at he
  ·cases he
  ·rename_i hw ha
   rw [if_neg hw,if_neg ha]
   refine ⟨by omega,fun o' d'=>amt_set h o d _ o' d',fun d'=>?_⟩
   have:=sup_set h o d (amtP l o d - n) d'
   simp only
   split at this <;> simp_all <;> omega
theorem mint_ok {l:List PurseD} (h:RightP l) {o d:ByteArray} {n:Nat} (he:(mintP l o d n).2=0) :
  (∀ o' d',amtP (mintP l o d n).1 o' d'=if o'=o∧d'=d then amtP l o d+n else amtP l o' d')∧(∀ d',supP (mintP l o d n).1 d'=supP l d'+(if d=d' then n else 0))∧(n≠0→supP l d+n < 18446744073709551616):=by
 unfold mintP at he ⊢
 split at he
 ·cases he
 ·rename_i hw
  rw [if_neg hw]
  split at he
  ·rename_i hn
   rw [if_pos hn]
   subst hn
   refine ⟨fun o' d'=>?_,fun d'=>by simp,fun hc=>absurd rfl hc⟩
   split
   ·rename_i hk; rw [hk.1,hk.2]; rfl
   ·rfl
  ·rename_i hn
   rw [if_neg hn]
   split at he
   ·cases he
   ·rename_i hs
    rw [if_neg hs]
    split at he
    ·cases he
    ·rename_i ha
     rw [if_neg ha]
     refine ⟨fun o' d'=>amt_set h o d _ o' d',fun d'=>?_,fun _=>by omega⟩
     have:=sup_set h o d (amtP l o d+n) d'
     simp only
     split at this <;> simp_all <;> omega
theorem move_ok {l:List PurseD} (h:RightP l) {o t d:ByteArray} {n:Nat} (he:(moveP l o t d n).2=0) :
  n≤amtP l o d∧(∀ o' d',amtP (moveP l o t d n).1 o' d'=(if o'=o∧d'=d then amtP l o d - n else amtP l o' d')+(if o'=t∧d'=d then n else 0))∧∀ d',supP (moveP l o t d n).1 d'=supP l d':=by
 unfold moveP at he ⊢
 split at he
 ·rename_i hb
  rw [if_pos hb]
  have hr:=burn_right h o d n
  obtain ⟨h1,h2,h3⟩:=burn_ok h hb
  obtain ⟨g1,g2,_⟩:=mint_ok hr he
  refine ⟨h1,fun o' d'=>?_,fun d'=>?_⟩
  ·rw [g1]
   by_cases hk:o'=t∧d'=d
   ·rw [if_pos hk,if_pos hk,h2,hk.1,hk.2]
   ·rw [if_neg hk,if_neg hk,h2]; rfl
  ·rw [g2,← h3 d']
 ·rename_i hb; exact absurd he hb
theorem move_err {l:List PurseD} {o t d:ByteArray} {n:Nat} (he:(moveP l o t d n).2≠0):(moveP l o t d n).1=[]:=by
 unfold moveP at he ⊢
 split at he
 ·rename_i hb
  rw [if_pos hb]
  generalize (burnP l o d n).1=m at *
  unfold mintP at he ⊢
  split
  ·rfl
  ·rename_i h1
   rw [if_neg h1] at he
   split
   ·rename_i h2; rw [if_pos h2] at he; exact absurd rfl he
   ·rename_i h2
    rw [if_neg h2] at he
    split
    ·rfl
    ·rename_i h3
     rw [if_neg h3] at he
     split
     ·rfl
     ·rename_i h4; rw [if_neg h4] at he; exact absurd rfl he
 ·rename_i hb; rw [if_neg hb]
theorem move_int {l:List PurseD} (h:RightP l) {o t d:ByteArray} {n:Nat} (he:(moveP l o t d n).2=0) (o' d':ByteArray) :
  ((amtP (moveP l o t d n).1 o' d':Nat):Int)=((amtP l o' d':Nat):Int) - ((if o'=o∧d'=d then n else 0:Nat):Int)+((if o'=t∧d'=d then n else 0:Nat):Int):=by
 obtain ⟨a1,b1,_⟩:=move_ok h he
 rw [b1]
 by_cases k1:o'=o∧d'=d
 ·rw [if_pos k1,if_pos k1,k1.1,k1.2]
  split <;> omega
 ·rw [if_neg k1,if_neg k1]
  split <;> omega
theorem move_comm {l:List PurseD} (h:RightP l) {o t d:ByteArray} {n:Nat} {o2 t2 d2:ByteArray} {n2:Nat} (e1:(moveP l o t d n).2=0) (e2:(moveP (moveP l o t d n).1 o2 t2 d2 n2).2=0)
  (e3:(moveP l o2 t2 d2 n2).2=0) (e4:(moveP (moveP l o2 t2 d2 n2).1 o t d n).2=0):(moveP (moveP l o t d n).1 o2 t2 d2 n2).1=(moveP (moveP l o2 t2 d2 n2).1 o t d n).1:=by
 have r1:=move_right h o t d n
 have r3:=move_right h o2 t2 d2 n2
 refine ext_amt (move_right r1 _ _ _ _) (move_right r3 _ _ _ _) fun o' d'=>?_
 have i1:=move_int h e1 o' d'
 have i2:=move_int r1 e2 o' d'
 have i3:=move_int h e3 o' d'
 have i4:=move_int r3 e4 o' d'
 generalize (if o'=o∧d'=d then n else 0)=x1 at *
 generalize (if o'=t∧d'=d then n else 0)=x2 at *
 generalize (if o'=o2∧d'=d2 then n2 else 0)=x3 at *
 generalize (if o'=t2∧d'=d2 then n2 else 0)=x4 at *
 omega
end Go.Proofs.YtckjpabekmhnhaaDoor
