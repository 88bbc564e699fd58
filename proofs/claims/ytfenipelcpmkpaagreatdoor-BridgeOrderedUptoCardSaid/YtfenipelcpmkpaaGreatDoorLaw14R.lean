/- Chapter 14, plain: over an ordered channel packets come by their numbers. No program is in sight. -/
import Derived.Test.YtfenipelcpmkpaaGreatDoorLaw14Q
import Derived.Test.YtfenipelcpmkpaaGreatDoorBrF
set_option linter.all false
namespace Go.Proofs.YtfenipelcpmkpaaGreatDoor
open Go Go.Abs
theorem Jg (c o:aV) (m:MsgD):(nV c o m).kind=m.kind/\(nV c o m).pk=m.pk:=by
 unfold nV EM
 split
 ·exact ⟨rfl,rfl⟩
 ·split
  ·exact ⟨rfl,rfl⟩
  ·split <;> exact ⟨rfl,rfl⟩
theorem zm {c:aV} (hc:kr c) {m:MsgD} (h:(mQ c m).2.err=0):RcvStep c.s m (mQ c m).1.s:=by
 have h':(doS c.s m).2.err=0:=h
 unfold mQ
 rw [if_pos h']
 exact Vb hc.p64 h'
def mq (e:EvD):Prop:=e.kind=4\/e.kind=5
theorem one_rcv {c o:aV} (hc:kr c) {e:EvD} (h:(gK c o e).2.err=0):∃ m:MsgD,RcvStep c.s m (gK c o e).1.s/\(mq e->m.kind=e.m.kind/\m.pk=e.m.pk)/\(¬ mq e->¬ m.kind=15):=by
 unfold mq
 unfold gK iB iA at h ⊢
 split at h
 ·rename_i k
  rw [if_pos k]
  obtain ⟨h1,_,_,e2⟩:=block_done h
  obtain ⟨_,_,e3,_⟩:=nextS_ok h1
  rw [e2,e3]
  exact ⟨oP,rH rfl (by simp),fun q=>by omega,fun _=>by simp⟩
 ·rename_i k
  rw [if_neg k]
  split at h
  ·rename_i k2
   rw [if_pos k2]
   split at h
   ·simp at h
   ·rename_i k3
    rw [if_neg k3]
    exact ⟨_,zm hc h,fun q=>by omega,fun _=>by simp [vS]⟩
  ·rename_i k2
   rw [if_neg k2]
   split at h
   ·rename_i k3
    rw [if_pos k3]
    split at h
    ·simp at h
    ·rename_i k4
     rw [if_neg k4]
     exact ⟨_,zm hc h,fun q=>by omega,fun _=>by simp [vO]⟩
   ·rename_i k3
    rw [if_neg k3]
    split at h
    ·rename_i k4
     rw [if_pos k4]
     exact ⟨_,zm hc h,fun _=>⟨rfl,rfl⟩,fun q=>absurd (.inl k4) q⟩
    ·rename_i k4
     rw [if_neg k4]
     split at h
     ·rename_i k5
      rw [if_pos k5]
      exact ⟨_,zm hc h,fun _=>Jg c o e.m,fun q=>absurd (.inr k5) q⟩
     ·simp at h
structure zy (s t:StateD):Prop where
 len:s.chs.length<=t.chs.length
 ord:∀ i:Nat,i < s.chs.length->(chAt t (i:Int)).ord=(chAt s (i:Int)).ord
theorem zy.refl (s:StateD):zy s s:=⟨Nat.le_refl _,fun _ _=>rfl⟩
theorem zy.trans {a b c:StateD} (h:zy a b) (g:zy b c):zy a c:=⟨Nat.le_trans h.len g.len,fun i hi=>(g.ord i (Nat.lt_of_lt_of_le hi h.len)).trans (h.ord i hi)⟩
theorem RcvStep.ordM {s t:StateD} {m:MsgD} (h:RcvStep s m t):zy s t:=⟨h.len,fun i hi=>(h.old i hi).1⟩
theorem Fg {c o:aV} (hc:kr c) (e:EvD):zy c.s (gK c o e).1.s:=by
 by_cases h:(gK c o e).2.err=0
 ·obtain ⟨m,hm,_⟩:=one_rcv hc h
  exact hm.ordM
 ·rw [Cb h]; exact .refl _
theorem step_ordM {w:qD} {n:Nat} (hw:zu w n) (e:EvD):zy w.1.s (stepB w e).1.1.s/\zy w.2.s (stepB w e).1.2.s:=by
 unfold stepB
 split
 ·exact ⟨Fg hw.a e,.refl _⟩
 ·split
  ·exact ⟨.refl _,Fg hw.b e⟩
  ·exact ⟨.refl _,.refl _⟩
theorem run_ordM:∀ (l:List EvD) {w:qD} {n:Nat},zu w n->n+l.length<=1000->zy w.1.s (runB w l).1.1.s/\zy w.2.s (runB w l).1.2.s
 | [],_,_,_,_=>⟨.refl _,.refl _⟩
 | e :: t,w,n,h,hn=>by
  simp only [List.length_cons] at hn
  obtain ⟨a,b⟩:=step_ordM h e
  obtain ⟨c,d⟩:=run_ordM t (step_ok h (by omega) e) (by omega)
  exact ⟨a.trans c,b.trans d⟩
instance (e:EvD):Decidable (mq e):=by unfold mq; infer_instance
def hitO (s:StateD) (k:Int) (e:EvD) (d:jN):Option (Int × Int) :=
 if d.err=0/\e.m.kind=15/\mq e/\e.side=k/\(chAt s e.m.pk.de).ord=true then some (e.m.pk.de,e.m.pk.seq) else none
def mr (f:Nat->Option (Int × Int)):Nat->Int->Int
 | 0,_=>0
 | i+1,c=>match f i with
  | some (c',v)=>if c'=c then v else mr f i c
  | none=>mr f i c
def uY (f:Nat->Option (Int × Int)):Nat->Int->Bool
 | 0,_=>false
 | i+1,c=>match f i with
  | some (c',_)=>if c'=c then true else uY f i c
  | none=>uY f i c
def kU (f:Nat->Option (Int × Int)):Nat->List (Value × MV)
 | 0=>[]
 | i+1=>match f i with
  | some (c,v)=>upM (.int .i64) (.int .i64 c) (false,[.s (.int .i64 v)]) (kU f i)
  | none=>kU f i
def aaM (es:List (Value × MV)):Prop:=∀ r∈es,∃ n,r.1=.int .i64 n
theorem up_int {c:Int} {v:MV}:∀ {es:List (Value × MV)},aaM es->aaM (upM (.int .i64) (.int .i64 c) v es) /\
  ∀ c',luM (.int .i64) (.int .i64 c') (upM (.int .i64) (.int .i64 c) v es)=if c=c' then some (some v) else luM (.int .i64) (.int .i64 c') es
 | [],_=>by
  refine ⟨fun r hr=>?_,fun c'=>?_⟩
  ·rw [BG,List.mem_singleton] at hr; subst hr; exact ⟨c,rfl⟩
  ·rw [BG,pU]
   by_cases h:c=c'
   ·subst h; simp
   ·rw [if_neg (fun e=>h e.symm),if_neg h]
 | r :: t,hr=>by
  obtain ⟨n,hn⟩:=hr r (List.mem_cons_self ..)
  obtain ⟨k,w⟩:=r
  simp only at hn
  subst hn
  obtain ⟨a,b⟩:=up_int (c:=c) (v:=v) (es:=t) (fun x hx=>hr x (List.mem_cons_of_mem _ hx))
  rw [IP]
  by_cases h:c=n
  ·subst h
   rw [if_pos rfl]
   refine ⟨fun x hx=>?_,fun c'=>?_⟩
   ·rcases List.mem_cons.1 hx with rfl | hx
    ·exact ⟨_,rfl⟩
    ·exact hr x (List.mem_cons_of_mem _ hx)
   ·rw [pU,pU]
    by_cases h':c=c'
    ·subst h'; simp
    ·rw [if_neg (fun e=>h' e.symm),if_neg h',if_neg (fun e=>h' e.symm)]
  ·rw [if_neg h]
   refine ⟨fun x hx=>?_,fun c'=>?_⟩
   ·rcases List.mem_cons.1 hx with rfl | hx
    ·exact ⟨_,rfl⟩
    ·exact a x hx
   ·rw [pU,pU,b]
    by_cases h':c'=n
    ·subst h'; rw [if_pos rfl,if_neg h,if_pos rfl]
    ·rw [if_neg h',if_neg h']
theorem rows_int (f:Nat->Option (Int × Int)):∀ i,aaM (kU f i)/\∀ c,luM (.int .i64) (.int .i64 c) (kU f i)=some (if uY f i c=true then some (false,[.s (.int .i64 (mr f i c))]) else none)
 | 0=>⟨(fun _ h=>by cases h),(fun c=>by simp [kU,uY,luM])⟩
 | i+1=>by
  obtain ⟨a,b⟩:=rows_int f i
  rcases hf:f i with _ | ⟨c0,v⟩
  ·simp only [kU,uY,mr,hf]; exact ⟨a,b⟩
  ·simp only [kU,uY,mr,hf]
   obtain ⟨x,y⟩:=up_int (c:=c0) (v:=(false,[.s (.int .i64 v)])) a
   refine ⟨x,fun c=>?_⟩
   rw [y c]
   by_cases h:c0=c
   ·subst h; simp
   ·simp only [if_neg h]; exact b c
theorem yM (f:Nat->Option (Int × Int)) (c:Int):∀ i,uY f i c=false->mr f i c=0
 | 0,_=>rfl
 | i+1,h=>by
  rcases hf:f i with _ | ⟨c0,v⟩
  ·simp only [uY,mr,hf] at h ⊢; exact yM f c i h
  ·simp only [uY,mr,hf] at h ⊢
   by_cases e:c0=c
   ·rw [if_pos e] at h; cases h
   ·rw [if_neg e] at h ⊢; exact yM f c i h
structure Ik (s:StateD) (f:Nat->Option (Int × Int)) (i:Nat) (W:StateD):Prop where
 eq:∀ c:Nat,c < s.chs.length->(chAt s (c:Int)).ord=true->(chAt s (c:Int)).rcv=mr f i c+1
 no:∀ c:Nat,s.chs.length<=c->mr f i c=0
theorem rX {s W:StateD} {f:Nat->Option (Int × Int)} {i:Nat} (h:Ik s f i W) (hf:f i=none):Ik s f (i+1) W :=
 ⟨fun c hc ho=>by simp only [mr,hf]; exact h.eq c hc ho,fun c hc=>by simp only [mr,hf]; exact h.no c hc⟩
theorem cnt_step {s t W:StateD} {f:Nat->Option (Int × Int)} {i:Nat} {k:Int} {e:EvD} {d:jN} {m:MsgD} (h:Ik s f i W) (hm:RcvStep s m t) (hM:zy s W) (hd:d.err=0) (hk:e.side=k) (h1:mq e->m.kind=e.m.kind/\m.pk=e.m.pk) (h2:¬ mq e->¬ m.kind=15) (hf:f i=hitO W k e d) :
  Ik t f (i+1) W/\(e.m.kind=15->mq e->(0<=e.m.pk.de/\e.m.pk.de < (s.chs.length:Int))/\((chAt W e.m.pk.de).ord=true->e.m.pk.seq=mr f i e.m.pk.de+1)/\N12 1 e.m.pk.seq):=by
 have key:e.m.kind=15->mq e->(0<=e.m.pk.de/\e.m.pk.de < (s.chs.length:Int))/\(chAt W e.m.pk.de).ord=(chAt s e.m.pk.de).ord/\((chAt s e.m.pk.de).ord=true->e.m.pk.seq=mr f i e.m.pk.de+1)/\N12 1 e.m.pk.seq:=fun a b=>by
  obtain ⟨c1,c2⟩:=h1 b
  obtain ⟨d1,d2,d3⟩:=hm.arr (c1.trans a)
  rw [c2] at d1 d2 d3
  have ci:((e.m.pk.de.toNat:Nat):Int)=e.m.pk.de:=by omega
  have o1:=hM.ord e.m.pk.de.toNat (by omega)
  rw [ci] at o1
  refine ⟨d1,o1,fun ho=>?_,d3⟩
  have:=h.eq e.m.pk.de.toNat (by omega) (by rw [ci]; exact ho)
  rw [ci] at this
  rw [d2 ho,this]
 refine ⟨?_,fun a b=>⟨(key a b).1,fun ho=>(key a b).2.2.1 (by rw [<- (key a b).2.1]; exact ho),(key a b).2.2.2⟩⟩
 by_cases hc:e.m.kind=15/\mq e
 ·obtain ⟨k1,k2,k3,_⟩:=key hc.1 hc.2
  obtain ⟨m1,m2⟩:=h1 hc.2
  by_cases ho:(chAt W e.m.pk.de).ord=true
  ·have hfi:f i=some (e.m.pk.de,e.m.pk.seq):=by rw [hf]; unfold hitO; rw [if_pos ⟨hd,hc.1,hc.2,hk,ho⟩]
   have hs:=k3 (by rw [<- k2]; exact ho)
   refine ⟨fun c hc' hoc=>?_,fun c hc'=>?_⟩
   ·simp only [mr,hfi]
    by_cases hn:c < s.chs.length
    ·obtain ⟨q1,q2⟩:=hm.old c hn
     rw [q1] at hoc
     rw [q2 hoc,m1,m2,h.eq c hn hoc]
     by_cases e1:e.m.pk.de=(c:Int)
     ·rw [if_pos ⟨hc.1,e1⟩,if_pos e1,hs,e1]
     ·rw [if_neg (fun q=>e1 q.2),if_neg e1]; omega
    ·rw [hm.new c (by omega) hc',if_neg (by omega),h.no c (by omega)]; rfl
   ·have:=hm.len
    simp only [mr,hfi]
    rw [if_neg (by omega)]; exact h.no c (by omega)
  ·have hfi:f i=none:=by rw [hf]; unfold hitO; rw [if_neg (fun q=>ho q.2.2.2.2)]
   refine ⟨fun c hc' hoc=>?_,fun c hc'=>?_⟩
   ·simp only [mr,hfi]
    by_cases hn:c < s.chs.length
    ·obtain ⟨q1,q2⟩:=hm.old c hn
     rw [q1] at hoc
     rw [q2 hoc,m1,m2,h.eq c hn hoc,if_neg]
     ·omega
     ·rintro ⟨_,e1⟩
      rw [e1] at ho k2
      rw [k2] at ho; exact ho hoc
    ·rw [hm.new c (by omega) hc',h.no c (by omega)]; rfl
   ·have:=hm.len
    simp only [mr,hfi]; exact h.no c (by omega)
 ·have hfi:f i=none:=by rw [hf]; unfold hitO; rw [if_neg (fun q=>hc ⟨q.2.1,q.2.2.1⟩)]
  have hm15:¬ m.kind=15:=by
   by_cases b:mq e
   ·rw [(h1 b).1]; exact fun a=>hc ⟨a,b⟩
   ·exact h2 b
  refine ⟨fun c hc' hoc=>?_,fun c hc'=>?_⟩
  ·simp only [mr,hfi]
   by_cases hn:c < s.chs.length
   ·obtain ⟨q1,q2⟩:=hm.old c hn
    rw [q1] at hoc
    rw [q2 hoc,h.eq c hn hoc,if_neg (fun q=>hm15 q.1)]; omega
   ·rw [hm.new c (by omega) hc',h.no c (by omega)]; rfl
  ·have:=hm.len
   simp only [mr,hfi]; exact h.no c (by omega)
structure NG (V W:qD) (f g:Nat->Option (Int × Int)) (i:Nat):Prop where
 a:Ik V.1.s f i W.1.s
 b:Ik V.2.s g i W.2.s
theorem pX {s:StateD} {k:Int} {e:EvD} {d:jN} (h:¬ (d.err=0/\e.side=k)):hitO s k e d=none:=by
 unfold hitO; rw [if_neg (fun q=>h ⟨q.1,q.2.2.2.1⟩)]
theorem EJ {V W:qD} {n i:Nat} {f g:Nat->Option (Int × Int)} {e:EvD} (h:NG V W f g i) (hV:zu V n) (hM:zy V.1.s W.1.s/\zy V.2.s W.2.s) (hf:f i=hitO W.1.s 0 e (stepB V e).2) (hg:g i=hitO W.2.s 1 e (stepB V e).2) :
  NG (stepB V e).1 W f g (i+1)/\((stepB V e).2.err=0->e.m.kind=15->mq e->(e.side=0/\(0<=e.m.pk.de/\e.m.pk.de < (V.1.s.chs.length:Int))/\((chAt W.1.s e.m.pk.de).ord=true->e.m.pk.seq=mr f i e.m.pk.de+1)/\N12 1 e.m.pk.seq) \/
   (e.side=1/\(0<=e.m.pk.de/\e.m.pk.de < (V.2.s.chs.length:Int))/\((chAt W.2.s e.m.pk.de).ord=true->e.m.pk.seq=mr g i e.m.pk.de+1)/\N12 1 e.m.pk.seq)):=by
 by_cases hd:(stepB V e).2.err=0
 ·by_cases k0:e.side=0
  ·have g0:g i=none:=by rw [hg]; exact pX (fun q=>by omega)
   rw [zM k0] at hd hf ⊢
   obtain ⟨m,hm,h1,h2⟩:=one_rcv hV.a hd
   obtain ⟨x,y⟩:=cnt_step h.a hm hM.1 hd k0 h1 h2 hf
   exact ⟨⟨x,rX h.b g0⟩,fun _ a b=>.inl ⟨k0,y a b⟩⟩
  ·by_cases k1:e.side=1
   ·have f0:f i=none:=by rw [hf]; exact pX (fun q=>by omega)
    rw [BL k1] at hd hg ⊢
    obtain ⟨m,hm,h1,h2⟩:=one_rcv hV.b hd
    obtain ⟨x,y⟩:=cnt_step h.b hm hM.2 hd k1 h1 h2 hg
    exact ⟨⟨rX h.a f0,x⟩,fun _ a b=>.inr ⟨k1,y a b⟩⟩
   ·rw [WP k0 k1] at hd
    simp at hd
 ·have f0:f i=none:=by rw [hf]; exact pX (fun q=>hd q.1)
  have g0:g i=none:=by rw [hg]; exact pX (fun q=>hd q.1)
  rw [OE hd]
  exact ⟨⟨rX h.a f0,rX h.b g0⟩,fun a=>absurd a hd⟩
theorem LY {l:List EvD} {f g:Nat->Option (Int × Int)} (hl:l.length<=1000) (hf:∀ i (hi:i < l.length),f i=hitO (runB begin2 l).1.1.s 0 l[i] (stepB (runB begin2 (l.take i)).1 l[i]).2) (hg:∀ i (hi:i < l.length),g i=hitO (runB begin2 l).1.2.s 1 l[i] (stepB (runB begin2 (l.take i)).1 l[i]).2) :
  ∀ i,i<=l.length->NG (runB begin2 (l.take i)).1 (runB begin2 l).1 f g i
 | 0,_=>⟨⟨(fun c hc=>by simp [runB,begin2,aW] at hc),(fun _ _=>rfl)⟩,⟨(fun c hc=>by simp [runB,begin2,aW] at hc),(fun _ _=>rfl)⟩⟩
 | i+1,hi=>by
  have ih:=LY hl hf hg i (by omega)
  have hV:=zV (l.take i) jK (by simp; omega)
  have hM:zy (runB begin2 (l.take i)).1.1.s (runB begin2 l).1.1.s/\zy (runB begin2 (l.take i)).1.2.s (runB begin2 l).1.2.s:=by
   have e:runB begin2 l=runB begin2 (l.take i++l.drop i):=by rw [List.take_append_drop]
   rw [e,jS]
   exact run_ordM (l.drop i) hV (by simp; omega)
  rw [(Rq (l:=l) (i:=i) (by omega) begin2).1]
  exact (EJ ih hV hM (hf i (by omega)) (hg i (by omega))).1
end Go.Proofs.YtfenipelcpmkpaaGreatDoor
