/- Chapter 14, plain: who follows truly knows the truth. No program is in sight. -/
import Derived.Test.YtfenipelcpmkpaaGreatDoorLaw14U
set_option linter.all false
namespace Go.Proofs.YtfenipelcpmkpaaGreatDoor
open Go Go.Abs
structure iy (c:aJ):Prop where
 hdr:∀ e∈c.past,e.sg.hdr=⟨e.st.name,e.st.h,e.st.t,(gu e.st).1,bX c.vals,bX c.vals⟩
 lt:∀ e∈c.past,e.st.h < c.s.h/\e.st.t < c.s.t
 rise:c.past.Pairwise fun a b=>a.st.h < b.st.h/\a.st.t < b.st.t
def Gp (o:aJ) (x:aG):Prop:=x.frozen=false/\∀ k∈x.known,∃ e∈o.past,k=ofH e.sg.hdr
def qB (c o:aJ):Prop:=∀ x∈c.s.cls,Gp o x
theorem pair_mem {α:Type} {R:α->α->Prop}:∀ {l:List α},l.Pairwise R->∀ {a b:α},a∈l->b∈l->a=b\/R a b\/R b a
 | [],_,_,_,h,_=>by cases h
 | x :: t,hp,a,b,ha,hb=>by
  rw [List.pairwise_cons] at hp
  rcases List.mem_cons.1 ha with ha1 | ha1
  ·rcases List.mem_cons.1 hb with hb1 | hb1
   ·exact .inl (ha1.trans hb1.symm)
   ·exact .inr (.inl (by rw [ha1]; exact hp.1 b hb1))
  ·rcases List.mem_cons.1 hb with hb1 | hb1
   ·exact .inr (.inr (by rw [hb1]; exact hp.1 a ha1))
   ·exact pair_mem hp.2 ha1 hb1
theorem iy.one {c:aJ} (h:iy c) {a b:EndD} (ha:a∈c.past) (hb:b∈c.past) (e:a.st.h=b.st.h):a=b:=by
 rcases pair_mem h.rise ha hb with q | q | q
 ·exact q
 ·omega
 ·omega
theorem iy.time {c:aJ} (h:iy c) {a b:EndD} (ha:a∈c.past) (hb:b∈c.past) (e:a.st.h < b.st.h):a.st.t < b.st.t:=by
 rcases pair_mem h.rise ha hb with q | q | q
 ·subst q; omega
 ·exact q.2
 ·omega
theorem WM {α:Type} {p:α->Bool}:∀ {l:List α} {i:Nat} {a:α},i < (l.takeWhile p).length->l[i]?=some a->p a=true
 | [],i,a,h,_=>by simp at h
 | x :: t,i,a,h,e=>by
  rw [List.takeWhile_cons] at h
  by_cases hx:p x=true
  ·rw [if_pos hx] at h
   cases i with
   | zero=>simp at e; subst e; exact hx
   | succ i=>exact WM (l:=t) (i:=i) (by simp at h; exact h) (by simpa using e)
  ·rw [if_neg hx] at h; simp at h
theorem Rs {α:Type} {p:α->Bool}:∀ {l:List α} {a:α},l[(l.takeWhile p).length]?=some a->p a=false
 | [],a,e=>by simp at e
 | x :: t,a,e=>by
  rw [List.takeWhile_cons] at e
  by_cases hx:p x=true
  ·rw [if_pos hx] at e
   exact Rs (l:=t) (by simpa using e)
  ·rw [if_neg hx] at e
   simp at e
   subst e
   simpa using hx
theorem OX {o:aJ} (po:iy o) {x:aG} (hx:Gp o x) {e:EndD} (he:e∈o.past):Gp o (zA x (ofH e.sg.hdr)):=by
 have hd:=fun e he=>po.hdr e he
 have hh:∀ e∈o.past,(ofH e.sg.hdr).h=e.st.h/\(ofH e.sg.hdr).t=e.st.t:=fun e he=>by rw [hd e he]; exact ⟨rfl,rfl⟩
 unfold zA
 cases ha:atC x (ofH e.sg.hdr).h with
 | some k =>
  simp only
  unfold atC at ha
  have hm:=List.mem_of_find?_eq_some ha
  have hp:=List.find?_some ha
  simp only [decide_eq_true_eq] at hp
  obtain ⟨e',he',rfl⟩:=hx.2 k hm
  have:e'=e:=po.one he' he (by rw [<- (hh e' he').1,<- (hh e he).1]; exact hp)
  subst this
  have hs:Wh (ofH e'.sg.hdr) (ofH e'.sg.hdr)=true:=by simp [Wh]
  rw [if_pos hs]; exact hx
 | none =>
  simp only
  have hno:∀ k∈x.known,¬ k.h=(ofH e.sg.hdr).h:=fun k hk q=>by
   unfold atC at ha
   have:=List.find?_eq_none.1 ha k hk
   simp at this; exact this q
  have hb:Wt x.known (iH x.known (ofH e.sg.hdr).h) (ofH e.sg.hdr)=false:=by
   unfold Wt
   rw [Bool.or_eq_false_iff,Bool.and_eq_false_iff]
   constructor
   ·by_cases h0:0 < iH x.known (ofH e.sg.hdr).h
    ·right
     cases hq:x.known[iH x.known (ofH e.sg.hdr).h - 1]? with
     | none=>rfl
     | some k =>
      have hk:=List.mem_of_getElem? hq
      have hlt:=WM (p:=fun k:aS=>decide (k.h < (ofH e.sg.hdr).h)) (l:=x.known) (a:=k) (i:=iH x.known (ofH e.sg.hdr).h - 1) (by unfold iH at h0 ⊢; omega) hq
      simp only [decide_eq_true_eq] at hlt
      obtain ⟨e',he',rfl⟩:=hx.2 k hk
      rw [(hh e' he').1,(hh e he).1] at hlt
      have:=po.time he' he hlt
      simp only [Option.any_some,decide_eq_false_iff_not]
      rw [(hh e' he').2,(hh e he).2]; omega
    ·left; simp only [decide_eq_false_iff_not]; exact h0
   ·cases hq:x.known[iH x.known (ofH e.sg.hdr).h]? with
    | none=>rfl
    | some k =>
     have hk:=List.mem_of_getElem? hq
     have hge:=Rs (p:=fun k:aS=>decide (k.h < (ofH e.sg.hdr).h)) (l:=x.known) (a:=k) hq
     simp only [decide_eq_false_iff_not] at hge
     have hne:=hno k hk
     obtain ⟨e',he',rfl⟩:=hx.2 k hk
     rw [(hh e' he').1,(hh e he).1] at hge hne
     have:=po.time he he' (by omega)
     simp only [Option.any_some,decide_eq_false_iff_not]
     rw [(hh e' he').2,(hh e he).2]; omega
  rw [hb]
  simp only [Bool.false_eq_true,if_false]
  refine ⟨hx.1,fun k hk=>?_⟩
  have:k∈x.known.take (iH x.known (ofH e.sg.hdr).h)++ofH e.sg.hdr :: x.known.drop (iH x.known (ofH e.sg.hdr).h):=by
   simp only [LM] at hk
   split at hk
   ·exact List.mem_of_mem_drop hk
   ·exact hk
  rcases List.mem_append.1 this with q | q
  ·exact hx.2 k (List.mem_of_mem_take q)
  ·rcases List.mem_cons.1 q with rfl | q
   ·exact ⟨e,he,rfl⟩
   ·exact hx.2 k (List.mem_of_mem_drop q)
theorem Vy {c:aJ} (hc:kv c) {m:MsgD} (hk:¬ m.kind<=3):(jy c m).1.s.cls=c.s.cls:=by
 unfold jy
 split
 ·rename_i h0
  have hp:=(yJ hc.p64 h0).place
  rw [if_neg hk] at hp
  simp only
  by_cases k7:m.kind<=7
  ·rw [if_pos k7] at hp; have q:=congrArg StateD.cls hp; exact q
  ·rw [if_neg k7] at hp
   by_cases k13:m.kind<=13
   ·rw [if_pos k13] at hp; have q:=congrArg StateD.cls hp; exact q
   ·rw [if_neg k13] at hp
    by_cases k18:m.kind=18
    ·rw [if_pos k18] at hp; have q:=congrArg StateD.cls hp; exact q
    ·rw [if_neg k18] at hp; have q:=congrArg StateD.cls hp; exact q
 ·rfl
theorem KA {o:aJ} (h:¬ o.past.length=0):yc o∈o.past:=by
 obtain ⟨hi,e⟩:=last_pastB h
 rw [e]; exact List.getElem_mem hi
theorem QB {c o:aJ} (h:qB c o) (hn:¬ o.past.length=0) (trust:Int):qB (jy c (oo o trust)).1 o:=by
 unfold jy
 split
 ·rename_i h0
  obtain ⟨ok,h1,e⟩:=doS_done h0
  rw [e] at h0 ⊢
  unfold Bl at h0 ⊢
  rw [if_neg (by simp [oo]),if_pos (by simp [oo])] at h0 ⊢
  unfold Me at h0 ⊢
  rw [if_pos (by simp [oo])] at h0 ⊢
  split at h0
  ·simp at h0
  ·rename_i h4
   rw [if_neg h4]
   split at h0
   ·rename_i h5
    rw [if_pos h5]
    intro x hx
    rcases List.mem_append.1 hx with hx | hx
    ·exact h x hx
    ·rw [List.mem_singleton.1 hx]
     unfold Ha at h5 ⊢
     split at h5
     ·rename_i h6
      rw [if_pos h6]
      refine ⟨rfl,fun k hk=>?_⟩
      rw [List.mem_singleton.1 hk]
      exact ⟨yc o,KA hn,rfl⟩
     ·rename_i h6; exact absurd h5 h6
   ·exact absurd h0 ‹_›
 ·exact h
theorem Qf {c o:aJ} (h:qB c o) (po:iy o) (hn:¬ o.past.length=0) (i:Int) (hi:¬ (i < 0\/(c.s.cls.length:Int)<=i)):qB (jy c (kE c o i)).1 o:=by
 unfold jy
 split
 ·rename_i h0
  obtain ⟨ok,h1,e⟩:=doS_done h0
  rw [e] at h0 ⊢
  unfold Bl at h0 ⊢
  rw [if_neg (by simp [kE]),if_pos (by simp [kE])] at h0 ⊢
  unfold Me at h0 ⊢
  rw [if_neg (by simp [kE]),if_neg (show ¬ ((kE c o i).cl < 0\/(c.s.cls.length:Int)<=(kE c o i).cl) from hi)] at h0 ⊢
  simp only [show (kE c o i).kind=2 from rfl,if_true] at h0 ⊢
  split at h0
  ·rename_i h5
   rw [if_pos h5]
   intro x hx
   rcases List.mem_or_eq_of_mem_set hx with hx | rfl
   ·exact h x hx
   ·obtain ⟨_,_,e2⟩:=follow_zero h5
    rw [e2]
    have hm:=(eT (s:=c.s) (i:=i) (by omega)).2
    exact OX po (h _ hm) (KA hn)
  ·exact absurd h0 ‹_›
 ·exact h
theorem one_true {c o:aJ} {e:EvD} (hc:kv c) (h:qB c o) (pc:iy c) (po:iy o) (ht:trueEv e):qB (fM c o e).1 o/\iy (fM c o e).1/\∀ x∈c.past,x∈(fM c o e).1.past:=by
 have hn:qB c o/\iy c/\∀ x∈c.past,x∈c.past:=⟨h,pc,fun _ h=>h⟩
 have pact:∀ m,iy (jy c m).1/\∀ x∈c.past,x∈(jy c m).1.past:=fun m=>by
  obtain ⟨a,b,_⟩:=act_past c m
  have hht:(jy c m).1.s.h=c.s.h/\(jy c m).1.s.t=c.s.t:=by have:=Zf hc m; exact ⟨this.1,this.2.1⟩
  refine ⟨⟨by rw [a,b]; exact pc.hdr,by rw [a,hht.1,hht.2]; exact pc.lt,by rw [a]; exact pc.rise⟩,by rw [a]; exact fun _ h=>h⟩
 have keep:∀ m,¬ m.kind<=3->qB (jy c m).1 o:=fun m hk x hx=>by
  rw [Vy hc hk] at hx; exact h x hx
 unfold fM gN gM
 split
 ·by_cases hb:(dn c e.later).2.err=0
  ·obtain ⟨h1,_,h3,e2⟩:=block_done hb
   obtain ⟨_,hl,e3,_⟩:=nextS_ok h1
   obtain ⟨g,_⟩:=sign_fst h3
   rw [e2,e3]
   refine ⟨h,⟨fun x hx=>?_,fun x hx=>?_,?_⟩,fun x hx=>List.mem_append.2 (.inl hx)⟩
   ·rcases List.mem_append.1 hx with hx | hx
    ·exact pc.hdr x hx
    ·rw [List.mem_singleton.1 hx,g]; rfl
   ·rcases List.mem_append.1 hx with hx | hx
    ·have:=pc.lt x hx; simp only; omega
    ·rw [List.mem_singleton.1 hx]; simp only; omega
   ·rw [List.pairwise_append]
    refine ⟨pc.rise,List.pairwise_singleton ..,fun a ha b hb=>?_⟩
    rw [List.mem_singleton.1 hb]
    exact pc.lt a ha
  ·rw [jQ hb]; exact hn
 ·split
  ·split
   ·exact hn
   ·rename_i h0
    exact ⟨QB h h0 _,pact _⟩
  ·split
   ·split
    ·exact hn
    ·rename_i h0
     exact ⟨Qf h po (by omega) _ (by omega),pact _⟩
   ·split
    ·rename_i k
     unfold trueEv trueEv.m4 at ht
     rw [if_pos k] at ht
     exact ⟨keep _ (by omega),pact _⟩
    ·split
     ·rename_i k4 k5
      unfold trueEv at ht
      rw [if_neg k4] at ht
      refine ⟨keep _ ?_,pact _⟩
      rw [Je]
      exact fun q=>ht ⟨k5,q⟩
     ·exact hn
structure qz (w:qA):Prop where
 a:qB w.1 w.2
 b:qB w.2 w.1
 pa:iy w.1
 pb:iy w.2
theorem vN {c o o':aJ} (h:qB c o) (hp:∀ x∈o.past,x∈o'.past):qB c o':=fun x hx =>
 ⟨(h x hx).1,fun k hk=>by obtain ⟨e,a,b⟩:=(h x hx).2 k hk; exact ⟨e,hp e a,b⟩⟩
theorem IY {w:qA} {n:Nat} (h:qz w) (hw:zw w n) {e:EvD} (ht:trueEv e):qz (iC w e).1:=by
 unfold iC
 split
 ·obtain ⟨x,y,z⟩:=one_true hw.a h.a h.pa h.pb ht
  exact ⟨x,vN h.b z,y,h.pb⟩
 ·split
  ·obtain ⟨x,y,z⟩:=one_true hw.b h.b h.pb h.pa ht
   exact ⟨vN h.a z,x,h.pa,y⟩
  ·exact h
theorem EJ:∀ (l:List EvD) {w:qA} {n:Nat},qz w->zw w n->n+l.length<=1000->(∀ e∈l,trueEv e)->qz (gW w l).1
 | [],_,_,h,_,_,_=>h
 | e :: t,w,n,h,hw,hn,ht=>by
  simp only [List.length_cons] at hn
  exact EJ t (IY h hw (ht e (List.mem_cons_self ..))) (wX hw (by omega) e) (by omega) (fun x hx=>ht x (List.mem_cons_of_mem _ hx))
theorem Ea:qz fD:=by
 have hp:∀ n o d,iy (aX n o d):=fun n o d=>⟨(fun e h=>by simp [aX] at h),(fun e h=>by simp [aX] at h),by simp [aX]⟩
 exact ⟨(fun x h=>by simp [fD,aX] at h),(fun x h=>by simp [fD,aX] at h),hp _ _ _,hp _ _ _⟩
def oG (e:EndD):Value × MV:=(.int .i64 e.st.h,(true,[.s (.int .i64 e.st.t),bI (gu e.st).1]))
theorem Rx:∀ {l:List EndD},(l.Pairwise fun a b=>a.st.h < b.st.h/\a.st.t < b.st.t)->∀ {e:EndD},e∈l->luM (.int .i64) (.int .i64 e.st.h) (l.map oG)=some (some (true,[.s (.int .i64 e.st.t),bI (gu e.st).1]))
 | [],_,_,h=>by cases h
 | x :: t,hp,e,h=>by
  rw [List.pairwise_cons] at hp
  rw [List.map_cons]
  unfold oG
  rw [Cx]
  rcases List.mem_cons.1 h with rfl | h
  ·rw [if_pos rfl]
  ·rw [if_neg (by have:=hp.1 e h; omega)]
   exact Rx hp.2 h
theorem row_new {h:Int} {v:MV}:∀ {l:List EndD},(∀ e∈l,e.st.h < h)->luM (.int .i64) (.int .i64 h) (l.map oG)=some none/\upM (.int .i64) (.int .i64 h) v (l.map oG)=l.map oG++[(.int .i64 h,v)]
 | [],_=>⟨rfl,rfl⟩
 | x :: t,hl=>by
  obtain ⟨a,b⟩:=row_new (h:=h) (v:=v) (l:=t) (fun e he=>hl e (List.mem_cons_of_mem _ he))
  have:=hl x (List.mem_cons_self ..)
  rw [List.map_cons]
  unfold oG at *
  rw [Cx,II,if_neg (by omega),if_neg (by omega),b]
  exact ⟨a,rfl⟩
end Go.Proofs.YtfenipelcpmkpaaGreatDoor
