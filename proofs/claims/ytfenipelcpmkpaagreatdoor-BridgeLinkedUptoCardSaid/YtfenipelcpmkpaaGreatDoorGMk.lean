/- Merged texts: MkP, InsL, InsMk, DelMk, MkF. -/
import Derived.Test.YtfenipelcpmkpaaGreatDoorGSt
set_option linter.all false
set_option maxHeartbeats 8000000
set_option maxRecDepth 20000
namespace Go.Proofs.YtfenipelcpmkpaaGreatDoor
open Go Go.Abs
abbrev acv:=Int × Int
def mk (m:bD):acv:=(m.ch,m.seq)
def v_ (a b:acv):Int:=if a.1=b.1 then a.2 - b.2 else a.1 - b.1
theorem cmpM_ok:KL.CmpOk v_ where
 zero:=fun a b=>by
  unfold v_
  by_cases h:a.1=b.1
  ·rw [if_pos h]
   exact ⟨fun e=>Prod.ext h (by omega),fun e=>by rw [e]; omega⟩
  ·rw [if_neg h]
   exact ⟨fun e=>absurd (by omega) h,fun e=>absurd (by rw [e]) h⟩
 neg:=fun a b=>by unfold v_; split <;> split <;> omega
 trans:=fun a b d h1 h2=>by unfold v_ at *; split at h1 <;> split at h2 <;> split <;> omega
abbrev acK (l:List bD):Prop:=KL.Srt mk v_ l
def N12 (least n:Int):Prop:=least<=n/\n<=1000000000000
theorem rF {n least:Int}:nm n least=true↔N12 least n:=by unfold nm N12; simp
structure Pq (m:bD):Prop where
 ch:N12 0 m.ch
 seq:N12 1 m.seq
 dg:m.dg.length=32
theorem uC {m:bD} {ch seq:Int} (hm:Pq m) (h1:N12 (-1) ch) (h2:N12 0 seq):jG m ch seq=v_ (mk m) (ch,seq):=by
 have a:=hm.ch
 have b:=hm.seq
 unfold N12 at *
 unfold jG v_ mk
 simp only
 by_cases h:m.ch=ch
 ·rw [if_pos h,if_pos h,aD (by omega) (by omega)]
 ·rw [if_neg h,if_neg h,aD (by omega) (by omega)]
structure kL (l:List bD):Prop where
 all:∀ m∈l,Pq m
 srt:acK l
theorem A_:∀ {o:Option bD} {l:List bD},(∀ q,o=some q->Pq q)->(qo o l=0↔kL l/\∀ q,o=some q->∀ m∈l,v_ (mk q) (mk m) < 0)
 | o,[],_=>⟨fun _=>⟨⟨by simp,List.Pairwise.nil⟩,by simp⟩,fun _=>rfl⟩
 | o,m :: t,ho=>by
  rw [qo]
  by_cases h1:¬ nm m.ch 0=true\/¬ nm m.seq 1=true
  ·rw [if_pos h1]
   rw [rF,rF] at h1
   refine ⟨fun h=>(by cases h),fun h=>?_⟩
   have:=h.1.all m (List.mem_cons_self ..)
   exact (h1.elim (absurd this.ch) (absurd this.seq))
  ·rw [if_neg h1]
   rw [rF,rF] at h1
   by_cases h2:¬ (m.dg.length:Int)=32
   ·rw [if_pos h2]
    refine ⟨fun h=>(by cases h),fun h=>?_⟩
    have:=(h.1.all m (List.mem_cons_self ..)).dg
    omega
   ·rw [if_neg h2]
    have hc:N12 0 m.ch/\N12 1 m.seq:=⟨Classical.byContradiction fun h=>h1 (.inl h),Classical.byContradiction fun h=>h1 (.inr h)⟩
    have hm:Pq m:=⟨hc.1,hc.2,by omega⟩
    have ih:=A_ (o:=some m) (l:=t) (fun q hq=>by cases hq; exact hm)
    have hord:∀ q,o=some q->jG q m.ch m.seq=v_ (mk q) (mk m):=fun q hq=>uC (ho q hq) (by have:=hc.1; unfold N12 at *; omega) (by have:=hc.2; unfold N12 at *; omega)
    by_cases h3:(o.any fun q=>decide (0<=jG q m.ch m.seq))=true
    ·rw [if_pos h3]
     refine ⟨fun h=>(by cases h),fun h=>?_⟩
     cases o with
     | none=>simp at h3
     | some q =>
      have:=h.2 q rfl m (List.mem_cons_self ..)
      simp only [Option.any_some,decide_eq_true_eq,hord q rfl] at h3
      omega
    ·rw [if_neg h3,ih]
     have hq:∀ q,o=some q->v_ (mk q) (mk m) < 0:=fun q hq=>by
      subst hq
      simp only [Option.any_some,decide_eq_true_eq,hord q rfl] at h3
      omega
     constructor
     ·rintro ⟨a,b⟩
      refine ⟨⟨fun x hx=>?_,List.pairwise_cons.2 ⟨b m rfl,a.srt⟩⟩,fun q hqq x hx=>?_⟩
      ·rcases List.mem_cons.1 hx with rfl | hx
       ·exact hm
       ·exact a.all x hx
      ·rcases List.mem_cons.1 hx with rfl | hx
       ·exact hq q hqq
       ·exact cmpM_ok.trans _ _ _ (hq q hqq) (b m rfl x hx)
     ·rintro ⟨a,b⟩
      have hs:=List.pairwise_cons.1 a.srt
      exact ⟨⟨fun x hx=>a.all x (List.mem_cons_of_mem _ hx),hs.2⟩,fun q hqq=>by cases hqq; exact hs.1⟩
structure acu (p:PurseD):Prop where
 o:1<=p.o.size/\p.o.size<=40
 d:1<=p.d.size/\p.d.size<=40
 n:p.n≠0
structure Xc (l:List PurseD):Prop where
 all:∀ p∈l,acu p
 srt:WR l
theorem Nf {q p:PurseD}:ni (pk q) (pk p) < 0↔¬ (0 < lg q.o p.o\/q.o=p.o/\0<=lg q.d p.d):=by
 unfold ni pk
 simp only
 have:=@cmpS_zero q.o p.o
 by_cases h:lg q.o p.o=0
 ·rw [if_pos h]
  have e:(0 < lg q.o p.o\/q.o=p.o/\0<=lg q.d p.d)↔0<=lg q.d p.d:=by simp [this.1 h,cmpS_zero.2 rfl]
  rw [e]; omega
 ·rw [if_neg h]
  have e:¬ q.o=p.o:=fun e=>h (this.2 e)
  simp only [e,false_and,or_false]
  omega
theorem AL:∀ {o:Option PurseD} {l:List PurseD},Iq o l=0↔Xc l/\∀ q,o=some q->∀ m∈l,ni (pk q) (pk m) < 0
 | o,[]=>⟨fun _=>⟨⟨by simp,List.Pairwise.nil⟩,by simp⟩,fun _=>rfl⟩
 | o,m :: t=>by
  rw [Iq]
  by_cases h1:(m.o.size:Int) < 1\/(40:Int) < m.o.size\/(m.d.size:Int) < 1\/(40:Int) < m.d.size
  ·rw [if_pos h1]
   refine ⟨fun h=>(by cases h),fun h=>?_⟩
   have k:=h.1.all m (List.mem_cons_self ..)
   have:=k.o
   have:=k.d
   omega
  ·rw [if_neg h1]
   by_cases h2:m.n=0
   ·rw [if_pos h2]
    refine ⟨fun h=>(by cases h),fun h=>?_⟩
    have:=(h.1.all m (List.mem_cons_self ..)).n
    omega
   ·rw [if_neg h2]
    have hm:acu m:=⟨by omega,by omega,by omega⟩
    have ih:=AL (o:=some m) (l:=t)
    by_cases h3:(o.any fun q=>decide (0 < lg q.o m.o\/q.o=m.o/\0<=lg q.d m.d))=true
    ·rw [if_pos h3]
     refine ⟨fun h=>(by cases h),fun h=>?_⟩
     cases o with
     | none=>simp at h3
     | some q =>
      have:=Nf.1 (h.2 q rfl m (List.mem_cons_self ..))
      simp only [Option.any_some,decide_eq_true_eq] at h3
      exact absurd h3 this
    ·rw [if_neg h3,ih]
     have hq:∀ q,o=some q->ni (pk q) (pk m) < 0:=fun q hq=>by
      subst hq
      simp only [Option.any_some,decide_eq_true_eq] at h3
      exact Nf.2 h3
     constructor
     ·rintro ⟨a,b⟩
      refine ⟨⟨fun x hx=>?_,List.pairwise_cons.2 ⟨b m rfl,a.srt⟩⟩,fun q hqq x hx=>?_⟩
      ·rcases List.mem_cons.1 hx with rfl | hx
       ·exact hm
       ·exact a.all x hx
      ·rcases List.mem_cons.1 hx with rfl | hx
       ·exact hq q hqq
       ·exact cmpP_ok.trans _ _ _ (hq q hqq) (b m rfl x hx)
     ·rintro ⟨a,b⟩
      have hs:=List.pairwise_cons.1 a.srt
      exact ⟨⟨fun x hx=>a.all x (List.mem_cons_of_mem _ hx),hs.2⟩,fun q hqq=>by cases hqq; exact hs.1⟩
theorem jo {α:Type} {f:α->Int}:∀ {l:List α},fstE f l=0↔∀ x∈l,f x=0
 | []=>by simp [fstE]
 | a :: t=>by
  rw [fstE]
  by_cases h:f a=0
  ·rw [if_pos h,jo]; simp [h]
  ·rw [if_neg h]; simp [h]
structure aaG (c:ConnD):Prop where
 st:1<=c.st/\c.st<=3
 cl:N12 0 c.cl
 oc:N12 0 c.oc
 on:N12 (-1) c.on
structure ChOk (c:ChanD):Prop where
 st:1<=c.st/\c.st<=4
 cn:N12 0 c.cn
 oc:N12 (-1) c.oc
 snd:N12 1 c.snd
 rcv:N12 1 c.rcv
 ack:N12 1 c.ack
theorem GN {c:ConnD}:cnE c=0↔aaG c:=by
 unfold cnE
 constructor
 ·intro h
  split at h
  ·cases h
  ·split at h
   ·cases h
   ·rename_i a b
    simp only [not_or,Classical.not_not,rF] at b
    exact ⟨by omega,b.1,b.2.1,b.2.2⟩
 ·rintro ⟨a,b,d,e⟩
  rw [if_neg (by omega),if_neg (by simp [rF,b,d,e])]
theorem GV {c:ChanD}:chE c=0↔ChOk c:=by
 unfold chE
 constructor
 ·intro h
  split at h
  ·cases h
  ·split at h
   ·cases h
   ·rename_i a b
    simp only [not_or,Classical.not_not,rF] at b
    exact ⟨by omega,b.1,b.2.1,b.2.2.1,b.2.2.2.1,b.2.2.2.2⟩
 ·rintro ⟨a,b,d,e,f,g⟩
  rw [if_neg (by omega),if_neg (by simp [rF,b,d,e,f,g])]
structure StOk (s:StateD):Prop where
 name:iy s.name=true
 h:N12 0 s.h
 t:N12 0 s.t
 lcl:s.cls.length<=4
 lcn:s.cns.length<=8
 lch:s.chs.length<=8
 lsent:s.sent.length<=50
 lgot:s.got.length<=50
 lacks:s.acks.length<=50
 lpus:s.pus.length<=60
 cls:∀ c∈s.cls,BN c
 cns:∀ c∈s.cns,aaG c
 chs:∀ c∈s.chs,ChOk c
 sent:kL s.sent
 got:kL s.got
 acks:kL s.acks
 pus:Xc s.pus
theorem qm {l:List bD}:qo none l=0↔kL l:=by
 rw [A_ (fun _ h=>by cases h)]
 exact ⟨fun h=>h.1,fun h=>⟨h,fun _ h=>by cases h⟩⟩
theorem Ki {l:List PurseD}:Iq none l=0↔Xc l:=by
 rw [AL]
 exact ⟨fun h=>h.1,fun h=>⟨h,fun _ h=>by cases h⟩⟩
theorem aB {s:StateD}:bu s=0↔StOk s:=by
 unfold bu Zz mksS
 constructor
 ·intro h
  split at h
  ·split at h
   ·cases h
   ·split at h
    ·cases h
    ·rename_i h1 h2 h3
     simp only [m_,decide_eq_true_eq] at h2
     split at h
     ·rename_i h4
      split at h
      ·rename_i h5
       split at h
       ·rename_i h6
        split at h
        ·rename_i h7
         split at h
         ·rename_i h8
          split at h
          ·rename_i h9
           exact ⟨h1,by unfold N12; omega,by unfold N12; omega,by omega,by omega,by omega,by omega,by omega,by omega,by omega,fun c hc=>fu.1 (jo.1 h4 c hc),fun c hc=>GN.1 (jo.1 h5 c hc),fun c hc=>GV.1 (jo.1 h6 c hc),qm.1 h7,qm.1 h8,qm.1 h9,Ki.1 h⟩
          ·exact absurd h ‹_›
         ·exact absurd h ‹_›
        ·exact absurd h ‹_›
       ·exact absurd h ‹_›
      ·exact absurd h ‹_›
     ·exact absurd h ‹_›
  ·cases h
 ·intro h
  have n1:m_ s.h=true:=by have:=h.h; unfold N12 at this; simp [m_]; omega
  have n2:m_ s.t=true:=by have:=h.t; unfold N12 at this; simp [m_]; omega
  have:=h.lcl; have:=h.lcn; have:=h.lch; have:=h.lsent; have:=h.lgot; have:=h.lacks; have:=h.lpus
  rw [if_pos h.name,if_neg (by simp [n1,n2]),if_neg (by omega),if_pos (jo.2 fun c hc=>fu.2 (h.cls c hc)),if_pos (jo.2 fun c hc=>GN.2 (h.cns c hc)),if_pos (jo.2 fun c hc=>GV.2 (h.chs c hc)),if_pos (qm.2 h.sent),if_pos (qm.2 h.got),if_pos (qm.2 h.acks)]
  exact Ki.2 h.pus
theorem StOk.sm {s:StateD} (h:StOk s):StSm s:=⟨by have:=h.lcl; omega,fun c hc=>(h.cls c hc).sm,by have:=h.lcn; omega,by have:=h.lch; omega,by have:=h.lsent; omega,by have:=h.lgot; omega,by have:=h.lacks; omega,
 fun m hm=>by
  have k:Pq m:=by
   rcases hm with hm | hm | hm
   ·exact h.sent.all m hm
   ·exact h.got.all m hm
   ·exact h.acks.all m hm
  have:=k.dg
  omega,by have:=h.lpus; omega⟩
open Go.RowKit
theorem qf {a b E:List (List I)} {off:Nat} (h:off=a.length):over (a++b) off E=a++(E++b.drop E.length):=by
 subst h
 unfold over
 have hd:List.drop (a.length+E.length) (a++b)=b.drop E.length:=by
  rw [List.drop_append,List.drop_eq_nil_of_le (Nat.le_add_right _ _),List.nil_append,Nat.add_sub_cancel_left]
 rw [List.take_left,List.append_assoc,hd]
theorem uU {es:List (List I)} {p:List I} {i:Nat} (hlt:i < es.length):over (over es (i+1) (es.drop i)) i [p]=es.take i++p :: es.drop i:=by
 have hd:(es.drop (i+1)).drop (es.drop i).length=[]:=List.drop_eq_nil_of_le (by simp; omega)
 have h1:over es (i+1) (es.drop i)=es.take (i+1)++(es.drop i++[]):=by
  have:=qf (a:=es.take (i+1)) (b:=es.drop (i+1)) (E:=es.drop i) (off:=i+1) (by simp; omega)
  rw [List.take_append_drop,hd] at this
  exact this
 rw [h1,List.append_nil,List.take_succ_eq_append_getElem hlt,List.append_assoc,qf (by simp; omega)]
 simp
theorem yU {es R:List (List I)} {p:List I} {i:Nat} (hlt:i < es.length) (hR:R.length=es.length+1 - i):over (over (es.take i++R) i [p]) (i+1) (es.drop i)=es.take i++p :: es.drop i:=by
 rw [qf (by simp; omega)]
 have h1:es.take i++([p]++R.drop [p].length)=(es.take i++[p])++R.drop 1:=by simp
 have hd:(R.drop 1).drop (es.drop i).length=[]:=List.drop_eq_nil_of_le (by simp only [List.length_drop]; omega)
 rw [h1,qf (by simp; omega),hd]
 simp
theorem yh {es E:List (List I)} {off:Nat} (h:off+E.length<=es.length):(over es off E).length=es.length:=by
 simp [over]; omega
theorem uN {n:Nat} {es:List (List I)} (h:∀ e∈es,e.length=n):uni n es=true:=by
 simp only [uni,List.all_eq_true,beq_iff_eq]; exact h
theorem GI {es R:List (List I)} {i:Nat} (hlt:i < es.length):(over (over es i (es.drop (i+1))) (es.length - 1) R).take (es.length - 1)=es.take i++es.drop (i+1):=by
 have h1:over es i (es.drop (i+1))=(es.take i++es.drop (i+1))++(es.drop i).drop (es.drop (i+1)).length:=by
  have:=qf (a:=es.take i) (b:=es.drop i) (E:=es.drop (i+1)) (off:=i) (by simp; omega)
  rw [List.take_append_drop] at this
  rw [this,List.append_assoc]
 have hl:(es.take i++es.drop (i+1)).length=es.length - 1:=by simp; omega
 rw [h1,qf hl.symm,<- hl,List.take_left]
open Go.Proofs.YtfenipelcpmkpaaGreatDoor.Ty
theorem sF:(type_of% @Ty.T3)/\(type_of% @Ty.T4)/\(type_of% @Ty.T5)/\(type_of% @Ty.T25)/\(type_of% @Ty.T29)/\(type_of% @Ty.adn):=⟨@Ty.T3,@Ty.T4,@Ty.T5,@Ty.T25,@Ty.T29,@Ty.adn⟩
theorem CG {G:Nat->Ob} {o o2 off off2 len len2 cap:Nat} {es es2:List (List I)} (ho:G o=.arr 3 es) (ho2:G o2=.arr 3 es2) (hne:o≠o2) (h1:0 < len) (h2:0 < len2) :
  Sw Tryz.prog 292 [.os o2 3 off2 len2,.oc o 3 off len cap] G (boolD false) G:=by
 intro K0 T K vs hr hrd
 obtain ⟨hs,hg⟩:=hrd
 have e:vs=#[vs.getD 0 undef,vs.getD 1 undef]:=by
  apply Array.ext
  ·simpa using hs
  ·intro i h1 h2
   simp at hs
   have:i=0\/i=1:=by omega
   rcases this with rfl | rfl <;> simp [Array.getD,hs]
 have hrun:=lK (P:=Tryz.prog) (t:=25) (tR:=4) (s:=3) Tryz.underlying25 (eQ (by kernel_rfl)) hr (hg 0 _ rfl) (hg 1 _ rfl) ho ho2 hne h1 h2
 rw [e]
 refine ⟨.bool false,K,?_,Ext.refl K,hr,.i (.s _ rfl)⟩
 rw [run_callFunc_extern Tryz.func292 (by kernel_rfl) (by kernel_rfl) (by kernel_rfl) (e:=Extern.SlicesOverlaps.overlaps #[25,25] #[4]) (by kernel_rfl),hrun]
 rfl
theorem LQ (es:List (List I)) (p:List I) (i:Nat) (hi:i<=es.length) (hl:es.length<=1048576) (hu:∀ e∈es,e.length=3) (hp:p.length=3) :
  aN Tryz.prog 280 [.os 0 3 0 es.length,intD i,.os 2 3 0 1] (hF [(0,.arr 3 es),(2,.arr 3 [p])]) (.os 1 3 0 (es.length+1))
   (hOf (hF [(0,.arr 3 es),(2,.arr 3 [p])]) [(1,.arr 3 (es.take i++p :: es.drop i))]):=by
 have hu2:=uN hu
 by_cases hin:i=es.length
 ·subst hin
  have e3:es.length+1<=140737488355328:=by omega
  have e4:(es.length+1) * 40<=140737488355328:=by omega
  refine aa 95 Tryz.func280 rfl rfl rfl (fun o ho=>by simp [hF,lk,show o≠0 by omega,show o≠1 by omega,show o≠2 by omega,show o≠3 by omega,show o≠4 by omega,show o≠5 by omega]) ?_
  refine gx (an (an (an (an (an (an (an sF @intD.eq_1) e3) e4) @hp) hu2) @Int.le_refl) @Nat.sub_self) ?_
  refine dG [(1,.arr 3 (es++[p]))] [] [(1,2794)] rfl ?_ ?_ rfl ?_ rfl
  ·simp [cv,cv1,cv0,upd,iP,hF,lk]
  ·simp [bE,iP,lk,cvO,frz,upd,hF]
  ·simp [hF,lk]
 ·have hlt:i < es.length:=by omega
  refine uE (by omega) fun c hc=>?_
  have g1:decide ((i:Int)=(es.length:Int))=false:=decide_eq_false (by omega)
  have w1:IntKind.i64.wrap ((es.length:Int)+1)=((es.length+1:Nat):Int):=by rw [aD (by omega) (by omega)]; omega
  have w2:IntKind.i64.wrap ((i:Int)+1)=((i+1:Nat):Int):=by rw [aD (by omega) (by omega)]; omega
  have l1:(i<=es.length)=True:=eq_true (by omega)
  have l2:(es.length<=c)=True:=eq_true (by omega)
  have l3:(i<=es.length+1)=True:=eq_true (by omega)
  have l6:(i<=c)=True:=eq_true (by omega)
  have l4:(i+1<=es.length+1)=True:=eq_true (by omega)
  have m2:i+(es.length - i)=es.length:=by omega
  have m4:min 1 (es.length+1 - i)=1:=by omega
  have l7:(es.length - i<=es.length+1 - i)=True:=eq_true (by omega)
  have l8:(i+1<=es.length)=True:=eq_true (by omega)
  have tk:(es.drop i).take (es.length - i)=es.drop i:=List.take_of_length_le (by simp)
  have hu3:uni 3 (es.drop i)=true:=uN fun e he=>hu e (List.mem_of_mem_drop he)
  by_cases hroom:es.length+1<=c
  ·have g2:decide ((c:Int) < ((es.length+1:Nat):Int))=false:=decide_eq_false (by omega)
   have l5:(es.length+1<=c)=True:=eq_true (by omega)
   have m1:min (es.length+1 - i) (es.length+1 - (i+1))=es.length - i:=by omega
   have l9:(i<=(over es (i+1) (es.drop i)).length)=True:=eq_true (by unfold over; simp; omega)
   have hos:=uU (p:=p) hlt
   refine aa 95 Tryz.func280 rfl rfl rfl (fun o ho=>by simp [hF,lk,show o≠0 by omega,show o≠1 by omega,show o≠2 by omega,show o≠3 by omega,show o≠4 by omega,show o≠5 by omega]) ?_
   (repeat (first | (simp -implicitDefEqProofs only [ev,mixed,Nat.reduceLT,Nat.reduceAdd,Nat.reduceMul,reduceIte,Nat.reduceEqDiff,reduceCtorEq,Nat.reducePow,Nat.reduceLeDiff,Int.reduceLE,Int.reduceLT,Int.reduceToNat,Int.reduceEq,Nat.reduceBEq,dV,gdA,af,il,kE,ixQ,ldH,aF,aj,bC,faQ,exQ,kU,dO,bS,slQ,stH,kV,kW,aS,bq,ae,D.one,jP,dH,dX,cvH,sF,intD,slX,GX,Bb,g1,g2,w1,w2,l1,l2,l3,l4,l5,true_or,Nat.sub_zero,Nat.zero_le,l6,hp,hu2]) | (with_reducible refine ⟨?_,?_⟩; (· first | (obtain ⟨rfl⟩:=‹Hq _ _›; with_reducible refine chk_ok ?_; kernel_rfl) | kernel_rfl)) | (with_reducible intro ops hops)))
   refine ⟨_,_,.inr (CG (len:=es.length+1 - (i+1)) (len2:=1) (by simp [hF,lk]; rfl) (by simp [hF,lk]; rfl) (by decide) (by omega) (by omega)),?_⟩
   (repeat (first | (simp -implicitDefEqProofs only [ev,mixed,Nat.reduceLT,Nat.reduceAdd,Nat.reduceMul,reduceIte,Nat.reduceEqDiff,reduceCtorEq,Nat.reducePow,Nat.reduceLeDiff,Int.reduceLE,Int.reduceLT,Int.reduceToNat,Int.reduceEq,Nat.reduceBEq,dV,gdA,af,il,kE,ixQ,ldH,aF,aj,bC,faQ,exQ,kU,dO,bS,slQ,stH,kV,kW,aS,bq,ae,D.one,jP,dH,dX,cvH,sF,boolD,intD,slX,GX,Bb,cpX,BU,BS,sM,w1,w2,l1,l2,l3,l4,l5,true_or,Nat.sub_zero,Nat.zero_le,l6,hp,hu2,m1,m2,m4,l7,l8,l9,tk,hu3]) | (with_reducible refine ⟨?_,?_⟩; (· first | (obtain ⟨rfl⟩:=‹Hq _ _›; with_reducible refine chk_ok ?_; kernel_rfl) | kernel_rfl)) | (with_reducible intro ops hops)))
   have hos2:(over (over es (i+1) (es.drop i)) i [p]).take (es.length+1)=es.take i++p :: es.drop i:=by rw [hos]; exact List.take_of_length_le (by simp; omega)
   rw [<- hos2]
   exact Bq (o:=0) (cap:=c) rfl (by simp [upd]) (by simp [upd,hF,lk]) (by simp [upd,hF,lk]) (by simp [hF,lk]) (by simp [hF,lk])
  ·have g2:decide ((c:Int) < ((es.length+1:Nat):Int))=true:=decide_eq_true (by omega)
   have l5:(c < es.length+1)=True:=eq_true (by omega)
   have s1:i+(es.length+1 - i)=es.length+1:=by omega
   have e3:es.length+1<=140737488355328:=by omega
   have e4:(es.length+1) * 40<=140737488355328:=by omega
   have m1:min (es.length - i) (es.length+1 - (i+1))=es.length - i:=by omega
   have L1:((i:Int)<=((es.length+1:Nat):Int))=True:=eq_true (by omega)
   have L2:(((i+1:Nat):Int)<=((es.length+1:Nat):Int))=True:=eq_true (by omega)
   have hti:(es.take i).length=i:=by simp; omega
   have l9:(i+1<=(over (es.take i++List.replicate (es.length+1 - i) [I.s (.int .i64 0),I.s (.int .i64 0),I.sl []]) i [p]).length)=True:=eq_true (by rw [yh (by simp; omega)]; simp; omega)
   have hos:=yU (es:=es) (R:=List.replicate (es.length+1 - i) [I.s (.int .i64 0),I.s (.int .i64 0),I.sl []]) (p:=p) hlt (by simp)
   have w3:IntKind.i64.wrap (((es.length+1:Nat):Int) - (i:Int))=((es.length+1 - i:Nat):Int):=by rw [aD (by omega) (by omega)]; omega
   refine aa 95 Tryz.func280 rfl rfl rfl (fun o ho=>by simp [hF,lk,show o≠0 by omega,show o≠1 by omega,show o≠2 by omega,show o≠3 by omega,show o≠4 by omega,show o≠5 by omega]) ?_
   (repeat (first | (simp -implicitDefEqProofs only [ev,mixed,Nat.reduceLT,Nat.reduceAdd,Nat.reduceMul,reduceIte,Nat.reduceEqDiff,reduceCtorEq,Nat.reducePow,Nat.reduceLeDiff,Int.reduceLE,Int.reduceLT,Int.reduceToNat,Int.reduceEq,Nat.reduceBEq,dV,gdA,af,il,kE,ixQ,ldH,aF,aj,bC,faQ,exQ,kU,dO,bS,slQ,stH,kV,kW,aS,bq,ae,D.one,jP,dH,dX,cvH,sF,intD,slX,GX,Bb,apX,cpX,BU,BS,sM,g1,g2,w1,w2,w3,l1,l2,l3,l4,l5,true_or,Nat.sub_zero,Nat.zero_le,l6,hp,hu2,s1,e3,e4,L1,L2,m4,m1,m2,hti,l7,l8,l9,tk,hu3]) | (with_reducible refine ⟨?_,?_⟩; (· first | (obtain ⟨rfl⟩:=‹Hq _ _›; with_reducible refine chk_ok ?_; kernel_rfl) | kernel_rfl)) | (with_reducible intro ops hops)))
   refine dG [(1,.arr 3 (es.take i++p :: es.drop i))] [] [(1,3312)] rfl ?_ ?_ rfl ?_ rfl
   ·simp [cv,cv1,cv0,upd,iP,hF,lk]
   ·simp [bE,iP,lk,cvO,frz,upd,hF,hos]
   ·simp [hF,lk]
theorem PH:(type_of% @Ty.T3)/\(type_of% @Ty.T5)/\(type_of% @Ty.T25)/\(type_of% @Ty.T29)/\(type_of% @Ty.adn):=⟨@Ty.T3,@Ty.T5,@Ty.T25,@Ty.T29,@Ty.adn⟩
theorem MN (es:List (List I)) (i:Nat) (hi:i < es.length) (hl:es.length<=1048576) (hu:∀ e∈es,e.length=3) :
  aN Tryz.prog 289 [.os 0 3 0 es.length,intD i,intD (i+1:Nat)] (hF [(0,.arr 3 es)]) (.os 1 3 0 (es.length - 1))
   (hOf (hF [(0,.arr 3 es)]) [(1,.arr 3 (es.take i++es.drop (i+1)))]):=by
 have hu2:=uN hu
 have hu3:uni 3 (es.drop (i+1))=true:=uN fun e he=>hu e (List.mem_of_mem_drop he)
 refine uE (by omega) fun c hc=>?_
 have g1:decide ((i:Int)=((i+1:Nat):Int))=false:=decide_eq_false (by omega)
 have l1:(i<=i+1)=True:=eq_true (by omega)
 have l2:(i+1<=es.length)=True:=eq_true (by omega)
 have l3:(es.length<=c)=True:=eq_true (by omega)
 have l4:(i<=c)=True:=eq_true (by omega)
 have l5:(i<=es.length)=True:=eq_true (by omega)
 have l6:(es.length - 1<=es.length)=True:=eq_true (by omega)
 have l7:(es.length - 1<=c)=True:=eq_true (by omega)
 have m1:i+(es.length - (i+1))=es.length - 1:=by omega
 have m2:i+1+(es.length - (i+1))=es.length:=by omega
 have tk:(es.drop (i+1)).take (es.length - (i+1))=es.drop (i+1):=List.take_of_length_le (by simp)
 have l8:(es.length - 1<=(over es i (es.drop (i+1))).length)=True:=eq_true (by unfold over; simp; omega)
 refine aa 33 Tryz.func289 rfl rfl rfl (fun o ho=>by simp [hF,lk,show o≠0 by omega,show o≠1 by omega,show o≠2 by omega,show o≠3 by omega,show o≠4 by omega,show o≠5 by omega]) ?_
 (repeat (first | (simp -implicitDefEqProofs only [ev,mixed,Nat.reduceLT,Nat.reduceAdd,Nat.reduceMul,reduceIte,Nat.reduceEqDiff,reduceCtorEq,Nat.reducePow,Nat.reduceLeDiff,Int.reduceLE,Int.reduceLT,Int.reduceToNat,Int.reduceEq,Nat.reduceBEq,dV,gdA,af,il,kE,ixQ,ldH,aF,aj,bC,faQ,exQ,kU,dO,bS,slQ,stH,kV,kW,aS,bq,ae,D.one,jP,dH,dX,cvH,PH,intD,slX,GX,Bb,apX,clX,cpX,BU,BS,sM,g1,l1,l2,l3,l4,l5,l6,l7,l8,m1,m2,tk,hu2,hu3,or_true,true_or,Nat.sub_zero,Nat.zero_le]) | (with_reducible refine ⟨?_,?_⟩; (· first | (obtain ⟨rfl⟩:=‹Hq _ _›; with_reducible refine chk_ok ?_; kernel_rfl) | kernel_rfl)) | (with_reducible intro ops hops)))
 have hos:=GI (R:=List.replicate (es.length - (es.length - 1)) [I.s (.int .i64 0),I.s (.int .i64 0),I.sl []]) hi
 rw [<- hos]
 exact Bq (o:=0) (cap:=c) rfl (by simp [upd]) (by simp [upd,hF,lk]) (by simp [upd,hF,lk]) (by simp [hF,lk]) (by simp [hF,lk])
end Go.Proofs.YtfenipelcpmkpaaGreatDoor
namespace Go.Abs
open Go Go.RowKit
theorem LA {H0 H:Nat->Ob} {o id sz len m:Nat} {es:List (List I)} (hl:0 < len) (ho:H o=.arr sz es) (hf:H id=.fresh):LER H0 (.os o sz 0 len) H (.os id sz 0 len) (upd (upd H o .dead) id (.arr sz (es.take m))):=by
 intro K0 E0 T K v hE h0 hr hv
 cases hv with
 | os0=>omega
 | os _ _ _ _ b off' cap q1 q2 q3 q4 q5 =>
  exact Gc ho hf K0 E0 T K _ hE h0 hr (.oc o sz 0 len cap b off' q1 q2 q3 q4 q5)
theorem Zu {P:Program} {sl:Nat->D} {H:Nat->Ob} {fn:Func} {i:Tmp} {H0:Nat->Ob} {o sz len:Nat} {es:List (List I)} (h:fn.results=#[.tmp i]) (hl:0 < len) (hv:sl i=.os o sz 0 len) (ho:H o=.arr sz es) (hf:H 900=.fresh) (h1:H0 1=.fresh) (h9:H0 900=.fresh) :
  Fin P fn H0 (.os 1 sz 0 len) (hOf H0 [(1,.arr sz (es.take len))]) .ret ⟨sl,H⟩:=by
 refine ⟨_,sQ h,?_⟩
 show LER H0 (sl i) H _ _
 rw [hv]
 refine (LA (id:=900) (m:=len) hl ho hf).trans (Ba [(1,.arr sz (es.take len))] [] [(1,900)] ?_ ?_ rfl ?_ rfl)
 ·simp [cv,cv1,cv0,iP,h1,lk]
 ·simp [bE,iP,h1,lk,cvO,frz,upd]
 ·simp [h9]
end Go.Abs
namespace Go.Proofs.YtfenipelcpmkpaaGreatDoor
open Go Go.Abs Go.RowKit Go.Proofs.YtfenipelcpmkpaaGreatDoor.Ty
abbrev placeM (l:List bD) (ch seq:Int):Nat:=KL.place mk v_ l (ch,seq)
abbrev pM (l:List bD) (ch seq:Int):Option bD:=KL.get mk v_ l (ch,seq)
abbrev vU (l:List bD) (m:bD):List bD:=KL.put mk v_ l (m.ch,m.seq) (some m)
abbrev lX (l:List bD) (ch seq:Int):List bD:=KL.put mk v_ l (ch,seq) none
theorem Ti (m:bD) (ch seq:Int):PureD Tryz.prog 288 [IA m,intD seq,.rp [.s (.int .i64 ch)] 0] (intD (jG m ch seq)):=by
 refine ak fun R hR=>?_
 have c1:=Fw m ch seq
 generalize jG m ch seq=W at *
 refine aa 10 Tryz.func288 rfl rfl rfl (fun _ _=>rfl) ?_
 exact wkl trivial
theorem Ls (l:List bD) (ch seq:Int) (p:Nat) (hl:l.length<=1048576) (hp:p<=l.length) (hm:∀ a (ha:a < l.length),jG l[a] ch seq < 0↔a < p) :
  PureD Tryz.prog 287 [.i (.sl (l.map bN)),intD seq,.fn 288 [.rp [.s (.int .i64 ch)] 0]]
   (.tup [intD p,boolD (if ha:p < l.length then decide (jG l[p] ch seq=0) else false)]):=by
 refine ak fun R hR=>?_
 refine aa 49 Tryz.func287 rfl rfl rfl (fun _ _=>rfl) ?_
 refine wkl ?_
 clear hR; intro hR
 refine aZ (ι:=Nat × Nat) (fun q=>q.1<=p/\p<=q.2/\q.2<=l.length)
  (fun q=>ek [(0,.i (.sl (l.map bN))),(1,intD seq),(2,.fn 288 [.rp [.s (.int .i64 ch)] 0]),(8,intD l.length),(9,intD q.1),(10,intD q.2)] []) (fun q=>q.2 - q.1) (0,l.length) ⟨Nat.zero_le _,hp,Nat.le_refl _⟩ ?_ ?_
 ·exact dP [] []
 ·rintro ⟨i,j⟩ ⟨h1,h2,h3⟩ RL hL
  simp only at h1 h2 h3
  rw [au]
  by_cases hij:i < j
  ·have hml:(i+j) / 2 < l.length:=by omega
   have s0:=aH (f:=bN) hml
   have hmm:=hm _ hml
   have c1:=Ti l[(i+j) / 2] ch seq
   have w1:IntKind.i64.wrap ((i:Int)+(j:Int))=((i+j:Nat):Int):=by rw [aD (by omega) (by omega)]; omega
   have w2:IntKind.u64.wrap ((i+j:Nat):Int)=((i+j:Nat):Int):=by rw [IntKind.wrap_u64]; omega
   have w3:((i+j:Nat):Int).fdiv (2 ^ min 1 64)=(((i+j) / 2:Nat):Int):=by
    rw [show min 1 64=1 from rfl,Int.fdiv_eq_ediv_of_nonneg _ (by decide)]; omega
   have w4:IntKind.i64.wrap (((i+j) / 2:Nat):Int)=(((i+j) / 2:Nat):Int):=by rw [aD (by omega) (by omega)]
   have hmid1:i<=(i+j) / 2:=by omega
   have hmid2:(i+j) / 2 < j:=by omega
   generalize l[(i+j) / 2]=q at *
   generalize jG q ch seq=W at *
   by_cases hq:W < 0
   ·have b1:=fun σ'=>bk [] [] (hL ((i+j) / 2+1,j) σ' ⟨hmm.1 hq,h2,h3⟩)
    clear hL
    simp only at b1
    generalize (i+j) / 2=m at *
    clear hm hmm hR
    exact wkl trivial
   ·have b1:=fun σ'=>bk [] [] (hL (i,(i+j) / 2) σ' ⟨h1,by have:=fun e=>hq (hmm.2 e); omega,by omega⟩)
    clear hL
    simp only at b1
    generalize (i+j) / 2=m at *
    clear hm hmm hR
    exact wkl trivial
  ·have hi:i=p:=by omega
   subst hi
   clear hL hm
   by_cases hlt:i < l.length
   ·have s0:=aH (f:=bN) hlt
    have c1:=Ti l[i] ch seq
    rw [dif_pos hlt] at hR
    generalize l[i]=q at *
    generalize jG q ch seq=W at *
    exact wkl trivial
   ·rw [dif_neg hlt] at hR
    exact wkl trivial
theorem Dj {l:List bD} (hk:kL l) {ch seq:Int} (h1:N12 (-1) ch) (h2:N12 0 seq):(if h:placeM l ch seq < l.length then decide (jG l[placeM l ch seq] ch seq=0) else false)=(pM l ch seq).isSome:=by
 unfold pM placeM
 rw [KL.get_place cmpM_ok hk.srt]
 by_cases h:KL.place mk v_ l (ch,seq) < l.length
 ·rw [dif_pos h,dif_pos h,uC (hk.all _ (List.getElem_mem h)) h1 h2]
  by_cases h2:v_ (mk l[KL.place mk v_ l (ch,seq)]) (ch,seq)=0
  ·rw [if_pos h2,decide_eq_true h2]; rfl
  ·rw [if_neg h2,decide_eq_false h2]; rfl
 ·rw [dif_neg h,dif_neg h]; rfl
theorem yO (l:List bD) (ch seq:Int) (hl:l.length<=1048576) (hk:kL l) (h1:N12 (-1) ch) (h2:N12 0 seq) :
  PureD Tryz.prog 265 [.i (.sl (l.map bN)),intD ch,intD seq] (.tup [intD (placeM l ch seq),boolD (pM l ch seq).isSome]):=by
 have c1:=Ls l ch seq (placeM l ch seq) hl (KL.place_le cmpM_ok l _) (fun a ha=>by rw [uC (hk.all _ (List.getElem_mem ha)) h1 h2]; exact KL.place_iff cmpM_ok hk.srt (ch,seq) a ha)
 rw [Dj hk h1 h2] at c1
 refine ak fun R hR=>?_
 generalize placeM l ch seq=p at *
 generalize (pM l ch seq).isSome=b at *
 clear hk h1 h2
 refine aa 14 Tryz.func265 rfl rfl rfl (fun _ _=>rfl) ?_
 exact wkl trivial
theorem uM (l:List bD):∀ e∈l.map bN,e.length=3:=by simp [bN]
theorem FI {l:List bD} (hk:kL l) (m:bD):(vU l m).length=if (pM l m.ch m.seq).isSome then l.length else l.length+1:=by
 unfold vU
 cases hg:pM l m.ch m.seq with
 | none =>
  rw [KL.put_miss cmpM_ok hk.srt hg]
  have:=KL.place_le (κ:=mk) cmpM_ok l (m.ch,m.seq)
  simp; omega
 | some u =>
  rw [KL.put_hit cmpM_ok hk.srt hg]
  obtain ⟨hp,_⟩:=KL.place_lt cmpM_ok hk.srt hg
  have hp2:KL.place mk v_ l (m.ch,m.seq) < l.length:=hp
  simp; omega
theorem Lt (l:List bD) (m:bD) (hl:l.length<=1000) (hk:kL l) (hm:Pq m) :
  aN Tryz.prog 258 [.os 0 3 0 l.length,IA m] (hF [(0,.arr 3 (l.map bN))]) (.os 1 3 0 (vU l m).length) (hOf (hF [(0,.arr 3 (l.map bN))]) [(1,.arr 3 ((vU l m).map bN))]):=by
 refine gX fun R R' hR hR'=>?_
 have c1:=yO l m.ch m.seq (by omega) hk (by have:=hm.ch; unfold N12 at *; omega) (by have:=hm.seq; unfold N12 at *; omega)
 have hlen:=FI hk m
 cases hg:pM l m.ch m.seq with
 | none =>
  rw [hg] at c1 hlen
  have hle:=KL.place_le (κ:=mk) cmpM_ok l (m.ch,m.seq)
  have e2:=LQ (l.map bN) (bN m) (placeM l m.ch m.seq) (by simpa using hle) (by simp; omega) (uM l) rfl
  have he:(l.map bN).take (placeM l m.ch m.seq)++bN m :: (l.map bN).drop (placeM l m.ch m.seq)=(vU l m).map bN:=by
   unfold vU; rw [KL.put_miss cmpM_ok hk.srt hg]; simp
  rw [he,List.length_map,<- show (vU l m).length=l.length+1 from hlen] at e2
  have d1:iN [] [(1,901)]:=⟨trivial⟩
  simp only [Option.isSome_none,Bool.false_eq_true,if_false] at c1 hlen
  rw [hlen] at hR
  simp only [bN,bI,intD] at e2
  clear he hk hm hg
  generalize placeM l m.ch m.seq=p at *
  generalize vU l m=L at *
  obtain ⟨rfl⟩:=hR
  obtain ⟨rfl⟩:=hR'
  refine aa 27 Tryz.func258 rfl rfl rfl (fun o ho=>by simp [hF,lk,show o≠0 by omega,show o≠1 by omega,show o≠2 by omega,show o≠3 by omega,show o≠4 by omega,show o≠5 by omega]) ?_
  exact wkl trivial
 | some u =>
  rw [hg] at c1 hlen
  obtain ⟨hp,hv⟩:=KL.place_lt cmpM_ok hk.srt hg
  have he:(l.map bN).set (placeM l m.ch m.seq) (bN m)=(vU l m).map bN:=by
   unfold vU; rw [KL.put_hit cmpM_ok hk.srt hg,<- List.map_set,List.set_eq_take_append_cons_drop,if_pos hp]
  have s0:=aH (f:=bN) hp
  simp only [Option.isSome_some,if_true] at c1 hlen
  have hl0:0 < l.length:=by omega
  have hp':placeM l m.ch m.seq < l.length:=hp
  clear hk hm hg hv
  generalize l[KL.place mk v_ l (m.ch,m.seq)]=q at *
  clear hp
  rw [<- he,show (l.map bN).set (placeM l m.ch m.seq) (bN m)=((l.map bN).set (placeM l m.ch m.seq) (bN m)).take l.length from (List.take_of_length_le (by simp)).symm] at hR'
  rw [hlen] at hR
  clear hlen he
  generalize placeM l m.ch m.seq=p at *
  obtain ⟨rfl⟩:=hR
  obtain ⟨rfl⟩:=hR'
  refine aa 27 Tryz.func258 rfl rfl rfl (fun o ho=>by simp [hF,lk,show o≠0 by omega,show o≠1 by omega,show o≠2 by omega,show o≠3 by omega,show o≠4 by omega,show o≠5 by omega]) ?_
  refine wkl ?_
  exact Zu (o:=0) rfl hl0 (by simp [upd]) (by simp [upd]) (by simp [upd,hF,lk]) (by simp [hF,lk]) (by simp [hF,lk])
end Go.Proofs.YtfenipelcpmkpaaGreatDoor
