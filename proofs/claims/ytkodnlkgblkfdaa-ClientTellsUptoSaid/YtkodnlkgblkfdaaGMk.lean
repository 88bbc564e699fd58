/- Merged texts: MkP, InsL, InsMk, DelMk, MkF. -/
import Derived.Test.YtkodnlkgblkfdaaGSt
import Derived.Test.YtkodnlkgblkfdaaG0
import Derived.Test.YtkodnlkgblkfdaaAbs4
set_option linter.all false
namespace Go.Proofs.Ytkodnlkgblkfdaa
open Go Go.Abs
abbrev MKey:=Int × Int
def mk (m:MarkD):MKey:=(m.ch,m.seq)
def cmpM (a b:MKey):Int:=if a.1=b.1 then a.2 - b.2 else a.1 - b.1
theorem cmpM_ok:KL.CmpOk cmpM where
 zero:=fun a b=>by
  unfold cmpM
  by_cases h:a.1=b.1
  ·rw [if_pos h]
   exact ⟨fun e=>Prod.ext h (by omega),fun e=>by rw [e]; omega⟩
  ·rw [if_neg h]
   exact ⟨fun e=>absurd (by omega) h,fun e=>absurd (by rw [e]) h⟩
 neg:=fun a b=>by unfold cmpM; split <;> split <;> omega
 trans:=fun a b d h1 h2=>by unfold cmpM at *; split at h1 <;> split at h2 <;> split <;> omega
abbrev SrtM (l:List MarkD):Prop:=KL.Srt mk cmpM l
def N12 (least n:Int):Prop:=least≤n∧n≤1000000000000
theorem nm_iff {n least:Int}:nm n least=true↔N12 least n:=by unfold nm N12; simp
structure MkOk (m:MarkD):Prop where
 ch:N12 0 m.ch
 seq:N12 1 m.seq
 dg:m.dg.length=32
theorem orderW_eq {m:MarkD} {ch seq:Int} (hm:MkOk m) (h1:N12 (-1) ch) (h2:N12 0 seq):orderW m ch seq=cmpM (mk m) (ch,seq):=by
 have a:=hm.ch
 have b:=hm.seq
 unfold N12 at *
 unfold orderW cmpM mk
 simp only
 by_cases h:m.ch=ch
 ·rw [if_pos h,if_pos h,wrap64 (by omega) (by omega)]
 ·rw [if_neg h,if_neg h,wrap64 (by omega) (by omega)]
structure MksOk (l:List MarkD):Prop where
 all:∀ m∈l,MkOk m
 srt:SrtM l
theorem mksE_zero:∀ {o:Option MarkD} {l:List MarkD},(∀ q,o=some q→MkOk q)→(mksE o l=0↔MksOk l∧∀ q,o=some q→∀ m∈l,cmpM (mk q) (mk m) < 0)
 | o,[],_=>⟨fun _=>⟨⟨by simp,List.Pairwise.nil⟩,by simp⟩,fun _=>rfl⟩
 | o,m :: t,ho=>by
  rw [mksE]
  by_cases h1:¬ nm m.ch 0=true∨¬ nm m.seq 1=true
  ·rw [if_pos h1]
   rw [nm_iff,nm_iff] at h1
   refine ⟨fun h=>(by cases h),fun h=>?_⟩
   have:=h.1.all m (List.mem_cons_self ..)
   exact (h1.elim (absurd this.ch) (absurd this.seq))
  ·rw [if_neg h1]
   rw [nm_iff,nm_iff] at h1
   by_cases h2:¬ (m.dg.length:Int)=32
   ·rw [if_pos h2]
    refine ⟨fun h=>(by cases h),fun h=>?_⟩
    have:=(h.1.all m (List.mem_cons_self ..)).dg
    omega
   ·rw [if_neg h2]
    have hc:N12 0 m.ch∧N12 1 m.seq:=⟨Classical.byContradiction fun h=>h1 (.inl h),Classical.byContradiction fun h=>h1 (.inr h)⟩
    have hm:MkOk m:=⟨hc.1,hc.2,by omega⟩
    have ih:=mksE_zero (o:=some m) (l:=t) (fun q hq=>by cases hq; exact hm)
    have hord:∀ q,o=some q→orderW q m.ch m.seq=cmpM (mk q) (mk m):=fun q hq=>orderW_eq (ho q hq) (by have:=hc.1; unfold N12 at *; omega) (by have:=hc.2; unfold N12 at *; omega)
    by_cases h3:(o.any fun q=>decide (0≤orderW q m.ch m.seq))=true
    ·rw [if_pos h3]
     refine ⟨fun h=>(by cases h),fun h=>?_⟩
     cases o with
     | none=>simp at h3
     | some q =>
      have:=h.2 q rfl m (List.mem_cons_self ..)
      simp only [Option.any_some,decide_eq_true_eq,hord q rfl] at h3
      omega
    ·rw [if_neg h3,ih]
     have hq:∀ q,o=some q→cmpM (mk q) (mk m) < 0:=fun q hq=>by
      subst hq
      simp only [Option.any_some,decide_eq_true_eq,hord q rfl] at h3
      omega
     constructor
     ·rintro ⟨a,b⟩
      refine ⟨⟨fun x hx=>?_,List.pairwise_cons.2 ⟨b m rfl,a.srt⟩⟩,fun q hqq x hx=>?_⟩
      ·rcases List.mem_cons.1 hx with rfl | hx
       ·exact hm
       ·exact a.all x hx
      ·rcases List.mem_cons.1 hx with rfl | hx
       ·exact hq q hqq
       ·exact cmpM_ok.trans _ _ _ (hq q hqq) (b m rfl x hx)
     ·rintro ⟨a,b⟩
      have hs:=List.pairwise_cons.1 a.srt
      exact ⟨⟨fun x hx=>a.all x (List.mem_cons_of_mem _ hx),hs.2⟩,fun q hqq=>by cases hqq; exact hs.1⟩
structure PuOk (p:PurseD):Prop where
 o:1≤p.o.size∧p.o.size≤40
 d:1≤p.d.size∧p.d.size≤40
 n:p.n≠0
structure PusOk (l:List PurseD):Prop where
 all:∀ p∈l,PuOk p
 srt:SrtP l
theorem cmpP_lt {q p:PurseD}:cmpP (pk q) (pk p) < 0↔¬ (0 < cmpS q.o p.o∨q.o=p.o∧0≤cmpS q.d p.d):=by
 unfold cmpP pk
 simp only
 have:=@cmpS_zero q.o p.o
 by_cases h:cmpS q.o p.o=0
 ·rw [if_pos h]
  have e:(0 < cmpS q.o p.o∨q.o=p.o∧0≤cmpS q.d p.d)↔0≤cmpS q.d p.d:=by simp [this.1 h,cmpS_zero.2 rfl]
  rw [e]; omega
 ·rw [if_neg h]
  have e:¬ q.o=p.o:=fun e=>h (this.2 e)
  simp only [e,false_and,or_false]
  omega
theorem pusE_zero:∀ {o:Option PurseD} {l:List PurseD},pusE o l=0↔PusOk l∧∀ q,o=some q→∀ m∈l,cmpP (pk q) (pk m) < 0
 | o,[]=>⟨fun _=>⟨⟨by simp,List.Pairwise.nil⟩,by simp⟩,fun _=>rfl⟩
 | o,m :: t=>by
  rw [pusE]
  by_cases h1:(m.o.size:Int) < 1∨(40:Int) < m.o.size∨(m.d.size:Int) < 1∨(40:Int) < m.d.size
  ·rw [if_pos h1]
   refine ⟨fun h=>(by cases h),fun h=>?_⟩
   have k:=h.1.all m (List.mem_cons_self ..)
   have:=k.o
   have:=k.d
   omega
  ·rw [if_neg h1]
   by_cases h2:m.n=0
   ·rw [if_pos h2]
    refine ⟨fun h=>(by cases h),fun h=>?_⟩
    have:=(h.1.all m (List.mem_cons_self ..)).n
    omega
   ·rw [if_neg h2]
    have hm:PuOk m:=⟨by omega,by omega,by omega⟩
    have ih:=pusE_zero (o:=some m) (l:=t)
    by_cases h3:(o.any fun q=>decide (0 < cmpS q.o m.o∨q.o=m.o∧0≤cmpS q.d m.d))=true
    ·rw [if_pos h3]
     refine ⟨fun h=>(by cases h),fun h=>?_⟩
     cases o with
     | none=>simp at h3
     | some q =>
      have:=cmpP_lt.1 (h.2 q rfl m (List.mem_cons_self ..))
      simp only [Option.any_some,decide_eq_true_eq] at h3
      exact absurd h3 this
    ·rw [if_neg h3,ih]
     have hq:∀ q,o=some q→cmpP (pk q) (pk m) < 0:=fun q hq=>by
      subst hq
      simp only [Option.any_some,decide_eq_true_eq] at h3
      exact cmpP_lt.2 h3
     constructor
     ·rintro ⟨a,b⟩
      refine ⟨⟨fun x hx=>?_,List.pairwise_cons.2 ⟨b m rfl,a.srt⟩⟩,fun q hqq x hx=>?_⟩
      ·rcases List.mem_cons.1 hx with rfl | hx
       ·exact hm
       ·exact a.all x hx
      ·rcases List.mem_cons.1 hx with rfl | hx
       ·exact hq q hqq
       ·exact cmpP_ok.trans _ _ _ (hq q hqq) (b m rfl x hx)
     ·rintro ⟨a,b⟩
      have hs:=List.pairwise_cons.1 a.srt
      exact ⟨⟨fun x hx=>a.all x (List.mem_cons_of_mem _ hx),hs.2⟩,fun q hqq=>by cases hqq; exact hs.1⟩
theorem fstE_zero {α:Type} {f:α→Int}:∀ {l:List α},fstE f l=0↔∀ x∈l,f x=0
 | []=>by simp [fstE]
 | a :: t=>by
  rw [fstE]
  by_cases h:f a=0
  ·rw [if_pos h,fstE_zero]; simp [h]
  ·rw [if_neg h]; simp [h]
structure CnOk (c:ConnD):Prop where
 st:1≤c.st∧c.st≤3
 cl:N12 0 c.cl
 oc:N12 0 c.oc
 on:N12 (-1) c.on
structure ChOk (c:ChanD):Prop where
 st:1≤c.st∧c.st≤4
 cn:N12 0 c.cn
 oc:N12 (-1) c.oc
 snd:N12 1 c.snd
 rcv:N12 1 c.rcv
 ack:N12 1 c.ack
theorem cnE_zero {c:ConnD}:cnE c=0↔CnOk c:=by
 unfold cnE
 constructor
 ·intro h
  split at h
  ·cases h
  ·split at h
   ·cases h
   ·rename_i a b
    simp only [not_or,Classical.not_not,nm_iff] at b
    exact ⟨by omega,b.1,b.2.1,b.2.2⟩
 ·rintro ⟨a,b,d,e⟩
  rw [if_neg (by omega),if_neg (by simp [nm_iff,b,d,e])]
theorem chE_zero {c:ChanD}:chE c=0↔ChOk c:=by
 unfold chE
 constructor
 ·intro h
  split at h
  ·cases h
  ·split at h
   ·cases h
   ·rename_i a b
    simp only [not_or,Classical.not_not,nm_iff] at b
    exact ⟨by omega,b.1,b.2.1,b.2.2.1,b.2.2.2.1,b.2.2.2.2⟩
 ·rintro ⟨a,b,d,e,f,g⟩
  rw [if_neg (by omega),if_neg (by simp [nm_iff,b,d,e,f,g])]
structure StOk (s:StateD):Prop where
 name:nameOk s.name=true
 h:N12 0 s.h
 t:N12 0 s.t
 lcl:s.cls.length≤4
 lcn:s.cns.length≤8
 lch:s.chs.length≤8
 lsent:s.sent.length≤50
 lgot:s.got.length≤50
 lacks:s.acks.length≤50
 lpus:s.pus.length≤60
 cls:∀ c∈s.cls,ClOk c
 cns:∀ c∈s.cns,CnOk c
 chs:∀ c∈s.chs,ChOk c
 sent:MksOk s.sent
 got:MksOk s.got
 acks:MksOk s.acks
 pus:PusOk s.pus
theorem mksE_ok {l:List MarkD}:mksE none l=0↔MksOk l:=by
 rw [mksE_zero (fun _ h=>by cases h)]
 exact ⟨fun h=>h.1,fun h=>⟨h,fun _ h=>by cases h⟩⟩
theorem pusE_ok {l:List PurseD}:pusE none l=0↔PusOk l:=by
 rw [pusE_zero]
 exact ⟨fun h=>h.1,fun h=>⟨h,fun _ h=>by cases h⟩⟩
theorem wrongS_zero {s:StateD}:wrongS s=0↔StOk s:=by
 unfold wrongS endS mksS
 constructor
 ·intro h
  split at h
  ·split at h
   ·cases h
   ·split at h
    ·cases h
    ·rename_i h1 h2 h3
     simp only [numB,decide_eq_true_eq] at h2
     split at h
     ·rename_i h4
      split at h
      ·rename_i h5
       split at h
       ·rename_i h6
        split at h
        ·rename_i h7
         split at h
         ·rename_i h8
          split at h
          ·rename_i h9
           exact ⟨h1,by unfold N12; omega,by unfold N12; omega,by omega,by omega,by omega,by omega,by omega,by omega,by omega,fun c hc=>wrongC_zero.1 (fstE_zero.1 h4 c hc),fun c hc=>cnE_zero.1 (fstE_zero.1 h5 c hc),fun c hc=>chE_zero.1 (fstE_zero.1 h6 c hc),mksE_ok.1 h7,mksE_ok.1 h8,mksE_ok.1 h9,pusE_ok.1 h⟩
          ·exact absurd h ‹_›
         ·exact absurd h ‹_›
        ·exact absurd h ‹_›
       ·exact absurd h ‹_›
      ·exact absurd h ‹_›
     ·exact absurd h ‹_›
  ·cases h
 ·intro h
  have n1:numB s.h=true:=by have:=h.h; unfold N12 at this; simp [numB]; omega
  have n2:numB s.t=true:=by have:=h.t; unfold N12 at this; simp [numB]; omega
  have:=h.lcl; have:=h.lcn; have:=h.lch; have:=h.lsent; have:=h.lgot; have:=h.lacks; have:=h.lpus
  rw [if_pos h.name,if_neg (by simp [n1,n2]),if_neg (by omega),if_pos (fstE_zero.2 fun c hc=>wrongC_zero.2 (h.cls c hc)),if_pos (fstE_zero.2 fun c hc=>cnE_zero.2 (h.cns c hc)),if_pos (fstE_zero.2 fun c hc=>chE_zero.2 (h.chs c hc)),if_pos (mksE_ok.2 h.sent),if_pos (mksE_ok.2 h.got),if_pos (mksE_ok.2 h.acks)]
  exact pusE_ok.2 h.pus
theorem StOk.sm {s:StateD} (h:StOk s):StSm s:=⟨by have:=h.lcl; omega,fun c hc=>(h.cls c hc).sm,by have:=h.lcn; omega,by have:=h.lch; omega,by have:=h.lsent; omega,by have:=h.lgot; omega,by have:=h.lacks; omega,
 fun m hm=>by
  have k:MkOk m:=by
   rcases hm with hm | hm | hm
   ·exact h.sent.all m hm
   ·exact h.got.all m hm
   ·exact h.acks.all m hm
  have:=k.dg
  omega,by have:=h.lpus; omega⟩
end Go.Proofs.Ytkodnlkgblkfdaa
set_option linter.all false
namespace Go.Proofs.Ytkodnlkgblkfdaa
open Go Go.Abs Go.RowKit
theorem over_at {a b E:List (List I)} {off:Nat} (h:off=a.length):over (a++b) off E=a++(E++b.drop E.length):=by
 subst h
 unfold over
 have hd:List.drop (a.length+E.length) (a++b)=b.drop E.length:=by
  rw [List.drop_append,List.drop_eq_nil_of_le (Nat.le_add_right _ _),List.nil_append,Nat.add_sub_cancel_left]
 rw [List.take_left,List.append_assoc,hd]
theorem ins_shift {es:List (List I)} {p:List I} {i:Nat} (hlt:i < es.length):over (over es (i+1) (es.drop i)) i [p]=es.take i++p :: es.drop i:=by
 have hd:(es.drop (i+1)).drop (es.drop i).length=[]:=List.drop_eq_nil_of_le (by simp; omega)
 have h1:over es (i+1) (es.drop i)=es.take (i+1)++(es.drop i++[]):=by
  have:=over_at (a:=es.take (i+1)) (b:=es.drop (i+1)) (E:=es.drop i) (off:=i+1) (by simp; omega)
  rw [List.take_append_drop,hd] at this
  exact this
 rw [h1,List.append_nil,List.take_succ_eq_append_getElem hlt,List.append_assoc,over_at (by simp; omega)]
 simp
theorem ins_grow {es R:List (List I)} {p:List I} {i:Nat} (hlt:i < es.length) (hR:R.length=es.length+1 - i):over (over (es.take i++R) i [p]) (i+1) (es.drop i)=es.take i++p :: es.drop i:=by
 rw [over_at (by simp; omega)]
 have h1:es.take i++([p]++R.drop [p].length)=(es.take i++[p])++R.drop 1:=by simp
 have hd:(R.drop 1).drop (es.drop i).length=[]:=List.drop_eq_nil_of_le (by simp only [List.length_drop]; omega)
 rw [h1,over_at (by simp; omega),hd]
 simp
theorem over_len {es E:List (List I)} {off:Nat} (h:off+E.length≤es.length):(over es off E).length=es.length:=by
 simp [over]; omega
theorem uN {n:Nat} {es:List (List I)} (h:∀ e∈es,e.length=n):uni n es=true:=by
 simp only [uni,List.all_eq_true,beq_iff_eq]; exact h
theorem del_over {es R:List (List I)} {i:Nat} (hlt:i < es.length):(over (over es i (es.drop (i+1))) (es.length - 1) R).take (es.length - 1)=es.take i++es.drop (i+1):=by
 have h1:over es i (es.drop (i+1))=(es.take i++es.drop (i+1))++(es.drop i).drop (es.drop (i+1)).length:=by
  have:=over_at (a:=es.take i) (b:=es.drop i) (E:=es.drop (i+1)) (off:=i) (by simp; omega)
  rw [List.take_append_drop] at this
  rw [this,List.append_assoc]
 have hl:(es.take i++es.drop (i+1)).length=es.length - 1:=by simp; omega
 rw [h1,over_at hl.symm,← hl,List.take_left]
end Go.Proofs.Ytkodnlkgblkfdaa
set_option linter.all false
namespace Go.Proofs.Ytkodnlkgblkfdaa
open Go Go.Abs Go.RowKit Go.Proofs.Ytkodnlkgblkfdaa.Ty
set_option maxHeartbeats 4000000
end Go.Proofs.Ytkodnlkgblkfdaa
set_option linter.all false
namespace Go.Proofs.Ytkodnlkgblkfdaa
open Go Go.Abs Go.RowKit Go.Proofs.Ytkodnlkgblkfdaa.Ty
set_option maxHeartbeats 4000000
end Go.Proofs.Ytkodnlkgblkfdaa
set_option linter.all false
namespace Go.Abs
open Go Go.RowKit
theorem ler_moveS {H0 H:Nat→Ob} {o id sz len m:Nat} {es:List (List I)} (hl:0 < len) (ho:H o=.arr sz es) (hf:H id=.fresh):LER H0 (.os o sz 0 len) H (.os id sz 0 len) (upd (upd H o .dead) id (.arr sz (es.take m))):=by
 intro K0 E0 T K v hE h0 hr hv
 cases hv with
 | os0=>omega
 | os _ _ _ _ b off' cap q1 q2 q3 q4 q5 =>
  exact ler_move ho hf K0 E0 T K _ hE h0 hr (.oc o sz 0 len cap b off' q1 q2 q3 q4 q5)
theorem fin_os {P:Program} {sl:Nat→D} {H:Nat→Ob} {fn:Func} {i:Tmp} {H0:Nat→Ob} {o sz len:Nat} {es:List (List I)} (h:fn.results=#[.tmp i]) (hl:0 < len) (hv:sl i=.os o sz 0 len) (ho:H o=.arr sz es) (hf:H 900=.fresh) (h1:H0 1=.fresh) (h9:H0 900=.fresh) :
  Fin P fn H0 (.os 1 sz 0 len) (hOf H0 [(1,.arr sz (es.take len))]) .ret ⟨sl,H⟩:=by
 refine ⟨_,resA_tmp h,?_⟩
 show LER H0 (sl i) H _ _
 rw [hv]
 refine (ler_moveS (id:=900) (m:=len) hl ho hf).trans (ler_of [(1,.arr sz (es.take len))] [] [(1,900)] ?_ ?_ rfl ?_ rfl)
 ·simp [cv,cv1,cv0,srcR,h1,lk]
 ·simp [objOk,srcR,h1,lk,cvO,frz,upd]
 ·simp [h9]
end Go.Abs
namespace Go.Proofs.Ytkodnlkgblkfdaa
open Go Go.Abs Go.RowKit Go.Proofs.Ytkodnlkgblkfdaa.Ty
abbrev placeM (l:List MarkD) (ch seq:Int):Nat:=KL.place mk cmpM l (ch,seq)
abbrev getM (l:List MarkD) (ch seq:Int):Option MarkD:=KL.get mk cmpM l (ch,seq)
abbrev putM (l:List MarkD) (m:MarkD):List MarkD:=KL.put mk cmpM l (m.ch,m.seq) (some m)
abbrev dropM (l:List MarkD) (ch seq:Int):List MarkD:=KL.put mk cmpM l (ch,seq) none
set_option maxHeartbeats 8000000
set_option maxRecDepth 20000
theorem mplace_case {l:List MarkD} (hk:MksOk l) {ch seq:Int} (h1:N12 (-1) ch) (h2:N12 0 seq):(if h:placeM l ch seq < l.length then decide (orderW l[placeM l ch seq] ch seq=0) else false)=(getM l ch seq).isSome:=by
 unfold getM placeM
 rw [KL.get_place cmpM_ok hk.srt]
 by_cases h:KL.place mk cmpM l (ch,seq) < l.length
 ·rw [dif_pos h,dif_pos h,orderW_eq (hk.all _ (List.getElem_mem h)) h1 h2]
  by_cases h2:cmpM (mk l[KL.place mk cmpM l (ch,seq)]) (ch,seq)=0
  ·rw [if_pos h2,decide_eq_true h2]; rfl
  ·rw [if_neg h2,decide_eq_false h2]; rfl
 ·rw [dif_neg h,dif_neg h]; rfl
theorem uM (l:List MarkD):∀ e∈l.map encM,e.length=3:=by simp [encM]
theorem putM_len {l:List MarkD} (hk:MksOk l) (m:MarkD):(putM l m).length=if (getM l m.ch m.seq).isSome then l.length else l.length+1:=by
 unfold putM
 cases hg:getM l m.ch m.seq with
 | none =>
  rw [KL.put_miss cmpM_ok hk.srt hg]
  have:=KL.place_le (κ:=mk) cmpM_ok l (m.ch,m.seq)
  simp; omega
 | some u =>
  rw [KL.put_hit cmpM_ok hk.srt hg]
  obtain ⟨hp,_⟩:=KL.place_lt cmpM_ok hk.srt hg
  have hp2:KL.place mk cmpM l (m.ch,m.seq) < l.length:=hp
  simp; omega
end Go.Proofs.Ytkodnlkgblkfdaa
