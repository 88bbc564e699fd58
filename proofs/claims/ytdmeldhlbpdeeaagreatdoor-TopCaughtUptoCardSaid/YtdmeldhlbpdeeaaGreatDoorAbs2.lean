/- Merged texts: AbsI, AbsJ, AbsK, AbsKX, AbsL, AbsM, AbsN. -/
import Derived.Test.YtdmeldhlbpdeeaaGreatDoorAbs1
import Derived.Laws.MakeOwn
import Derived.Laws.BytesArg
import Derived.Great.FillDense
import Derived.Great.BuildSlice
set_option linter.all false
namespace Go.Abs
open Go Go.RowKit
section
variable {P:Program}{w0:Ctx}{T:Nat->Prop}{K:Ctx}{H:Nat->Ob}{sl:Nat->D}{ρ:Operand->Value}
theorem gu (P:Program)(t:TypeId):aG P t=P.underlying t:=by show pv P (underlying t)=_;unfold underlying;cases h:P.underlying t<;>simp[program,bind,Sem.bind,pv,h,stuck,pure]
theorem szOf_info {t:TypeId}{n:Nat}(h:iE P t=some n):∃i,P.info? t=some i/\i.size=n:=by
 cases hi:P.info? t with
 |none=>simp[iE,sizeOf,typeInfo,program,bind,Sem.bind,pv,hi,stuck]at h
 |some i=>exact⟨i,rfl,by simpa[iE,sizeOf,typeInfo,program,bind,Sem.bind,pv,hi,pure]using h⟩
theorem sw {t:TypeId}{n:Nat}{i:TypeInfo}(hi:P.info? t=some i)(h:iy P t=some n):i.bytes=n:=by simpa[iy,typeInfo,program,bind,Sem.bind,pv,hi,pure]using h
theorem mQ {t:TypeId}{z:Value}{i:TypeInfo}(hi:P.info? t=some i)(h:jo P t=some z):i.zero=some z:=by
 cases hz:i.zero with
 |none=>simp[jo,zeroValue,typeInfo,program,bind,Sem.bind,pv,hi,hz,pure,unsupported]at h
 |some z'=>simpa[jo,zeroValue,typeInfo,program,bind,Sem.bind,pv,hi,hz,pure]using h
theorem newArr (hr:HR w0 T K H){id:Nat}(hf:H id=.fresh)(e:TypeId){row:Array Value}{sz:Nat}{es:List (List I)}(hz:0<sz)(hu:∀x∈es,x.length=sz)(hl:es.length*sz<=row.size)
  (hc:∀(j:Nat) (x:I),es.flatten[j]?=some x->VI K.w K.S (row.getD j undef) x) (len cap:Nat) (hlen:len<=cap) (hcap:cap*sz<=row.size):
  Ext K (K.alloc id (.cells row e))/\HR w0 T (K.alloc id (.cells row e)) (upd H id (.arr sz es))/\VD (K.alloc id (.cells row e)) (.slice (some ⟨K.w.heap.size,0,none⟩) len cap) (.os id sz 0 len):=by
 have hn:K.μ id=none:=hr.get hf;have he:=Ext.alloc hr hn (.cells row e);have hb:(K.alloc id (.cells row e)).w.heap[K.w.heap.size]?=some (.cells row e (0,0)):=heap_alloc_new K.w _;refine⟨he,hr.alloc hn _ ⟨hz,hu,.inr ⟨K.w.heap.size,row,e,by simp[Ctx.alloc,upd_same],hb,hl,λj x hx=>(hc j x hx).ext he,λhS=>?_,.inl hr.size⟩⟩,?_⟩
 ·have:=hr.sB _ hS;omega
 ·exact .os id sz 0 len K.w.heap.size 0 cap (by simp[Ctx.alloc,upd_same]) hz hlen (.inl (by simp)) (by rw[fG hb];omega)
theorem elems_src (hr:HR w0 T K H){v:Value}{d:D}{es:List (List I)}(hv:VD K v d)(h:aO H d=some es){n:Nat}(hu:∀x∈es,x.length=n+1):
  ∃a cap,v=.slice a es.length cap/\∃news:List Value,news.length=es.length*(n+1)/\(es=[]\/∃b off,a=some ⟨b,off,none⟩/\K.w.rangeAt b off news)/\(∀u∈news,u.oneCell'=true) /\
   (∀(j:Nat) (x:I),es.flatten[j]?=some x->∃u,news[j]?=some u/\VI K.w K.S u x):=by
 have none_case:∀a cap,v=.slice a 0 cap->es=[]->∃a cap,v=.slice a es.length cap/\∃news:List Value,news.length=es.length*(n+1)/\(es=[]\/∃b off,a=some ⟨b,off,none⟩/\K.w.rangeAt b off news)/\(∀u∈news,u.oneCell'=true) /\
   (∀(j:Nat) (x:I),es.flatten[j]?=some x->∃u,news[j]?=some u/\VI K.w K.S u x):=by
  rintro a cap rfl rfl
  exact⟨a,cap,rfl,[],by simp,.inl rfl,by simp,by simp⟩
 have some_case:∀(b off cap:Nat) (g:Nat->Value),v=.slice (some ⟨b,off,none⟩) es.length cap ->
   (∀(j:Nat) (x:I),es.flatten[j]?=some x->K.w.cell? ⟨b,off+j,none⟩=some (g j)/\VI K.w K.S (g j) x)->∃a cap,v=.slice a es.length cap/\∃news:List Value,news.length=es.length*(n+1)/\(es=[]\/∃b off,a=some ⟨b,off,none⟩/\K.w.rangeAt b off news)/\(∀u∈news,u.oneCell'=true) /\
   (∀(j:Nat) (x:I),es.flatten[j]?=some x->∃u,news[j]?=some u/\VI K.w K.S u x):=by
  rintro b off cap g rfl hg
  have hfl:=bA hu
  have hsome:∀j,j<es.length*(n+1)->∃x,es.flatten[j]?=some x:=λj hj=>⟨es.flatten[j]'(by omega),by simp[show j<es.flatten.length by omega]⟩
  refine⟨_,cap,rfl,(List.range (es.length*(n+1))).map g,by simp,.inr ⟨b,off,rfl,λj u hu'=>?_⟩,λu hu'=>?_,λj x hx=>?_⟩
  ·simp only[List.getElem?_map,Option.map_eq_some_iff]at hu'
   obtain⟨k,hk,rfl⟩:=hu'
   obtain⟨q1,q2⟩:=List.getElem?_eq_some_iff.1 hk
   simp at q1 q2;subst q2
   obtain⟨x,hx⟩:=hsome j q1
   exact(hg j x hx).1
  ·simp only[List.mem_map,List.mem_range]at hu'
   obtain⟨k,hk,rfl⟩:=hu'
   obtain⟨x,hx⟩:=hsome k hk
   exact(hg k x hx).2.one
  ·have hj:j<es.length*(n+1):=by have:=(List.getElem?_eq_some_iff.1 hx).1;omega
   exact⟨g j,by simp[hj],(hg j x hx).2⟩
 cases d with
 |i x =>
  cases x with
  |s u =>
   simp only[aO]at h
   split at h
   ·rename_i hn
    obtain⟨a0,c0,e⟩:=nilS_eq hn
    subst e
    simp at h
    have:=conc_ok hv (v':=.slice a0 0 c0) rfl
    exact none_case _ _ this h
   ·cases h
  |sl es' =>
   simp[aO]at h;subst h
   cases hv.inv_i with
   |e a cap=>exact none_case _ _ rfl rfl
   |sl b off cap sz _ f q1 q2 q3 q4 q5 q6=>exact some_case b off cap f rfl (λj x hx=>⟨q5 j x hx,q6 j x hx⟩)
 |os o sz off len =>
  simp only[aO]at h
  have key:∀(es0:List (List I)) (b:Nat) (f:Nat->Value),K.μ o=some b->(∀e∈es0,e.length=sz) ->
   (∀(j:Nat) (x:I),es0.flatten[j]?=some x->K.w.cell? ⟨b,j,none⟩=some (f j)/\VI K.w K.S (f j) x)->off+len<=es0.length->es=(es0.drop off).take len->∃a cap,v=.slice a es.length cap/\∃news:List Value,news.length=es.length*(n+1)/\(es=[]\/∃b off,a=some ⟨b,off,none⟩/\K.w.rangeAt b off news)/\(∀u∈news,u.oneCell'=true) /\
   (∀(j:Nat) (x:I),es.flatten[j]?=some x->∃u,news[j]?=some u/\VI K.w K.S u x):=by
   intro es0 b f hμ hu0 hc hle hes
   have hlen:es.length=len:=by rw[hes];simp;omega
   cases hv with
   |os _ _ _ _ b' off' cap q1 q2 q3 q4 q5 =>
    rw[hμ]at q1;cases q1
    rcases q4 with q4|q4
    ·subst q4
     refine some_case b (off*sz) cap (λj=>f (off*sz+j)) (by rw[hlen]) λj x hx=>?_
     rw[hes,fV (sz:=sz) (λe he=>hu0 e (List.mem_of_mem_drop he)),iW hu0,List.getElem?_take]at hx
     split at hx
     ·rw[List.getElem?_drop]at hx
      exact⟨(hc _ _ hx).1,(hc _ _ hx).2⟩
     ·cases hx
    ·have h0:len=0:=by omega
     subst h0
     exact none_case _ _ rfl (List.eq_nil_of_length_eq_zero hlen)
   |os0=>exact none_case _ _ rfl (List.eq_nil_of_length_eq_zero hlen)
  have none_os:K.μ o=none->len=0->es=[]->∃a cap,v=.slice a es.length cap/\∃news:List Value,news.length=es.length*(n+1)/\(es=[]\/∃b off,a=some ⟨b,off,none⟩/\K.w.rangeAt b off news)/\(∀u∈news,u.oneCell'=true) /\
   (∀(j:Nat) (x:I),es.flatten[j]?=some x->∃u,news[j]?=some u/\VI K.w K.S u x):=by
   intro hn h0 hes
   subst h0
   cases hv with
   |os _ _ _ _ b' off' cap q1 q2 q3 q4 q5=>rw[hn]at q1;cases q1
   |os0=>exact none_case _ _ rfl hes
  split at h
  ·rename_i sz' es0 ho
   split at h
   ·rename_i hc;obtain⟨rfl,hle⟩:=hc
    simp at h
    obtain⟨hz,hu0,h3⟩:=hr.get ho
    rcases h3 with⟨h3,h4⟩|⟨b,row,e,h3,h4,h5,h6,h7,h8⟩
    ·subst h4;simp at hle;exact none_os h3 hle.2 (by rw[<- h];simp)
    ·refine key es0 b (λj=>row.getD j undef) h3 hu0 (λj x hx=>⟨?_,h6 j x hx⟩) hle h.symm
     have hlt:j<row.size:=by have:=(List.getElem?_eq_some_iff.1 hx).1;rw[bA hu0]at this;omega
     rw[cell_of_row K.w b j row e _ h4];simp[Array.getD,hlt]
   ·cases h
  ·rename_i sz' es0 ho
   split at h
   ·rename_i hc;obtain⟨rfl,hle⟩:=hc
    simp at h
    obtain⟨hz,hu0,h3⟩:=hr.get ho
    rcases h3 with⟨h3,h4⟩|⟨b,f,h3,h4,h5⟩
    ·subst h4;simp at hle;exact none_os h3 hle.2 (by rw[<- h];simp)
    ·exact key es0 b f h3 hu0 h5 hle h.symm
   ·cases h
  ·cases h
 |_=>simp[aO]at h
def Lh (P:Program)(K:Ctx)(n:Nat)(tx:TypeId)(v:Value)(es:List (List I)):Prop :=
 ∃news:List Value,Src P (n+1) tx v es.length news K.w/\(∀(j:Nat) (x:I),es.flatten[j]?=some x->∃u,news[j]?=some u/\VI K.w K.S u x)
theorem Bw (hr:HR w0 T K H){v:Value}{d:D}{es:List (List I)}(hv:VD K v d)(h:aO H d=some es){n:Nat}(hu:∀x∈es,x.length=n+1){tx e:TypeId}(ht:aG P tx=some (.slice e)):Lh P K n tx v es:=by
 rw[gu]at ht;obtain⟨a,cap,rfl,news,h1,h2,h3,h4⟩:=elems_src hr hv h hu;refine⟨news,?_,h4⟩;rcases h2 with rfl|⟨b,off,rfl,h2⟩
 ·have:news=[]:=List.eq_nil_of_length_eq_zero (by simpa using h1);subst this;cases a with
  |none=>exact Src.ofNil K.w ht cap
  |some a=>exact Src.ofSlice K.w ht a 0 cap [] (by simp) (λj u hu=>by simp at hu) (λu hu=>by simp at hu)
 ·exact Src.ofSlice K.w ht ⟨b,off,none⟩ es.length cap news h1 (λj u hu'=>by rw[Addr.add_mid];exact h2 j u hu') h3
theorem Ku {s:ByteArray}{tx:TypeId}(ht:aG P tx=some .string):Lh P K 0 tx (.string s) (s.data.toList.map aH):=by
 rw[gu]at ht;refine⟨byteCells s,?_,λj x hx=>?_⟩
 ·have:=Src.ofString (P:=P) K.w ht s;have e:(s.data.toList.map aH).length=s.size:=by simp
  rw[e];exact this
 ·have hfl:(s.data.toList.map aH).flatten=s.data.toList.map λb=>I.s (.int .u8 (b.toNat:Int)):=by
   induction s.data.toList with
   |nil=>rfl
   |cons a t ih=>simp[aH,ih]
  rw[hfl]at hx;simp only[List.getElem?_map,Option.map_eq_some_iff]at hx;obtain⟨b,hb,rfl⟩:=hx;exact⟨_,by simp only[byteCells,List.getElem?_map,hb];rfl,.s _ rfl⟩
end
section
variable {P:Program}{w0:Ctx}{T:Nat->Prop}{K:Ctx}{H:Nat->Ob}{sl:Nat->D}{ρ:Operand->Value}
theorem uni_all {s:Nat}{es:List (List I)}(h:uni s es=true):∀x∈es,x.length=s:=by intro x hx;have:=List.all_eq_true.1 h x hx;simpa using this
theorem HR.adopt (hr:HR w0 T K H){o id b:Nat}(ho:(H o).own)(hb:K.μ o=some b)(hf:H id=.fresh):
  Ext K ⟨K.w,K.S,upd K.μ id (some b)⟩/\HR w0 T ⟨K.w,K.S,upd K.μ id (some b)⟩ (upd (upd H o .dead) id (H o)):=by
 have hn:K.μ id=none:=hr.get hf;have he:Ext K ⟨K.w,K.S,upd K.μ id (some b)⟩:=⟨λ_ h=>h,λ_ _ _=>rfl,λo' b' hb'=>by show upd K.μ id _ o'=_;rw[upd_ne _ _ (λe=>by subst e;rw[hn]at hb';cases hb')];exact hb',λ_ _ _=>rfl⟩
 have hne:o≠id:=λe=>by subst e;rw[hn]at hb;cases hb
 have hplace:∀{o' b'},(H o').own->K.μ o'=some b'->¬K.S b':=λh1 h2=>by obtain⟨_,_,_,q,_⟩:=hr.place h1 h2;exact q
 refine⟨he,hr.g0,hr.os,hr.tape,hr.output,hr.size,hr.block,hr.sB,hr.sN,λo' b' hb'=>?_,λo'=>?_,λo1 o2 b' h1 h2 g1 g2=>?_⟩
 ·by_cases h:o'=id
  ·subst h;simp only[upd_same,Option.some.injEq]at hb';subst hb';exact hr.mB o b hb
  ·simp only[upd_ne _ _ h]at hb';exact hr.mB o' b' hb'
 ·by_cases h:o'=id
  ·subst h;rw[upd_same];have:=hr.ob o;cases hx:H o with
   |box cs =>obtain⟨b1,row,e,a1,a2,a3,a4,a5,a6,a7⟩:=hr.get hx;rw[hb]at a1;cases a1;exact⟨b,row,e,upd_same _ _ _,a2,a3,λj d hd=>(a4 j d hd).ext he,a5,a6,a7⟩
   |arr sz es =>
    obtain⟨a1,a2,a3⟩:=hr.get hx;rcases a3 with⟨a3,_⟩|⟨b1,row,e,c1,c2,c3,c4,c5,c6⟩
    ·rw[hb]at a3;cases a3
    ·rw[hb]at c1;cases c1;exact⟨a1,a2,.inr ⟨b,row,e,upd_same _ _ _,c2,c3,λj x hx=>(c4 j x hx).ext he,c5,c6⟩⟩
   |it st pos =>obtain⟨b1,a1,a2,a3,a4⟩:=hr.get hx;rw[hb]at a1;cases a1;exact⟨b,upd_same _ _ _,a2,a3,a4⟩
   |mp es =>obtain⟨b1,en,ck,a1,a2,a3,a4⟩:=hr.get hx;rw[hb]at a1;cases a1;exact⟨b,en,ck,upd_same _ _ _,a2,a3.ext he,a4⟩
   |tab sz es =>
    obtain⟨a1,a2,a0,a3⟩:=hr.get hx;rcases a3 with⟨a3,_⟩|⟨b1,row,e,c1,c2,c3,c4,c5,c6⟩
    ·rw[hb]at a3;cases a3
    ·rw[hb]at c1;cases c1;exact⟨a1,a2,a0,.inr ⟨b,row,e,upd_same _ _ _,c2,c3,λj x hx=>(c4 j x hx).ext he,c5,c6⟩⟩
   |_=>rw[hx]at ho;exact ho.elim
  ·rw[upd_ne _ _ h];by_cases h':o'=o
   ·subst h';rw[upd_same];trivial
   ·rw[upd_ne _ _ h'];exact(hr.ob o').ext he (λhn'=>by show upd K.μ id _ o'=none;rw[upd_ne _ _ h];exact hn') (λb' h1 h2=>⟨rfl,hplace h1 h2⟩)
 ·have key:∀{o'},(upd (upd H o .dead) id (H o) o').own->upd K.μ id (some b) o'=some b'->(o'=id/\b'=b)\/(o'≠id/\o'≠o/\(H o').own/\K.μ o'=some b'):=by
   intro o' h1 h2;by_cases h:o'=id
   ·subst h;rw[upd_same]at h2;exact .inl ⟨rfl,by simpa using h2.symm⟩
   ·rw[upd_ne _ _ h]at h1 h2;by_cases h':o'=o
    ·subst h';rw[upd_same]at h1;exact h1.elim
    ·rw[upd_ne _ _ h']at h1;exact .inr ⟨h,h',h1,h2⟩
  rcases key h1 g1 with⟨e1,e1'⟩|⟨n1,m1,k1,l1⟩<;>rcases key h2 g2 with⟨e2,e2'⟩|⟨n2,m2,k2,l2⟩
  ·rw[e1,e2]
  ·subst e1';exact absurd (hr.inj o2 o b' k2 ho l2 hb) m2
  ·subst e2';exact absurd (hr.inj o1 o b' k1 ho l1 hb) m1
  ·exact hr.inj o1 o2 b' k1 k2 l1 l2
theorem flat_append {es new:List (List I)}{sz:Nat}(hu:∀x∈es,x.length=sz){j:Nat}{x:I}(h:(es++new).flatten[j]?=some x):(j<es.length*sz/\es.flatten[j]?=some x)\/(es.length*sz<=j/\new.flatten[j-es.length*sz]?=some x):=by
 rw[List.flatten_append]at h;have hl:=bA hu;by_cases hj:j<es.length*sz
 ·rw[List.getElem?_append_left (by omega)]at h;exact .inl ⟨hj,h⟩
 ·rw[List.getElem?_append_right (by omega),hl]at h;exact .inr ⟨by omega,h⟩
theorem w_ (hr:HR w0 T K H){id n by_ m:Nat}(hf:H id=.fresh){t tx ty e:TypeId}{i:TypeInfo}{z v:Value}{new es:List (List I)}(ht:P.underlying t=some (.slice e))(hi:P.info? e=some i)(hsz:i.size=n+1)(hby:i.bytes=by_)
  (hz:i.zero=some z) (hzn:z.cells.size=n+1) (hnu:∀x∈new,x.length=n+1) (heu:∀x∈es,x.length=n+1) (hs:Lh P K n tx v new) {base:Option Addr}{cap:Nat}{olds:List Value}(hol:olds.length=es.length*(n+1))
  (hold:(Builtin.firstCells (n+1) es.length (.slice base es.length cap)).run P K.w.drew=.ok olds.toArray K.w.drew)
  (hov:∀(j:Nat) (x:I),es.flatten[j]?=some x->∃u,olds[j]?=some u/\VI K.w K.S u x) (hlt:cap<es.length+new.length) (hb1:(es.length+new.length)*by_<=140737488355328) (hb2:es.length+new.length<=140737488355328) (hm:m=es.length+new.length):
  ∃v' K',(Builtin.append_ #[t,tx] ty #[.slice base es.length cap,v]).run P K.w=.ok v' K'.w/\Ext K K'/\HR w0 T K' (upd H id (.arr (n+1) (es++new)))/\VD K' v' (.os id (n+1) 0 m):=by
 subst hm;obtain⟨news,hsrc,hnv⟩:=hs;rw[<- hsz]at hsrc hold;have hrun:=run_append_grow_src (P:=P) K.w t tx ty e i z ht hi hz base es.length cap olds hold v new.length news hsrc hlt (by omega) (growslice_fits (by omega) (by rw[hby];exact hb1));have hr':HR w0 T (K.world K.w.drew) H:=hr.world rfl rfl rfl rfl;have he':Ext K (K.world K.w.drew):=Ext.world rfl;have hcap:=grownCap_ge K.w (es.length+new.length) cap e;have hnl:news.length=new.length*(n+1):=by rw[hsrc.newsLen,hsz]
 have hrowsz:((olds++news).toArray++Builtin.zeroCells z.cells (grownCap K.w (es.length+new.length) cap e-(es.length+new.length))).size=grownCap K.w (es.length+new.length) cap e*(n+1):=by rw[Array.size_append,size_zeroCells,hzn];simp only[List.size_toArray,List.length_append,hol,hnl];rw[<- Nat.add_mul,<- Nat.add_mul];congr 1;omega
 have hbase:(es++new).length*(n+1)<=grownCap K.w (es.length+new.length) cap e*(n+1):=Nat.mul_le_mul_right _ (by simpa using hcap);obtain⟨a1,a2,a3⟩:=newArr (K:=K.world K.w.drew) hr' (id:=id) hf e (row:=(olds++news).toArray++Builtin.zeroCells z.cells (grownCap K.w (es.length+new.length) cap e-(es.length+new.length))) (sz:=n+1) (es:=es++new) (Nat.succ_pos _)
  (λx hx=>by rcases List.mem_append.1 hx with h|h;exact heu x h;exact hnu x h) (by rw[hrowsz];exact hbase) (λj x hx=>by
   have hj:j<(olds++news).length:=by have:=(List.getElem?_eq_some_iff.1 hx).1;rw[bA (sz:=n+1) (λx hx=>by rcases List.mem_append.1 hx with h|h;exact heu x h;exact hnu x h)]at this;simp only[List.length_append,hol,hnl]at this⊢;rw[<- Nat.add_mul];exact this
   have hget:((olds++news).toArray++Builtin.zeroCells z.cells (grownCap K.w (es.length+new.length) cap e-(es.length+new.length))).getD j undef=(olds++news).getD j undef:=by rw[Array.getD_eq_getD_getElem?,Array.getElem?_append_left (by simpa using hj),List.getD_eq_getElem?_getD];simp
   rw[hget];rcases flat_append heu hx with⟨h1,h2⟩|⟨h1,h2⟩
   ·obtain⟨u,hu1,hu2⟩:=hov j x h2;rw[List.getD_eq_getElem?_getD,List.getElem?_append_left (by omega),hu1];exact hu2.ext he'
   ·obtain⟨u,hu1,hu2⟩:=hnv _ x h2;rw[List.getD_eq_getElem?_getD,List.getElem?_append_right (by omega),hol,hu1];exact hu2.ext he') (es.length+new.length) (grownCap K.w (es.length+new.length) cap e) hcap (by rw[hrowsz];exact Nat.le_refl _)
 exact⟨_,_,hrun,he'.trans a1,a2,a3⟩
theorem append_nil (hr:HR w0 T K H){id n by_:Nat}(hf:H id=.fresh){t tx ty e:TypeId}{i:TypeInfo}{z v:Value}{new:List (List I)}(ht:P.underlying t=some (.slice e))(hi:P.info? e=some i)(hsz:i.size=n+1)(hby:i.bytes=by_)
  (hz:i.zero=some z) (hzn:z.cells.size=n+1) (hnu:∀x∈new,x.length=n+1) (hs:Lh P K n tx v new) (hb1:new.length*by_<=140737488355328) (hb2:new.length<=140737488355328) (base:Option Addr:=none):
  ∃v' K',(Builtin.append_ #[t,tx] ty #[.slice base 0 0,v]).run P K.w=.ok v' K'.w/\Ext K K'/\HR w0 T K' (upd H id (.arr (n+1) new))/\VD K' v' (.os id (n+1) 0 new.length):=by
 by_cases hm:new=[]
 ·subst hm;obtain⟨news,hsrc,hnv⟩:=hs;have hnl:news=[]:=List.eq_nil_of_length_eq_zero (by simpa using hsrc.newsLen);subst hnl;rw[<- hsz]at hsrc;refine⟨_,K,run_append_nothing K.w t tx ty e i ht hi base 0 0 (Nat.le_refl _) v hsrc,Ext.refl K,?_,.os0 id (n+1) base⟩;have hn:K.μ id=none:=hr.get hf;refine⟨hr.g0,hr.os,hr.tape,hr.output,hr.size,hr.block,hr.sB,hr.sN,hr.mB,λo=>?_,λo1 o2 b h1 h2 g1 g2=>?_⟩
  ·by_cases h:o=id
   ·subst h;rw[upd_same];exact⟨Nat.succ_pos _,by simp,.inl ⟨hn,rfl⟩⟩
   ·rw[upd_ne _ _ h];exact hr.ob o
  ·rw[upd_ne _ _ (λe=>by subst e;rw[hn]at g1;cases g1)]at h1;rw[upd_ne _ _ (λe=>by subst e;rw[hn]at g2;cases g2)]at h2;exact hr.inj o1 o2 b h1 h2 g1 g2
 ·have hpos:0<new.length:=List.length_pos_iff.2 hm;have:=w_ hr hf (es:=[]) (m:=new.length) (ty:=ty) (base:=base) (cap:=0) (olds:=[]) ht hi hsz hby hz hzn hnu (by simp) hs (by simp) (by cases base with|none=>simpa using run_firstCells_none (P:=P) K.w.drew (n+1) 0 0 0|some a=>exact run_firstCells_some (P:=P) K.w.drew (n+1) 0 a 0 0 [] (by simp) (by simp)) (by simp) (by simpa using hpos) (by simpa using hb1) (by simpa using hb2) (by simp);simpa using this
theorem append_os (hr:HR w0 T K H){id n by_ o len:Nat}(hf:H id=.fresh){t tx ty e:TypeId}{i:TypeInfo}{z v s:Value}{new es:List (List I)}(ht:P.underlying t=some (.slice e))(hi:P.info? e=some i)(hsz:i.size=n+1)(hby:i.bytes=by_)
  (hz:i.zero=some z) (hzn:z.cells.size=n+1) (hnu:∀x∈new,x.length=n+1) (hs:Lh P K n tx v new) (hv:VD K s (.os o (n+1) 0 len)) (ho:H o=.arr (n+1) es) (hel:es.length=len)
  (hb1:(len+new.length)*by_<=140737488355328) (hb2:len+new.length<=140737488355328):
  ∃v' K',(Builtin.append_ #[t,tx] ty #[s,v]).run P K.w=.ok v' K'.w/\Ext K K'/\HR w0 T K' (upd (upd H o .dead) id (.arr (n+1) (es++new)))/\VD K' v' (.os id (n+1) 0 (len+new.length)):=by
 obtain⟨_,heu,h3⟩:=hr.get ho;have hne:o≠id:=λe=>by subst e;rw[ho]at hf;cases hf
 have hf':upd H o .dead id=.fresh:=by rw[upd_ne _ _ hne.symm];exact hf
 cases hv with
 |os0 _ _ a =>have:es=[]:=List.eq_nil_of_length_eq_zero hel;subst this;have:=append_nil (hr.kill o) hf' (ty:=ty) ht hi hsz hby hz hzn hnu hs (by simpa using hb1) (by simpa using hb2) a;simpa using this
 |os _ _ _ _ b off' cap q1 q2 q3 q4 q5 =>
  rcases h3 with⟨h3,_⟩|⟨b',row,e',h3,h4,h5,h6,h7,h8⟩
  ·rw[h3]at q1;cases q1
  rw[q1]at h3;cases h3;rw[fG h4]at q5;have hget:∀j,j<row.size->K.w.cell? ⟨b,j,none⟩=some (row.getD j undef):=λj hj=>by rw[cell_of_row K.w b j row e' _ h4];simp[Array.getD,hj]
  by_cases hroom:len+new.length<=cap
  ·obtain⟨news,hsrc,hnv⟩:=hs;have hnl:news.length=new.length*(n+1):=hsrc.newsLen;have hcapm:(len+new.length)*(n+1)<=cap*(n+1):=Nat.mul_le_mul_right _ hroom;rw[Nat.add_mul]at hcapm;have hst:∀j,j<news.length->(K.w.cell? ⟨b,off'+len*(n+1)+j,none⟩).isSome=true:=λj hj=>by rw[hget _ (by omega)];rfl
   have hfr:∀j,j<news.length->K.w.frozen? ⟨b,off'+len*(n+1)+j,none⟩=false:=λj _=>frozen_of_row K.w b _ row e' h4;have hrun:=run_append_room_src (P:=P) K.w t tx ty e i ht hi b off' len cap v new.length news (by rw[hsz];exact hsrc) hroom (by rw[hsz];exact hst) (by rw[hsz];exact hfr);rw[hsz]at hrun;have h1:=run_storeCells_cells (P:=P) b (off'+len*(n+1)) news 0 K.w (by simpa using hst) (by simpa using hfr) hsrc.one;have h2:=run_storeCells_at (P:=P) b (off'+len*(n+1)) e' news 0 row K.w h4 (by simp;omega) hsrc.one;rw[h1]at h2;simp only[Nat.add_zero,Result.ok.injEq,true_and]at h2;rw[h2]at hrun;obtain⟨he1,hr1⟩:=hr.adopt (by rw[ho];trivial) q1 hf;have hsize:=lX row (off'+len*(n+1)) news (by omega);have he2:Ext ⟨K.w,K.S,upd K.μ id (some b)⟩ (Ctx.row ⟨K.w,K.S,upd K.μ id (some b)⟩ b (row.toList.take (off'+len*(n+1))++news++row.toList.drop (off'+len*(n+1)+news.length)).toArray):=pE h4 hsize h7;have hupd:upd (upd (upd H o .dead) id (H o)) id (.arr (n+1) (es++new))=upd (upd H o .dead) id (.arr (n+1) (es++new)):=by funext k;by_cases h:k=id<;>simp[upd,h]
   have hr2:=hr1.row (o:=id) (x:=.arr (n+1) (es++new)) (by rw[upd_same,ho];trivial) (upd_same _ _ _) h4 hsize (by
    have hoff:off'=0\/(len=0/\new=[]):=by
     rcases q4 with q4|q4
     ·left;simpa using q4
     ·right;exact⟨by omega,List.eq_nil_of_length_eq_zero (by omega)⟩
    refine⟨Nat.succ_pos _,λx hx=>?_,.inr ⟨b,_,e',upd_same _ _ _,setRow_heap K.w b row _ e' (0,0) h4,?_,λj x hx=>?_,h7,h8⟩⟩
    ·rcases List.mem_append.1 hx with h|h;exact heu x h;exact hnu x h
    ·rw[hsize,List.length_append,hel,Nat.add_mul];have:off'+cap*(n+1)<=row.size:=q5;omega
    ·refine VI.ext (he1.trans he2) ?_;rcases hoff with rfl|⟨h0,hnil⟩
     ·rw[qL row _ news (by omega)];rcases flat_append heu hx with⟨g1,g2⟩|⟨g1,g2⟩
      ·rw[if_neg (by rw[<- hel];omega)];exact h6 j x g2
      ·obtain⟨u,hu1,hu2⟩:=hnv _ x g2;have hlt:=(List.getElem?_eq_some_iff.1 hu1).1;rw[if_pos (by rw[<- hel];omega),List.getD_eq_getElem?_getD,Nat.zero_add,<- hel,hu1];exact hu2
     ·subst hnil;have:es=[]:=List.eq_nil_of_length_eq_zero (by omega);subst this;simp at hx)
   rw[hupd]at hr2;refine⟨_,_,hrun,he1.trans he2,hr2,?_⟩;refine VD.ext he2 (.os id (n+1) 0 (len+new.length) b off' cap (upd_same _ _ _) (Nat.succ_pos _) hroom q4 ?_);rw[fG h4];exact q5
  ·have hol:((row.toList.drop off').take (len*(n+1))).length=es.length*(n+1):=by
    have:len*(n+1)<=cap*(n+1):=Nat.mul_le_mul_right _ q3;simp;rw[hel];omega
   have hoff:off'=0\/es=[]:=by
    rcases q4 with q4|q4
    ·left;simpa using q4
    ·right;exact List.eq_nil_of_length_eq_zero (by omega)
   subst hel;have:=w_ (hr.kill o) hf' (es:=es) (new:=new) (m:=es.length+new.length) (ty:=ty) (base:=some ⟨b,off',none⟩) (cap:=cap) (olds:=(row.toList.drop off').take (es.length*(n+1))) ht hi hsz hby hz hzn hnu heu hs hol
    (run_firstCells_some (P:=P) K.w.drew (n+1) es.length ⟨b,off',none⟩ es.length cap _ hol (λj u hu=>by
     rw[Addr.add_mid];rw[List.getElem?_take]at hu;split at hu
     ·rw[List.getElem?_drop]at hu;obtain⟨g1,g2⟩:=List.getElem?_eq_some_iff.1 hu;have:K.w.drew.cell? ⟨b,off'+j,none⟩=K.w.cell? ⟨b,off'+j,none⟩:=rfl;rw[this,cell_of_row K.w b _ row e' _ h4];simpa using hu
     ·cases hu)) (λj x hx=>by
     rcases hoff with rfl|hnil
     ·have hj:=(List.getElem?_eq_some_iff.1 hx).1;rw[bA heu]at hj;have hlt:j<row.size:=by omega
      refine⟨row[j],?_,?_⟩
      ·rw[List.getElem?_take,if_pos hj,List.drop_zero];simp[hlt]
      ·have:=h6 j x hx;rwa[gD hlt]at this
     ·subst hnil;simp at hx) (by omega) hb1 hb2 rfl
   exact this
end
section
variable {P:Program}{w0:Ctx}{T:Nat->Prop}{K:Ctx}{H:Nat->Ob}{sl:Nat->D}{ρ:Operand->Value}
theorem Ran.read {s:Sem Value}{v:Value}{d:D}(hr:HR w0 T K H)(h:s.run P K.w=.ok v K.w)(hd:VD K v d):Ran P w0 T K (do pure (.value (<- s))) d H:=Ran.of (K':=K) h (Ext.refl K) hr hd
theorem Vn {es:List (List I)}{bs:List UInt8}(h:es.mapM nK=some bs):es=bs.map λb=>[I.s (.int .u8 (b.toNat:Int))]:=by
 obtain⟨m1,m2⟩:=mapM_get h;apply List.ext_getElem?;intro j;by_cases hj:j<es.length
 ·obtain⟨b,hb,hb'⟩:=m2 j es[j] (by simp[hj]);have:es[j]=[I.s (.int .u8 (b.toNat:Int))]:=by
   generalize es[j]=e at hb';unfold nK at hb';split at hb'
   ·split at hb'
    ·rename_i n hn;simp at hb';subst hb';congr 3;have:(UInt8.ofNat n.toNat).toNat=n.toNat:=by simp;omega
     omega
    ·cases hb'
   ·cases hb'
  simp[hj,hb,this]
 ·simp[show es[j]?=none by simp;omega,show bs[j]?=none by simp;omega]
theorem vQ (hr:HR w0 T K H){v:Value}{d:D}{es:List (List I)}{bs:List UInt8}{src dst e:TypeId}(hs:aG P src=some (.slice e))(hd:aG P dst=some .string)(he:aG P e=some (.int .u8))
  (hv:VD K v d) (hes:aO H d=some es) (hb:es.mapM nK=some bs):(Go.convert src dst v).run P K.w=.ok (.string ⟨bs.toArray⟩) K.w:=by
 rw[gu]at hs hd he;have heq:=Vn hb;obtain⟨a,cap,rfl,news,h1,h2,h3,h4⟩:=elems_src hr hv hes (n:=0) (λx hx=>by rw[heq]at hx;obtain⟨b,_,rfl⟩:=List.mem_map.1 hx;rfl);have hfl:es.flatten=bs.map λb=>I.s (.int .u8 (b.toNat:Int)):=by
  rw[heq];clear heq hb hes h1 h2 h4;induction bs with
  |nil=>rfl
  |cons a t ih=>simp[ih]
 have hnews:news=(bs.map λb=>(b.toNat:Int)).map (Value.int .u8):=by
  apply List.ext_getElem?;intro j;by_cases hj:j<bs.length
  ·obtain⟨u,hu1,hu2⟩:=h4 j (I.s (.int .u8 (bs[j].toNat:Int))) (by rw[hfl];simp[hj]);rw[hu1];cases hu2;simp[hj]
  ·have:es.length=bs.length:=by rw[heq];simp
   have h5:news.length=bs.length:=by omega
   simp[show news[j]?=none by simp;omega,show ¬j<bs.length from hj]
 rw[run_convert_bytes_string K.w src dst e a _ cap hs he hd];rcases h2 with rfl|⟨b,off,rfl,h2⟩
 ·have:bs=[]:=by cases bs with|nil=>rfl|cons _ _=>simp at heq
  subst this;cases a with
  |none=>simp[Conv.bytesToString];rfl
  |some a=>exact run_bytesToString (P:=P) K.w a 0 cap [] (by simp[loadCells,loadCellsFrom])
 ·have hl:(loadCells ⟨b,off,none⟩ es.length).run P K.w=.ok news.toArray K.w:=by
   have:=run_loadCells_list (P:=P) K.w ⟨b,off,none⟩ news (λj v hv=>by rw[Addr.add_mid];exact h2 j v hv);rw[h1]at this;simpa using this
  rw[hnews]at hl;rw[run_bytesToString K.w _ _ cap _ hl,foldl_push_bytes];have hid:(bs.map λb=>(b.toNat:Int)).map (λn=>UInt8.ofNat n.toNat)=bs:=by
   rw[List.map_map]
   conv=>rhs;rw[<- List.map_id bs]
   exact List.map_congr_left λb _=>by simp
  rw[hid];congr 2;simp[ByteArray.empty,ByteArray.emptyWithCapacity];rfl
theorem run_str_convert (hr:HR w0 T K H){s:ByteArray}{src dst e:TypeId}(hs:aG P src=some .string)(hd:aG P dst=some (.slice e))(he:aG P e=some (.int .u8)):
  ∃v K',(Go.convert src dst (.string s)).run P K.w=.ok v K'.w/\Ext K K'/\HR w0 T K' H/\VI K'.w K'.S v (Wm s):=by
 rw[gu]at hs hd he;have hq:(Question.appendCap s.size 0 e).forced=false:=rfl;generalize hcap:grownCap K.w s.size 0 e=cap;generalize hrow:(s.data.map λb=>Value.int .u8 (b.toNat:Int))++Array.replicate (cap-s.size) (Value.int .u8 0)=row;have hcs:s.size<=cap:=by rw[<- hcap];exact grownCap_ge K.w s.size 0 e
 have hrun:(Go.convert src dst (.string s)).run P K.w=.ok (.slice (some ⟨K.w.heap.size,0,none⟩) s.size cap) ((K.w.drew.alloc (.cells row e)).freeze ⟨K.w.heap.size,row.size,none⟩ 1):=by
  have hsh:(K.w.drew.alloc (.cells row e)).shape? K.w.heap.size=some (e,row.size):=by have:=heap_alloc_new K.w.drew (.cells row e);simp only[World.shape?];rw[show K.w.heap.size=K.w.drew.heap.size from rfl,this]
  have hcap':(Question.appendCap s.size 0 e).cut (K.w.tape K.w.drawn (.appendCap s.size 0 e))=cap:=hcap;simp only[Go.convert,Sem.run_bind,run_underlying hs,run_underlying hd,run_underlying he,Result.andThen_ok,Conv.stringToBytes,run_choose,hq,Bool.false_eq_true,if_false,hcap',hrow,newRow,run_newObj,Sem.run_pure,markStringish];have hsh':World.shape? {heap:=(K.w.heap.push (.cells row e)),tape:=K.w.tape,drawn:=K.w.drawn+1,os:=K.w.os,output:=K.w.output} K.w.heap.size=some (e,row.size):=hsh;simp only[run_shape,hsh',Result.andThen_ok,run_freeze];rfl
 have hother:∀k,k≠K.w.heap.size->((K.w.drew.alloc (.cells row e)).freeze ⟨K.w.heap.size,row.size,none⟩ 1).heap[k]?=(K.w.drew.alloc (.cells row e)).heap[k]?:=by intro k hk;simp only[World.freeze,Nat.one_ne_zero,if_false,Array.getElem?_modify];rw[if_neg (by omega)]
 have hold:∀k,k<K.w.heap.size->((K.w.drew.alloc (.cells row e)).freeze ⟨K.w.heap.size,row.size,none⟩ 1).heap[k]?=K.w.heap[k]?:=by intro k hk;rw[hother k (by omega)];exact Below.heap_alloc K.w.drew _ k hk
 have hnew:∀j,((K.w.drew.alloc (.cells row e)).freeze ⟨K.w.heap.size,row.size,none⟩ 1).cell? ⟨K.w.heap.size,j,none⟩=row[j]?:=by intro j;have h0:(K.w.drew.alloc (.cells row e)).heap[K.w.heap.size]?=some (.cells row e (0,0)):=heap_alloc_new K.w.drew _;simp only[World.cell?,World.freeze,Nat.one_ne_zero,if_false,Array.getElem?_modify,if_true,h0,Option.map_some];simp
 have hsz:((K.w.drew.alloc (.cells row e)).freeze ⟨K.w.heap.size,row.size,none⟩ 1).heap.size=K.w.heap.size+1:=by simp[World.freeze]
 have he':Ext K ⟨(K.w.drew.alloc (.cells row e)).freeze ⟨K.w.heap.size,row.size,none⟩ 1,λb=>K.S b\/b=K.w.heap.size,K.μ⟩ :=
  ⟨λ_ h=>.inl h,λb hb j=>World.cell?_of_block (w:=K.w) (hold b (hr.sB b hb)),λ_ _ h=>h,λo b hb=>fe (hold b (hr.mB o b hb))⟩
 refine⟨_,_,hrun,he',?_,?_⟩
 ·refine⟨hr.g0,hr.os,hr.tape,hr.output,by simp only[hsz];have:=hr.size;omega,λk hk hT=>(hold k (by have:=hr.size;omega)).trans (hr.block k hk hT),λb hb=>?_,λb hb=>?_,λo b hb=>?_,λo=>?_,hr.inj⟩
  ·simp only[hsz];rcases hb with hb|hb
   ·have:=hr.sB b hb;omega
   ·omega
  ·rcases hb with hb|hb
   ·exact hr.sN b hb
   ·right;left;rw[hb];exact hr.size
  ·simp only[hsz];have:=hr.mB o b hb;omega
  ·refine(hr.ob o).ext he' (λh=>h) (λb hown hb=>⟨hold b (hr.mB o b hb),?_⟩);rintro(hS|hS)
   ·obtain⟨_,_,_,q,_⟩:=hr.place hown hb;exact q hS
   ·have:=hr.mB o b hb;omega
 ·have hlen:(s.data.toList.map aH).length=s.size:=by simp
  have hfl:(s.data.toList.map aH).flatten=s.data.toList.map λb=>I.s (.int .u8 (b.toNat:Int)):=by
   induction s.data.toList with
   |nil=>rfl
   |cons a t ih=>simp[aH,ih]
  unfold Wm;rw[<- hlen];have hget:∀(j:Nat) (x:I),(s.data.toList.map aH).flatten[j]?=some x->∃b:UInt8,x=I.s (.int .u8 (b.toNat:Int))/\row[j]?=some (.int .u8 (b.toNat:Int)):=by intro j x hx;rw[hfl]at hx;simp only[List.getElem?_map,Option.map_eq_some_iff]at hx;obtain⟨b,hb,rfl⟩:=hx;refine⟨b,rfl,?_⟩;obtain⟨g1,g2⟩:=List.getElem?_eq_some_iff.1 hb;rw[<- hrow,Array.getElem?_append_left (by simpa using g1)];simp at g1 g2;simp[g1,g2]
  exact .sl K.w.heap.size 0 cap 1 _ (λj=>row.getD j undef) (.inr rfl) (by rw[hlen];exact hcs) (Nat.succ_pos 0) (λx hx=>by obtain⟨b,_,rfl⟩:=List.mem_map.1 hx;rfl)
   (λj x hx=>by
    obtain⟨b,rfl,hb⟩:=hget j x hx;show World.cell? _ _=_;rw[Nat.zero_add,hnew,hb,Array.getD_eq_getD_getElem?,hb];rfl) (λj x hx=>by
    obtain⟨b,rfl,hb⟩:=hget j x hx;show VI _ _ (row.getD j undef) _;rw[Array.getD_eq_getD_getElem?,hb];exact .s _ rfl)
theorem IU (vs:List Value){s:Nat}(hvsz:∀v∈vs,v.cells.size=s):(vs.flatMap λv=>v.cells.toList).length=vs.length*s:=by
 induction vs with
 |nil=>simp
 |cons a t ih =>rw[List.flatMap_cons,List.length_append,ih (λv hv=>hvsz v (by simp[hv])),Array.length_toList,hvsz a (by simp),List.length_cons,Nat.add_mul];omega
theorem mark_ok (hr:HR w0 T K H){o:Nat}{es0:List (List I)}(ho:H o=.arr 1 es0){v:Value}{off len:Nat}(hv:VD K v (.os o 1 off (len+1))){es:List (List I)}(hes:aO H (.os o 1 off (len+1))=some es){t e:TypeId}(hu:aG P t=some (.slice e))(hb:aG P e=some (.int .u8)):
  ∃K',(Go.convert t t v).run P K.w=.ok v K'.w/\Ext K K'/\HR w0 T K' (frz [o] H)/\VD K' v (.i (.sl es)):=by
 have hfr:=nE hr hv hes [o] (by simp);have h1:=hr.frz [o];cases hv with
 |os _ _ _ _ b off' cap hμ h2 h3 h4 h5 =>
  obtain⟨_,_,hx⟩:=hr.get ho;rcases hx with⟨hx,_⟩|⟨b',row,ty,a1,a2,a3,a4,a5,a6⟩
  ·rw[hx]at hμ;cases hμ
  rw[hμ]at a1;cases a1;have hSb:(K.more (frzS K H [o])).S b:=.inr ⟨o,by simp,⟨1,es0,ho⟩,hμ⟩;have hother:∀k,k≠b->(K.w.freeze ⟨b,row.size,none⟩ 1).heap[k]?=K.w.heap[k]?:=by intro k hk;simp[World.freeze,Array.getElem?_modify,Ne.symm hk]
  have hself:(K.w.freeze ⟨b,row.size,none⟩ 1).heap[b]?=some (.cells row ty (row.size,row.size+1)):=by simp[World.freeze,Array.getElem?_modify,a2]
  have hsize:(K.w.freeze ⟨b,row.size,none⟩ 1).heap.size=K.w.heap.size:=by simp[World.freeze]
  have hcell:∀k j,(K.w.freeze ⟨b,row.size,none⟩ 1).cell? ⟨k,j,none⟩=K.w.cell? ⟨k,j,none⟩:=by
   intro k j;by_cases hk:k=b
   ·subst hk;rw[cell_of_row _ _ _ _ _ _ hself,cell_of_row _ _ _ _ _ _ a2]
   ·exact World.cell?_of_block (w:=K.w) (hother k hk)
  have hrow:∀k,dR (K.w.freeze ⟨b,row.size,none⟩ 1) k=dR K.w k:=by
   intro k;by_cases hk:k=b
   ·subst hk;rw[fG hself,fG a2]
   ·exact fe (hother k hk)
  have he2:Ext (K.more (frzS K H [o])) ⟨K.w.freeze ⟨b,row.size,none⟩ 1,(K.more (frzS K H [o])).S,K.μ⟩:=⟨λ_ h=>h,λk _ j=>hcell k j,λ_ _ h=>h,λo' k _=>hrow k⟩
  refine⟨⟨K.w.freeze ⟨b,row.size,none⟩ 1,(K.more (frzS K H [o])).S,K.μ⟩,?_,(Ext.more (K:=K) _).trans he2,?_,.i (hfr.ext he2)⟩
  ·have hsh:K.w.shape? b=some (ty,row.size):=by simp[World.shape?,a2]
   rw[gu]at hu hb;simp[Go.convert,run_underlying hu,run_underlying hb,markStringish,hsh]
  ·refine⟨h1.g0,h1.os,h1.tape,h1.output,by rw[hsize];exact h1.size,λk hk hT=>?_,λk hk=>by rw[hsize];exact h1.sB k hk,h1.sN,λo' k hk=>by rw[hsize];exact h1.mB o' k hk,λo'=>?_,h1.inj⟩
   ·have hkb:k≠b:=by
     rintro rfl;rcases a6 with a6|a6
     ·omega
     ·exact hT a6
    exact(hother k hkb).trans (h1.block k hk hT)
   ·refine(h1.ob o').ext he2 (λh=>h) (λk hown hk=>?_);obtain⟨_,_,_,hS,_⟩:=h1.place hown hk;have hkb:k≠b:=by rintro rfl;exact hS hSb
    exact⟨hother k hkb,hS⟩
theorem acU (hr:HR w0 T K H)(hρ:∀x,VD K (ρ x) (evA sl x)){id:Nat}(o:Oper){d:D}{H':Nat->Ob}(h:opH P sl H id o.op=some (d,H')):Ran P w0 T K (execOp ρ o) d H':=by
 generalize hop:o.op=op at h;cases op with
 |alloc t =>
  simp only[opH]at h;split at h
  ·rename_i cs hz hf;simp only[Option.some.injEq,Prod.mk.injEq]at h;obtain⟨rfl,rfl⟩:=h;obtain⟨zv,h1,rfl,h3⟩:=zcells_ok hz;obtain⟨K',g1,g2,g3,g4⟩:=newBox (P:=P) hr hf t (v:=zv) (zcells_rc h3) (by simp[D.one]);refine⟨_,K',.inl ?_,g2,g3,g4⟩;simp[execOp,hop,Instr.alloc,yM h1,g1]
  ·cases h
 |box t x =>
  simp only[opH]at h;split at h
  ·rename_i cs hc hf;split at h
   ·rename_i hall;simp only[Option.some.injEq,Prod.mk.injEq]at h;obtain⟨rfl,rfl⟩:=h;obtain⟨K',g1,g2,g3,g4⟩:=newBox (P:=P) hr hf t (v:=ρ x) (dcells_ok (hρ x) hc) (λd hd=>List.all_eq_true.1 hall d hd);refine⟨_,K',.inl ?_,g2,g3,g4⟩;simp[execOp,hop,Instr.box,g1]
   ·cases h
  ·cases h
 |load t a =>
  have h':H'=H/\(match pM P t with
  |some true=>match iE P t with
   |some n=>(aW H (evA sl a) n).map λcs=>D.agg cs
   |none=>none
  |some false=>(aW H (evA sl a) 1).bind ku
  |none=>none)=some d:=by
   simp only[opH]at h;split at h
   ·split at h
    ·simp only[Option.map_eq_some_iff,Prod.mk.injEq]at h;obtain⟨cs,h1,rfl,rfl⟩:=h;exact⟨rfl,by simp[*]⟩
    ·cases h
   ·simp only[Option.map_eq_some_iff,Prod.mk.injEq]at h;obtain⟨d',h1,rfl,rfl⟩:=h;exact⟨rfl,by simp[*]⟩
   ·cases h
  obtain⟨rfl,h'⟩:=h';obtain⟨u,h1,h2⟩:=load_ok (P:=P) hr (hρ a) h';have:=Ran.read (P:=P) hr h1 h2;simpa only[execOp,hop]using this
 |store t a x =>
  simp only[opH]at h;split at h
  ·rename_i new n hc hs;split at h
   ·rename_i hcond;obtain⟨hn,hone⟩:=hcond;have hd:d=.un:=by
     split at h
     ·split at h
      ·split at h
       ·simp only[Option.some.injEq,Prod.mk.injEq]at h;exact h.1.symm
       ·cases h
      ·split at h
       ·split at h
        ·simp only[Option.some.injEq,Prod.mk.injEq]at h;exact h.1.symm
        ·cases h
       ·cases h
      ·split at h
       ·split at h
        ·simp only[Option.some.injEq,Prod.mk.injEq]at h;exact h.1.symm
        ·cases h
       ·cases h
      ·cases h
     ·cases h
    subst hd;obtain⟨K',g1,g2,g3⟩:=store_ok (P:=P) hr (hρ a) (dcells_ok (hρ x) hc) hs hn (λd hd=>List.all_eq_true.1 hone d hd) h;exact⟨undef,K',.inr ⟨by simp[execOp,hop,g1],rfl⟩,g2,g3,.un⟩
   ·cases h
  ·cases h
 |convert src dst x =>
  simp only[opH]at h;split at h
  ·rename_i e hd hs;split at h
   ·rename_i s he hx;split at h
    ·simp only[Option.some.injEq,Prod.mk.injEq]at h;obtain⟨rfl,rfl⟩:=h;have hv:=conc_ok (hρ x) hx;obtain⟨v,K',g1,g2,g3,g4⟩:=run_str_convert (P:=P) hr (s:=s) hs hd he;exact⟨v,K',.inl (by simp[execOp,hop,hv,g1]),g2,g3,.i g4⟩
    ·cases h
   ·cases h
  ·rename_i e hd hs;split at h
   ·rename_i es he hes;simp only[Option.map_eq_some_iff,Prod.mk.injEq]at h;obtain⟨bs,hb,rfl,rfl⟩:=h;have g1:=vQ (P:=P) hr hs hd he (hρ x) hes hb;have:=Ran.read (P:=P) hr g1 (.i (.s _ rfl));simpa only[execOp,hop]using this
   ·cases h
  ·rename_i e e' hd hs;split at h
   ·rename_i hsd;subst hsd;split at h
    ·rename_i o off len he hx;split at h
     ·rename_i es0 ho;simp only[Option.map_eq_some_iff,Prod.mk.injEq]at h;obtain⟨es,hes,rfl,rfl⟩:=h;have hv:=hρ x;rw[hx]at hv;obtain⟨K',g1,g2,g3,g4⟩:=mark_ok (P:=P) hr ho hv hes hd he;exact⟨_,K',.inl (by simp[execOp,hop,g1]),g2,g3,g4⟩
     ·cases h
    ·cases h
   ·cases h
  ·cases h
 |makeSlice t l c =>
  simp only[opH]at h;split at h
  ·rename_i e l' c' hu hl hc hf;split at h
   ·rename_i s z by_ hs hz hb;split at h
    ·rename_i hcond;obtain⟨h0,h1,h2,h3,h4⟩:=hcond;split at h
     ·rename_i xs hxs;simp only[Option.some.injEq,Prod.mk.injEq]at h;obtain⟨rfl,rfl⟩:=h;obtain⟨zv,z1,rfl,z3⟩:=zcells_ok hz;obtain⟨i,hi,hisz⟩:=szOf_info hs;have hby:=sw hi hb;have hzi:=mQ hi z1;rw[gu]at hu;have hrun:=run_make (P:=P) K.w t e i zv hu hi hzi .i64 .i64 l' c' h0 h1 (by rw[hby,Int.mul_comm];omega) (by omega);have hxs':xs=zv.cells.toList.map (λc=>Od (I.s c)):=by
       obtain⟨m1,m2⟩:=mapM_get hxs;apply List.ext_getElem?;intro j;by_cases hj:j<zv.cells.size
       ·obtain⟨b,hb1,hb2⟩:=m2 j (.i (.s zv.cells[j])) (by simp[hj]);simp[eu]at hb2;subst hb2;rw[hb1];simp[hj]
       ·simp only[List.length_map,Array.length_toList]at m1;simp[show xs[j]?=none by simp;omega,show ¬j<zv.cells.size from hj]
      have hzl:zv.cells.size=s+1:=by simpa using h4
      have hxl:xs.length=s+1:=by rw[hxs'];simpa using hzl
      have hrow:(madeCells zv.cells (c'.toNat*i.size)).size=c'.toNat*(s+1):=by rw[size_madeCells,hisz]
      have hu':∀x∈List.replicate l'.toNat xs,x.length=s+1:=λx hx=>by rw[List.eq_of_mem_replicate hx];exact hxl
      obtain⟨a1,a2,a3⟩:=newArr hr (id:=id) hf e (row:=madeCells zv.cells (c'.toNat*i.size)) (sz:=s+1) (es:=List.replicate l'.toNat xs) (Nat.succ_pos _) hu'
       (by rw[hrow,List.length_replicate];exact Nat.mul_le_mul_right _ (by omega)) (λj x hx=>by
        obtain⟨y,hy1,hy2⟩:=flatten_get' (Nat.succ_pos _) hu' hx;have hlt:=(List.getElem?_eq_some_iff.1 hx).1;rw[bA hu',List.length_replicate]at hlt;have hle:l'.toNat*(s+1)<=c'.toNat*(s+1):=Nat.mul_le_mul_right _ (by omega);have hy:y=xs:=by have:=List.mem_of_getElem? hy1;exact List.eq_of_mem_replicate this
        subst hy;have hm:j%(s+1)<zv.cells.size:=by rw[hzl];exact Nat.mod_lt _ (Nat.succ_pos _)
        have hg:(madeCells zv.cells (c'.toNat*i.size)).getD j undef=zv.cells[j%(s+1)]:=by rw[gD (by rw[hrow];omega)];simp only[madeCells,Array.getElem_map,Array.getElem_range,hzl];exact getElem!_pos zv.cells _ hm
        rw[hg];rw[hxs']at hy2;simp[hm]at hy2;rw[<- hy2];exact N_ (.s _ (z3 _ (Array.getElem_mem hm)))) l'.toNat c'.toNat (by omega) (by rw[hrow];exact Nat.le_refl _)
      refine⟨_,_,.inl ?_,a1,a2,a3⟩;simp only[execOp,hop,conc_ok (hρ l) hl,conc_ok (hρ c) hc,Sem.run_bind,hrun,Result.andThen_ok];rfl
     ·cases h
    ·cases h
   ·cases h
  ·cases h
 |buildSlice t len parts =>
  simp only[opH]at h;split at h
  ·rename_i e hu hf;split at h
   ·rename_i s z ps hs hz hps;split at h
    ·rename_i hcond;obtain⟨c1,c2,c3,c4⟩:=hcond;split at h
     ·rename_i es hes;simp only[Option.some.injEq,Prod.mk.injEq]at h;obtain⟨rfl,rfl⟩:=h;obtain⟨m1,m2⟩:=mapM_get hps;obtain⟨m3,m4⟩:=mapM_get hes;obtain⟨i,hi,hisz⟩:=szOf_info hs;obtain⟨zv,z1,rfl,z3⟩:=zcells_ok hz;have hisz:i.size=s+1:=hisz;have hzi:=mQ hi z1;rw[gu]at hu;have hzl:zv.cells.size=s+1:=by simpa using c2
      have hpl:ps.length=len:=by have:=congrArg List.length c3;simpa using this
      have hparts:parts.toList.length=len:=by rw[<- m1];exact hpl
      let vs:List Value:=parts.toList.map λp=>ρ p.2;have hvl:vs.length=len:=by simp only[vs,List.length_map];exact hparts
      have hpart:∀(j:Nat) (hj:j<len),∃cs,ps[j]?=some (j,cs)/\RC K (vs[j]'(by omega)).cells cs/\cs.length=s+1/\(∀d∈cs,d.one=true):=by
       intro j hj;obtain⟨b,hb1,hb2⟩:=m2 j (parts.toList[j]'(by omega)) (by simp[show j<parts.toList.length by omega]);simp only[Option.map_eq_some_iff]at hb2;obtain⟨cs,hcs,rfl⟩:=hb2;have hj1:(parts.toList[j]'(by omega)).1=j:=by have:=congrArg (λl=>l[j]?) c3;simp only[List.getElem?_map,hb1,Option.map_some]at this;rw[List.getElem?_range hj]at this;simpa using this
       have hall:=List.all_eq_true.1 c4 _ (List.mem_of_getElem? hb1);simp only[decide_eq_true_eq,Bool.and_eq_true]at hall;refine⟨cs,by rw[hb1,hj1],?_,by simpa using hall.1,λd hd=>List.all_eq_true.1 hall.2 d hd⟩;rw[show vs[j]'(by omega)=ρ (parts.toList[j]'(by omega)).2 from by simp[vs]];exact dcells_ok (hρ (parts.toList[j]'(by omega)).2) hcs
      have hvsz:∀v∈vs,v.cells.size=s+1:=by intro v hv;obtain⟨j,hj,rfl⟩:=List.mem_iff_getElem.1 hv;obtain⟨cs,_,q2,q3,_⟩:=hpart j (by omega);rw[q2.1,q3]
      have hzip:(parts.map λ(p:Nat×Operand)=>(p.1,ρ p.2)).toList=((vs.zipIdx 0).map λx=>(x.2,x.1)):=by
       apply List.ext_getElem?;intro j;by_cases hj:j<len
       ·obtain⟨b,hb1,hb2⟩:=m2 j (parts.toList[j]'(by omega)) (by simp[show j<parts.toList.length by omega]);simp only[Option.map_eq_some_iff]at hb2;obtain⟨cs,hcs,rfl⟩:=hb2;have hj1:(parts.toList[j]'(by omega)).1=j:=by
         have:=congrArg (λl=>l[j]?) c3;simp only[List.getElem?_map,hb1,Option.map_some]at this;rw[List.getElem?_range hj]at this;simpa using this
        simp only[Array.toList_map,List.getElem?_map,List.getElem?_zipIdx,vs];rw[List.getElem?_eq_getElem (show j<parts.toList.length by omega)];simp only[Option.map_some,Nat.zero_add];rw[hj1]
       ·have e1:(parts.map λ(p:Nat×Operand)=>(p.1,ρ p.2)).toList[j]?=none:=by
         rw[List.getElem?_eq_none_iff,Array.toList_map,List.length_map];omega
        rw[e1,List.getElem?_eq_none_iff.2 (by simp;omega)]
      have hfill:Instr.fill (λi=>some (i*(s+1),s+1)) ((Array.range (len*(s+1))).map (zv.cells[· % zv.cells.size]!)) (parts.map λ(p:Nat×Operand)=>(p.1,ρ p.2)).toList=some (vs.flatMap λv=>v.cells.toList).toArray:=by rw[hzip];exact Go.Great.fill_whole (Nat.succ_pos s) vs _ hvsz (by rw[hvl];simp)
      have hrun:(Instr.buildSlice t len (parts.map λ(p:Nat×Operand)=>(p.1,ρ p.2))).run P K.w=.ok (.slice (some ⟨K.w.heap.size,0,none⟩) len len) (K.w.alloc (.cells (vs.flatMap λv=>v.cells.toList).toArray e)):=by
       by_cases h0:len=0
       ·subst h0;have hv0:vs=[]:=List.eq_nil_of_length_eq_zero hvl;have hp0:parts=#[]:=by
         apply Array.eq_empty_of_size_eq_zero;simpa using hparts
        subst hp0;rw[hv0];simp[Instr.buildSlice,run_underlying hu,sizeOf,typeInfo,hi,newRow,Instr.fill,Array.range_zero']
       ·exact run_buildSlice K.w t e len _ _ i zv hu hi hzi (by rw[hisz];omega) (by rw[hisz];exact Nat.mul_ne_zero h0 (Nat.succ_ne_zero s)) (by rw[hisz];exact hfill)
      let ids:=ps.flatMap λp=>p.2.flatMap D.ids1;have hr':=hr.frz ids;have he0:Ext K (K.more (frzS K H ids)):=Ext.more _;have hels:∀(j:Nat) (hj:j<len),∃xs,es[j]?=some xs/\(vs[j]'(by omega)).cells.size=xs.length/\xs.length=s+1 /\
        (∀(k:Nat) (x:I),xs[k]?=some x->VI (K.more (frzS K H ids)).w (K.more (frzS K H ids)).S ((vs[j]'(by omega)).cells.getD k undef) x):=by
       intro j hj;obtain⟨cs,q1,q2,q3,q4⟩:=hpart j hj;obtain⟨xs,q5,q6⟩:=m4 j (j,cs) q1;obtain⟨q7,q8⟩:=conv_list hr q2 q6 ids (λo ho=>List.mem_flatMap.2 ⟨(j,cs),List.mem_of_getElem? q1,ho⟩);exact⟨xs,q5,q7,by rw[<- q7,q2.1,q3],q8⟩
      have hel:es.length=len:=by rw[m3,hpl]
      have heu:∀x∈es,x.length=s+1:=by intro x hx;obtain⟨j,hj,rfl⟩:=List.mem_iff_getElem.1 hx;obtain⟨xs,q1,_,q3,_⟩:=hels j (by omega);obtain⟨g1,g2⟩:=List.getElem?_eq_some_iff.1 q1;rw[g2];exact q3
      have hrowsz:(vs.flatMap λv=>v.cells.toList).toArray.size=len*(s+1):=by have:=IU vs hvsz;simp only[List.size_toArray,this,hvl]
      obtain⟨a1,a2,a3⟩:=newArr (K:=K.more (frzS K H ids)) hr' (id:=id) (frz_fresh hf) e (row:=(vs.flatMap λv=>v.cells.toList).toArray) (sz:=s+1) (es:=es) (Nat.succ_pos _) heu (by rw[hrowsz,hel];exact Nat.le_refl _)
       (λj x hx=>by
        obtain⟨y,hy1,hy2⟩:=flatten_get' (Nat.succ_pos _) heu hx;have hjl:j/(s+1)<len:=by have h9:j/(s+1)<es.length:=(List.getElem?_eq_some_iff.1 hy1).1;omega
        obtain⟨xs,q1,q2,q3,q4⟩:=hels (j/(s+1)) hjl;rw[q1]at hy1;cases hy1;have hgs:(vs.flatMap λv=>v.cells.toList)[j]?=(vs[j/(s+1)]?).bind (λv=>v.cells[j%(s+1)]?):=Go.Great.flat_get (Nat.succ_pos s) vs hvsz j;have:(vs.flatMap λv=>v.cells.toList).toArray.getD j undef=(vs[j/(s+1)]'(by omega)).cells.getD (j%(s+1)) undef:=by rw[Array.getD_eq_getD_getElem?,List.getElem?_toArray,hgs,List.getElem?_eq_getElem (show j/(s+1)<vs.length by omega),Option.bind_some,Array.getD_eq_getD_getElem?]
        rw[this];exact q4 _ _ hy2) len len (Nat.le_refl _) (by rw[hrowsz];exact Nat.le_refl _)
      refine⟨_,_,.inl ?_,he0.trans a1,a2,a3⟩;simp only[execOp,hop,Sem.run_bind];rw[show(parts.map λ(i,x)=>(i,ρ x))=parts.map λ(p:Nat×Operand)=>(p.1,ρ p.2)from rfl,hrun];rfl
     ·cases h
    ·cases h
   ·cases h
  ·cases h
 |call c =>
  obtain⟨callee,args,tys⟩:=c;cases callee with
  |builtin b =>
   by_cases hb:b=.append
   ·subst hb;simp only[opH]at h;split at h
    ·rename_i s x t tx hargs htys;split at h
     ·rename_i e hu hf;split at h
      ·rename_i n by_ zn hs hbb hzz;split at h
       ·rename_i hzn;split at h
        ·rename_i new hnew;obtain⟨i,hi,hisz⟩:=szOf_info hs;have hby:=sw hi hbb;simp only[Option.map_eq_some_iff]at hzz;obtain⟨z,hz,hzs⟩:=hzz;have hzi:=mQ hi hz;have⟨o1,o2,ha,e1,e2⟩:∃o1 o2,args=#[o1,o2]/\evA sl o1=s/\evA sl o2=x:=by
          obtain⟨l⟩:=args
          match l,hargs with
          |[a,b],hargs=>simp at hargs;exact⟨a,b,rfl,hargs.1,hargs.2⟩
         have ht:tys=#[t,tx]:=by obtain⟨l⟩:=tys;simp at htys;rw[htys]
         subst ha ht;have hx:=hρ o2;have hs0:=hρ o1;rw[e1]at hs0;rw[e2]at hx;have hsrc:(∀y∈new,y.length=n+1)->Lh P K n tx (ρ o2) new:=by
          intro hnu;split at hnew
          ·rename_i str htx hstr;split at hnew
           ·rename_i hn0;subst hn0;simp at hnew;subst hnew;rw[conc_ok hx hstr];exact Ku htx
           ·cases hnew
          ·rename_i e' htx;exact Bw hr hx hnew hnu htx
          ·cases hnew
         rw[gu]at hu;have hfin:∀{v':Value}{K':Ctx}{d:D}{H':Nat->Ob},(Builtin.append_ #[t,tx] o.type #[ρ o1,ρ o2]).run P K.w=.ok v' K'.w->Ext K K'->HR w0 T K' H'->VD K' v' d->Ran P w0 T K (execOp ρ o) d H':=by intro v' K' d H' q1 q2 q3 q4;refine⟨v',K',.inl ?_,q2,q3,q4⟩;simp[execOp,hop,resolve,invoke,builtin,q1]
         split at h
         ·split at h
          ·rename_i hc;obtain⟨c1,c2,c3⟩:=hc;simp only[Option.some.injEq,Prod.mk.injEq]at h;obtain⟨rfl,rfl⟩:=h;have hv0:=conc_ok hs0 (v':=.slice none 0 0) rfl;obtain⟨v',K',q1,q2,q3,q4⟩:=append_nil (P:=P) hr hf (ty:=o.type) hu hi hisz hby hzi (hzs.trans hzn) (uni_all c1) (hsrc (uni_all c1)) c2 c3;exact hfin (by rw[hv0];exact q1) q2 q3 q4
          ·cases h
         ·rename_i o' sz len;split at h
          ·rename_i sz' es ho;split at h
           ·rename_i hc;obtain⟨rfl,rfl,c1,c2,c3,c4⟩:=hc;simp only[Option.some.injEq,Prod.mk.injEq]at h;obtain⟨rfl,rfl⟩:=h;obtain⟨v',K',q1,q2,q3,q4⟩:=append_os (P:=P) hr hf (ty:=o.type) hu hi hisz hby hzi (hzs.trans hzn) (uni_all c2) (hsrc (uni_all c2)) hs0 ho c1 c3 c4;exact hfin q1 q2 q3 q4
           ·cases h
          ·cases h
         ·cases h
        ·cases h
       ·cases h
      ·cases h
     ·cases h
    ·cases h
   ·exfalso;revert h;cases b<;>simp_all[opH]
  |_=>simp[opH]at h
 |_=>simp[opH]at h
end
section
variable {P:Program}{w0:Ctx}{T:Nat->Prop}{K:Ctx}{H:Nat->Ob}{sl:Nat->D}{ρ:Operand->Value}
theorem GR (es:List (List I))(off:Nat):over es off []=es:=by simp[over]
theorem aey (w:World)(m:Nat)(a:Option Addr)(l c:Nat):(Builtin.firstCells m 0 (.slice a l c)).run P w=.ok #[] w:=by
 cases a with
 |none=>exact run_firstCells_none (P:=P) w m 0 l c
 |some a=>exact run_firstCells_some (P:=P) w m 0 a l c [] (by simp) (by simp)
theorem dst_inv {v:Value}{d:D}{o sz off len:Nat}(hv:VD K v d)(h:UH d=some (o,sz,off,len)):
  ∃base cap,v=.slice base len cap/\len<=cap/\(len=0\/∃b,base=some ⟨b,off*sz,none⟩/\K.μ o=some b/\off*sz+cap*sz<=dR K.w b):=by
 cases d with
 |os o' sz' off' len' =>
  simp only[UH,Option.some.injEq,Prod.mk.injEq]at h;obtain⟨rfl,rfl,rfl,rfl⟩:=h;cases hv with
  |os _ _ _ _ b offb cap h1 h2 h3 h4 h5 =>
   refine⟨_,cap,rfl,h3,?_⟩;rcases h4 with rfl|h4
   ·exact .inr ⟨b,rfl,h1,h5⟩
   ·exact .inl (by omega)
  |os0 _ _ a=>exact⟨a,0,rfl,Nat.le_refl _,.inl rfl⟩
 |oc o' sz' off' len' cap =>
  simp only[UH,Option.some.injEq,Prod.mk.injEq]at h;obtain⟨rfl,rfl,rfl,rfl⟩:=h;cases hv with
  |oc _ _ _ _ _ b offb h1 h2 h3 h4 h5 =>
   refine⟨_,cap,rfl,h3,?_⟩;rcases h4 with rfl|h4
   ·exact .inr ⟨b,rfl,h1,h5⟩
   ·exact .inl (by omega)
 |_=>simp[UH]at h
theorem TE {es E:List (List I)}{off sz:Nat}(h1:∀x∈es,x.length=sz)(h2:∀x∈E,x.length=sz):∀x∈over es off E,x.length=sz:=by
 intro x hx;simp only[over,List.mem_append]at hx;rcases hx with(hx|hx)|hx
 ·exact h1 x (List.mem_of_mem_take hx)
 ·exact h2 x hx
 ·exact h1 x (List.mem_of_mem_drop hx)
theorem over_flat {es E:List (List I)}{off sz:Nat}(h1:∀x∈es,x.length=sz)(h2:∀x∈E,x.length=sz)(hoff:off<=es.length){j:Nat}{x:I}(hx:(over es off E).flatten[j]?=some x):
  (off*sz<=j/\j<off*sz+E.length*sz/\E.flatten[j-off*sz]?=some x)\/((j<off*sz\/off*sz+E.length*sz<=j)/\es.flatten[j]?=some x):=by
 unfold over at hx;rw[List.flatten_append,List.flatten_append,fV h1,iW h1]at hx;have hl:=bA h1;have hE:=bA h2;have ht:(es.flatten.take (off*sz)).length=off*sz:=by rw[List.length_take,hl];have:off*sz<=es.length*sz:=Nat.mul_le_mul_right _ hoff;omega
 by_cases ha:j<off*sz
 ·rw[List.append_assoc,List.getElem?_append_left (by omega),List.getElem?_take,if_pos ha]at hx;exact .inr ⟨.inl ha,hx⟩
 ·by_cases hb:j<off*sz+E.length*sz
  ·rw[List.append_assoc,List.getElem?_append_right (by omega),List.getElem?_append_left (by omega),ht]at hx;exact .inl ⟨by omega,hb,hx⟩
  ·rw[List.getElem?_append_right (by rw[List.length_append];omega),List.getElem?_drop,List.length_append,ht,hE]at hx;refine .inr ⟨.inr (by omega),?_⟩;rw[<- hx];congr 1;rw[Nat.add_mul];omega
theorem put_cells (hr:HR w0 T K H){o sz off b:Nat}{es E:List (List I)}(ho:H o=.arr sz es)(hμ:K.μ o=some b)(hE:∀e∈E,e.length=sz)(hoff:off<=es.length)(hfit:off*sz+E.length*sz<=dR K.w b)
  {news:List Value}(hl:news.length=E.length*sz) (h1:∀u∈news,u.oneCell'=true) (hv:∀(j:Nat) (x:I),E.flatten[j]?=some x->∃u,news[j]?=some u/\VI K.w K.S u x):
  ∃K',(storeCells ⟨b,off*sz,none⟩ news).run P K.w=.ok () K'.w/\Ext K K'/\HR w0 T K' (upd H o (.arr sz (over es off E)))/\K'.μ=K.μ:=by
 obtain⟨hz,heu,h3⟩:=hr.get ho;rcases h3 with⟨h3,_⟩|⟨b',row,e',h3,h4,h5,h6,h7,h8⟩
 ·rw[h3]at hμ;cases hμ
 rw[hμ]at h3;cases h3;rw[fG h4]at hfit;have h2:=run_storeCells_at (P:=P) b (off*sz) e' news 0 row K.w h4 (by simp;omega) h1;simp only[Nat.add_zero]at h2;have hsize:=lX row (off*sz) news (by omega);have he:Ext K (K.row b (row.toList.take (off*sz)++news++row.toList.drop (off*sz+news.length)).toArray):=pE h4 hsize h7;refine⟨_,h2,he,hr.row (o:=o) (x:=.arr sz (over es off E)) (by rw[ho];trivial) hμ h4 hsize ⟨hz,TE heu hE,.inr ⟨b,_,e',hμ,setRow_heap K.w b row _ e' (0,0) h4,?_,λj x hx=>?_,h7,h8⟩⟩,rfl⟩
 ·rw[hsize];have hlen:(over es off E).length=off+E.length+(es.length-(off+E.length)):=by simp[over];omega
  rw[hlen];by_cases hc:es.length<=off+E.length
  ·rw[Nat.sub_eq_zero_of_le hc,Nat.add_zero,Nat.add_mul];exact hfit
  ·have:off+E.length+(es.length-(off+E.length))=es.length:=by omega
   rw[this];exact h5
 ·refine VI.ext he ?_;rw[qL row _ news (by omega)];rcases over_flat heu hE hoff hx with⟨g1,g2,g3⟩|⟨g1,g2⟩
  ·obtain⟨u,hu1,hu2⟩:=hv _ x g3;rw[if_pos (by omega),List.getD_eq_getElem?_getD,hu1];exact hu2
  ·rw[if_neg (by omega)];exact h6 j x g2
theorem lZ (hr:HR w0 T K H){o sz off:Nat}{es:List (List I)}(ho:H o=.arr sz es):HR w0 T K (upd H o (.arr sz (over es off []))):=by
 have:upd H o (.arr sz (over es off []))=H:=by
  funext k;by_cases h:k=o
  ·subst h;rw[upd_same,GR,ho]
  ·rw[upd_ne _ _ h]
 rw[this];exact hr
theorem src_cells (hr:HR w0 T K H){v:Value}{s:D}{k n:Nat}{E:List (List I)}(hv:VD K v s)(h:Bz H k s=some E)(hu:∀e∈E,e.length=n+1):
  E.length=k/\∃news:List Value,(∀w,w.heap=K.w.heap->(Builtin.firstCells (n+1) k v).run P w=.ok news.toArray w)/\news.length=E.length*(n+1)/\(∀u∈news,u.oneCell'=true) /\
   (∀(j:Nat) (x:I),E.flatten[j]?=some x->∃u,news[j]?=some u/\VI K.w K.S u x):=by
 have zero:∀{a l c},v=.slice a l c->k=0->E=[]->E.length=k/\∃news:List Value,(∀w,w.heap=K.w.heap->(Builtin.firstCells (n+1) k v).run P w=.ok news.toArray w)/\news.length=E.length*(n+1)/\(∀u∈news,u.oneCell'=true) /\
   (∀(j:Nat) (x:I),E.flatten[j]?=some x->∃u,news[j]?=some u/\VI K.w K.S u x):=by
  rintro a l c rfl rfl rfl;exact⟨rfl,[],λw _=>aey w _ _ _ _,by simp,by simp,by simp⟩
 have cells:∀{b off l c}{news:List Value},v=.slice (some ⟨b,off,none⟩) l c->E.length=k->news.length=E.length*(n+1)->K.w.rangeAt b off news->(∀w,w.heap=K.w.heap->(Builtin.firstCells (n+1) k v).run P w=.ok news.toArray w):=by rintro b off l c news rfl hk hl hra w hw;refine run_firstCells_some (P:=P) w (n+1) k ⟨b,off,none⟩ l c news (by rw[hl,hk]) λj u hu'=>?_;rw[Addr.add_mid];have:=hra j u hu';rw[<- this];exact World.cell?_of_block (w:=K.w) (by rw[hw])
 have trunc:∀{b off' cap o sz off}{es0:List (List I)},VD K (.slice (some ⟨b,off',none⟩) k cap) (.os o sz off k)->aO H (.os o sz off k)=some E->(∃l c,v=.slice (some ⟨b,off',none⟩) l c)->E.length=k/\∃news:List Value,(∀w,w.heap=K.w.heap->(Builtin.firstCells (n+1) k v).run P w=.ok news.toArray w)/\news.length=E.length*(n+1)/\(∀u∈news,u.oneCell'=true) /\
   (∀(j:Nat) (x:I),E.flatten[j]?=some x->∃u,news[j]?=some u/\VI K.w K.S u x):=by
  rintro b off' cap o sz off es0 hv' he ⟨l,c,hvv⟩;obtain⟨a,cap',e1,news,g1,g2,g3,g4⟩:=elems_src hr hv' he hu;simp only[Value.slice.injEq]at e1;obtain⟨rfl,e1,rfl⟩:=e1;rcases g2 with rfl|⟨b2,off2,e2,g2⟩
  ·exact zero hvv (by simpa using e1) rfl
  ·simp only[Option.some.injEq,Addr.mk.injEq,and_true]at e2;obtain⟨rfl,rfl⟩:=e2;exact⟨e1.symm,news,cells hvv e1.symm g1 g2,g1,g3,g4⟩
 cases s with
 |i x =>
  cases x with
  |s u =>
   simp only[Bz]at h;split at h
   ·rename_i hc;obtain⟨hn,rfl⟩:=hc;obtain⟨a0,c0,e⟩:=nilS_eq hn;subst e;cases h;exact zero (conc_ok hv (v':=.slice a0 0 c0) rfl) rfl rfl
   ·cases h
  |sl es =>
   simp only[Bz]at h;split at h
   ·rename_i hle;cases h;have hlen:(es.take k).length=k:=by simp;omega
    cases hv.inv_i with
    |e a cap=>simp at hle;exact zero rfl hle (by simp)
    |sl b off cap sz _ f q1 q2 q3 q4 q5 q6 =>
     by_cases hk:k=0
     ·exact zero rfl hk (by simp[hk])
     have hss:sz=n+1:=by
      cases es with
      |nil=>simp at hle;exact absurd hle hk
      |cons x t =>
       cases k with
       |zero=>exact absurd rfl hk
       |succ k=>rw[<- hu x (by simp),q4 x (by simp)]
     subst hss;have hfl:=bA q4;have htk:k*(n+1)<=es.length*(n+1):=Nat.mul_le_mul_right _ hle;refine⟨hlen,(List.range (k*(n+1))).map f,cells rfl hlen (by rw[hlen];simp) (λj u hu'=>?_),by rw[hlen];simp,λu hu'=>?_,λj x hx=>?_⟩
     ·simp only[List.getElem?_map,Option.map_eq_some_iff]at hu';obtain⟨m,hm,rfl⟩:=hu';obtain⟨p1,p2⟩:=List.getElem?_eq_some_iff.1 hm;simp at p1 p2;subst p2;exact q5 j (es.flatten[j]'(by omega)) (by simp[show j<es.flatten.length by omega])
     ·simp only[List.mem_map,List.mem_range]at hu';obtain⟨m,hm,rfl⟩:=hu';exact(q6 m (es.flatten[m]'(by omega)) (by simp[show m<es.flatten.length by omega])).one
     ·rw[fV q4,List.getElem?_take]at hx;split at hx
      ·rename_i hj;exact⟨f j,by simp[hj],q6 j x hx⟩
      ·cases hx
   ·cases h
 |os o sz off len =>
  have he:k<=len/\aO H (.os o sz off k)=some E:=by
   simp only[Bz,aO]at h⊢;split at h
   ·split at h
    ·rename_i hc;obtain⟨rfl,c2,c3⟩:=hc;cases h;exact⟨c2,by simp[c3, *]⟩
    ·cases h
   ·split at h
    ·rename_i hc;obtain⟨rfl,c2,c3⟩:=hc;cases h;exact⟨c2,by simp[c3, *]⟩
    ·cases h
   ·cases h
  cases hv with
  |os _ _ _ _ b off' cap q1 q2 q3 q4 q5 =>exact trunc (es0:=[]) (.os o sz off k b off' cap q1 q2 (by omega) q4 q5) he.2 ⟨_,_,rfl⟩
  |os0 _ _ a =>
   have hk:k=0:=by omega
   subst hk;refine zero rfl rfl ?_;have:=he.2;simp only[aO]at this;split at this
   ·split at this<;>simp_all
   ·split at this<;>simp_all
   ·cases this
 |oc o sz off len c =>
  have he:k<=len/\aO H (.os o sz off k)=some E:=by
   simp only[Bz,aO]at h⊢;split at h
   ·split at h
    ·rename_i hc;obtain⟨rfl,c2,c3⟩:=hc;cases h;exact⟨c2,by simp[c3, *]⟩
    ·cases h
   ·split at h
    ·rename_i hc;obtain⟨rfl,c2,c3⟩:=hc;cases h;exact⟨c2,by simp[c3, *]⟩
    ·cases h
   ·cases h
  cases hv with
  |oc _ _ _ _ _ b off' q1 q2 q3 q4 q5 =>exact trunc (es0:=[]) (.os o sz off k b off' c q1 q2 (by omega) q4 q5) he.2 ⟨_,_,rfl⟩
 |_=>simp[Bz]at h
theorem lenS_ok {v:Value}{s:D}{ls:Nat}(hv:VD K v s)(h:Ua s=some ls):(∃a c,v=.slice a ls c):=by
 cases s with
 |i x =>
  cases x with
  |s u =>
   simp only[Ua]at h;split at h
   ·rename_i hn;obtain⟨a0,c0,e⟩:=nilS_eq hn;subst e;cases h;exact⟨a0,c0,conc_ok hv (v':=.slice a0 0 c0) rfl⟩
   ·cases h
  |sl es =>
   simp only[Ua,Option.some.injEq]at h;subst h;cases hv.inv_i with
   |e a cap=>exact⟨a,cap,rfl⟩
   |sl=>exact⟨_,_,rfl⟩
 |os o sz off len=>simp only[Ua,Option.some.injEq]at h;subst h;cases hv<;>exact⟨_,_,rfl⟩
 |oc o sz off len c=>simp only[Ua,Option.some.injEq]at h;subst h;cases hv;exact⟨_,_,rfl⟩
 |_=>simp[Ua]at h
theorem Gn {t tx ty e:TypeId}{n dl dc ls sc:Nat}{w w':World}(ht:aG P t=some (.slice e))(hs:iE P e=some (n+1)){base a:Option Addr}{news:List Value}
  (hf:(Builtin.firstCells (n+1) (min ls dl) (.slice a ls sc)).run P w=.ok news.toArray w) (hst:(match base with|some a=>(storeCells a news).run P w|none=>.ok () w)=.ok () w'):
  (Builtin.copy_ #[t,tx] ty #[.slice base dl dc,.slice a ls sc]).run P w=.ok (.int .i64 (min ls dl:Nat)) w':=by
 cases base with
 |none =>simp only[Result.ok.injEq,true_and]at hst;subst hst;simp[Builtin.copy_,und_run ht,fD hs,Builtin.lenOf,hf,goInt]
 |some b=>simp[Builtin.copy_,und_run ht,fD hs,Builtin.lenOf,hf,hst,goInt]
theorem cp_ok (hr:HR w0 T K H){vd vs:Value}{d s:D}{t tx ty:TypeId}(hd:VD K vd d)(hs:VD K vs s){r:D}{H':Nat->Ob}(h:cpX P t d s H=some (r,H')):
  ∃v K',(Builtin.copy_ #[t,tx] ty #[vd,vs]).run P K.w=.ok v K'.w/\Ext K K'/\HR w0 T K' H'/\VD K' v r:=by
 unfold cpX at h;split at h
 ·rename_i e hu;split at h
  ·rename_i n o sz off len ls hsz hdx hls;split at h
   ·rename_i E sz' es hE ho;split at h
    ·rename_i hc;obtain⟨rfl,rfl,hun,hoff⟩:=hc;simp only[Option.some.injEq,Prod.mk.injEq]at h;obtain⟨rfl,rfl⟩:=h;obtain⟨hEl,news,n1,n2,n3,n4⟩:=src_cells (P:=P) hr hs hE (uni_all hun);obtain⟨base,cap,rfl,hcap,hplace⟩:=dst_inv hd hdx;obtain⟨a,c,rfl⟩:=lenS_ok hs hls;have hf:=n1 K.w rfl;by_cases hz:E=[]
     ·subst hz;have:news=[]:=List.eq_nil_of_length_eq_zero (by simpa using n2);subst this;refine⟨_,K,Gn hu hsz hf (by cases base<;>rfl),Ext.refl K,lZ hr ho,.i (.s _ rfl)⟩
     ·have hpos:0<E.length:=List.length_pos_iff.2 hz;rcases hplace with h0|⟨b,rfl,hμ,hfit⟩
      ·omega
      ·have hEc:E.length*(n+1)<=cap*(n+1):=Nat.mul_le_mul_right _ (by omega);obtain⟨K',k1,k2,k3,_⟩:=put_cells (P:=P) hr ho hμ (uni_all hun) hoff (by omega) n2 n3 n4;exact⟨_,K',Gn hu hsz hf k1,k2,k3,.i (.s _ rfl)⟩
    ·cases h
   ·cases h
  ·cases h
 ·cases h
theorem zc_conv {zv:Value}{z:List D}{xs:List I}(hz:z=zv.cells.toList.map (λc=>.i (.s c)))(h:z.mapM (eu H)=some xs):xs=zv.cells.toList.map (λc=>Od (I.s c)):=by
 subst hz;obtain⟨m1,m2⟩:=mapM_get h;apply List.ext_getElem?;intro j;by_cases hj:j<zv.cells.size
 ·obtain⟨b,hb1,hb2⟩:=m2 j (.i (.s zv.cells[j])) (by simp[hj]);simp[eu]at hb2;subst hb2;rw[hb1];simp[hj]
 ·simp only[List.length_map,Array.length_toList]at m1;simp[show xs[j]?=none by simp;omega,show ¬j<zv.cells.size from hj]
theorem zero_cells {zv:Value}{n len:Nat}{xs:List I}(hzl:zv.cells.size=n+1)(h1:∀c∈zv.cells,c.oneCell'=true)(hxs:xs=zv.cells.toList.map (λc=>Od (I.s c))):
  (∀x∈List.replicate len xs,x.length=n+1)/\(Builtin.zeroCells zv.cells len).toList.length=(List.replicate len xs).length*(n+1)/\(∀u∈(Builtin.zeroCells zv.cells len).toList,u.oneCell'=true) /\
   (∀(j:Nat) (x:I),(List.replicate len xs).flatten[j]?=some x->∃u,(Builtin.zeroCells zv.cells len).toList[j]?=some u/\VI K.w K.S u x):=by
 have hxl:xs.length=n+1:=by rw[hxs];simpa using hzl
 have hu:∀x∈List.replicate len xs,x.length=n+1:=λx hx=>by rw[List.eq_of_mem_replicate hx];exact hxl
 have hsz:(Builtin.zeroCells zv.cells len).size=len*(n+1):=by rw[size_zeroCells,hzl]
 have hget:∀j (hj:j<len*(n+1)),(Builtin.zeroCells zv.cells len)[j]'(by omega)=zv.cells[j%(n+1)]'(by rw[hzl];exact Nat.mod_lt _ (Nat.succ_pos _)):=by intro j hj;simp only[Builtin.zeroCells,Array.getElem_map,Array.getElem_range,hzl];exact getElem!_pos zv.cells _ (by rw[hzl];exact Nat.mod_lt _ (Nat.succ_pos _))
 refine⟨hu,by simp[hsz],λu hu'=>?_,λj x hx=>?_⟩
 ·obtain⟨j,hj,rfl⟩:=List.mem_iff_getElem.1 hu';simp only[Array.length_toList]at hj;rw[Array.getElem_toList,hget j (by omega)];exact h1 _ (Array.getElem_mem _)
 ·obtain⟨y,hy1,hy2⟩:=flatten_get' (Nat.succ_pos _) hu hx;have hlt:=(List.getElem?_eq_some_iff.1 hx).1;rw[bA hu,List.length_replicate]at hlt;have hy:y=xs:=by have:=List.mem_of_getElem? hy1;exact List.eq_of_mem_replicate this
  subst hy;have hm:j%(n+1)<zv.cells.size:=by rw[hzl];exact Nat.mod_lt _ (Nat.succ_pos _)
  refine⟨zv.cells[j%(n+1)],?_,?_⟩
  ·rw[Array.getElem?_toList,Array.getElem?_eq_getElem (by omega),hget j hlt]
  ·rw[hxs]at hy2;simp[hm]at hy2;rw[<- hy2];exact N_ (.s _ (h1 _ (Array.getElem_mem hm)))
theorem cl_ok (hr:HR w0 T K H){vd:Value}{d:D}{t ty:TypeId}(hd:VD K vd d){r:D}{H':Nat->Ob}(h:clX P t d H=some (r,H')):
  ∃v K',(Builtin.clear_ #[t] ty #[vd]).run P K.w=.ok v K'.w/\Ext K K'/\HR w0 T K' H'/\VD K' v r:=by
 unfold clX at h;split at h
 ·rename_i e hu;split at h
  ·rename_i n o sz off len z hsz hdx hz;split at h
   ·rename_i xs sz' es hxs ho;split at h
    ·rename_i hc;obtain⟨rfl,rfl,hzn,hoff⟩:=hc;simp only[Option.some.injEq,Prod.mk.injEq]at h;obtain⟨rfl,rfl⟩:=h;obtain⟨zv,z1,rfl,z3⟩:=zcells_ok hz;have hzl:zv.cells.size=n+1:=by simpa using hzn
     obtain⟨base,cap,rfl,hcap,hplace⟩:=dst_inv hd hdx;have hun:VD K (.tuple #[]) .un:=.un;obtain⟨c1,c2,c3,c4⟩:=zero_cells (K:=K) (len:=len) hzl z3 (zc_conv rfl hxs);rcases hplace with rfl|⟨b,rfl,hμ,hfit⟩
     ·refine⟨.tuple #[],K,?_,Ext.refl K,lZ hr ho,hun⟩;cases base<;>simp[Builtin.clear_,und_run hu]
     ·by_cases hl0:len=0
      ·subst hl0;refine⟨.tuple #[],K,?_,Ext.refl K,lZ hr ho,hun⟩;simp[Builtin.clear_,und_run hu]
      ·have hEc:len*(n+1)<=cap*(n+1):=Nat.mul_le_mul_right _ hcap;obtain⟨K',k1,k2,k3,_⟩:=put_cells (P:=P) hr ho hμ c1 hoff (by rw[List.length_replicate];omega) c2 c3 c4;refine⟨.tuple #[],K',?_,k2,k3,.un⟩;obtain⟨m,rfl⟩:∃m,len=m+1:=⟨len-1,by omega⟩
       simp[Builtin.clear_,und_run hu,yM z1,k1]
    ·cases h
   ·cases h
  ·cases h
 ·cases h
theorem numO_ok {lo:Option Operand}(hρ:∀x,VD K (ρ x) (evA sl x)){dflt l:Nat}(h:RS dflt (lo.map λx=>dO (evA sl x))=some l):(lo=none/\l=dflt)\/∃k,lo.map ρ=some (.int k (l:Int)):=by
 cases lo with
 |none=>simp[RS]at h;exact .inl ⟨rfl,h.symm⟩
 |some x =>
  simp only[Option.map_some,RS]at h;split at h
  ·rename_i heq;cases heq
  ·rename_i k n hk;simp only[Option.some.injEq]at hk;split at h
   ·rename_i h0;cases h;exact .inr ⟨k,by simp[conc_ok (hρ x) hk,Int.toNat_of_nonneg h0]⟩
   ·cases h
  ·cases h
theorem abw {lo:Option Operand}(hρ:∀x,VD K (ρ x) (evA sl x)){k:IntKind}{l:Int}(h:(lo.map λx=>dO (evA sl x))=some (some (.int k l))):lo.map ρ=some (.int k l):=by
 cases lo with
 |none=>simp at h
 |some x=>simp at h;simp[conc_ok (hρ x) h]
theorem wW {lo hi mx:Option Value}{l h m len cap:Nat}{w:World}(hlo:(lo=none/\l=0)\/∃k,lo=some (.int k (l:Int)))(hhi:(hi=none/\h=len)\/∃k,hi=some (.int k (h:Int)))
  (hmx:(mx=none/\m=cap)\/∃k,mx=some (.int k (m:Int))) (hn:mx=none\/hi≠none) (h1:l<=h) (h2:h<=m) (h3:m<=cap):(Instr.sliceBounds true len cap lo hi mx).run P w=.ok (l,h,m) w:=by
 unfold Instr.sliceBounds;rcases hlo with⟨rfl,rfl⟩|⟨k,rfl⟩<;>rcases hhi with⟨rfl,rfl⟩|⟨k',rfl⟩<;>rcases hmx with⟨rfl,rfl⟩|⟨k'',rfl⟩<;>simp[Instr.sliceBound,asIntOf]at hn⊢ <;> (try rw[if_pos (by omega)])<;>(try simp)<;>(try rw[if_pos (by omega)])<;>(try simp)<;>(try rw[if_pos (by omega)])<;>(try simp)<;>(try omega)
theorem slX_ok (hρ:∀x,VD K (ρ x) (evA sl x)){t:TypeId}{x:Operand}{lo hi mx:Option Operand}{d:D}
  (h:slX P t (evA sl x) (lo.map λx=>dO (evA sl x)) (hi.map λx=>dO (evA sl x)) (mx.map λx=>dO (evA sl x))=some d):
  ∃v,(Instr.sliceAt t (ρ x) (lo.map ρ) (hi.map ρ) (mx.map ρ)).run P K.w=.ok v K.w/\VD K v d:=by
 have hx:=hρ x;unfold slX at h;split at h
 ·rename_i e hu;split at h
  ·rename_i s hs;split at h
   ·rename_i o sz off len cap hd;rw[hd]at hx;split at h
    ·rename_i l hh m hl hhi hm;split at h
     ·rename_i hc;obtain⟨rfl,c1,c2,c3,c4⟩:=hc;simp only[Option.some.injEq]at h;subst h;generalize hv:ρ x=v at hx;cases hx with
      |oc _ _ _ _ _ b off' q1 q2 q3 q4 q5 =>
       have hb:=wW (P:=P) (w:=K.w) (lo:=lo.map ρ) (hi:=hi.map ρ) (mx:=mx.map ρ) (l:=l) (h:=hh) (m:=m) (len:=len) (cap:=cap)
        (by rcases numO_ok hρ hl with⟨a,b⟩|⟨k,a⟩;exact .inl ⟨by rw[a];rfl,b⟩;exact .inr ⟨k,a⟩)
        (by rcases numO_ok hρ hhi with⟨a,b⟩|⟨k,a⟩;exact .inl ⟨by rw[a];rfl,b⟩;exact .inr ⟨k,a⟩)
        (by rcases numO_ok hρ hm with⟨a,b⟩|⟨k,a⟩;exact .inl ⟨by rw[a];rfl,b⟩;exact .inr ⟨k,a⟩)
        (by rcases c4 with c4|c4
            ·left;cases mx<;>simp at c4⊢
            ·right;cases hi<;>simp at c4⊢) c1 c2 c3
       refine⟨_,by simp[Instr.sliceAt,Instr.slice,und_run hu,fD hs,hb];rfl,?_⟩;by_cases hml:m=l
       ·subst hml;simp only[if_pos];exact .oc o s _ _ _ b off' q1 q2 (by omega) (.inr (by omega)) (by rw[Nat.sub_self,Nat.zero_mul];omega)
       ·rw[if_neg hml];have hadd:(⟨b,off',none⟩:Addr).add (l*s)=⟨b,off'+l*s,none⟩:=by rw[Addr.add_mid]
        simp only[Option.map_some,hadd];refine .oc o s _ _ _ b _ q1 q2 (by omega) ?_ ?_
        ·rcases q4 with q4|q4
         ·exact .inl (by rw[q4,Nat.add_mul])
         ·omega
        ·have:l*s+(m-l)*s=m*s:=by rw[<- Nat.add_mul];congr 1;omega
         have:m*s<=cap*s:=Nat.mul_le_mul_right _ c3;omega
     ·cases h
    ·cases h
   ·rename_i o sz off len hd;rw[hd]at hx;split at h
    ·rename_i l k hh k' m hl hhi hm;split at h
     ·rename_i hc;obtain⟨rfl,c0,c1,c2,c3⟩:=hc;simp only[Option.some.injEq]at h;subst h;generalize hv:ρ x=v at hx;have hb:=λcap (hcap:len<=cap)=>wW (P:=P) (w:=K.w) (lo:=lo.map ρ) (hi:=hi.map ρ) (mx:=mx.map ρ) (l:=l) (h:=hh.toNat) (m:=m.toNat) (len:=len) (cap:=cap)
        (by rcases numO_ok hρ hl with⟨a,b⟩|⟨k,a⟩;exact .inl ⟨by rw[a];rfl,b⟩;exact .inr ⟨k,a⟩)
        (.inr ⟨k,by rw[abw hρ hhi,Int.toNat_of_nonneg c0]⟩) (.inr ⟨k',by rw[abw hρ hm,Int.toNat_of_nonneg (by omega)]⟩) (.inr (by rw[abw hρ hhi];simp)) c1 (by omega) (by omega)
      cases hx with
      |os _ _ _ _ b off' cap q1 q2 q3 q4 q5 =>
       refine⟨_,by simp[Instr.sliceAt,Instr.slice,und_run hu,fD hs,hb cap q3];rfl,?_⟩;by_cases hml:m.toNat=l
       ·rw[if_pos hml];have hz0:m.toNat-l=0:=by omega
        exact .os o s _ _ b off' _ q1 q2 (by omega) (.inr (by omega)) (by rw[hz0,Nat.zero_mul];omega)
       ·rw[if_neg hml];have hadd:(⟨b,off',none⟩:Addr).add (l*s)=⟨b,off'+l*s,none⟩:=by rw[Addr.add_mid]
        simp only[Option.map_some,hadd];refine .os o s _ _ b _ _ q1 q2 (by omega) ?_ ?_
        ·rcases q4 with q4|q4
         ·exact .inl (by rw[q4,Nat.add_mul])
         ·omega
        ·have:l*s+(m.toNat-l)*s=m.toNat*s:=by rw[<- Nat.add_mul];congr 1;omega
         have:m.toNat*s<=cap*s:=Nat.mul_le_mul_right _ (by omega);omega
      |os0 _ _ a =>
       have h0:m.toNat=0/\l=0/\hh.toNat=0:=by omega
       obtain⟨m0,rfl,hh0⟩:=h0;refine⟨_,by simp[Instr.sliceAt,Instr.slice,und_run hu,fD hs,hb 0 (Nat.le_refl _)];rfl,?_⟩;have e:=VD.os0 (K:=K) o s a;simpa[m0,hh0,show m<=0 by omega]using e
     ·cases h
    ·cases h
   ·rename_i es hd;rw[hd]at hx;split at h
    ·rename_i k k' hl hhi hm;simp only[Option.some.injEq]at h;subst h;generalize hv:ρ x=v at hx;have hsl:∃a n c,v=.slice a n c:=by
      cases hx.inv_i with
      |e a cap=>exact⟨_,_,_,rfl⟩
      |sl=>exact⟨_,_,_,rfl⟩
     obtain⟨a,n,c,rfl⟩:=hsl;have hb:=wW (P:=P) (w:=K.w) (lo:=lo.map ρ) (hi:=hi.map ρ) (mx:=mx.map ρ) (l:=0) (h:=0) (m:=0) (len:=n) (cap:=c)
      (by rcases numO_ok hρ hl with⟨a,b⟩|⟨k,a⟩;exact .inl ⟨by rw[a];rfl,b⟩;exact .inr ⟨k,a⟩)
      (.inr ⟨k,by rw[abw hρ hhi];rfl⟩) (.inr ⟨k',by rw[abw hρ hm];rfl⟩) (.inr (by rw[abw hρ hhi];simp)) (Nat.le_refl _) (Nat.le_refl _) (Nat.zero_le _)
     exact⟨.slice a 0 0,by simp[Instr.sliceAt,Instr.slice,und_run hu,fD hs,hb],.z a⟩
    ·cases h
   ·cases h
  ·cases h
 ·cases h
theorem ng (w:World)(t tn ty e:TypeId)(i:TypeInfo)(z:Value)(k kn:IntKind)(ht:P.underlying t=some (.slice e))(htn:P.underlying tn=some (.int kn))(hi:P.info? e=some i)(hz:i.zero=some z)(base:Option Addr)(sLen sCap:Nat)(olds:List Value)
  (hold:(Builtin.firstCells i.size sLen (.slice base sLen sCap)).run P w.drew=.ok olds.toArray w.drew) (n:Nat) (h0:0<n) (hs:0<i.size) (hg:sCap<sLen+n) (h63:((sLen+n:Nat):Int)<=9223372036854775807) (h48:n*i.bytes<=281474976710656)
  (hfit:Builtin.nextslicecap (sLen+n) sCap*i.bytes<=281474976710656):
  (Builtin.append_ #[t,tn] ty #[.slice base sLen sCap,.int k n]).run P w =
   .ok (.slice (some ⟨w.heap.size,0,none⟩) (sLen+n) (grownCap w (sLen+n) sCap e)) (w.drew.alloc (.cells ((olds++(Builtin.zeroCells z.cells n).toList).toArray++Builtin.zeroCells z.cells (grownCap w (sLen+n) sCap e-(sLen+n))) e)):=by
 have hn:¬(sLen+n<=sCap):=by omega
 have hw:IntKind.i64.wrap (n:Int)=n:=by rw[IntKind.wrap_i64];omega
 have h63':¬(9223372036854775807<((sLen:Int)+(n:Int))):=by omega
 have h48':¬(281474976710656<Builtin.nextslicecap (sLen+n) sCap*i.bytes):=by omega
 have h48i:¬(281474976710656<(n:Int)*(i.bytes:Int)):=by rw[<- Int.natCast_mul];omega
 have hneg:¬((n:Int)<0):=by omega
 have hn0:n≠0:=by omega
 have hns:¬(n*i.size=0):=Nat.mul_ne_zero hn0 (by omega);simp[Builtin.append_,run_underlying ht,run_underlying htn,sizeOf,typeInfo,zeroValue,hi,hz,asInt,asIntOf,hw,hn,hn0,hneg,hns,h63',h48',h48i,Question.forced,hold,newRow,grownCap];congr 2;apply Array.ext';simp[List.append_assoc]
theorem ap_ok (hr:HR w0 T K H){vs vx:Value}{s x:D}{t tx ty:TypeId}{id:Nat}(hs:VD K vs s)(hx:VD K vx x){r:D}{H':Nat->Ob}(h:apX P t tx s x H id=some (r,H')):
  ∃v K',(Builtin.append_ #[t,tx] ty #[vs,vx]).run P K.w=.ok v K'.w/\Ext K K'/\HR w0 T K' H'/\VD K' v r:=by
 unfold apX at h;split at h
 ·rename_i e hu hf;split at h
  ·rename_i n by_ z hsz hbb hz;split at h
   ·rename_i hzn;obtain⟨i,hi,hisz⟩:=szOf_info hsz;have hby:=sw hi hbb;obtain⟨zv,z1,rfl,z3⟩:=zcells_ok hz;have hzi:=mQ hi z1;have hzl:zv.cells.size=n+1:=by simpa using hzn
    have hu':=hu;rw[gu]at hu;split at h
    ·
     split at h
     ·rename_i e' new htx hnew;split at h
      ·rename_i hc;obtain⟨c1,c2,c3⟩:=hc;simp only[Option.some.injEq,Prod.mk.injEq]at h;obtain⟨rfl,rfl⟩:=h;cases hs with
       |z a=>exact append_nil (P:=P) hr hf (ty:=ty) hu hi hisz hby hzi hzl (uni_all c1) (Bw hr hx hnew (uni_all c1) htx) c2 c3 a
      ·cases h
     ·cases h
    ·rename_i o sz off len cap;split at h
     ·
      rename_i k' sz' es htx ho;split at h
      ·rename_i k xs hk hxs;split at h
       ·rename_i hc;obtain⟨rfl,rfl,c0,c1,c2,c3,c4⟩:=hc;simp only[Option.some.injEq,Prod.mk.injEq]at h;obtain⟨rfl,rfl⟩:=h;have hvx:=conc_ok hx hk;obtain⟨hz0,heu,h3⟩:=hr.get ho;cases hs with
        |oc _ _ _ _ _ b off' q1 q2 q3 q4 q5 =>
        rcases h3 with⟨h3,_⟩|⟨b',row,e',h3,h4,h5,h6,h7,h8⟩
        ·rw[h3]at q1;cases q1
        rw[q1]at h3;cases h3;rw[fG h4]at q5;have hkn:((k.toNat:Nat):Int)=k:=Int.toNat_of_nonneg c0;have hpos:0<k.toNat:=by omega
        obtain⟨g1,g2,g3,g4⟩:=zero_cells (K:=K) (len:=k.toNat) hzl z3 (zc_conv rfl hxs);have hel:((es.drop off).take len).length=len:=by simp;omega
        have heu':∀y∈(es.drop off).take len,y.length=n+1:=λy hy=>heu y (List.mem_of_mem_drop (List.mem_of_mem_take hy));have hoff:off'=off*(n+1)\/len=0:=by rcases q4 with q4|q4;exact .inl q4;exact .inr (by omega)
        have hcm:len*(n+1)<=cap*(n+1):=Nat.mul_le_mul_right _ q3;have hol:((row.toList.drop off').take (len*(n+1))).length=len*(n+1):=by simp;omega
        have hold:∀w:World,w.heap=K.w.heap->(Builtin.firstCells i.size len (.slice (some ⟨b,off',none⟩) len cap)).run P w=.ok ((row.toList.drop off').take (len*(n+1))).toArray w:=λw hw=>by
         rw[hisz];refine run_firstCells_some (P:=P) w (n+1) len ⟨b,off',none⟩ len cap _ hol λj u hu2=>?_;rw[Addr.add_mid];rw[List.getElem?_take]at hu2;split at hu2
         ·rw[List.getElem?_drop]at hu2;have:w.cell? ⟨b,off'+j,none⟩=K.w.cell? ⟨b,off'+j,none⟩:=World.cell?_of_block (w:=K.w) (by rw[hw]);rw[this,cell_of_row K.w b _ row e' _ h4];simpa using hu2
         ·cases hu2
        have hrun:=ng (P:=P) K.w t tx ty e i zv .i64 k' hu (by rw[<- gu];exact htx) hi hzi (some ⟨b,off',none⟩) len cap _ (hold K.w.drew rfl) k.toNat hpos (by omega) c2 (by omega)
         (by rw[hby];have:k.toNat*by_<=(len+k.toNat)*by_:=Nat.mul_le_mul_right _ (by omega)
             omega) (growslice_fits c2 (by rw[hby];exact c3))
        rw[hkn]at hrun;have hr':HR w0 T (K.world K.w.drew) H:=hr.world rfl rfl rfl rfl;have he':Ext K (K.world K.w.drew):=Ext.world rfl;have hcap:=grownCap_ge K.w (len+k.toNat) cap e;generalize hzc:(Builtin.zeroCells zv.cells k.toNat).toList=zc at*;generalize hoo:(row.toList.drop off').take (len*(n+1))=olds at*;have hzcl:zc.length=k.toNat*(n+1):=by rw[g2,List.length_replicate]
        have hrowsz:((olds++zc).toArray++Builtin.zeroCells zv.cells (grownCap K.w (len+k.toNat) cap e-(len+k.toNat))).size=grownCap K.w (len+k.toNat) cap e*(n+1):=by rw[Array.size_append,size_zeroCells,hzl];simp only[List.size_toArray,List.length_append,hol,hzcl];rw[<- Nat.add_mul,<- Nat.add_mul];congr 1;omega
        have hun:∀y∈(es.drop off).take len++List.replicate k.toNat xs,y.length=n+1:=λy hy=>by rcases List.mem_append.1 hy with h|h;exact heu' y h;exact g1 y h
        have hbase:((es.drop off).take len++List.replicate k.toNat xs).length*(n+1)<=grownCap K.w (len+k.toNat) cap e*(n+1):=Nat.mul_le_mul_right _ (by rw[List.length_append,hel,List.length_replicate];exact hcap);obtain⟨a1,a2,a3⟩:=newArr (K:=K.world K.w.drew) hr' (id:=id) hf e (row:=(olds++zc).toArray++Builtin.zeroCells zv.cells (grownCap K.w (len+k.toNat) cap e-(len+k.toNat))) (sz:=n+1) (es:=(es.drop off).take len++List.replicate k.toNat xs) (Nat.succ_pos _) hun (by rw[hrowsz];exact hbase) (λj y hy=>by
         have hj:j<(olds++zc).length:=by have:=(List.getElem?_eq_some_iff.1 hy).1;rw[bA hun,List.length_append,hel,List.length_replicate,Nat.add_mul]at this;rw[List.length_append,hol,hzcl];exact this
         have hget:((olds++zc).toArray++Builtin.zeroCells zv.cells (grownCap K.w (len+k.toNat) cap e-(len+k.toNat))).getD j undef=(olds++zc).getD j undef:=by rw[Array.getD_eq_getD_getElem?,Array.getElem?_append_left (by simpa using hj),List.getD_eq_getElem?_getD];simp
         rw[hget];rcases flat_append heu' hy with⟨p1,p2⟩|⟨p1,p2⟩
         ·rw[hel]at p1;have hof:off'=off*(n+1):=hoff.resolve_right (by intro h0;rw[h0]at p1;omega);subst hof;rw[List.getD_eq_getElem?_getD,List.getElem?_append_left (by omega),<- hoo,List.getElem?_take,if_pos p1,List.getElem?_drop];rw[fV (sz:=n+1) (λe he=>heu e (List.mem_of_mem_drop he)),iW heu,List.getElem?_take,if_pos p1,List.getElem?_drop]at p2;have:=h6 _ y p2;have hlt:off*(n+1)+j<row.size:=by omega
          rw[gD hlt]at this;rw[show row.toList[off*(n+1)+j]?=some row[off*(n+1)+j] by simp[hlt]];exact this.ext he'
         ·rw[hel]at p1 p2;obtain⟨u,hu1,hu2⟩:=g4 _ y p2;rw[List.getD_eq_getElem?_getD,List.getElem?_append_right (by omega),hol,hu1];exact hu2.ext he') (len+k.toNat) (grownCap K.w (len+k.toNat) cap e) hcap (by rw[hrowsz];exact Nat.le_refl _)
        rw[hvx];exact⟨_,_,hrun,he'.trans a1,a2,a3⟩
       ·cases h
      ·cases h
     ·
      rename_i e'' sz' es htx ho;split at h
      ·rename_i ls hls;split at h
       ·rename_i new hnew;split at h
        ·rename_i hc;obtain⟨rfl,rfl,c1,c2,c3⟩:=hc;simp only[Option.some.injEq,Prod.mk.injEq]at h;obtain⟨rfl,rfl⟩:=h;obtain⟨hEl,news,n1,n2,n3,n4⟩:=src_cells (P:=P) hr hx hnew (uni_all c1);obtain⟨a,c,rfl⟩:=lenS_ok hx hls;cases hs with
         |oc _ _ _ _ _ b off' q1 q2 q3 q4 q5 =>
         have hlen0:(Builtin.lenOf (.slice a ls c)).run P K.w=.ok ls K.w:=rfl;have hff:(Builtin.firstCells i.size ls (.slice a ls c)).run P K.w=.ok news.toArray K.w:=by rw[hisz];exact n1 K.w rfl
         by_cases hz:new=[]
         ·subst hz;have hn0:news=[]:=List.eq_nil_of_length_eq_zero (by simpa using n2);subst hn0;have h0:ls=0:=by simpa using hEl.symm
          subst h0;refine⟨.slice (some ⟨b,off',none⟩) len cap,K,?_,Ext.refl K,lZ hr ho,.oc _ _ _ _ _ b off' q1 q2 q3 q4 q5⟩;simp[Builtin.append_,und_run hu',und_run htx,sizeOf,typeInfo,hi,Builtin.lenOf,hff,storeCells,show len<=cap from q3]
         ·have hpos:0<new.length:=List.length_pos_iff.2 hz;have hof:off'=off*(n+1):=q4.resolve_right (by omega);subst hof;have hEc:(len+new.length)*(n+1)<=cap*(n+1):=Nat.mul_le_mul_right _ (by omega);obtain⟨K',k1,k2,k3,k4⟩:=put_cells (P:=P) hr ho q1 (off:=off+len) (uni_all c1) c2 (by rw[<- Nat.add_mul,Nat.add_assoc,Nat.add_mul];omega) n2 n3 n4;have hadd:(⟨b,off*(n+1),none⟩:Addr).add (len*(n+1))=⟨b,(off+len)*(n+1),none⟩:=by rw[Addr.add_mid,Nat.add_mul]
          refine⟨.slice (some ⟨b,off*(n+1),none⟩) (len+ls) cap,K',?_,k2,k3,VD.ext k2 (.oc _ _ _ _ _ b _ q1 q2 c3 (.inl rfl) q5)⟩;simp[Builtin.append_,und_run hu',und_run htx,sizeOf,typeInfo,hi,hisz,Builtin.lenOf,show(Builtin.firstCells (n+1) ls (.slice a ls c)).run P K.w=_ from n1 K.w rfl,c3,hadd,k1]
        ·cases h
       ·cases h
      ·cases h
     ·cases h
    ·cases h
   ·cases h
  ·cases h
 ·cases h
theorem two_inv {α:Type}{l:List D}{k:List TypeId}{f:D->D->TypeId->TypeId->Option α}{r:α}(h:two l k f=some r):∃a b t u,l=[a,b]/\k=[t,u]/\f a b t u=some r:=by
 unfold two at h;split at h
 ·exact⟨_,_,_,_,rfl,rfl,h⟩
 ·cases h
theorem one_inv {α:Type}{l:List D}{k:List TypeId}{f:D->TypeId->Option α}{r:α}(h:one l k f=some r):∃a t,l=[a]/\k=[t]/\f a t=some r:=by
 unfold one at h;split at h
 ·exact⟨_,_,rfl,rfl,h⟩
 ·cases h
theorem arr2 {α β:Type}{args:Array α}{g:α->β}{a b:β}(h:args.toList.map g=[a,b]):∃x y,args=#[x,y]/\g x=a/\g y=b:=by
 obtain⟨l⟩:=args
 match l,h with
 |[p,q],h=>simp at h;exact⟨p,q,rfl,h.1,h.2⟩
theorem arr1 {α β:Type}{args:Array α}{g:α->β}{a:β}(h:args.toList.map g=[a]):∃x,args=#[x]/\g x=a:=by
 obtain⟨l⟩:=args
 match l,h with
 |[p],h=>simp at h;exact⟨p,rfl,h⟩
theorem BK {w:World}{r pos:Nat}{s:ByteArray}(h:w.heap[r]?=some (.stringIter s pos)):(getObj r).run P w=.ok (.stringIter s pos) w:=by simp[getObj,Sem.run,h]
theorem MX {w:World} {r pos:Nat} {s:ByteArray} (o:Obj) (h:w.heap[r]?=some (.stringIter s pos)):(setObj r o).run P w=.ok () { w with heap:=w.heap.setIfInBounds r o }:=by simp [setObj,Sem.run,h]
def Ctx.put (K:Ctx)(b:Nat)(o:Obj):Ctx:=⟨{K.w with heap:=K.w.heap.setIfInBounds b o},K.S,K.μ⟩
theorem qz {w:World}{b k:Nat}{o:Obj}(h:k≠b):({w with heap:=w.heap.setIfInBounds b o}:World).heap[k]?=w.heap[k]?:=by simp only[Array.getElem?_setIfInBounds];rw[if_neg (λe=>h e.symm)]
theorem Gz {w:World}{b:Nat}{o:Obj}(h:b<w.heap.size):({w with heap:=w.heap.setIfInBounds b o}:World).heap[b]?=some o:=by simp only[Array.getElem?_setIfInBounds];simp[h]
theorem HR.swap (hr:HR w0 T K H){o b:Nat}{ob:Obj}{x:Ob}(hown:(H o).own)(hb:K.μ o=some b)(hrs:dR (K.put b ob).w b=dR K.w b)(hx:¬K.S b->(w0.w.heap.size<=b\/T b)->ObR w0 T (K.put b ob) o x):
  Ext K (K.put b ob)/\HR w0 T (K.put b ob) (upd H o x):=by
 obtain⟨_,_,_,a3,a4⟩:=hr.place hown hb;have he:Ext K (K.put b ob) :=
  ⟨λ_ h=>h,λk hk j=>World.cell?_of_block (w:=K.w) (qz (λe=>a3 (e▸hk))),λ_ _ h=>h,λo' k hk=>by
   by_cases e:k=b
   ·subst e;exact hrs
   ·exact fe (qz e)⟩
 refine⟨he,hr.g0,hr.os,hr.tape,hr.output,?_,λk hk hT=>?_,λk hk=>?_,hr.sN,λo' k hk=>?_,λo'=>?_,λo1 o2 k h1 h2 g1 g2=>?_⟩
 ·simp only[Ctx.put,Array.size_setIfInBounds];exact hr.size
 ·refine(qz (λe=>?_)).trans (hr.block k hk hT);subst e;rcases a4 with h|h
  ·omega
  ·exact hT h
 ·simp only[Ctx.put,Array.size_setIfInBounds];exact hr.sB k hk
 ·simp only[Ctx.put,Array.size_setIfInBounds];exact hr.mB o' k hk
 ·by_cases h:o'=o
  ·subst h;rw[upd_same];exact hx a3 a4
  ·rw[upd_ne _ _ h];refine(hr.ob o').ext he (λhn=>hn) (λk hk hk'=>⟨qz (λe=>?_),?_⟩)
   ·subst e;exact h (hr.inj o' o k hk hown hk' hb)
   ·obtain⟨_,_,_,q,_⟩:=hr.place hk hk';exact q
 ·have key:∀{o'},(upd H o x o').own->(H o').own:=by
   intro o' h;by_cases e:o'=o
   ·subst e;exact hown
   ·rw[upd_ne _ _ e]at h;exact h
  exact hr.inj o1 o2 k (key h1) (key h2) g1 g2
theorem HR.iter (hr:HR w0 T K H){o b pos pos':Nat}{s:ByteArray}(ho:H o=.it s pos)(hb:K.μ o=some b):
  K.w.heap[b]?=some (.stringIter s pos)/\Ext K (K.put b (.stringIter s pos'))/\HR w0 T (K.put b (.stringIter s pos')) (upd H o (.it s pos')):=by
 obtain⟨b',a1,a2,a3,a4⟩:=hr.get ho;obtain rfl:b'=b:=by rw[hb]at a1;cases a1;rfl
 have h1:(K.put b' (.stringIter s pos')).w.heap[b']?=some (.stringIter s pos'):=Gz (hr.mB o b' hb);exact⟨a2,hr.swap (by rw[ho];trivial) hb (by simp[dR,h1,a2]) λh2 h3=>⟨b',hb,h1,h2,h3⟩⟩
theorem rg_ok (hr:HR w0 T K H){v:Value}{d:D}(hv:VD K v d){t:TypeId}{id:Nat}{d':D}{H':Nat->Ob}(h:rgX P t (dO d) H (H id) id=some (d',H')):
  ∃u K',(Instr.range t v).run P K.w=.ok u K'.w/\Ext K K'/\HR w0 T K' H'/\VD K' u d':=by
 unfold rgX at h;split at h
 ·rename_i s hu hc hf;simp only[Option.some.injEq,Prod.mk.injEq]at h;obtain⟨rfl,rfl⟩:=h;have:=conc_ok hv hc;subst this;have hn:K.μ id=none:=hr.get hf;have he:=Ext.alloc hr hn (.stringIter s 0);refine⟨.pointer (some ⟨K.w.heap.size,0,none⟩),K.alloc id (.stringIter s 0),?_,he,hr.alloc hn _ ?_,?_⟩
  ·simp[Instr.range,und_run hu,Ctx.alloc]
  ·exact⟨K.w.heap.size,by simp[Ctx.alloc,upd_same],heap_alloc_new K.w _,λhS=>by have:=hr.sB _ hS;omega,.inl hr.size⟩
  ·have:=VD.pt (K:=K.alloc id (.stringIter s 0)) id 0 0 0 K.w.heap.size (by simp[Ctx.alloc,upd_same]);simpa using this
 ·cases h
theorem nx_ok (hr:HR w0 T K H){v:Value}{d:D}(hv:VD K v d){ty:TypeId}{d':D}{H':Nat->Ob}(h:nxX d H=some (d',H')):
  ∃u K',(Instr.next v true ty).run P K.w=.ok u K'.w/\Ext K K'/\HR w0 T K' H'/\VD K' u d':=by
 unfold nxX at h;split at h
 ·rename_i o sz;split at h
  ·rename_i s pos ho;cases hv with
   |pt _ _ _ _ b hμ =>
   split at h
   ·rename_i hp;simp only[Option.some.injEq,Prod.mk.injEq]at h;obtain⟨rfl,rfl⟩:=h;obtain⟨h1,h2,h3⟩:=hr.iter (pos':=pos+(Utf8.decode s pos).2) ho hμ;refine⟨.tuple #[.bool true,goInt pos,.int .i32 ((Utf8.decode s pos).1:Int)],_,?_,h2,h3,.tup _ _ rfl λj d hd=>?_⟩
    ·simp[Instr.next,BK h1,MX _ h1,hp,Ctx.put]
    ·match j,hd with
     |0,hd=>simp at hd;subst hd;exact .i (.s _ rfl)
     |1,hd=>simp at hd;subst hd;exact .i (.s _ rfl)
     |2,hd=>simp at hd;subst hd;exact .i (.s _ rfl)
     |j+3,hd=>simp at hd
   ·rename_i hp;simp only[Option.some.injEq,Prod.mk.injEq]at h;obtain⟨rfl,rfl⟩:=h;obtain⟨h1,_,_⟩:=hr.iter (pos':=pos) ho hμ;refine⟨.tuple #[.bool false],K,?_,Ext.refl K,hr,.tup _ _ rfl λj d hd=>?_⟩
    ·simp[Instr.next,BK h1,hp]
    ·match j,hd with
     |0,hd=>simp at hd;subst hd;exact .i (.s _ rfl)
     |j+1,hd=>simp at hd
  ·cases h
 ·cases h
theorem luM_not {K:Ctx}{kind:TypeDesc}{key:Value}{mv:MV}:∀{l:List MapEntry}{es:List (Value×MV)},lM K l es->luM kind key es=some none->(∀i,Instr.findNow kind key l i=some none)/\upM kind key mv es=es++[(key,mv)]
 |[],[],_,_=>⟨λ_=>rfl,rfl⟩
 |e::l,(k,v)::t,hr,h=>by
  simp only[luM]at h;split at h
  ·cases h
  ·rename_i hk;obtain⟨a,b⟩:=luM_not (mv:=mv) hr.2.2 h;refine⟨λi=>?_,?_⟩
   ·simp only[Instr.findNow,hr.1,hk];exact a _
   ·simp only[upM,hk,b];rfl
  ·cases h
 |[],_::_,hr,_=>hr.elim
 |_::_,[],hr,_=>hr.elim
theorem luM_found {K:Ctx}{kind:TypeDesc}{key:Value}{m:MV}:∀{l:List MapEntry}{es:List (Value×MV)},lM K l es->luM kind key es=some (some m) ->
  ∃j e,l[j]?=some e/\(∀i,Instr.findNow kind key l i=some (some (i+j,e.val)))/\VD K e.val (mvD m)/\Instr.sameNow kind key e.key=some true /\
   ∀(K':Ctx) (v:Value) (mv:MV),lM K' l es->VD K' v (mvD mv)->lM K' (l.modify j λe=>{e with key:=key,val:=v}) (upM kind key mv es)
 |[],[],_,h=>by simp[luM]at h
 |e::l,(k,v)::t,hr,h=>by
  simp only[luM]at h;split at h
  ·rename_i hk;simp only[Option.some.injEq]at h;subst h;refine⟨0,e,rfl,λi=>?_,hr.2.1,by rw[hr.1];exact hk,λK' v' mv q hv=>?_⟩
   ·simp only[Instr.findNow,hr.1,hk];rfl
   ·simp only[upM,hk,List.modify_zero_cons];exact⟨rfl,hv,q.2.2⟩
  ·rename_i hk;obtain⟨j,e',a,b,c,d,f⟩:=luM_found hr.2.2 h;refine⟨j+1,e',a,λi=>?_,c,d,λK' v' mv q hv=>?_⟩
   ·simp only[Instr.findNow,hr.1,hk,b];rw[Nat.add_assoc,Nat.add_comm 1 j]
   ·simp only[upM,hk,List.modify_succ_cons];exact⟨q.1,q.2.1,f K' v' mv q.2.2 hv⟩
  ·cases h
 |[],_::_,hr,_=>hr.elim
 |_::_,[],hr,_=>hr.elim
theorem lM.snoc {K:Ctx}{e:MapEntry}{r:Value×MV}(h1:e.key=r.1)(h2:VD K e.val (mvD r.2)):∀{l:List MapEntry}{es:List (Value×MV)},lM K l es->lM K (l++[e]) (es++[r])
 |[],[],_=>⟨h1,h2,trivial⟩
 |_::_,_::_,q=>⟨q.1,q.2.1,lM.snoc h1 h2 q.2.2⟩
 |[],_::_,q=>q.elim
 |_::_,[],q=>q.elim
theorem MS {kind:TypeDesc}{key old:Value}(h:Instr.sameNow kind key old=some true)(N:Nat):Instr.sameBits N old key=true:=by
 unfold Instr.sameNow at h;split at h
 ·split at h
  ·rename_i e;subst e;simp only[Option.some.injEq,beq_iff_eq]at h;subst h;cases N<;>simp[Instr.sameBits]
  ·cases h
 ·rename_i a b;have e:a=b:=by
   have h1:(a==b)=true:=Option.some.inj h;have h2:(a.data==b.data)=true:=by obtain⟨x⟩:=a;obtain⟨y⟩:=b;exact h1
   exact ByteArray.ext (eq_of_beq h2)
  subst e;have h1:(a==a)=true:=Option.some.inj h;cases N<;>simp only[Instr.sameBits,h1]
 ·simp only[Option.some.injEq,beq_iff_eq]at h;subst h;cases N<;>simp[Instr.sameBits]
 ·cases h
theorem qw {w:World}{r:Nat}{en:Array MapEntry}{ck:Nat}(h:w.heap[r]?=some (.map en ck)):(getObj r).run P w=.ok (.map en ck) w:=by simp[getObj,Sem.run,h]
theorem BJ {w:World} {r:Nat} {en:Array MapEntry} {ck:Nat} (o:Obj) (h:w.heap[r]?=some (.map en ck)):(setObj r o).run P w=.ok () { w with heap:=w.heap.setIfInBounds r o }:=by simp [setObj,Sem.run,h]
theorem zz {w:World}{kt:TypeId}{kind:TypeDesc}{key:Value}{e:Bool}(h:aG P kt=some kind)(hk:wE kind=true):(Instr.checkKey e 10000 kt key).run P w=.ok () w:=by
 have key:∀N:Nat,(Instr.checkKey e (N+1) kt key).run P w=.ok () w:=λN=>by cases kind<;>first|(cases hk;done)|simp[Instr.checkKey,und_run h]
 exact key 9999
theorem zy {w:World}{kt:TypeId}{kind:TypeDesc}{key:Value}{l:List MapEntry}{r:Option (Nat×Value)}(h:aG P kt=some kind)(hl:Instr.findNow kind key l 0=some r):(Instr.findKey kt key l).run P w=.ok r w:=by simp[Instr.findKey,und_run h,hl]
theorem ZE:∀{d:D}{r:MV},Oj d=some r->mvD r=d:=by
 have key:∀{cs:List D}{l:List I},R_ cs=some l->l.map .i=cs:=by
  intro cs;induction cs with
  |nil=>intro l h;simp only[R_,Option.some.injEq]at h;subst h;rfl
  |cons d t ih =>
   intro l h;cases d with
   |i x =>simp only[R_,Option.map_eq_some_iff]at h;obtain⟨l',h,rfl⟩:=h;rw[List.map_cons,ih h]
   |_=>simp[R_]at h
 intro d r h;cases d with
 |i x=>simp only[Oj,Option.some.injEq]at h;subst h;rfl
 |agg cs =>simp only[Oj,Option.map_eq_some_iff]at h;obtain⟨l,h,rfl⟩:=h;simp only[mvD,if_true,key h]
 |_=>simp[Oj]at h
theorem mk_ok (hr:HR w0 T K H)(hρ:∀x,VD K (ρ x) (evA sl x)){t:TypeId}{r:Option Operand}{id:Nat}{d':D}{H':Nat->Ob}(h:mkX P t (ru sl r) (H id) H id=some (d',H')):
  ∃u K',(Instr.makeMap t (r.map ρ)).run P K.w=.ok u K'.w/\Ext K K'/\HR w0 T K' H'/\VD K' u d':=by
 have key:∀{k e:TypeId},aG P t=some (.map k e)->H id=.fresh->some (D.mp id,upd H id (.mp []))=some (d',H')->(r=none\/∃x k n,r=some x/\ρ x=.int k n) ->
   ∃u K',(Instr.makeMap t (r.map ρ)).run P K.w=.ok u K'.w/\Ext K K'/\HR w0 T K' H'/\VD K' u d':=by
  intro k e hu hf h hrr;simp only[Option.some.injEq,Prod.mk.injEq]at h;obtain⟨rfl,rfl⟩:=h;have hn:K.μ id=none:=hr.get hf;refine⟨.map (some K.w.heap.size),K.alloc id (.map #[] 0),?_,Ext.alloc hr hn _,hr.alloc hn _ ?_,.mp id _ (by simp[Ctx.alloc,upd_same])⟩
  ·rcases hrr with rfl|⟨x,k,n,rfl,hx⟩
   ·simp[Instr.makeMap,Ctx.alloc]
   ·simp[Instr.makeMap,und_run hu,hx,asInt,asIntOf,Ctx.alloc]
  ·exact⟨K.w.heap.size,#[],0,by simp[Ctx.alloc,upd_same],heap_alloc_new K.w _,trivial,λhS=>by have:=hr.sB _ hS;omega,.inl hr.size⟩
 unfold mkX mkU at h;split at h
 ·rename_i hu hc hf;refine key hu hf h (.inl ?_);cases r with
  |none=>rfl
  |some y=>simp[ru]at hc
 ·rename_i hu hc hf;refine key hu hf h (.inr ?_);cases r with
  |none=>simp[ru]at hc
  |some y =>simp only[ru,Option.map_eq_some_iff]at hc;obtain⟨v,hv,hc⟩:=hc;cases hc;exact⟨y,_,_,rfl,conc_ok (hρ y) hv⟩
 ·cases h
theorem in_ok (hr:HR w0 T K H){m k v:Value}{dm dk dv:D}(hm:VD K m dm)(hk:VD K k dk)(hv:VD K v dv){t:TypeId}{d':D}{H':Nat->Ob}(h:inX P t dm (dO dk) (Oj dv) H=some (d',H')):
  ∃K',(Instr.mapUpdate t m k v).run P K.w=.ok () K'.w/\Ext K K'/\HR w0 T K' H'/\d'=.un:=by
 unfold inX inU at h;split at h
 ·rename_i kt et o key mv hu hck hcv;unfold inV at h;split at h
  ·rename_i kind es hkt ho;split at h
   ·rename_i hok;unfold inW at h;split at h
    ·rename_i r hl;simp only[Option.some.injEq,Prod.mk.injEq]at h;obtain⟨rfl,rfl⟩:=h;have:=conc_ok hk hck;subst this;rw[<- ZE hcv]at hv;cases hm with
     |mp _ b hμ =>
     obtain⟨b',en,ck,a1,a2,a3,a4,a5⟩:=hr.get ho;obtain rfl:b'=b:=by rw[hμ]at a1;cases a1;rfl
     have put:∀(en':Array MapEntry) (ck':Nat),(∀K':Ctx,lM K' en.toList es->VD K' v (mvD mv)->lM K' en'.toList (upM kind k mv es))->Ext K (K.put b' (.map en' ck'))/\HR w0 T (K.put b' (.map en' ck')) (upd H o (.mp (upM kind k mv es))):=λen' ck' hh=>by
      have h1:(K.put b' (.map en' ck')).w.heap[b']?=some (.map en' ck'):=Gz (hr.mB o b' hμ);have hrs:dR (K.put b' (.map en' ck')).w b'=dR K.w b':=by simp[dR,h1,a2]
      obtain⟨q1,_⟩:=hr.swap (x:=.dead) (by rw[ho];trivial) hμ hrs λ_ _=>trivial;exact hr.swap (by rw[ho];trivial) hμ hrs λh2 h3=>⟨b',_,_,hμ,h1,hh _ (a3.ext q1) (hv.ext q1),h2,h3⟩
     cases r with
     |none =>
      obtain⟨c1,c2⟩:=luM_not (mv:=mv) a3 hl;obtain⟨q1,q2⟩:=put (en.push {key:=k,val:=v,born:=ck}) (ck+1) λK' e1 e2=>by rw[c2,Array.toList_push];exact e1.snoc rfl e2
      refine⟨_,?_,q1,q2,rfl⟩;simp[Instr.mapUpdate,und_run hu,qw a2,zz hkt hok,zy hkt (c1 0),BJ _ a2,Ctx.put]
     |some r =>
      obtain⟨j,e,c1,c2,c3,c4,c5⟩:=luM_found a3 hl;obtain⟨q1,q2⟩:=put (en.modify j λe=>{e with key:=k,val:=v}) ck λK' e1 e2=>by rw[Array.toList_modify];exact c5 K' v mv e1 e2
      refine⟨_,?_,q1,q2,rfl⟩;have c6:en[j]?=some e:=by rw[<- Array.getElem?_toList];exact c1
      have c7:=MS c4 10000;simp[Instr.mapUpdate,Instr.keyThatStays,und_run hu,qw a2,zz hkt hok,zy hkt (c2 0),c6,c7,BJ _ a2,Ctx.put]
    ·cases h
   ·cases h
  ·cases h
 ·cases h
theorem lu_ok (hr:HR w0 T K H){m k:Value}{dm dk:D}(hm:VD K m dm)(hk:VD K k dk){t:TypeId}{c:Bool}{d':D}(h:luX P t dm (dO dk) c H=some d'):∃u,(Instr.lookup t m k c).run P K.w=.ok u K.w/\VD K u d':=by
 have tup:∀{v:Value}{d:D}{b:Bool},VD K v d->VD K (if c=true then .tuple #[v,.bool b]else v) (luT c d b):=λhv=>by
  unfold luT;cases c with
  |false=>exact hv
  |true =>
   refine .tup _ _ rfl λj d hd=>?_
   match j,hd with
   |0,hd=>simp at hd;subst hd;exact hv
   |1,hd=>simp at hd;subst hd;exact .i (.s _ rfl)
   |j+2,hd=>simp at hd
 unfold luX luU at h;split at h
 ·rename_i kt et o key hu hck;unfold luV at h;split at h
  ·rename_i kind es hkt ho;split at h
   ·rename_i hok;have:=conc_ok hk hck;subst this;cases hm with
    |mp _ b hμ =>
    obtain⟨b',en,ck,a1,a2,a3,a4,a5⟩:=hr.get ho;obtain rfl:b'=b:=by rw[hμ]at a1;cases a1;rfl
    unfold luW at h;split at h
    ·rename_i v hl;cases h;obtain⟨j,e,c1,c2,c3,c4,_⟩:=luM_found a3 hl;refine⟨_,?_,tup c3⟩;simp[Instr.lookup,und_run hu,qw a2,zz hkt hok,zy hkt (c2 0)]
    ·rename_i hl;simp only[Option.map_eq_some_iff]at h;obtain⟨z,hz,rfl⟩:=h;obtain⟨c1,_⟩:=luM_not (mv:=(false,[])) a3 hl;refine⟨_,?_,tup (NI z)⟩;have hzr:=tu hz K.w;simp[Instr.lookup,und_run hu,qw a2,zz hkt hok,zy hkt (c1 0),hzr]
    ·cases h
   ·cases h
  ·cases h
 ·cases h
theorem ix_ok {v w:Value}{d d2:D}(hv:VD K v d)(hw:VD K w d2){t:TypeId}{d':D}(h:ixX P t d (dO d2)=some d'):∃u,(Instr.indexAt t v w).run P K.w=.ok u K.w/\VD K u d':=by
 unfold ixX at h;split at h
 ·rename_i e hu;split at h
  ·rename_i o off len k n hs hc;split at h
   ·rename_i hb;cases h;have:=conc_ok hw hc;subst this;cases hv with
    |bs _ _ _ b cap hμ =>
    refine⟨.pointer (some ⟨b,0*0+(off+n.toNat),none⟩),?_,.pt o 0 0 _ b hμ⟩;have e1:(⟨b,off,none⟩:Addr).add (n.toNat*1)=⟨b,0*0+(off+n.toNat),none⟩:=by rw[Addr.add_mid];simp
    simp[Instr.indexAt,asIntOf,und_run hu,fD hs,hb.1,hb.2,e1];rw[Addr.add_mid]
   ·cases h
  ·cases h
 ·cases h
theorem bs_ok (hr:HR w0 T K H)(hρ:∀x,VD K (ρ x) (evA sl x)){t:TypeId}{len:Nat}{parts:Array (Nat×Operand)}{id:Nat}{d':D}{H':Nat->Ob}
  (h:bsX P t len (parts.toList.mapM λp=>(bY (evA sl p.2)).map λcs=>(p.1,cs)) H (H id) id=some (d',H')):
  ∃u K',(Instr.buildSlice t len (parts.map λ(p:Nat×Operand)=>(p.1,ρ p.2))).run P K.w=.ok u K'.w/\Ext K K'/\HR w0 T K' H'/\VD K' u d':=by
 unfold bsX at h;split at h
 ·rename_i e hu hf;split at h
  ·rename_i zv ps hs hz hps;split at h
   ·rename_i hcond;obtain⟨c2,c1,c3,c4⟩:=hcond;simp only[Option.some.injEq,Prod.mk.injEq]at h;obtain⟨rfl,rfl⟩:=h;obtain⟨m1,m2⟩:=mapM_get hps;obtain⟨i,hi,hisz⟩:=szOf_info hs;have hzi:=mQ hi hz;rw[gu]at hu;have hpl:ps.length=len:=by have:=congrArg List.length c3;simpa using this
    have hparts:parts.toList.length=len:=by rw[<- m1];exact hpl
    let vs:List Value:=parts.toList.map λp=>ρ p.2;have hvl:vs.length=len:=by simp only[vs,List.length_map];exact hparts
    have hpart:∀(j:Nat) (hj:j<len),∃cs,ps[j]?=some (j,cs)/\RC K (vs[j]'(by omega)).cells cs/\cs.length=1/\(∀d∈cs,d.one=true):=by
     intro j hj;obtain⟨b,hb1,hb2⟩:=m2 j (parts.toList[j]'(by omega)) (by simp[show j<parts.toList.length by omega]);simp only[Option.map_eq_some_iff]at hb2;obtain⟨cs,hcs,rfl⟩:=hb2;have hj1:(parts.toList[j]'(by omega)).1=j:=by have:=congrArg (λl=>l[j]?) c3;simp only[List.getElem?_map,hb1,Option.map_some]at this;rw[List.getElem?_range hj]at this;simpa using this
     have hall:=List.all_eq_true.1 c4 _ (List.mem_of_getElem? hb1);simp only[decide_eq_true_eq,Bool.and_eq_true]at hall;refine⟨cs,by rw[hb1,hj1],?_,by simpa using hall.1,λd hd=>List.all_eq_true.1 hall.2 d hd⟩;rw[show vs[j]'(by omega)=ρ (parts.toList[j]'(by omega)).2 from by simp[vs]];exact dcells_ok (hρ (parts.toList[j]'(by omega)).2) hcs
    have hvsz:∀v∈vs,v.cells.size=0+1:=by intro v hv;obtain⟨j,hj,rfl⟩:=List.mem_iff_getElem.1 hv;obtain⟨cs,_,q2,q3,_⟩:=hpart j (by omega);rw[q2.1,q3]
    have hzip:(parts.map λ(p:Nat×Operand)=>(p.1,ρ p.2)).toList=((vs.zipIdx 0).map λx=>(x.2,x.1)):=by
     apply List.ext_getElem?;intro j;by_cases hj:j<len
     ·obtain⟨b,hb1,hb2⟩:=m2 j (parts.toList[j]'(by omega)) (by simp[show j<parts.toList.length by omega]);simp only[Option.map_eq_some_iff]at hb2;obtain⟨cs,hcs,rfl⟩:=hb2;have hj1:(parts.toList[j]'(by omega)).1=j:=by
       have:=congrArg (λl=>l[j]?) c3;simp only[List.getElem?_map,hb1,Option.map_some]at this;rw[List.getElem?_range hj]at this;simpa using this
      simp only[Array.toList_map,List.getElem?_map,List.getElem?_zipIdx,vs];rw[List.getElem?_eq_getElem (show j<parts.toList.length by omega)];simp only[Option.map_some,Nat.zero_add];rw[hj1]
     ·have e1:(parts.map λ(p:Nat×Operand)=>(p.1,ρ p.2)).toList[j]?=none:=by
       rw[List.getElem?_eq_none_iff,Array.toList_map,List.length_map];omega
      rw[e1,List.getElem?_eq_none_iff.2 (by simp;omega)]
    have hfill:Instr.fill (λi=>some (i*(0+1),0+1)) ((Array.range (len*(0+1))).map (zv.cells[· % zv.cells.size]!)) (parts.map λ(p:Nat×Operand)=>(p.1,ρ p.2)).toList=some (vs.flatMap λv=>v.cells.toList).toArray:=by rw[hzip];exact Go.Great.fill_whole (Nat.succ_pos 0) vs _ hvsz (by rw[hvl];simp)
    have hrun:(Instr.buildSlice t len (parts.map λ(p:Nat×Operand)=>(p.1,ρ p.2))).run P K.w=.ok (.slice (some ⟨K.w.heap.size,0,none⟩) len len) (K.w.alloc (.cells (vs.flatMap λv=>v.cells.toList).toArray e)):=by
     by_cases h0:len=0
     ·subst h0;have hv0:vs=[]:=List.eq_nil_of_length_eq_zero hvl;have hp0:parts=#[]:=by
       apply Array.eq_empty_of_size_eq_zero;simpa using hparts
      subst hp0;rw[hv0];simp[Instr.buildSlice,run_underlying hu,sizeOf,typeInfo,hi,newRow,Instr.fill,Array.range_zero']
     ·exact run_buildSlice K.w t e len _ _ i zv hu hi hzi (by rw[hisz];omega) (by rw[hisz];omega) (by rw[hisz];exact hfill)
    have hn:K.μ id=none:=hr.get hf;have he:=Ext.alloc hr hn (.cells (vs.flatMap λv=>v.cells.toList).toArray e);have hpf:∀(l:List (Nat×List D)),(∀p∈l,p.2.length=1)->(l.flatMap (·.2)).length=l.length/\∀(j:Nat),(l.flatMap (·.2))[j]?=(l[j]?).bind λ(p:Nat×List D)=>p.2[0]?:=by
     intro l;induction l with
     |nil=>intro _;simp
     |cons a t ih =>
      intro hl;obtain⟨i1,i2⟩:=ih λp hp=>hl p (by simp[hp]);have ha:=hl a (by simp);obtain⟨x,hx⟩:∃x,a.2=[x]:=by
       match h2:a.2,ha with
       |[x],_=>exact⟨x,rfl⟩
      rw[List.flatMap_cons,hx];refine⟨by simp[i1],λj=>?_⟩;cases j with
      |zero=>simp[hx]
      |succ j=>simpa using i2 j
    have hp1:∀p∈ps,p.2.length=1:=λp hp=>by have:=List.all_eq_true.1 c4 p hp;simp at this;exact this.1
    obtain⟨f1,f2⟩:=hpf ps hp1;have hgs:∀(j:Nat),(vs.flatMap λv=>v.cells.toList)[j]?=(vs[j]?).bind (λ(v:Value)=>v.cells[0]?):=λj=>by have:=Go.Great.flat_get (Nat.succ_pos 0) vs hvsz j;simpa[Nat.mod_one]using this
    have hrowsz:(vs.flatMap λv=>v.cells.toList).toArray.size=len:=by have:=IU vs hvsz;simp only[List.size_toArray,this,hvl];omega
    refine⟨_,_,hrun,he,hr.alloc hn _ ?_,.bs id 0 len K.w.heap.size len (by simp[Ctx.alloc,upd_same])⟩;refine⟨K.w.heap.size,_,e,by simp[Ctx.alloc,upd_same],heap_alloc_new K.w _,by rw[f1,hpl,hrowsz],λj d hd=>?_,λd hd=>?_,λhS=>by have:=hr.sB _ hS;omega,.inl hr.size⟩
    ·rw[f2]at hd;have hjl:j<len:=by
      apply Decidable.byContradiction;intro hc;rw[List.getElem?_eq_none (by omega)]at hd;cases hd
     obtain⟨cs,q1,q2,q3,q4⟩:=hpart j hjl;rw[q1]at hd;simp only[Option.bind_some]at hd;have h3:=(q2.2 0 d hd).ext he;rw[Array.getD_eq_getD_getElem?,List.getElem?_toArray,hgs,List.getElem?_eq_getElem (show j<vs.length by omega),Option.bind_some];rw[Array.getD_eq_getD_getElem?]at h3;exact h3
    ·obtain⟨p,hp,hd⟩:=List.mem_flatMap.1 hd;have:=List.all_eq_true.1 c4 p hp;simp only[decide_eq_true_eq,Bool.and_eq_true]at this;exact List.all_eq_true.1 this.2 d hd
   ·cases h
  ·cases h
 ·cases h
theorem acT (hr:HR w0 T K H)(hρ:∀x,VD K (ρ x) (evA sl x)){id:Nat}(o:Oper){d:D}{H':Nat->Ob}(h:opX P sl H id o.op=some (d,H')):Ran P w0 T K (execOp ρ o) d H':=by
 generalize hop:o.op=op at h;cases op with
 |range t x =>simp only[opX]at h;obtain⟨v,K',h1,h2,h3,h4⟩:=rg_ok (P:=P) hr (hρ x) h;exact⟨v,K',.inl (by simp[execOp,hop,h1]),h2,h3,h4⟩
 |next x b =>
  cases b with
  |false=>simp[opX]at h
  |true =>simp only[opX]at h;obtain⟨v,K',h1,h2,h3,h4⟩:=nx_ok (P:=P) (ty:=o.type) hr (hρ x) h;exact⟨v,K',.inl (by simp[execOp,hop,h1]),h2,h3,h4⟩
 |makeMap t r =>simp only[opX]at h;obtain⟨v,K',h1,h2,h3,h4⟩:=mk_ok (P:=P) hr hρ h;exact⟨v,K',.inl (by simp[execOp,hop,h1]),h2,h3,h4⟩
 |insert t m k x =>simp only[opX]at h;obtain⟨K',h1,h2,h3,rfl⟩:=in_ok (P:=P) hr (hρ m) (hρ k) (hρ x) h;exact⟨undef,K',.inr ⟨by simp[execOp,hop,h1],rfl⟩,h2,h3,.un⟩
 |mapUpdate t m k x =>simp only[opX]at h;obtain⟨K',h1,h2,h3,rfl⟩:=in_ok (P:=P) hr (hρ m) (hρ k) (hρ x) h;exact⟨undef,K',.inr ⟨by simp[execOp,hop,h1],rfl⟩,h2,h3,.un⟩
 |lookup t m k b =>simp only[opX,Option.map_eq_some_iff,Prod.mk.injEq]at h;obtain⟨d',h,rfl,rfl⟩:=h;obtain⟨v,h1,h2⟩:=lu_ok (P:=P) hr (hρ m) (hρ k) h;exact⟨v,K,.inl (by simp[execOp,hop,h1]),Ext.refl K,hr,h2⟩
 |buildSlice t len parts =>simp only[opX]at h;obtain⟨v,K',h1,h2,h3,h4⟩:=bs_ok (P:=P) hr hρ h;refine⟨v,K',.inl ?_,h2,h3,h4⟩;simp only[execOp,hop,Sem.run_bind];rw[show(parts.map λ(i,x)=>(i,ρ x))=parts.map λ(p:Nat×Operand)=>(p.1,ρ p.2)from rfl,h1];rfl
 |indexAddr t x i =>simp only[opX,Option.map_eq_some_iff,Prod.mk.injEq]at h;obtain⟨d',h,rfl,rfl⟩:=h;obtain⟨v,h1,h2⟩:=ix_ok (P:=P) (hρ x) (hρ i) h;exact⟨v,K,.inl (by simp[execOp,hop,h1]),Ext.refl K,hr,h2⟩
 |slice t x lo hi mx =>simp only[opX,Option.map_eq_some_iff,Prod.mk.injEq]at h;obtain⟨d',h,rfl,rfl⟩:=h;obtain⟨v,h1,h2⟩:=slX_ok (P:=P) hρ h;exact⟨v,K,.inl (by simp[execOp,hop,h1]),Ext.refl K,hr,h2⟩
 |call c =>
  obtain⟨callee,args,tys⟩:=c;cases callee with
  |builtin b =>
   cases b with
   |len =>
    simp only[opX]at h;obtain⟨a,t,hl,hk,hf⟩:=one_inv h;obtain⟨x,rfl,hx'⟩:=arr1 hl;obtain rfl:tys=#[t]:=by obtain⟨l⟩:=tys;simp at hk;rw[hk]
    simp only[Option.map_eq_some_iff,Prod.mk.injEq]at hf;obtain⟨d',hf,rfl,rfl⟩:=hf;have hx:=hρ x;rw[hx']at hx;unfold ZR at hf;split at hf
    ·split at hf
     ·rename_i hu;cases hf;generalize hv:ρ x=v at hx;cases hx;refine⟨_,K,.inl ?_,Ext.refl K,hr,.i (.s _ rfl)⟩;simp[execOp,hop,resolve,invoke,builtin,hv,Builtin.len_,und_run hu,goInt]
     ·cases hf
    ·split at hf
     ·rename_i hu;cases hf;generalize hv:ρ x=v at hx;cases hx;refine⟨_,K,.inl ?_,Ext.refl K,hr,.i (.s _ rfl)⟩;simp[execOp,hop,resolve,invoke,builtin,hv,Builtin.len_,und_run hu,goInt]
     ·cases hf
    ·cases hf
   |cap =>
    simp only[opX]at h;obtain⟨a,t,hl,hk,hf⟩:=one_inv h;obtain⟨x,rfl,hx'⟩:=arr1 hl;obtain rfl:tys=#[t]:=by obtain⟨l⟩:=tys;simp at hk;rw[hk]
    simp only[Option.map_eq_some_iff,Prod.mk.injEq]at hf;obtain⟨d',hf,rfl,rfl⟩:=hf;have hx:=hρ x;rw[hx']at hx;unfold afK at hf;split at hf
    ·split at hf
     ·rename_i hu;cases hf;generalize hv:ρ x=v at hx;cases hx;refine⟨_,K,.inl ?_,Ext.refl K,hr,.i (.s _ rfl)⟩;simp[execOp,hop,resolve,invoke,builtin,hv,Builtin.cap_,und_run hu,goInt]
     ·cases hf
    ·cases hf
   |append =>
    simp only[opX]at h;obtain⟨a,b,t,u,hl,hk,hf⟩:=two_inv h;obtain⟨x,y,rfl,hx',hy'⟩:=arr2 hl;obtain rfl:tys=#[t,u]:=by obtain⟨l⟩:=tys;simp at hk;rw[hk]
    have hx:=hρ x;have hy:=hρ y;rw[hx']at hx;rw[hy']at hy;obtain⟨v,K',h1,h2,h3,h4⟩:=ap_ok (P:=P) (ty:=o.type) hr hx hy hf;exact⟨v,K',.inl (by simp[execOp,hop,resolve,invoke,builtin,h1]),h2,h3,h4⟩
   |copy =>
    simp only[opX]at h;obtain⟨a,b,t,u,hl,hk,hf⟩:=two_inv h;obtain⟨x,y,rfl,hx',hy'⟩:=arr2 hl;obtain rfl:tys=#[t,u]:=by obtain⟨l⟩:=tys;simp at hk;rw[hk]
    have hx:=hρ x;have hy:=hρ y;rw[hx']at hx;rw[hy']at hy;obtain⟨v,K',h1,h2,h3,h4⟩:=cp_ok (P:=P) (tx:=u) (ty:=o.type) hr hx hy hf;exact⟨v,K',.inl (by simp[execOp,hop,resolve,invoke,builtin,h1]),h2,h3,h4⟩
   |clear =>
    simp only[opX]at h;obtain⟨a,t,hl,hk,hf⟩:=one_inv h;obtain⟨x,rfl,hx'⟩:=arr1 hl;obtain rfl:tys=#[t]:=by obtain⟨l⟩:=tys;simp at hk;rw[hk]
    have hx:=hρ x;rw[hx']at hx;obtain⟨v,K',h1,h2,h3,h4⟩:=cl_ok (P:=P) (ty:=o.type) hr hx hf;exact⟨v,K',.inl (by simp[execOp,hop,resolve,invoke,builtin,h1]),h2,h3,h4⟩
   |_=>simp[opX]at h
  |_=>simp[opX]at h
 |_=>simp[opX]at h
theorem acS (hr:HR w0 T K H)(hρ:∀x,VD K (ρ x) (evA sl x)){id:Nat}(o:Oper){d:D}{H':Nat->Ob}(h:opY P sl H id o.op=some (d,H')):Ran P w0 T K (execOp ρ o) d H':=by
 unfold opY at h;cases hh:opH P sl H id o.op with
 |some r=>rw[hh]at h;exact acU hr hρ o (by rw[hh];exact h)
 |none=>rw[hh]at h;exact acT hr hρ o h
end
def Du (K:Ctx)(vs:Array Value)(ds:List D):Prop:=vs.size=ds.length/\∀(j:Nat)(d:D),ds[j]?=some d->VD K (vs.getD j undef) d
def J_ (P:Program)(f:FuncId):Prop:=∃fn,P.funcs[f]?=some fn/\(fn.name == "runtime.NumGoroutine")=false/\fn.body.isNone=false
def aL (P:Program)(f:FuncId)(ds:List D)(H:Nat->Ob)(r:D)(H':Nat->Ob):Prop :=
 J_ P f/\∀(K0:Ctx) (T:Nat->Prop) (K:Ctx) (vs:Array Value),HR K0 T K H->Du K vs ds ->
  Calls P f vs K.w λe w'=>∃v K',e=.returned v/\K'.w=w'/\Ext K K'/\HR K0 T K' H'/\VD K' v r
def Sg (P:Program)(f:FuncId)(ds:List D)(H:Nat->Ob)(r:D)(H':Nat->Ob):Prop :=
 ∀(K0:Ctx) (T:Nat->Prop) (K:Ctx) (vs:Array Value),HR K0 T K H->Du K vs ds ->
  ∃v K',(callFunc f vs).run P K.w=.ok (.value v) K'.w/\Ext K K'/\HR K0 T K' H'/\VD K' v r
def RG (P:Program)(f:FuncId)(ds:List D)(H:Nat->Ob)(r:D)(H':Nat->Ob):Prop:=aL P f ds H r H'\/Sg P f ds H r H'
structure St where
 sl:Nat->D
 H:Nat->Ob
def St.put (σ:St)(dst:Option Nat)(d:D):St :=
 match dst with
 |some i=>⟨upd σ.sl i d,σ.H⟩
 |none=>σ
def AR (K0 E0:Ctx)(T:Nat->Prop)(n:Nat)(σ:St)(a:Act)(w:World):Prop :=
 ∃K,K.w=w/\Ext E0 K/\(∀o,100<=o->E0.μ o=none)/\HR K0 T K σ.H/\(∀i,VD K (a.tmps.getD i undef) (σ.sl i))/\a.defers=[]/\a.tmps.size=n
def fI (n:Nat):Option Nat->Bool
 |some i=>decide (i<n)
 |none=>true
def uo (rid k:Nat):Nat:=1000+rid*256+k
def rz (ops:Array Oper)(sl:Nat->D):Option (Nat×Bool)->Option Bool
 |none=>some true
 |some (j,want)=>match (ops[j]?).bind (·.dst)with
  |none=>none
  |some t=>match sl t with
   | .i (.s (.bool b))=>some (b==want)
   | .un=>some false
   |_=>none
def bG:Op->Option (Operand×Array Operand)
 | .call {callee:=.value f,args:=args,..}=>some (f,args)
 |_=>none
def abE (P:Program)(n rid k:Nat)(o:Oper)(σ:St)(Q:St->Prop):Prop :=
 fI n o.dst=true /\
 match bG o.op with
 |some (f,args)=>match evA σ.sl f with
  | .fn g caps=>∃r H',RG P g (args.toList.map (evA σ.sl)++caps) σ.H r H'/\Q (St.put ⟨σ.sl,H'⟩ o.dst r)
  |_=>False
 |none=>∃d H',opA P σ.sl σ.H (uo rid k) o.op=some (d,H')/\Q (St.put ⟨σ.sl,H'⟩ o.dst d)
def FC (P:Program)(n rid:Nat)(ops:Array Oper):List Nat->St->(St->Prop)->Prop
 |[],σ,Q=>Q σ
 |k::rest,σ,Q=>match ops[k]? with
  |none=>False
  |some o=>match rz ops σ.sl o.guard with
   |none=>False
   |some b=>(b=true->abE P n rid k o σ λσ'=>FC P n rid ops rest σ' Q)/\(b=false->fI n o.dst=true/\FC P n rid ops rest (σ.put o.dst .un) Q)
section
variable {P:Program}{K0 E0:Ctx}{T:Nat->Prop}{n:Nat}
theorem AR.eval {σ:St}{K:Ctx}{a:Act}(h:∀i,VD K (a.tmps.getD i undef) (σ.sl i))(x:Operand):VD K (a.eval x) (evA σ.sl x):=by
 cases x with
 |tmp t=>exact h t
 |const v=>exact NI v
 |global g=>exact .any _
 |func f=>exact .fn f #[] [] rfl (λj d hd=>by simp at hd)
theorem AR.put {σ:St}{a:Act}{K:Ctx}{d:D}{v:Value}{dst:Option Nat}{H':Nat->Ob}(hE:Ext E0 K)(h100:∀o,100<=o->E0.μ o=none)(hr:HR K0 T K H')(hs:∀i,VD K (a.tmps.getD i undef) (σ.sl i))(hd:a.defers=[])(hn:a.tmps.size=n)
  (hv:VD K v d) (hdst:fI n dst=true):AR K0 E0 T n (St.put ⟨σ.sl,H'⟩ dst d) (a.put dst v) K.w:=by
 cases dst with
 |none=>exact⟨K,rfl,hE,h100,hr,hs,hd,hn⟩
 |some i =>
  simp only[fI,decide_eq_true_eq]at hdst;refine⟨K,rfl,hE,h100,hr,λj=>?_,hd,by simp[Act.put,hn]⟩;by_cases h:j=i
  ·subst h;simp only[St.put,upd_same,Act.put];rw[Array.getD_eq_getD_getElem?,Array.getElem?_setIfInBounds_self_of_lt (by omega)];exact hv
  ·simp only[St.put,upd_ne _ _ h,Act.put];rw[Array.getD_eq_getD_getElem?,Array.getElem?_setIfInBounds_ne (by omega),<- Array.getD_eq_getD_getElem?];exact hs j
theorem opA_ok {K:Ctx}{H H':Nat->Ob}{sl:Nat->D}{ρ:Operand->Value}{id:Nat}{d:D}(hr:HR K0 T K H)(hρ:∀x,VD K (ρ x) (evA sl x))(o:Oper)(h:opA P sl H id o.op=some (d,H')):Ran P K0 T K (execOp ρ o) d H':=by
 simp only[opA]at h;split at h
 ·rename_i d' hq;simp only[Option.some.injEq,Prod.mk.injEq]at h;obtain⟨rfl,rfl⟩:=h;obtain⟨v,h1,h2⟩:=opQ_ok hρ o hq;exact⟨v,K,.inl h1,Ext.refl K,hr,h2⟩
 ·exact acS hr hρ o h
theorem callOf_some {op:Op}{f:Operand}{args:Array Operand}(h:bG op=some (f,args)):∃tys,op=.call {callee:=.value f,args:=args,argTypes:=tys}:=by
 unfold bG at h;split at h
 ·simp only[Option.some.injEq,Prod.mk.injEq]at h;obtain⟨rfl,rfl⟩:=h;exact⟨_,rfl⟩
 ·cases h
theorem QV {rid k:Nat}{o:Oper}{σ:St}{a:Act}{w:World}{Q:St->Prop}{next:Act->World->Prop}{Q':Exit->Act->World->Prop}(h:abE P n rid k o σ Q)(hA:AR K0 E0 T n σ a w)
  (hK:∀σ' a' w',Q σ'->AR K0 E0 T n σ' a' w'->next a' w'):o.wp P a w next Q':=by
 obtain⟨hdst,h⟩:=h;obtain⟨K,rfl,hE,h100,hr,hs,hd,hn⟩:=hA;split at h
 ·rename_i f args hc;obtain⟨tys,hop⟩:=callOf_some hc;split at h
  ·rename_i g caps hf;obtain⟨r,H',hx,hQ⟩:=h;have hfv:=AR.eval hs f;rw[hf]at hfv;generalize hv:a.eval f=fv at hfv;cases hfv with
   |fn _ vs _ hl hcv =>
    have hrd:Du K (args.map a.eval++vs) (args.toList.map (evA σ.sl)++caps):=by
     refine⟨by simp[hl],λj d hd=>?_⟩;by_cases hj:j<args.size
     ·rw[List.getElem?_append_left (by simpa using hj)]at hd;simp only[List.getElem?_map,Option.map_eq_some_iff]at hd;obtain⟨x,hx,rfl⟩:=hd;have hx':args[j]=x:=by simpa[hj]using hx
      have:(args.map a.eval++vs).getD j undef=a.eval x:=by rw[Array.getD_eq_getD_getElem?,Array.getElem?_append_left (by simpa using hj)];simp[hj,hx']
      rw[this];exact AR.eval hs x
     ·rw[List.getElem?_append_right (by simpa using hj)]at hd;have:(args.map a.eval++vs).getD j undef=vs.getD (j-args.size) undef:=by
       rw[Array.getD_eq_getD_getElem?,Array.getElem?_append_right (by simpa using hj),Array.getD_eq_getD_getElem?];simp
      rw[this];exact hcv _ _ (by simpa using hd)
    rcases hx with⟨⟨fn,hfn,hname,hbody⟩,hcall⟩|hdir
    rotate_left
    ·obtain⟨v,K',h1,he,hr',hv'⟩:=hdir K0 T K _ hr hrd;have hrun:(execOp a.eval o).run P K.w=.ok (.value v) K'.w:=by
      simpa[execOp,hop,resolve,hv,Deferred.ofValue,invoke]using h1
     unfold Oper.wp;rw[hrun];exact hK _ _ _ hQ (AR.put (hE.trans he) h100 hr' (λi=>(hs i).ext he) hd hn hv' hdst)
    have hrun:(execOp a.eval o).run P K.w=.ok (.enter g (args.map a.eval++vs)) K.w:=by
     have hn':(fn.name == "runtime.NumGoroutine")=false:=hname;have hb':fn.body≠none:=by intro h;simp[h]at hbody
     have hn'':fn.name≠ "runtime.NumGoroutine":=by simpa using hn'
     simp[execOp,hop,resolve,hv,Deferred.ofValue,invoke,callFunc,hfn];rw[if_neg hn'',if_neg hb']
    unfold Oper.wp;rw[hrun];refine(hcall K0 T K _ hr hrd).mono ?_;rintro e w' ⟨v,K',rfl,rfl,he,hr',hv'⟩;exact hK _ _ _ hQ (AR.put (hE.trans he) h100 hr' (λi=>(hs i).ext he) hd hn hv' hdst)
  ·exact h.elim
 ·obtain⟨d,H',hop,hQ⟩:=h;obtain⟨v,K',hrun,he,hr',hv'⟩:=opA_ok hr (AR.eval hs) o hop;unfold Oper.wp;rcases hrun with hrun|⟨hrun,hvu⟩
  ·rw[hrun];exact hK _ _ _ hQ (AR.put (hE.trans he) h100 hr' (λi=>(hs i).ext he) hd hn hv' hdst)
  ·rw[hrun];subst hvu;exact hK _ _ _ hQ (AR.put (hE.trans he) h100 hr' (λi=>(hs i).ext he) hd hn hv' hdst)
theorem yQ {ops:Array Oper}{σ:St}{K:Ctx}{a:Act}{o:Oper}{b:Bool}(hs:∀i,VD K (a.tmps.getD i undef) (σ.sl i))(hall:∀(o:Oper),o∈ops->fI a.tmps.size o.dst=true)(h:rz ops σ.sl o.guard=some b):Region.wanted o (yielded ops a.tmps)=b:=by
 unfold rz at h;unfold Region.wanted;cases hg:o.guard with
 |none=>simp[hg]at h;simp[h]
 |some p =>
  obtain⟨j,want⟩:=p;simp only[hg]at h⊢;split at h
  ·cases h
  ·rename_i t ht;have htl:t<a.tmps.size:=by
    simp only[Option.bind_eq_some_iff]at ht;obtain⟨o',ho',hd⟩:=ht;have:=hall o' (Array.mem_of_getElem? ho');rw[hd]at this;simpa[fI]using this
   have hst:=hs t;rw[gD htl]at hst;have hy:yielded ops a.tmps j=match a.tmps[t]with | .bool b=>some b|_=>none:=by unfold yielded;rw[ht];simp[htl];cases a.tmps[t]<;>rfl
   rw[hy];generalize a.tmps[t]=v at hst;split at h
   ·rename_i b' hb;rw[hb]at hst;have:=conc_ok hst (v':=.bool b') rfl;subst this;simp at h;rw[<- h];cases b'<;>cases want<;>rfl
   ·rename_i hb;rw[hb]at hst;cases hst;simp at h;subst h;rfl
   ·cases h
theorem AZ {rid:Nat}{ops:Array Oper}(hall:∀(o:Oper),o∈ops->fI n o.dst=true){Q:St->Prop}{Q':Exit->Act->World->Prop}(hK:∀σ' a' w',Q σ'->AR K0 E0 T n σ' a' w'->Q' .normal a' w'):
  ∀(l:List Nat) (σ:St) (a:Act) (w:World),FC P n rid ops l σ Q->AR K0 E0 T n σ a w->wpOps P ops Q' l a w
 |[],σ,a,w,h,hA=>hK σ a w h hA
 |k::rest,σ,a,w,h,hA=>by
  simp only[FC]at h;simp only[wpOps];cases ho:ops[k]? with
  |none=>simp[ho]at h
  |some o =>
   simp only[ho]at h⊢;have hA':=hA;obtain⟨K,rfl,hE,h100,hr,hs,hd,hn⟩:=hA';split at h
   ·exact h.elim
   ·rename_i b hb;rw[yQ hs (by rw[hn];exact hall) hb];cases b with
    |true=>exact .inl (QV (h.1 rfl) hA (λσ' a' w' hq hA=>AZ hall hK rest σ' a' w' hq hA))
    |false =>obtain⟨h1,h2⟩:=h.2 rfl;exact AZ hall hK rest _ _ _ h2 (AR.put (σ:=σ) hE h100 hr hs hd hn .un h1)
end
inductive Ex where
 |normal
 |exit (id:Nat)
 |ret
def LE (n:Nat)(σ σ':St):Prop:=∀(K0 E0:Ctx)(T:Nat->Prop)(a:Act)(w:World),AR K0 E0 T n σ a w->AR K0 E0 T n σ' a w
theorem LE.refl (n:Nat)(σ:St):LE n σ σ:=λ_ _ _ _ _ h=>h
theorem LE.trans {n:Nat}{a b c:St}(h:LE n a b)(h':LE n b c):LE n a c:=λ_ _ _ _ _ x=>h' _ _ _ _ _ (h _ _ _ _ _ x)
def Ex.seq (k:St->Prop)(Q:Ex->St->Prop):Ex->St->Prop
 | .normal,σ=>k σ
 |e,σ=>Q e σ
def Ex.blk (id:Nat)(Q:Ex->St->Prop):Ex->St->Prop
 | .exit id',σ=>if id'=id then Q .normal σ else Q (.exit id') σ
 |e,σ=>Q e σ
def Dq (P:Program)(n:Nat)(d:D)(t e:Prop):Prop :=
 match d with
 | .i (.s (.bool b))=>(b=true->t)/\(b=false->e)
 |_=>False
def aw (P:Program)(n:Nat)(dr:Nat->Array Oper->St->(St->Prop)->Prop):Code->St->(Ex->St->Prop)->Prop
 | .skip,σ,Q=>Q .normal σ
 | .label _,σ,Q=>Q .normal σ
 | .region id ops false,σ,Q=>ops.all (λo=>fI n o.dst)=true/\FC P n id ops (List.range ops.size) σ (Q .normal)
 | .region id ops true,σ,Q=>ops.all (λo=>fI n o.dst)=true/\dr id ops σ (Q .normal)
 | .seq x y,σ,Q=>aw P n dr x σ (Ex.seq (λσ'=>aw P n dr y σ' Q) Q)
 | .cond c x y,σ,Q=>Dq P n (evA σ.sl c) (aw P n dr x σ Q) (aw P n dr y σ Q)
 | .block id c,σ,Q=>aw P n dr c σ (Ex.blk id Q)
 | .exit id,σ,Q=>Q (.exit id) σ
 | .ret,σ,Q=>Q .ret σ
 | .loop body,σ,Q=>∃(ι:Type) (S:ι->St) (m:ι->Nat) (i:ι),LE n σ (S i)/\∀i,aw P n dr body (S i) (Ex.seq (λσ'=>∃j,LE n σ' (S j)/\m j<m i) Q)
 |_,_,_=>False
def afO (P:Program)(n:Nat)(dr:Nat->Array Oper->St->(St->Prop)->Prop):Prop :=
 ∀(K0 E0:Ctx) (T:Nat->Prop) (id:Nat) (ops:Array Oper) (σ:St) (Q:St->Prop) (a:Act) (w:World) (Q':Exit->Act->World->Prop),(∀(o:Oper),o∈ops->fI n o.dst=true)->dr id ops σ Q->AR K0 E0 T n σ a w ->
  (∀σ' a' w',Q σ'->AR K0 E0 T n σ' a' w'->Q' .normal a' w')->(Code.region id ops true).wp P Q' a w
def Out (K0 E0:Ctx)(T:Nat->Prop)(n:Nat)(Q:Ex->St->Prop):Exit->Act->World->Prop
 | .normal,a,w=>∃σ,Q .normal σ/\AR K0 E0 T n σ a w
 | .exit id,a,w=>∃σ,Q (.exit id) σ/\AR K0 E0 T n σ a w
 | .ret,a,w=>∃σ,Q .ret σ/\AR K0 E0 T n σ a w
 |_,_,_=>False
section
variable {P:Program}{K0 E0:Ctx}{T:Nat->Prop}{n:Nat}{dr:Nat->Array Oper->St->(St->Prop)->Prop}
theorem Rb {ops:Array Oper}(h:ops.all (λo=>fI n o.dst)=true):∀(o:Oper),o∈ops->fI n o.dst=true :=
 λo ho=>(Array.all_eq_true_iff_forall_mem.1 h) o ho
theorem ahd (hdr:afO P n dr):∀(c:Code)(σ:St)(Q:Ex->St->Prop)(a:Act)(w:World),aw P n dr c σ Q->AR K0 E0 T n σ a w->c.wp P (Out K0 E0 T n Q) a w:=by
 intro c;induction c with
 |skip=>intro σ Q a w h hA;exact wp_skip ⟨σ,h,hA⟩
 |label l=>intro σ Q a w h hA;exact wp_label ⟨σ,h,hA⟩
 |region id ops draw =>
  intro σ Q a w h hA;cases draw with
  |false =>obtain⟨h1,h2⟩:=h;exact wp_region (AZ (Rb h1) (λσ' a' w' hq hA=>⟨σ',hq,hA⟩) _ _ _ _ h2 hA)
  |true =>obtain⟨h1,h2⟩:=h;exact hdr K0 E0 T id ops σ _ a w _ (Rb h1) h2 hA (λσ' a' w' hq hA=>⟨σ',hq,hA⟩)
 |seq x y ihx ihy =>
  intro σ Q a w h hA;refine wp_seq (wp_mono (ihx σ _ a w h hA) λe a' w' he=>?_);cases e with
  |normal=>obtain⟨σ',h1,h2⟩:=he;exact ihy σ' Q a' w' h1 h2
  |exit id=>obtain⟨σ',h1,h2⟩:=he;exact⟨σ',h1,h2⟩
  |ret=>obtain⟨σ',h1,h2⟩:=he;exact⟨σ',h1,h2⟩
  |_=>exact he.elim
 |cond c x y ihx ihy =>
  intro σ Q a w h hA;simp only[aw,Dq]at h;have hA':=hA;obtain⟨K,rfl,hE,h100,hr,hs,hd,hn⟩:=hA';split at h
  ·rename_i b hb;have hv:=conc_ok (AR.eval hs c) (v':=.bool b) (by rw[hb];rfl);refine wp_cond_split hv (λe=>ihx σ Q _ _ (h.1 e) hA) (λe=>ihy σ Q _ _ (h.2 e) hA)
  ·exact h.elim
 |block id c ih =>
  intro σ Q a w h hA;refine wp_block (wp_mono (ih σ _ a w h hA) λe a' w' he=>?_);cases e with
  |normal=>obtain⟨σ',h1,h2⟩:=he;exact⟨σ',h1,h2⟩
  |exit id' =>
   obtain⟨σ',h1,h2⟩:=he;simp only[Ex.blk]at h1;simp only[Exit.inBlock];by_cases e:id'=id
   ·rw[if_pos e]at h1⊢;exact⟨σ',h1,h2⟩
   ·rw[if_neg e]at h1⊢;exact⟨σ',h1,h2⟩
  |ret=>obtain⟨σ',h1,h2⟩:=he;exact⟨σ',h1,h2⟩
  |_=>exact he.elim
 |loop body ih =>
  intro σ Q a w h hA;obtain⟨ι,S,m,i0,h0,hround⟩:=h;intro b k cs;have key:∀(x:Nat) (i:ι) (a:Act) (w:World),m i=x->AR K0 E0 T n (S i) a w ->
    ∃e a' w',Out K0 E0 T n Q e a' w'/\Arrives P (lone (b.at a (.code body::.inLoop body::k)) cs w) b k cs e a' w':=by
   intro x;induction x using Nat.strongRecOn with
   |_ x ih' =>
    intro i a w hx hA;obtain⟨e,a₁,w₁,hq,harr⟩:=ih (S i) _ a w (hround i) hA b (.inLoop body::k) cs;cases e with
    |normal =>obtain⟨σ',⟨j,h1,h2⟩,h3⟩:=hq;obtain⟨e₂,a₂,w₂,hq₂,harr₂⟩:=ih' (m j) (hx▸h2) j a₁ w₁ rfl (h1 K0 E0 T a₁ w₁ h3);exact⟨e₂,a₂,w₂,hq₂,.of_steps (Steps.trans harr (.one step_inLoop)) harr₂⟩
    |exit id=>exact⟨.exit id,a₁,w₁,hq,.pass (x:=.inLoop body) rfl (λ_ _=>.inl (by simp)) harr⟩
    |ret=>exact⟨.ret,a₁,w₁,hq,.pass (x:=.inLoop body) rfl (λ_ _=>.inl (by simp)) harr⟩
    |_=>exact hq.elim
  obtain⟨e,a',w',hq,harr⟩:=key _ i0 a w rfl (h0 K0 E0 T a w hA);exact⟨e,a',w',hq,.of_steps (.one step_loop) harr⟩
 |exit id=>intro σ Q a w h hA;exact wp_exit ⟨σ,h,hA⟩
 |ret=>intro σ Q a w h hA;exact wp_ret ⟨σ,h,hA⟩
 |_=>intro σ Q a w h hA;exact h.elim
def iC (P:Program)(σ:St):ResultVar->Option D
 | .tmp t=>some (σ.sl t)
 | .cell a t=>match pM P t with
  |some true=>match iE P t with
   |some k=>(aW σ.H (σ.sl a) k).map .agg
   |none=>none
  |some false=>(aW σ.H (σ.sl a) 1).bind ku
  |none=>none
def BN (P:Program)(fn:Func)(σ:St):Option D :=
 match fn.results.toList.mapM (iC P σ)with
 |some [d]=>some d
 |some ds=>some (.tup ds)
 |none=>none
def wJ (tmps:Array Value):ResultVar->Sem Value
 | .tmp t=>pure (tmps.getD t undef)
 | .cell a t=>do loadVar t (<- asAddr (tmps.getD a undef))
theorem Kz (fn:Func)(tmps:Array Value):results fn tmps=(do let vs <- fn.results.mapM (wJ tmps);pure (if h:vs.size=1 then vs[0]else .tuple vs)):=rfl
theorem resOne_ok {σ:St}{K:Ctx}{a:Act}(hr:HR K0 T K σ.H)(hs:∀i,VD K (a.tmps.getD i undef) (σ.sl i)){x:ResultVar}{d:D}(h:iC P σ x=some d):
  ∃v,(wJ a.tmps x).run P K.w=.ok v K.w/\VD K v d:=by
 cases x with
 |tmp t=>simp[iC]at h;subst h;exact⟨_,rfl,hs t⟩
 |cell p t =>
  obtain⟨u,h1,h2⟩:=load_ok (P:=P) hr (hs p) (t:=t) (d:=d) h;refine⟨u,?_,h2⟩;have hp:∃b off,a.tmps.getD p undef=.pointer (some ⟨b,off,none⟩):=by
   have:∃m cs,aW σ.H (σ.sl p) m=some cs:=by
    simp only[iC]at h;split at h
    ·split at h
     ·simp only[Option.map_eq_some_iff]at h;obtain⟨cs,h,_⟩:=h;exact⟨_,cs,h⟩
     ·cases h
    ·simp only[Option.bind_eq_some_iff]at h;obtain⟨cs,h,_⟩:=h;exact⟨_,cs,h⟩
    ·cases h
   obtain⟨m,cs,hcs⟩:=this;obtain⟨b,off,vs,hb,_⟩:=readAt_ok hr (hs p) hcs;exact⟨b,off,hb⟩
  obtain⟨b,off,hb⟩:=hp;rw[hb]at h1;simp only[wJ,hb];simp only[Instr.loadAt,Instr.sureAddr,Sem.run_bind,Sem.run_pure,Result.andThen_ok]at h1;simp only[asAddr,Sem.run_bind,Sem.run_pure,Result.andThen_ok];exact h1
theorem Ie {α β:Type}{f:α->Sem β}{w:World}:∀(l:List α)(r:List β),r.length=l.length->(∀(j:Nat)(x:α)(y:β),l[j]?=some x->r[j]?=some y->(f x).run P w=.ok y w)->(l.mapM f).run P w=.ok r w
 |[],[],_,_=>by simp
 |[],_::_,h,_=>by simp at h
 |_::_,[],h,_=>by simp at h
 |x::l,y::r,hl,h=>by rw[List.mapM_cons];have h0:=h 0 x y (by simp) (by simp);have ih:=Ie l r (by simpa using hl) (λj a b ha hb=>h (j+1) a b (by simpa using ha) (by simpa using hb));simp[h0,ih]
theorem resA_ok {fn:Func}{σ:St}{K:Ctx}{a:Act}(hr:HR K0 T K σ.H)(hs:∀i,VD K (a.tmps.getD i undef) (σ.sl i)){d:D}(h:BN P fn σ=some d):∃v,(results fn a.tmps).run P K.w=.ok v K.w/\VD K v d:=by
 simp only[BN]at h;have main:∀{ds:List D},fn.results.toList.mapM (iC P σ)=some ds->∃vs:List Value,vs.length=ds.length/\(∀(j:Nat) (d:D),ds[j]?=some d->VD K (vs.getD j undef) d) /\
   (results fn a.tmps).run P K.w=.ok (if h:vs.toArray.size=1 then vs.toArray[0]else .tuple vs.toArray) K.w:=by
  intro ds hm;obtain⟨m1,m2⟩:=mapM_get hm;have hch:∀x:ResultVar,∃v:Value,∀d,iC P σ x=some d->(wJ a.tmps x).run P K.w=.ok v K.w/\VD K v d:=by
   intro x;cases hx:iC P σ x with
   |none=>exact⟨undef,λd hd=>by cases hd⟩
   |some d0 =>obtain⟨v,h1,h2⟩:=resOne_ok (P:=P) (K0:=K0) (T:=T) hr hs hx;exact⟨v,λd hd=>by cases hd;exact⟨h1,h2⟩⟩
  let val:ResultVar->Value:=λx=>Classical.choose (hch x);have hval:∀x d,iC P σ x=some d->(wJ a.tmps x).run P K.w=.ok (val x) K.w/\VD K (val x) d:=λx=>Classical.choose_spec (hch x);have hrun:(fn.results.toList.mapM (wJ a.tmps)).run P K.w=.ok (fn.results.toList.map val) K.w:=by refine Ie _ _ (by simp) (λj x y hx hy=>?_);simp only[List.getElem?_map,hx,Option.map_some,Option.some.injEq]at hy;subst hy;obtain⟨d,_,hd⟩:=m2 j x hx;exact(hval x d hd).1
  refine⟨fn.results.toList.map val,by simp[m1],λj d hd=>?_,?_⟩
  ·have hlt:j<fn.results.toList.length:=by have:=(List.getElem?_eq_some_iff.1 hd).1;omega
   obtain⟨d',hd1,hd2⟩:=m2 j fn.results.toList[j] (by simp[hlt]);rw[hd]at hd1;cases hd1;rw[List.getD_eq_getElem?_getD,List.getElem?_map,List.getElem?_eq_getElem hlt];exact(hval _ d hd2).2
  ·have harr:(fn.results.mapM (wJ a.tmps)).run P K.w=.ok (fn.results.toList.map val).toArray K.w:=by
    rw[<- Array.toArray_toList (xs:=fn.results),List.mapM_toArray];simp[hrun]
   rw[Kz];simp only[Sem.run_bind,harr,Result.andThen_ok];rfl
 split at h
 ·rename_i d' hm;simp at h;subst h;obtain⟨vs,h1,h2,h3⟩:=main hm
  match vs,h1 with
  |[v],_=>exact⟨v,by simpa using h3,by simpa using h2 0 d' (by simp)⟩
 ·rename_i ds hne hm;simp at h;subst h;obtain⟨vs,h1,h2,h3⟩:=main hm;have hsz:¬vs.toArray.size=1:=by
   intro hc
   match ds,vs,h1,hne with
   |[d],[v],_,hne=>exact hne d rfl
   |[],[v],h1,_=>simp at h1
   |_::_::_,[v],h1,_=>simp at h1
   |_,[],_,_=>simp at hc
   |_,_::_::_,_,_=>simp at hc
  rw[dif_neg hsz]at h3;refine⟨_,h3,.tup _ _ (by simpa using h1) λj d hd=>?_⟩;have:=h2 j d hd;simpa[Array.getD_eq_getD_getElem?,List.getD_eq_getElem?_getD]using this
 ·cases h
def LER (H0:Nat->Ob)(r:D)(H:Nat->Ob)(r':D)(H':Nat->Ob):Prop :=
 ∀(K0 E0:Ctx) (T:Nat->Prop) (K:Ctx) (v:Value),Ext E0 K->(∀o,H0 o=.fresh->E0.μ o=none)->HR K0 T K H->VD K v r->∃K',K'.w=K.w/\Ext E0 K'/\HR K0 T K' H'/\VD K' v r'
theorem LER.refl (H0:Nat->Ob)(r:D)(H:Nat->Ob):LER H0 r H r H:=λ_ _ _ K _ h1 _ h2 h3=>⟨K,rfl,h1,h2,h3⟩
def Cw (ds:List D):Nat->D:=λi=>ds.getD i .any
theorem QD {f:FuncId}{fn:Func}{c:Code}{ds:List D}{H:Nat->Ob}{r:D}{H':Nat->Ob}(hf:P.funcs[f]?=some fn)(hname:(fn.name == "runtime.NumGoroutine")=false)(hb:fn.body=some c)
  (hdr:afO P (max fn.ntmps ds.length) dr) (hH:∀o,100<=o->H o=.fresh)
  (h:aw P (max fn.ntmps ds.length) dr c ⟨Cw ds,H⟩ (λe σ=>match e with | .normal | .ret=>∃d,BN P fn σ=some d/\LER H d σ.H r H' | .exit _=>False)):aL P f ds H r H':=by
 refine⟨⟨fn,hf,hname,by simp[hb]⟩,λK0 T K vs hr hrd=>?_⟩;refine calls_of_wp hf hb ?_;have hA:AR K0 K T (max fn.ntmps ds.length) ⟨Cw ds,H⟩ {tmps:=vs++Array.replicate (fn.ntmps-vs.size) undef,defers:=[]} K.w:=by
  refine⟨K,rfl,Ext.refl K,λo ho=>hr.get (hH o ho),hr,λi=>?_,rfl,?_⟩
  ·simp only[Cw];by_cases hi:i<ds.length
   ·have e:(vs++Array.replicate (fn.ntmps-vs.size) undef).getD i undef=vs.getD i undef:=by
     rw[Array.getD_eq_getD_getElem?,Array.getElem?_append_left (by rw[hrd.1];exact hi),Array.getD_eq_getD_getElem?]
    rw[e,List.getD_eq_getElem?_getD];simp only[hi,List.getElem?_eq_getElem,Option.getD_some];exact hrd.2 i _ (by simp[hi])
   ·rw[List.getD_eq_getElem?_getD,List.getElem?_eq_none_iff.2 (by omega)];exact .any _
  ·simp[hrd.1];omega
 refine wp_mono (ahd hdr c _ _ _ _ h hA) λe a' w' he=>?_;have fin:∀{σ:St},(∃d,BN P fn σ=some d/\LER H d σ.H r H')->AR K0 K T (max fn.ntmps ds.length) σ a' w'->a'.defers=[]/\∃v,(results fn a'.tmps).run P w'=.ok v w'/\(∃v' K',Ending.returned v=.returned v'/\K'.w=w'/\Ext K K'/\HR K0 T K' H'/\VD K' v' r):=by rintro σ ⟨d,hd,hle⟩ ⟨K1,rfl,hE,h100,hr1,hs,hdf,hn⟩;obtain⟨v,g1,g2⟩:=resA_ok hr1 hs hd;obtain⟨K2,q1,q2,q3,q4⟩:=hle K0 K T K1 v hE (λo ho=>hr.get ho) hr1 g2;exact⟨hdf,v,g1,v,K2,rfl,q1,q2,q3,q4⟩
 cases e with
 |normal=>obtain⟨σ,h1,h2⟩:=he;exact fin h1 h2
 |ret=>obtain⟨σ,h1,h2⟩:=he;exact fin h1 h2
 |exit id=>obtain⟨σ,h1,h2⟩:=he;exact h1.elim
 |_=>exact he.elim
theorem Vm {f:FuncId}{fn:Func}{c:Code}{ds:List D}{H:Nat->Ob}{r:D}{H':Nat->Ob}(n:Nat)(hf:P.funcs[f]?=some fn)(hname:(fn.name == "runtime.NumGoroutine")=false)(hb:fn.body=some c)
  (hn:max fn.ntmps ds.length=n) (hdr:afO P n dr) (hH:∀o,100<=o->H o=.fresh)
  (h:aw P n dr c ⟨Cw ds,H⟩ (λe σ=>match e with | .normal | .ret=>∃d,BN P fn σ=some d/\LER H d σ.H r H' | .exit _=>False)):aL P f ds H r H':=by
 subst hn;exact QD hf hname hb hdr hH h
end
def lk {α:Type}:List (Nat×α)->α->Nat->α
 |[],d,_=>d
 |(j,x)::t,d,i=>if i=j then x else lk t d i
def noH:Nat->Ob:=λ_=>.fresh
def hO (objs:List (Nat×Ob)):Nat->Ob:=λo=>lk objs (if o<100 then .dead else .fresh) o
def dP (slots:List (Nat×D))(objs:List (Nat×Ob)):St:=⟨lk slots .any,hO objs⟩
theorem ag (slots:List (Nat×D))(objs:List (Nat×Ob)):dP slots objs=⟨lk slots .any,hO objs⟩:=rfl
def hF (objs:List (Nat×Ob)):Nat->Ob:=λo=>lk objs .fresh o
theorem Pk {i:Nat}{x:Ob}{t:List (Nat×Ob)}:hF ((i,x)::t) i=x:=by simp[hF,lk]
theorem aeq {i j:Nat}{x:Ob}{t:List (Nat×Ob)}(h:i≠j):hF ((j,x)::t) i=hF t i:=by simp[hF,lk,h]
theorem Xm {i:Nat}:hF [] i=.fresh:=rfl
theorem Pj {i:Nat}{x:Ob}{t:List (Nat×Ob)}:hO ((i,x)::t) i=x:=by simp[hO,lk]
theorem aep {i j:Nat}{x:Ob}{t:List (Nat×Ob)}(h:i≠j):hO ((j,x)::t) i=hO t i:=by simp[hO,lk,h]
theorem Xl {i:Nat}:hO [] i=if i<100 then .dead else .fresh:=rfl
theorem WX {i:Nat}:noH i=.fresh:=rfl
def cv0 (H:Nat->Ob)(F:List Nat)(s:Nat->Option Nat)(d d':D):Prop :=
 match d' with
 | .any=>True
 | .un=>d=.un
 | .rp cs c=>d=.rp cs c
 | .pt o' sz i c=>∃o,s o'=some o/\d=.pt o sz i c
 | .bs o' off len=>∃o,s o'=some o/\d=.bs o off len
 | .mp o'=>∃o,s o'=some o/\d=.mp o
 | .os o' sz off len=>(∃o,s o'=some o/\d=.os o sz off len)\/(d=.i (.s (.slice none 0 0))/\off=0/\len=0)
 | .i x=>d=.i x\/(d=.i (.s (.slice none 0 0))/\x=.sl [])\/∃o sz off len es,d=.os o sz off len/\o∈F/\aO H d=some es/\x=.sl es
 |_=>False
def cvL (H:Nat->Ob)(F:List Nat)(s:Nat->Option Nat):List D->List D->Prop
 |[],[]=>True
 |d::t,d'::t'=>cv0 H F s d d'/\cvL H F s t t'
 |_,_=>False
def cv1 (H:Nat->Ob)(F:List Nat)(s:Nat->Option Nat)(d d':D):Prop :=
 match d' with
 | .agg cs'=>∃cs,d=.agg cs/\cvL H F s cs cs'
 | .fn f cs'=>∃cs,d=.fn f cs/\cvL H F s cs cs'
 |d'=>cv0 H F s d d'
def cvT (H:Nat->Ob)(F:List Nat)(s:Nat->Option Nat):List D->List D->Prop
 |[],[]=>True
 |d::t,d'::t'=>cv1 H F s d d'/\cvT H F s t t'
 |_,_=>False
def cv (H:Nat->Ob)(F:List Nat)(s:Nat->Option Nat)(d d':D):Prop :=
 match d' with
 | .tup cs'=>∃cs,d=.tup cs/\cvT H F s cs cs'
 |d'=>cv1 H F s d d'
def cvW (H:Nat->Ob)(F:List Nat)(s:Nat->Option Nat):List (List D)->List (List D)->Prop
 |[],[]=>True
 |r::t,r'::t'=>cvL H F s r r'/\cvW H F s t t'
 |_,_=>False
def acV (es:List (List D)):Bool:=es.all λe=>e.all D.one
def toD (es:List (List I)):List (List D):=es.map (·.map .i)
def cvO (H:Nat->Ob)(F:List Nat)(s:Nat->Option Nat)(x x':Ob):Prop :=
 match x' with
 | .dead=>True
 | .it s pos=>x=.it s pos
 | .mp es=>x=.mp es
 | .box cs'=>∃cs,x=.box cs/\(cvL H F s cs cs'\/cvT H F s cs cs')/\cs'.all D.one=true
 | .arr sz es=>x=.arr sz es\/∃es0,x=.tab sz es0/\cvW H F s es0 (toD es)
 | .tab sz es=>acV es=true/\((∃es0,x=.tab sz es0/\cvW H F s es0 es)\/∃es0,x=.arr sz es0/\es=toD es0)
 | .fz sz es=>x=.fz sz es
 | .fresh=>False
section
variable {K0 E0:Ctx}{T:Nat->Prop}{K:Ctx}{H:Nat->Ob}{F:List Nat}{s:Nat->Option Nat}
def Ctx.ren (K:Ctx)(H:Nat->Ob)(F:List Nat)(s:Nat->Option Nat):Ctx:=⟨K.w,λb=>K.S b\/frzS K H F b,λo=>(s o).bind K.μ⟩
theorem VI.ren {v:Value}{x:I}(h:VI K.w K.S v x):VI (K.ren H F s).w (K.ren H F s).S v x:=h.mono (λ_ h=>.inl h) (λ_ _ _=>rfl)
theorem Jf (hr:HR K0 T K H){v:Value}{d d':D}(hv:VD K v d)(h:cv0 H F s d d'):VD (K.ren H F s) v d':=by
 cases d' with
 |any=>exact .any v
 |un=>simp only[cv0]at h;subst h;cases hv;exact .un
 |rp cs c =>
  simp only[cv0]at h;subst h;cases hv with
  |rp b off _ _ f h1 h2 h3=>exact .rp b off c cs f (.inl h1) h2 (λj x hx=>(h3 j x hx).ren)
 |pt o' sz i c =>
  obtain⟨o,ho,rfl⟩:=h;cases hv with
  |pt _ _ _ _ b hμ=>exact .pt o' sz i c b (by simp[Ctx.ren,ho,hμ])
 |bs o' off len =>
  obtain⟨o,ho,rfl⟩:=h;cases hv with
  |bs _ _ _ b cap hμ=>exact .bs o' off len b cap (by simp[Ctx.ren,ho,hμ])
 |mp o' =>
  obtain⟨o,ho,rfl⟩:=h;cases hv with
  |mp _ b hμ=>exact .mp o' b (by simp[Ctx.ren,ho,hμ])
 |os o' sz off len =>
  rcases h with⟨o,ho,rfl⟩|⟨rfl,rfl,rfl⟩
  ·cases hv with
   |os _ _ _ _ b off' cap h1 h2 h3 h4 h5=>exact .os o' sz off len b off' cap (by simp[Ctx.ren,ho,h1]) h2 h3 h4 h5
   |os0 _ _ a=>exact .os0 o' sz a
  ·have:=conc_ok hv (v':=.slice none 0 0) rfl;subst this;exact .os0 o' sz none
 |i x =>
  rcases h with rfl|⟨rfl,rfl⟩|⟨o,sz,off,len,es,rfl,hm,he,rfl⟩
  ·exact .i hv.inv_i.ren
  ·have:=conc_ok hv (v':=.slice none 0 0) rfl;subst this;exact .i (.e _ _)
  ·exact .i ((nE hr hv he F hm).mono (λ_ h=>h) (λ_ _ _=>rfl))
 |_=>exact h.elim
theorem cvL_ok (hr:HR K0 T K H):∀{cs cs':List D}{f:Nat->Value},cvL H F s cs cs'->(∀(j:Nat)(d:D),cs[j]?=some d->VD K (f j) d)->cs.length=cs'.length/\∀(j:Nat)(d:D),cs'[j]?=some d->VD (K.ren H F s) (f j) d
 |[],[],f,_,_=>⟨rfl,λj d hd=>by simp at hd⟩
 |d::t,d'::t',f,h,hv=>by
  obtain⟨h1,h2⟩:=h;obtain⟨g1,g2⟩:=cvL_ok hr (f:=λj=>f (j+1)) h2 (λj d hd=>hv (j+1) d (by simpa using hd));refine⟨by simp[g1],λj d hd=>?_⟩;cases j with
  |zero=>simp at hd;subst hd;exact Jf hr (hv 0 d (by simp)) h1
  |succ j=>exact g2 j d (by simpa using hd)
 |[],_::_,_,h,_=>h.elim
 |_::_,[],_,h,_=>h.elim
theorem xZ:∀{a a' b b':List D},cvL H F s a a'->cvL H F s b b'->cvL H F s (a++b) (a'++b')
 |[],[],_,_,_,h=>h
 |_::_,_::_,_,_,h,h'=>⟨h.1,xZ h.2 h'⟩
 |[],_::_,_,_,h,_=>h.elim
 |_::_,[],_,_,h,_=>h.elim
theorem PW:∀{a a':List D},cvL H F s a a'->a.length=a'.length
 |[],[],_=>rfl
 |_::_,_::_,h=>by simp[PW h.2]
 |[],_::_,h=>h.elim
 |_::_,[],h=>h.elim
theorem cvW_flat {sz:Nat}:∀{es es':List (List D)},cvW H F s es es'->(∀e∈es,e.length=sz)->cvL H F s es.flatten es'.flatten/\es.length=es'.length/\∀e∈es',e.length=sz
 |[],[],_,_=>⟨trivial,rfl,by simp⟩
 |r::t,r'::t',h,hu=>by
  obtain⟨g1,g2,g3⟩:=cvW_flat h.2 (λe he=>hu e (by simp[he]));refine⟨xZ h.1 g1,by simp[g2],λe he=>?_⟩;rcases List.mem_cons.1 he with rfl|he
  ·rw[<- PW h.1];exact hu r (by simp)
  ·exact g3 e he
 |[],_::_,h,_=>h.elim
 |_::_,[],h,_=>h.elim
theorem Gd (es:List (List I)):(toD es).flatten=es.flatten.map .i:=by
 induction es with
 |nil=>rfl
 |cons a t ih=>simp only[toD,List.map_cons,List.flatten_cons,List.map_append]at ih⊢;rw[ih]
theorem Je (hr:HR K0 T K H){v:Value}{d d':D}(hv:VD K v d)(h:cv1 H F s d d'):VD (K.ren H F s) v d':=by
 cases d' with
 |agg cs' =>
  obtain⟨cs,rfl,h⟩:=h;cases hv with
  |agg vs _ hl hc=>obtain⟨g1,g2⟩:=cvL_ok hr h hc;exact .agg vs cs' (by omega) g2
 |fn f cs' =>
  obtain⟨cs,rfl,h⟩:=h;cases hv with
  |fn _ vs _ hl hc=>obtain⟨g1,g2⟩:=cvL_ok hr h hc;exact .fn f vs cs' (by omega) g2
 |_=>exact Jf hr hv h
theorem cvT_ok (hr:HR K0 T K H):∀{cs cs':List D}{f:Nat->Value},cvT H F s cs cs'->(∀(j:Nat)(d:D),cs[j]?=some d->VD K (f j) d)->cs.length=cs'.length/\∀(j:Nat)(d:D),cs'[j]?=some d->VD (K.ren H F s) (f j) d
 |[],[],f,_,_=>⟨rfl,λj d hd=>by simp at hd⟩
 |d::t,d'::t',f,h,hv=>by
  obtain⟨h1,h2⟩:=h;obtain⟨g1,g2⟩:=cvT_ok hr (f:=λj=>f (j+1)) h2 (λj d hd=>hv (j+1) d (by simpa using hd));refine⟨by simp[g1],λj d hd=>?_⟩;cases j with
  |zero=>simp at hd;subst hd;exact Je hr (hv 0 d (by simp)) h1
  |succ j=>exact g2 j d (by simpa using hd)
 |[],_::_,_,h,_=>h.elim
 |_::_,[],_,h,_=>h.elim
theorem aaA (hr:HR K0 T K H){v:Value}{d d':D}(hv:VD K v d)(h:cv H F s d d'):VD (K.ren H F s) v d':=by
 cases d' with
 |tup cs' =>
  obtain⟨cs,rfl,h⟩:=h;cases hv with
  |tup vs _ hl hc=>obtain⟨g1,g2⟩:=cvT_ok hr h hc;exact .tup vs cs' (by omega) g2
 |_=>exact Je hr hv h
theorem frz_tab {o sz:Nat}{es:List (List D)}(e:Abs.frz F H o=.tab sz es):H o=.tab sz es:=by
 simp only[Abs.frz]at e;split at e
 ·split at e
  ·cases e
  ·exact e
 ·exact e
theorem HR.ren (hr:HR K0 T K H){H':Nat->Ob}
  (hob:∀o',(H' o'=.fresh/\s o'=none)\/H' o'=.dead\/(s o'=none/\∃sz,0<sz/\H' o'=.arr sz [])\/∃o,s o'=some o/\cvO H F s (Abs.frz F H o) (H' o'))
  (hinj:∀o1 o2 o,(H' o1).own->(H' o2).own->s o1=some o->s o2=some o->o1=o2):HR K0 T (K.ren H F s) H':=by
 have h1:=hr.frz F;have hμ:∀{o' b},(K.ren H F s).μ o'=some b->∃o,s o'=some o/\K.μ o=some b:=by intro o' b h;simpa[Ctx.ren,Option.bind_eq_some_iff]using h
 have hown:∀{o' o},(H' o').own->s o'=some o->(Abs.frz F H o).own:=by
  intro o' o h hs;rcases hob o' with⟨e,_⟩|e|⟨hn,_⟩|⟨o2,ho2,hc⟩
  ·rw[e]at h;exact h.elim
  ·rw[e]at h;exact h.elim
  ·rw[hn]at hs;cases hs
  ·rw[hs]at ho2;cases ho2;cases hx:H' o' with
   |box cs'=>rw[hx]at hc;obtain⟨cs,e,_⟩:=hc;rw[e];trivial
   |arr sz es=>rw[hx]at hc;rcases hc with hc|⟨es0,hc,_⟩<;>rw[hc]<;>trivial
   |tab sz es=>rw[hx]at hc;rcases hc.2 with⟨es0,hc,_⟩|⟨es0,hc,_⟩<;>rw[hc]<;>trivial
   |it st pos=>rw[hx]at hc;rw[show Abs.frz F H o=.it st pos from hc];trivial
   |mp es=>rw[hx]at hc;rw[show Abs.frz F H o=.mp es from hc];trivial
   |_=>rw[hx]at h;exact h.elim
 refine⟨h1.g0,h1.os,h1.tape,h1.output,h1.size,h1.block,h1.sB,h1.sN,λo' b hb=>by obtain⟨o,_,h⟩:=hμ hb;exact hr.mB o b h,λo'=>?_,λo1 o2 b g1 g2 k1 k2=>?_⟩
 ·rcases hob o' with⟨e,hn⟩|e|⟨hn,sz,hz,e⟩|⟨o,ho,hc⟩
  ·rw[e];simp[ObR,Ctx.ren,hn]
  ·rw[e];trivial
  ·rw[e];exact⟨hz,by simp,.inl ⟨by simp[Ctx.ren,hn],rfl⟩⟩
  ·have hsrc:=h1.ob o;cases hx:H' o' with
   |fresh=>rw[hx]at hc;exact hc.elim
   |dead=>trivial
   |box cs' =>
    rw[hx]at hc;obtain⟨cs,e,hl,hone⟩:=hc;rw[e]at hsrc;obtain⟨b,row,ty,a1,a2,a3,a4,a5,a6,a7⟩:=hsrc;have hH:H o=.box cs:=by
     simp only[Abs.frz]at e;split at e
     ·split at e
      ·cases e
      ·exact e
     ·exact e
    obtain⟨b',row',ty',c1,c2,c3,c4,c5,c6,c7⟩:=hr.get hH;have hbb:b'=b:=by have:K.μ o=some b:=a1;rw[c1]at this;simpa using this
    subst hbb;have hrr:row'=row:=by have:K.w.heap[b']?=some (.cells row ty (0,0)):=a2;rw[c2]at this;simp at this;exact this.1
    subst hrr;obtain⟨q1,q2⟩:cs.length=cs'.length/\∀(j:Nat) (d:D),cs'[j]?=some d->VD (K.ren H F s) (row'.getD j undef) d:=hl.elim (λhl=>cvL_ok (f:=λj=>row'.getD j undef) hr hl c4) (λhl=>cvT_ok (f:=λj=>row'.getD j undef) hr hl c4);exact⟨b',row',ty,by simp[Ctx.ren,ho,c1],a2,by omega,q2,λd hd=>List.all_eq_true.1 hone d hd,a6,a7⟩
   |it st pos =>rw[hx]at hc;rw[show Abs.frz F H o=.it st pos from hc]at hsrc;obtain⟨b,a1,a2,a3,a4⟩:=hsrc;exact⟨b,by simp only[Ctx.ren,ho,Option.bind_some];exact a1,a2,a3,a4⟩
   |mp es =>rw[hx]at hc;rw[show Abs.frz F H o=.mp es from hc]at hsrc;obtain⟨b,en,ck,a1,a2,a3,a4⟩:=hsrc;exact⟨b,en,ck,by simp only[Ctx.ren,ho,Option.bind_some];exact a1,a2,lM.imp (K':=K.ren H F s) (λ_ _ hv=>ado (K:=K.more (frzS K H F)) (K':=K.ren H F s) rfl rfl hv) a3,a4⟩
   |arr sz es =>
    rw[hx]at hc;rcases hc with hc|⟨es0,hc,hw⟩
    ·rw[hc]at hsrc;obtain⟨a1,a2,a3⟩:=hsrc;refine⟨a1,a2,?_⟩;rcases a3 with⟨a3,a4⟩|⟨b,row,ty,c1,c2,c3,c4,c5,c6⟩
     ·exact .inl ⟨by simp only[Ctx.ren,ho,Option.bind_some];exact a3,a4⟩
     ·exact .inr ⟨b,row,ty,by simp only[Ctx.ren,ho,Option.bind_some];exact c1,c2,c3,c4,c5,c6⟩
    ·obtain⟨a1,a2,a0,a3⟩:=hr.get (frz_tab hc);obtain⟨k1,k2,k3⟩:=cvW_flat hw a2;have k3:∀e∈es,e.length=sz:=λe he=>by have:=k3 (e.map .i) (List.mem_map.2 ⟨e,he,rfl⟩);simpa using this
     have k2:es0.length=es.length:=by rw[k2];simp[toD]
     refine⟨a1,k3,?_⟩;rw[hc]at hsrc;rcases a3 with⟨a3,a4⟩|⟨b,row,ty,c1,c2,c3,c4,c5,c6⟩
     ·subst a4;exact .inl ⟨by simp only[Ctx.ren,ho,Option.bind_some];exact a3,List.eq_nil_of_length_eq_zero k2.symm⟩
     ·obtain⟨_,q2⟩:=cvL_ok (f:=λj=>row.getD j undef) hr k1 c4;obtain⟨_,_,_,hs2⟩:=hsrc;rcases hs2 with⟨hs2,_⟩|⟨b1,row1,ty1,d1,d2,_,_,d5,d6⟩
      ·rw[show(K.more (frzS K H F)).μ o=some b from c1]at hs2;cases hs2
      rw[show(K.more (frzS K H F)).μ o=some b from c1]at d1;cases d1;refine .inr ⟨b,row,ty,by simp only[Ctx.ren,ho,Option.bind_some];exact c1,c2,by rw[<- k2];exact c3,λj x hx=>(q2 j (.i x) ?_).inv_i,d5,c6⟩;rw[Gd,List.getElem?_map,hx];rfl
   |tab sz es =>
    rw[hx]at hc;obtain⟨hone,hc⟩:=hc;have hone:∀e∈es,∀d∈e,d.one=true:=λe he d hd=>List.all_eq_true.1 (List.all_eq_true.1 hone e he) d hd;rcases hc with⟨es0,hc,hw⟩|⟨es0,hc,rfl⟩
    ·obtain⟨a1,a2,a0,a3⟩:=hr.get (frz_tab hc);obtain⟨k1,k2,k3⟩:=cvW_flat hw a2;refine⟨a1,k3,hone,?_⟩;rw[hc]at hsrc;rcases a3 with⟨a3,a4⟩|⟨b,row,ty,c1,c2,c3,c4,c5,c6⟩
     ·subst a4;exact .inl ⟨by simp only[Ctx.ren,ho,Option.bind_some];exact a3,List.eq_nil_of_length_eq_zero k2.symm⟩
     ·obtain⟨_,q2⟩:=cvL_ok (f:=λj=>row.getD j undef) hr k1 c4;obtain⟨_,_,_,hs2⟩:=hsrc;rcases hs2 with⟨hs2,_⟩|⟨b1,row1,ty1,d1,d2,_,_,d5,d6⟩
      ·rw[show(K.more (frzS K H F)).μ o=some b from c1]at hs2;cases hs2
      rw[show(K.more (frzS K H F)).μ o=some b from c1]at d1;cases d1;exact .inr ⟨b,row,ty,by simp only[Ctx.ren,ho,Option.bind_some];exact c1,c2,by rw[<- k2];exact c3,q2,d5,c6⟩
    ·rw[hc]at hsrc;obtain⟨a1,a2,a3⟩:=hsrc;refine⟨a1,λe he=>?_,hone,?_⟩
     ·obtain⟨e0,he0,rfl⟩:=List.mem_map.1 he;simpa using a2 e0 he0
     rcases a3 with⟨a3,rfl⟩|⟨b,row,ty,c1,c2,c3,c4,c5,c6⟩
     ·exact .inl ⟨by simp only[Ctx.ren,ho,Option.bind_some];exact a3,rfl⟩
     ·refine .inr ⟨b,row,ty,by simp only[Ctx.ren,ho,Option.bind_some];exact c1,c2,by simpa[toD]using c3,λj d hd=>?_,c5,c6⟩;rw[Gd,List.getElem?_map]at hd;simp only[Option.map_eq_some_iff]at hd;obtain⟨x,hx,rfl⟩:=hd;exact .i (c4 j x hx)
   |fz sz es =>
    rw[hx]at hc;rw[show Abs.frz F H o=.fz sz es from hc]at hsrc;obtain⟨a1,a2,a3⟩:=hsrc;refine⟨a1,a2,?_⟩;rcases a3 with⟨a3,a4⟩|⟨b,f,c1,c2,c3⟩
    ·exact .inl ⟨by simp only[Ctx.ren,ho,Option.bind_some];exact a3,a4⟩
    ·exact .inr ⟨b,f,by simp only[Ctx.ren,ho,Option.bind_some];exact c1,c2,c3⟩
 ·obtain⟨p1,e1,m1⟩:=hμ k1;obtain⟨p2,e2,m2⟩:=hμ k2;have:p1=p2:=h1.inj p1 p2 b (hown g1 e1) (hown g2 e2) m1 m2;subst this;exact hinj o1 o2 p1 g1 g2 e1 e2
theorem Ext.ren (hE:Ext E0 K)(hs:∀o b,E0.μ o=some b->s o=some o):Ext E0 (K.ren H F s) :=
 ⟨λb h=>.inl (hE.S b h),hE.cell,λo b h=>by simp[Ctx.ren,hs o b h,hE.μ o b h],hE.row⟩
theorem lk_mem {α:Type}{l:List (Nat×α)}{d:α}{i:Nat}:(∃p∈l,p.1=i/\lk l d i=p.2)\/((∀p∈l,p.1≠i)/\lk l d i=d):=by
 induction l with
 |nil=>exact .inr ⟨by simp,rfl⟩
 |cons p t ih =>
  obtain⟨j,x⟩:=p;by_cases h:i=j
  ·subst h;exact .inl ⟨(i,x),by simp,rfl,by simp[lk]⟩
  ·simp only[lk,if_neg h];rcases ih with⟨p,hp,h1,h2⟩|⟨h1,h2⟩
   ·exact .inl ⟨p,by simp[hp],h1,h2⟩
   ·refine .inr ⟨λp hp=>?_,h2⟩;rcases List.mem_cons.1 hp with rfl|hp
    ·exact λe=>h e.symm
    ·exact h1 p hp
def az (src:List (Nat×Nat))(o:Nat):Option Nat:=if o<100 then some o else lk (src.map λp=>(p.1,some p.2)) none o
def aX (H:Nat->Ob)(F:List Nat)(s:Nat->Option Nat)(p:Nat×Ob):Prop :=
 match s p.1 with
 |some o=>cvO H F s (Abs.frz F H o) p.2
 |none=>∃sz,0<sz/\p.2=.arr sz []
theorem aj {n:Nat}{σ:St}(slots:List (Nat×D))(objs:List (Nat×Ob))(F:List Nat)(src:List (Nat×Nat))
  (hs:∀p∈slots,cv σ.H F (az src) (σ.sl p.1) p.2) (ho:∀p∈objs,aX σ.H F (az src) p)
  (hk:(src.all λp=>objs.any λq=>q.1==p.1)=true) (hinj:(src.all λp=>(decide (100<=p.2)||objs.all λq=>q.1 != p.2)&&src.all λq=>p.2 != q.2||p.1==q.1)=true):LE n σ (dP slots objs):=by
 rintro K0 E0 T a w ⟨K,rfl,hE,h100,hr,hsl,hd,hn⟩;refine⟨K.ren σ.H F (az src),rfl,Ext.ren hE (λo b hb=>?_),h100,hr.ren (λo'=>?_) (λo1 o2 o g1 g2 k1 k2=>?_),λi=>?_,hd,hn⟩
 ·by_cases h:o<100
  ·simp[az,h]
  ·rw[h100 o (by omega)]at hb;cases hb
 ·show _\/_\/_\/_;simp only[dP,hO];rcases lk_mem (l:=objs) (d:=if o'<100 then Ob.dead else Ob.fresh) (i:=o')with⟨p,hp,rfl,h2⟩|⟨h1,h2⟩
  ·rw[h2];have:=ho p hp;simp only[aX]at this;split at this
   ·rename_i o hso;exact .inr (.inr (.inr ⟨o,hso,this⟩))
   ·rename_i hso;exact .inr (.inr (.inl ⟨hso,this⟩))
  ·rw[h2];by_cases h:o'<100
   ·rw[if_pos h];exact .inr (.inl rfl)
   ·rw[if_neg h];refine .inl ⟨rfl,?_⟩;simp only[az,if_neg h];rcases lk_mem (l:=src.map λp=>(p.1,some p.2)) (d:=none) (i:=o')with⟨p,hp,e1,e2⟩|⟨_,e2⟩
    ·obtain⟨q,hq,rfl⟩:=List.mem_map.1 hp;have:=List.all_eq_true.1 hk q hq;obtain⟨r,hr1,hr2⟩:=List.any_eq_true.1 this;exact absurd ((by simpa using hr2:r.1=q.1).trans e1) (h1 r hr1)
    ·exact e2
 ·have key:∀{o1},az src o1=some o->(o1<100/\o=o1)\/(¬o1<100/\∃p∈src,p.1=o1/\p.2=o):=by
   intro o1 h;simp only[az]at h;split at h
   ·rename_i hl;exact .inl ⟨hl,by simpa using h.symm⟩
   ·rename_i hl;rcases lk_mem (l:=src.map λp=>(p.1,some p.2)) (d:=none) (i:=o1)with⟨p,hp,e1,e2⟩|⟨_,e2⟩
    ·obtain⟨q,hq,rfl⟩:=List.mem_map.1 hp;rw[e2]at h;exact .inr ⟨hl,q,hq,e1,by simpa using h⟩
    ·rw[e2]at h;cases h
  have low:∀{o1:Nat}{p:Nat×Nat},p∈src->o1<100->p.2=o1->¬(hO objs o1).own:=by
   intro o1 p hp hlt he hown;have:=List.all_eq_true.1 hinj p hp;simp only[Bool.and_eq_true,Bool.or_eq_true,decide_eq_true_eq]at this;rcases this.1 with h|h
   ·omega
   ·simp only[hO]at hown;rcases lk_mem (l:=objs) (d:=if o1<100 then Ob.dead else Ob.fresh) (i:=o1)with⟨q,hq,e1,e2⟩|⟨_,e2⟩
    ·have:=List.all_eq_true.1 h q hq;rw[he]at this;simp at this;exact this e1
    ·rw[e2,if_pos hlt]at hown;exact hown.elim
  rcases key k1 with⟨a1,rfl⟩|⟨a1,p,hp,rfl,rfl⟩<;>rcases key k2 with⟨a2,e2⟩|⟨a2,q,hq,rfl,e2⟩
  ·omega
  ·exact absurd g1 (low hq a1 e2)
  ·exact absurd g2 (low hp a2 e2)
  ·have:=List.all_eq_true.1 hinj p hp;simp only[Bool.and_eq_true]at this;have:=List.all_eq_true.1 this.2 q hq;simp only[Bool.or_eq_true,bne_iff_ne,beq_iff_eq]at this;rcases this with h|h
   ·exact absurd e2.symm h
   ·exact h
 ·simp only[dP];rcases lk_mem (l:=slots) (d:=D.any) (i:=i)with⟨p,hp,rfl,h2⟩|⟨_,h2⟩
  ·rw[h2];exact aaA hr (hsl p.1) (hs p hp)
  ·rw[h2];exact .any _
def hOf (H0:Nat->Ob)(objs:List (Nat×Ob)):Nat->Ob:=λo=>lk objs (match H0 o with | .fresh=>.fresh|_=>.dead) o
def jc (H0:Nat->Ob)(src:List (Nat×Nat))(o:Nat):Option Nat:=match H0 o with | .fresh=>lk (src.map λp=>(p.1,some p.2)) none o|_=>some o
theorem Co {H0:Nat->Ob}{d r:D}(objs:List (Nat×Ob))(F:List Nat)(src:List (Nat×Nat))(hv:cv H F (jc H0 src) d r)(ho:∀p∈objs,aX H F (jc H0 src) p)
  (hk:(src.all λp=>objs.any λq=>q.1==p.1)=true) (hf:∀p∈src,H0 p.2=.fresh) (hinj:(src.all λp=>src.all λq=>p.2 != q.2||p.1==q.1)=true):LER H0 d H r (hOf H0 objs):=by
 intro K0 E0 T K v hE h0 hr hvd;have hid:∀o,H0 o≠.fresh->jc H0 src o=some o:=by intro o h;cases e:H0 o<;>simp[jc,e];exact absurd e h
 have hlk:∀o,H0 o=.fresh->jc H0 src o=lk (src.map λp=>(p.1,some p.2)) none o:=by intro o h;simp[jc,h]
 refine⟨K.ren H F (jc H0 src),rfl,Ext.ren hE (λo b hb=>?_),hr.ren (λo'=>?_) (λo1 o2 o g1 g2 k1 k2=>?_),aaA hr hvd hv⟩
 ·refine hid o (λe=>?_);rw[h0 o e]at hb;cases hb
 ·simp only[hOf];rcases lk_mem (l:=objs) (d:=match H0 o' with | .fresh=>Ob.fresh|_=>.dead) (i:=o')with⟨p,hp,rfl,h2⟩|⟨h1,h2⟩
  ·rw[h2];have:=ho p hp;simp only[aX]at this;split at this
   ·rename_i o hso;exact .inr (.inr (.inr ⟨o,hso,this⟩))
   ·rename_i hso;exact .inr (.inr (.inl ⟨hso,this⟩))
  ·rw[h2];by_cases h:H0 o'=.fresh
   ·refine .inl ⟨by simp[h],?_⟩;rw[hlk o' h];rcases lk_mem (l:=src.map λp=>(p.1,some p.2)) (d:=none) (i:=o')with⟨p,hp,e1,e2⟩|⟨_,e2⟩
    ·obtain⟨q,hq,rfl⟩:=List.mem_map.1 hp;have:=List.all_eq_true.1 hk q hq;obtain⟨r,hr1,hr2⟩:=List.any_eq_true.1 this;exact absurd ((by simpa using hr2:r.1=q.1).trans e1) (h1 r hr1)
    ·exact e2
   ·refine .inr (.inl ?_);split
    ·rename_i e;exact absurd e h
    ·rfl
 ·have key:∀{o1},jc H0 src o1=some o->(H0 o1≠.fresh/\o=o1)\/(H0 o=.fresh/\∃p∈src,p.1=o1/\p.2=o):=by
   intro o1 h;by_cases hf1:H0 o1=.fresh
   ·rw[hlk o1 hf1]at h;rcases lk_mem (l:=src.map λp=>(p.1,some p.2)) (d:=none) (i:=o1)with⟨p,hp,e1,e2⟩|⟨_,e2⟩
    ·obtain⟨q,hq,rfl⟩:=List.mem_map.1 hp;rw[e2]at h;have:q.2=o:=by simpa using h
     exact .inr ⟨by rw[<- this];exact hf q hq,q,hq,e1,this⟩
    ·rw[e2]at h;cases h
   ·rw[hid o1 hf1]at h;exact .inl ⟨hf1,by simpa using h.symm⟩
  rcases key k1 with⟨a1,rfl⟩|⟨a1,p,hp,rfl,rfl⟩<;>rcases key k2 with⟨a2,e2⟩|⟨a2,q,hq,rfl,e2⟩
  ·exact e2
  ·exact absurd a2 a1
  ·exact absurd a1 (by rw[e2];exact a2)
  ·have:=List.all_eq_true.1 hinj p hp;have:=List.all_eq_true.1 this q hq;simp only[Bool.or_eq_true,bne_iff_ne,beq_iff_eq]at this;rcases this with h|h
   ·exact absurd e2.symm h
   ·exact h
theorem kJ {d r:D}(F:List Nat)(hv:cv H F (λ_=>none) d r):LER noH d H r noH:=by have:=Co (H0:=noH) (H:=H) (d:=d) (r:=r) [] F [] hv (by simp) rfl (by simp) rfl;exact this
end
end Go.Abs
