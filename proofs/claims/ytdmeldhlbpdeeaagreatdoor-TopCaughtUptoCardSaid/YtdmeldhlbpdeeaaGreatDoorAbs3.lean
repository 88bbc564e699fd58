/- Merged texts: AbsO, AbsQ, AbsR, AbsS, AbsT. -/
import Derived.Test.YtdmeldhlbpdeeaaGreatDoorAbs2
import Derived.Orders
import Derived.Laws.BitsLemmas
set_option linter.all false
namespace Go.Abs
open Go Go.RowKit
def PureD (P:Program)(f:FuncId)(ds:List D)(r:D):Prop:=aL P f ds noH r noH
def D.flat1:D->Bool
 | .i (.s _)=>true
 | .un=>true
 |_=>false
def D.flat2:D->Bool
 | .agg cs=>cs.all D.flat1
 |d=>d.flat1
def D.flat:D->Bool
 | .tup ds=>ds.all D.flat2
 |d=>d.flat2
def Fj (H:Nat->Ob)(F:List Nat):List D->List I->Prop
 |[],[]=>True
 |d::t,x::t'=>cv0 H F (λ_=>none) d (.i x)/\Fj H F t t'
 |_,_=>False
def cvR (H:Nat->Ob)(F B:List Nat)(d d':D):Prop :=
 match d' with
 | .rp xs c=>d=.rp xs c\/∃o sz i,d=.pt o sz i c/\((o∈B/\i=0/\∃cs,H o=.box cs/\Fj H F cs xs)\/(o∈F/\∃es,(H o=.arr sz es\/H o=.fz sz es)/\es[i]?=some xs))
 |d'=>cv0 H F (λ_=>none) d d'
def afJ (H:Nat->Ob)(F B:List Nat):List D->List D->Prop
 |[],[]=>True
 |d::t,d'::t'=>cvR H F B d d'/\afJ H F B t t'
 |_,_=>False
def cvA (H:Nat->Ob)(F B:List Nat)(d d':D):Prop :=
 match d' with
 | .rp xs c=>d=.rp xs c\/∃o sz i,d=.pt o sz i c/\((o∈B/\i=0/\∃cs,H o=.box cs/\Fj H F cs xs)\/(o∈F/\∃es,(H o=.arr sz es\/H o=.fz sz es)/\es[i]?=some xs))
 | .fn f cs'=>∃cs,d=.fn f cs/\afJ H F B cs cs'
 |d'=>cv1 H F (λ_=>none) d d'
def CV (H:Nat->Ob)(F B:List Nat):List D->List D->Prop
 |[],[]=>True
 |d::t,d'::t'=>cvA H F B d d'/\CV H F B t t'
 |_,_=>False
section
variable {P:Program}{K0:Ctx}{T:Nat->Prop}{K:Ctx}{H:Nat->Ob}{F B:List Nat}
theorem HR.grow (hr:HR K0 T K H){w':World}{S':Nat->Prop}(h1:w'.os=K.w.os)(h2:w'.tape=K.w.tape)(h3:w'.output=K.w.output)(h4:K.w.heap.size<=w'.heap.size)(h5:∀k,k<K.w.heap.size->w'.heap[k]?=K.w.heap[k]?)
  (hS:∀b,K.S b->S' b) (hN:∀b,S' b->K.S b\/K.w.heap.size<=b) (hB:∀b,S' b->b<w'.heap.size):Ext K ⟨w',S',K.μ⟩/\HR K0 T ⟨w',S',K.μ⟩ H:=by
 have he:Ext K ⟨w',S',K.μ⟩:=⟨hS,λb hb j=>World.cell?_of_block (w:=K.w) (h5 b (hr.sB b hb)),λ_ _ h=>h,λo b hb=>fe (h5 b (hr.mB o b hb))⟩
 refine⟨he,hr.g0,h1.trans hr.os,h2.trans hr.tape,h3.trans hr.output,Nat.le_trans hr.size h4,λk hk hT=>(h5 k (Nat.lt_of_lt_of_le hk hr.size)).trans (hr.block k hk hT),hB,λb hb=>?_,λo b hb=>Nat.lt_of_lt_of_le (hr.mB o b hb) h4,
  λo=>(hr.ob o).ext he (λh=>h) (λb hown hb=>⟨h5 b (hr.mB o b hb),?_⟩),hr.inj⟩
 ·rcases hN b hb with h|h
  ·exact hr.sN b h
  ·exact .inr (.inl (Nat.le_trans hr.size h))
 ·intro hS';rcases hN b hS' with h|h
  ·obtain⟨_,_,_,q,_⟩:=hr.place hown hb;exact q h
  ·have:=hr.mB o b hb;omega
theorem IV {K':Ctx}{v:Value}{d:D}(hv:VD K v d)(h:d.flat1=true):VD K' v d:=by
 cases hv with
 |i hx=>cases hx with
  |s v h1=>exact .i (.s v h1)
  |_=>simp[D.flat1]at h
 |un=>exact .un
 |_=>simp[D.flat1]at h
theorem Al {K':Ctx}{v:Value}{d:D}(hv:VD K v d)(h:d.flat2=true):VD K' v d:=by
 cases hv with
 |agg vs cs hl hc=>exact .agg vs cs hl (λj d hd=>IV (hc j d hd) (List.all_eq_true.1 h d (List.mem_of_getElem? hd)))
 |i hx=>exact IV (.i hx) h
 |un=>exact .un
 |_=>simp[D.flat2,D.flat1]at h
theorem aas {K':Ctx}{v:Value}{d:D}(hv:VD K v d)(h:d.flat=true):VD K' v d:=by
 cases hv with
 |tup vs cs hl hc=>exact .tup vs cs hl (λj d hd=>Al (hc j d hd) (List.all_eq_true.1 h d (List.mem_of_getElem? hd)))
 |agg vs cs hl hc=>exact Al (.agg vs cs hl hc) h
 |i hx=>exact Al (.i hx) h
 |un=>exact .un
 |_=>simp[D.flat,D.flat2,D.flat1]at h
def lentS (K:Ctx)(H:Nat->Ob)(F B:List Nat)(b:Nat):Prop:=frzS K H F b\/∃o∈B,(∃cs,H o=.box cs)/\K.μ o=some b
theorem box_vals (hr:HR K0 T K H):∀{cs:List D}{xs:List I}{f:Nat->Value},Fj H F cs xs->(∀(j:Nat)(d:D),cs[j]?=some d->VD K (f j) d)->∀(j:Nat)(x:I),xs[j]?=some x->j<cs.length/\VI (K.ren H F (λ_=>none)).w (K.ren H F (λ_=>none)).S (f j) x
 |[],[],_,_,_,j,x,hx=>by simp at hx
 |d::t,y::t',f,h,hv,j,x,hx=>by
  obtain⟨h1,h2⟩:=h;cases j with
  |zero=>simp at hx;subst hx;exact⟨by simp,(Jf hr (hv 0 d (by simp)) h1).inv_i⟩
  |succ j =>obtain⟨g1,g2⟩:=box_vals hr (f:=λj=>f (j+1)) h2 (λj d hd=>hv (j+1) d (by simpa using hd)) j x (by simpa using hx);exact⟨by simpa using g1,g2⟩
 |[],_::_,_,h,_,_,_,_=>h.elim
 |_::_,[],_,h,_,_,_,_=>h.elim
theorem WA (hr:HR K0 T K H){v:Value}{d d':D}(hv:VD K v d)(h:cvR H F B d d'):VD ⟨K.w,λb=>K.S b\/lentS K H F B b,λ_=>none⟩ v d':=by
 have he:Ext (K.ren H F (λ_=>none)) ⟨K.w,λb=>K.S b\/lentS K H F B b,λ_=>none⟩ :=
  ⟨λb hb=>by rcases hb with hb|hb;exact .inl hb;exact .inr (.inl hb),λ_ _ _=>rfl,λo b hb=>by simp[Ctx.ren]at hb,λo b hb=>rfl⟩
 by_cases hrp:∃xs c,d'=.rp xs c
 ·obtain⟨xs,c,rfl⟩:=hrp;rcases h with rfl|⟨o,sz,i,rfl,h⟩
  ·cases hv with
   |rp b off _ _ f h1 h2 h3=>exact .rp b off c xs f (.inl h1) h2 (λj x hx=>(h3 j x hx).mono (λ_ h=>.inl h) (λ_ _ _=>rfl))
  ·cases hv with
   |pt _ _ _ _ b hμ =>
    rcases h with⟨hB,rfl,cs,hx,hc⟩|⟨hF,es,hx,hi⟩
    ·obtain⟨b',row,ty,a1,a2,a3,a4,_⟩:=hr.get hx;rw[hμ]at a1;cases a1;have hb:=box_vals (F:=F) hr (f:=λj=>row.getD j undef) hc a4;refine VD.rp b (0*sz) c xs (λj=>row.getD j undef) (.inr (.inr ⟨o,hB,⟨cs,hx⟩,hμ⟩)) (λj x hj=>?_) (λj x hj=>(hb j x hj).2.ext he);have hlt:j<row.size:=by have:=(hb j x hj).1;omega
     show K.w.cell? _=_;rw[cell_of_row K.w b _ row ty _ a2,Nat.zero_mul,Nat.zero_add];simp[Array.getD,hlt]
    ·rcases hx with hx|hx
     ·obtain⟨hz,hu,h3⟩:=hr.get hx;rcases h3 with⟨h3,_⟩|⟨b',row,ty,a1,a2,a3,a4,_⟩
      ·rw[h3]at hμ;cases hμ
      ·rw[hμ]at a1;cases a1;refine VD.rp b (i*sz) c xs (λj=>row.getD (i*sz+j) undef) (.inr (.inl ⟨o,hF,⟨sz,es,hx⟩,hμ⟩)) (λj x hj=>?_) (λj x hj=>(a4 _ _ (bN hu hi hj)).mono (λ_ h=>.inl h) (λ_ _ _=>rfl));have hlt:i*sz+j<row.size:=by have:=(List.getElem?_eq_some_iff.1 (bN hu hi hj)).1;rw[bA hu]at this;omega
       show K.w.cell? _=_;rw[cell_of_row K.w b _ row ty _ a2];simp[Array.getD,hlt]
     ·obtain⟨hz,hu,h3⟩:=hr.get hx;rcases h3 with⟨h3,_⟩|⟨b',f,a1,a2,a3⟩
      ·rw[h3]at hμ;cases hμ
      ·rw[hμ]at a1;cases a1;exact VD.rp b (i*sz) c xs (λj=>f (i*sz+j)) (.inl a2) (λj x hj=>(a3 _ _ (bN hu hi hj)).1) (λj x hj=>((a3 _ _ (bN hu hi hj)).2).mono (λ_ h=>.inl h) (λ_ _ _=>rfl))
 ·have h':cv0 H F (λ_=>none) d d':=by
   cases d'<;>first|exact h|exact absurd ⟨_,_,rfl⟩ hrp
  exact(Jf hr hv h').ext he
theorem refs_ok (hr:HR K0 T K H):∀{ds ds':List D}{f:Nat->Value},afJ H F B ds ds'->(∀(j:Nat)(d:D),ds[j]?=some d->VD K (f j) d)->ds.length=ds'.length/\∀(j:Nat)(d:D),ds'[j]?=some d->VD ⟨K.w,λb=>K.S b\/lentS K H F B b,λ_=>none⟩ (f j) d
 |[],[],f,_,_=>⟨rfl,λj d hd=>by simp at hd⟩
 |d::t,d'::t',f,h,hv=>by
  obtain⟨h1,h2⟩:=h;obtain⟨g1,g2⟩:=refs_ok hr (f:=λj=>f (j+1)) h2 (λj d hd=>hv (j+1) d (by simpa using hd));refine⟨by simp[g1],λj d hd=>?_⟩;cases j with
  |zero=>simp at hd;subst hd;exact WA hr (hv 0 d (by simp)) h1
  |succ j=>exact g2 j d (by simpa using hd)
 |[],_::_,_,h,_=>h.elim
 |_::_,[],_,h,_=>h.elim
theorem afk (hr:HR K0 T K H){v:Value}{d d':D}(hv:VD K v d)(h:cvA H F B d d'):VD ⟨K.w,λb=>K.S b\/lentS K H F B b,λ_=>none⟩ v d':=by
 have he:Ext (K.ren H F (λ_=>none)) ⟨K.w,λb=>K.S b\/lentS K H F B b,λ_=>none⟩ :=
  ⟨λb hb=>by rcases hb with hb|hb;exact .inl hb;exact .inr (.inl hb),λ_ _ _=>rfl,λo b hb=>by simp[Ctx.ren]at hb,λo b hb=>rfl⟩
 by_cases hrp:∃xs c,d'=.rp xs c
 ·obtain⟨xs,c,rfl⟩:=hrp;exact WA hr hv h
 ·by_cases hfn:∃f cs,d'=.fn f cs
  ·obtain⟨f,cs',rfl⟩:=hfn;obtain⟨cs,rfl,h⟩:=h;cases hv with
   |fn _ vs _ hl hc=>obtain⟨g1,g2⟩:=refs_ok hr h hc;exact .fn f vs cs' (by omega) g2
  ·have h':cv1 H F (λ_=>none) d d':=by
    cases d'<;>first|exact h|exact absurd ⟨_,_,rfl⟩ hrp|exact absurd ⟨_,_,rfl⟩ hfn
   exact(Je hr hv h').ext he
theorem args_ok (hr:HR K0 T K H):∀{ds ds':List D}{f:Nat->Value},CV H F B ds ds'->(∀(j:Nat)(d:D),ds[j]?=some d->VD K (f j) d)->ds.length=ds'.length/\∀(j:Nat)(d:D),ds'[j]?=some d->VD ⟨K.w,λb=>K.S b\/lentS K H F B b,λ_=>none⟩ (f j) d
 |[],[],f,_,_=>⟨rfl,λj d hd=>by simp at hd⟩
 |d::t,d'::t',f,h,hv=>by
  obtain⟨h1,h2⟩:=h;obtain⟨g1,g2⟩:=args_ok hr (f:=λj=>f (j+1)) h2 (λj d hd=>hv (j+1) d (by simpa using hd));refine⟨by simp[g1],λj d hd=>?_⟩;cases j with
  |zero=>simp at hd;subst hd;exact afk hr (hv 0 d (by simp)) h1
  |succ j=>exact g2 j d (by simpa using hd)
 |[],_::_,_,h,_=>h.elim
 |_::_,[],_,h,_=>h.elim
theorem zD (hr:HR K0 T K H){f:FuncId}{ds ds':List D}{r:D}(hp:PureD P f ds' r){vs:Array Value}(hrd:Du K vs ds)(hc:CV H F B ds ds'):
  Calls P f vs K.w λe w'=>∃v S',e=.returned v/\w'.os=K.w.os/\w'.tape=K.w.tape/\w'.output=K.w.output/\K.w.heap.size<=w'.heap.size/\(∀k,k<K.w.heap.size->w'.heap[k]?=K.w.heap[k]?) /\
   (∀b,K.S b\/lentS K H F B b->S' b)/\(∀b,S' b->(K.S b\/lentS K H F B b)\/K.w.heap.size<=b)/\(∀b,S' b->b<w'.heap.size)/\VD ⟨w',S',λ_=>none⟩ v r:=by
 obtain⟨q1,q2⟩:=args_ok (F:=F) (B:=B) (f:=λj=>vs.getD j undef) hr hc hrd.2;let K1:Ctx:=⟨K.w,λb=>K.S b\/lentS K H F B b,λ_=>none⟩
 have hr1:HR K1 (λ_=>False) K1 noH:=by
  refine⟨⟨λq hq=>⟨hr.var hq,λ_ _ h=>h⟩⟩,rfl,rfl,rfl,Nat.le_refl _,λ_ _ _=>rfl,λb hb=>?_,λb hb=>.inl hb,λo b hb=>by simp[K1]at hb,λo=>rfl,λo1 o2 b h=>by exact h.elim⟩;rcases hb with hb|⟨o,_,_,hb⟩|⟨o,_,_,hb⟩
  ·exact hr.sB b hb
  ·exact hr.mB o b hb
  ·exact hr.mB o b hb
 refine(hp.2 K1 (λ_=>False) K1 vs hr1 ⟨by rw[hrd.1,q1],q2⟩).mono ?_;rintro e w' ⟨v,K',rfl,rfl,he,hr',hv⟩;have hμ:K'.μ=λ_=>none:=by funext o;exact hr'.get (o:=o) (x:=.fresh) rfl
 refine⟨v,K'.S,rfl,hr'.os,hr'.tape,hr'.output,hr'.size,λk hk=>hr'.block k hk (λh=>h),he.S,λb hb=>?_,hr'.sB,?_⟩
 ·rcases hr'.sN b hb with h|h|h
  ·exact .inl h
  ·exact .inr h
  ·exact h.elim
 ·have:K'=⟨K'.w,K'.S,λ_=>none⟩:=by rw[<- hμ]
  rw[<- this];exact hv
theorem BQ {f:FuncId}{ds ds':List D}{r:D}(F B:List Nat)(hp:PureD P f ds' r)(hc:CV H F B ds ds')(hflat:r.flat=true):aL P f ds H r H:=by refine⟨hp.1,λK0 T K vs hr hrd=>?_⟩;refine(zD hr hp hrd hc).mono ?_;rintro e w' ⟨v,S',rfl,h1,h2,h3,h4,h5,_,_,_,hv⟩;obtain⟨g1,g2⟩:=hr.grow (S':=K.S) h1 h2 h3 h4 h5 (λ_ h=>h) (λ_ h=>.inl h) (λb hb=>Nat.lt_of_lt_of_le (hr.sB b hb) h4);exact⟨v,_,rfl,rfl,g1,g2,aas hv hflat⟩
theorem GG {f:FuncId}{ds ds':List D}{r:D}(F:List Nat)(hp:PureD P f ds' r)(hc:CV H F [] ds ds'):aL P f ds H r (frz F H):=by
 refine⟨hp.1,λK0 T K vs hr hrd=>?_⟩;refine(zD hr hp hrd hc).mono ?_;rintro e w' ⟨v,S',rfl,h1,h2,h3,h4,h5,h6,h7,h8,hv⟩;have hr1:=hr.frz F;have hl:∀b,lentS K H F [] b->frzS K H F b:=λb hb=>by
  rcases hb with hb|⟨o,ho,_⟩
  ·exact hb
  ·simp at ho
 obtain⟨g1,g2⟩:=hr1.grow (w':=w') (S':=S') h1 h2 h3 h4 h5 (λb hb=>h6 b (by rcases hb with hb|hb;exact .inl hb;exact .inr (.inl hb)))
  (λb hb=>by
   rcases h7 b hb with(h|h)|h
   ·exact .inl (.inl h)
   ·exact .inl (.inr (hl b h))
   ·exact .inr h) h8
 refine⟨v,_,rfl,rfl,(Ext.more (K:=K) (frzS K H F)).trans g1,g2,?_⟩;have hx:Ext ⟨w',S',λ_=>none⟩ ⟨w',S',(K.more (frzS K H F)).μ⟩:=⟨λ_ h=>h,λ_ _ _=>rfl,λo b hb=>by simp at hb,λo b hb=>rfl⟩
 exact hv.ext hx
end
section
variable {P:Program}{H G:Nat->Ob}{sl sl':Nat->D}
theorem jS {α β:Type}{f g:α->Option β}:∀{l:List α},(∀x∈l,f x=g x)->l.mapM f=l.mapM g
 |[],_=>rfl
 |x::l,h=>by rw[List.mapM_cons,List.mapM_cons,h x (by simp),jS (λy hy=>h y (by simp[hy]))]
theorem jP {parts:Array (Nat×Operand)}(h:∀x∈(parts.toList.map (·.2)).toArray,evA sl x=evA sl' x):
  (parts.toList.mapM λp=>(bY (evA sl p.2)).map λcs=>(p.1,cs))=parts.toList.mapM λp=>(bY (evA sl' p.2)).map λcs=>(p.1,cs) :=
 jS λp hp=>by rw[h p.2 (by simp only[List.mem_toArray,List.mem_map];exact⟨p,hp,rfl⟩)]
theorem jJ {args:Array Operand}(h:∀x∈args,evA sl x=evA sl' x):args.toList.map (evA sl)=args.toList.map (evA sl') :=
 List.map_congr_left λx hx=>h x (by simpa using hx)
theorem NB {op:Op}(h:∀x∈op.operands,evA sl x=evA sl' x):opQ P sl H op=opQ P sl' H op:=by
 cases op with
 |build t parts=>simp only[opQ,jP h]
 |buildSlice t len parts=>simp only[opQ,jP h]
 |makeFunc fn first captured =>have:captured.toList.map (evA sl)=captured.toList.map (evA sl'):=jJ λx hx=>h x (by simp[Op.operands,hx]);cases fn<;>simp only[opQ,this]
 |call c =>
  obtain⟨callee,args,tys⟩:=c;have ha:args.toList.map (evA sl)=args.toList.map (evA sl'):=jJ λx hx=>h x (by simp[Op.operands,Call.operands,hx]);cases callee with
  |builtin b=>cases b<;>simp only[opQ,ha]
  |_=>simp only[opQ]
 |slice t x lo hi mx =>
  cases mx with
  |some _=>simp only[opQ]
  |none =>
   have hx:=h x (by simp[Op.operands]);have hlo:(lo.map λx=>dO (evA sl x))=lo.map λx=>dO (evA sl' x):=by
    cases lo with
    |none=>rfl
    |some y=>simp only[Option.map_some];rw[h y (by simp[Op.operands])]
   have hhi:(hi.map λx=>dO (evA sl x))=hi.map λx=>dO (evA sl' x):=by
    cases hi with
    |none=>rfl
    |some y=>simp only[Option.map_some];rw[h y (by simp[Op.operands])]
   have hlo2:ru sl lo=ru sl' lo:=by
    cases lo with
    |none=>rfl
    |some y=>simp only[ru];rw[h y (by simp[Op.operands])]
   have hhi2:ru sl hi=ru sl' hi:=by
    cases hi with
    |none=>rfl
    |some y=>simp only[ru];rw[h y (by simp[Op.operands])]
   simp only[opQ,hx,hlo,hhi,hlo2,hhi2]
 |_=>simp_all[opQ,Op.operands]
theorem NC {op:Op}(id:Nat)(h:∀x∈op.operands,evA sl x=evA sl' x):opH P sl H id op=opH P sl' H id op:=by
 cases op with
 |build t parts=>simp only[opH,jP h]
 |buildSlice t len parts=>simp only[opH,jP h]
 |makeFunc fn first captured =>have:captured.toList.map (evA sl)=captured.toList.map (evA sl'):=jJ λx hx=>h x (by simp[Op.operands,hx]);cases fn<;>simp only[opH,this]
 |call c =>
  obtain⟨callee,args,tys⟩:=c;have ha:args.toList.map (evA sl)=args.toList.map (evA sl'):=jJ λx hx=>h x (by simp[Op.operands,Call.operands,hx]);cases callee with
  |builtin b=>cases b<;>simp only[opH,ha]
  |_=>simp only[opH]
 |slice t x lo hi mx =>
  cases mx with
  |some _=>simp only[opH]
  |none =>
   have hx:=h x (by simp[Op.operands]);have hlo:(lo.map λx=>dO (evA sl x))=lo.map λx=>dO (evA sl' x):=by
    cases lo with
    |none=>rfl
    |some y=>simp only[Option.map_some];rw[h y (by simp[Op.operands])]
   have hhi:(hi.map λx=>dO (evA sl x))=hi.map λx=>dO (evA sl' x):=by
    cases hi with
    |none=>rfl
    |some y=>simp only[Option.map_some];rw[h y (by simp[Op.operands])]
   have hlo2:ru sl lo=ru sl' lo:=by
    cases lo with
    |none=>rfl
    |some y=>simp only[ru];rw[h y (by simp[Op.operands])]
   have hhi2:ru sl hi=ru sl' hi:=by
    cases hi with
    |none=>rfl
    |some y=>simp only[ru];rw[h y (by simp[Op.operands])]
   simp only[opH,hx,hlo,hhi,hlo2,hhi2]
 |_=>simp_all[opH,Op.operands]
theorem NA {op:Op}(id:Nat)(h:∀x∈op.operands,evA sl x=evA sl' x):opX P sl H id op=opX P sl' H id op:=by
 cases op with
 |range t x=>simp only[opX,h x (by simp[Op.operands])]
 |next x b=>cases b<;>simp only[opX,h x (by simp[Op.operands])]
 |makeMap t r =>
  cases r with
  |none=>rfl
  |some y=>simp only[opX,ru];rw[h y (by simp[Op.operands])]
 |insert t m k x=>simp only[opX,h m (by simp[Op.operands]),h k (by simp[Op.operands]),h x (by simp[Op.operands])]
 |mapUpdate t m k x=>simp only[opX,h m (by simp[Op.operands]),h k (by simp[Op.operands]),h x (by simp[Op.operands])]
 |lookup t m k b=>simp only[opX,h m (by simp[Op.operands]),h k (by simp[Op.operands])]
 |buildSlice t len parts=>simp only[opX,jP h]
 |indexAddr t x i=>simp only[opX,h x (by simp[Op.operands]),h i (by simp[Op.operands])]
 |call c =>
  obtain⟨callee,args,tys⟩:=c;have ha:args.toList.map (evA sl)=args.toList.map (evA sl'):=jJ λx hx=>h x (by simp[Op.operands,Call.operands,hx]);cases callee with
  |builtin b=>cases b<;>simp only[opX,ha]
  |_=>simp only[opX]
 |slice t x lo hi mx =>
  have hx:=h x (by simp[Op.operands]);have hlo:(lo.map λx=>dO (evA sl x))=lo.map λx=>dO (evA sl' x):=by
   cases lo with
   |none=>rfl
   |some y=>simp only[Option.map_some];rw[h y (by simp[Op.operands])]
  have hhi:(hi.map λx=>dO (evA sl x))=hi.map λx=>dO (evA sl' x):=by
   cases hi with
   |none=>rfl
   |some y=>simp only[Option.map_some];rw[h y (by simp[Op.operands])]
  have hmx:(mx.map λx=>dO (evA sl x))=mx.map λx=>dO (evA sl' x):=by
   cases mx with
   |none=>rfl
   |some y=>simp only[Option.map_some];rw[h y (by simp[Op.operands])]
  simp only[opX,hx,hlo,hhi,hmx]
 |_=>simp only[opX]
theorem ND {op:Op}(id:Nat)(h:∀x∈op.operands,evA sl x=evA sl' x):opA P sl H id op=opA P sl' H id op:=by simp only[opA,opY,NB h,NC id h,NA id h]
def D.ids:D->List Nat
 | .agg cs=>cs.flatMap D.ids1
 |d=>d.ids1
def fpA (sl:Nat->D)(id:Nat):Op->List Nat×List Nat
 | .alloc _=>([id],[id])
 | .box _ _=>([id],[id])
 | .range _ _=>([id],[id])
 | .next x _=>((evA sl x).ids1,(evA sl x).ids1)
 | .makeMap _ _=>([id],[id])
 | .insert _ m _ _=>((evA sl m).ids1,(evA sl m).ids1)
 | .mapUpdate _ m _ _=>((evA sl m).ids1,(evA sl m).ids1)
 | .lookup _ m _ _=>((evA sl m).ids1,[])
 | .makeSlice ..=>([id],[id])
 | .load _ a=>((evA sl a).ids1,[])
 | .store _ a x=>((evA sl a).ids1++(evA sl x).ids,(evA sl a).ids1++(evA sl x).ids)
 | .buildSlice _ _ parts=>(id::parts.toList.flatMap λp=>(evA sl p.2).ids,id::parts.toList.flatMap λp=>(evA sl p.2).ids)
 | .convert s d x=>((evA sl x).ids1,if s=d then(evA sl x).ids1 else[])
 | .call {callee:=.builtin .append,args:=args,..}=>match args.toList.map (evA sl)with
  |[s,x]=>(id::s.ids1++x.ids1,id::s.ids1)
  |_=>([],[])
 | .call {callee:=.builtin .copy,args:=args,..}=>match args.toList.map (evA sl)with
  |[d,s]=>(d.ids1++s.ids1,d.ids1)
  |_=>([],[])
 | .call {callee:=.builtin .clear,args:=args,..}=>match args.toList.map (evA sl)with
  |[d]=>(d.ids1,d.ids1)
  |_=>([],[])
 |_=>([],[])
theorem xY {d:D}{cs:List D}(h:bY d=some cs):∀o∈cs.flatMap D.ids1,o∈d.ids:=by intro o ho;cases d<;>simp only[bY,Option.some.injEq,reduceCtorEq]at h<;>subst h<;>simpa[D.ids]using ho
theorem jC {d:D}(h:∀o∈d.ids1,G o=H o):aO G d=aO H d:=by
 cases d with
 |i x=>cases x<;>rfl
 |os o sz off len=>simp only[aO];rw[h o (by simp[D.ids1])]
 |_=>rfl
theorem Fq {d:D}(h:∀o∈d.ids1,G o=H o):eu G d=eu H d:=by
 cases d with
 |os o sz off len=>simp only[eu];rw[jC h]
 |_=>rfl
theorem BO {d:D}{n:Nat}(h:∀o∈d.ids1,G o=H o):aW G d n=aW H d n:=by
 cases d with
 |pt o sz i c=>simp only[aW,aR];rw[h o (by simp[D.ids1])]
 |_=>rfl
theorem ji {cs:List D}(h:∀o∈cs.flatMap D.ids1,G o=H o):cs.mapM (eu G)=cs.mapM (eu H) :=
 jS λd hd=>Fq λo ho=>h o (List.mem_flatMap.2 ⟨d,hd,ho⟩)
theorem wK {ids:List Nat}{k:Nat}(h:k ∉ ids):frz ids H k=H k:=by simp[frz,h]
theorem wL {ids:List Nat}{k:Nat}(h:G k=H k):frz ids G k=frz ids H k:=by simp only[frz,h]
def Loc (fp wr:List Nat)(H G H':Nat->Ob)(x:Option (D×(Nat->Ob)))(d:D):Prop :=
 ∃G',x=some (d,G')/\(∀k∈wr,G' k=H' k)/\(∀k,k ∉ wr->G' k=G k)/\(∀k,k ∉ wr->H' k=H k)
theorem opH_local {op:Op}{id:Nat}{d:D}{H':Nat->Ob}(hg:∀k∈(fpA sl id op).1,G k=H k)(h:opH P sl H id op=some (d,H')):Loc (fpA sl id op).1 (fpA sl id op).2 H G H' (opH P sl G id op) d:=by
 have updl:∀{o:Nat}{x:Ob}{wr:List Nat},o∈wr->(∀k∈wr,k=o\/G k=H k)->(∀k∈wr,upd G o x k=upd H o x k)/\(∀k,k ∉ wr->upd G o x k=G k)/\(∀k,k ∉ wr->upd H o x k=H k):=by
  intro o x wr ho hk;refine⟨λk hkw=>?_,λk hkw=>upd_ne _ _ (λe=>hkw (by rw[e];exact ho)),λk hkw=>upd_ne _ _ (λe=>hkw (by rw[e];exact ho))⟩;by_cases e:k=o
  ·subst e;rw[upd_same,upd_same]
  ·rw[upd_ne _ _ e,upd_ne _ _ e];exact(hk k hkw).resolve_left e
 have updfl:∀{o:Nat}{x:Ob}{wr ids:List Nat},o∈wr->(∀k∈ids,k∈wr)->(∀k∈wr,k=o\/G k=H k)->(∀k∈wr,upd (frz ids G) o x k=upd (frz ids H) o x k)/\(∀k,k ∉ wr->upd (frz ids G) o x k=G k)/\(∀k,k ∉ wr->upd (frz ids H) o x k=H k):=by
  intro o x wr ids ho hids hk;refine⟨λk hkw=>?_,λk hkw=>?_,λk hkw=>?_⟩
  ·by_cases e:k=o
   ·subst e;rw[upd_same,upd_same]
   ·rw[upd_ne _ _ e,upd_ne _ _ e];exact wL ((hk k hkw).resolve_left e)
  ·rw[upd_ne _ _ (λe=>hkw (by rw[e];exact ho)),wK (λhm=>hkw (hids k hm))]
  ·rw[upd_ne _ _ (λe=>hkw (by rw[e];exact ho)),wK (λhm=>hkw (hids k hm))]
 cases op with
 |alloc t =>
  simp only[fpA]at hg⊢;have hid:G id=H id:=hg id (by simp);simp only[opH]at h⊢;rw[hid];split at h
  ·rename_i cs hz hf;simp only[Option.some.injEq,Prod.mk.injEq]at h;obtain⟨rfl,rfl⟩:=h;exact⟨_,rfl,updl (by simp) (λk hk=>by simp at hk;exact .inl hk)⟩
  ·cases h
 |box t x =>
  simp only[fpA]at hg⊢;have hid:G id=H id:=hg id (by simp);simp only[opH]at h⊢;rw[hid];split at h
  ·rename_i cs hz hf;split at h
   ·rename_i hall;simp only[Option.some.injEq,Prod.mk.injEq]at h;obtain⟨rfl,rfl⟩:=h;try simp only[hz,hf,hall,if_true]
    exact⟨_,rfl,updl (by simp) (λk hk=>by simp at hk;exact .inl hk)⟩
   ·cases h
  ·cases h
 |makeSlice t l c =>
  simp only[fpA]at hg⊢;have hid:G id=H id:=hg id (by simp);simp only[opH]at h⊢;rw[hid];split at h
  ·rename_i e l' c' hu hl hc hf;split at h
   ·rename_i s z by_ hs hz hb;split at h
    ·rename_i hcond;have hzc:z.mapM (eu G)=z.mapM (eu H):=by
      refine jS λx hx=>?_;obtain⟨zv,_,rfl,_⟩:=zcells_ok hz;obtain⟨c,_,rfl⟩:=List.mem_map.1 hx;rfl
     split at h
     ·rename_i xs hxs;simp only[Option.some.injEq,Prod.mk.injEq]at h;obtain⟨rfl,rfl⟩:=h;try simp only[hu,hl,hc,hf,hs,hz,hb]
      try rw[if_pos hcond,hzc,hxs]
      exact⟨_,rfl,updl (by simp) (λk hk=>by simp at hk;exact .inl hk)⟩
     ·cases h
    ·cases h
   ·cases h
  ·cases h
 |load t a =>
  simp only[fpA]at hg⊢;have hr:∀n,aW G (evA sl a) n=aW H (evA sl a) n:=λn=>BO hg;simp only[opH,hr]at h⊢;split at h
  ·split at h
   ·simp only[Option.map_eq_some_iff,Prod.mk.injEq]at h;obtain⟨cs,h1,rfl,rfl⟩:=h;rename_i n hn _ _ _;try simp only[*]
    exact⟨G,by simp,by simp,λ_ _=>rfl,λ_ _=>rfl⟩
   ·cases h
  ·simp only[Option.map_eq_some_iff,Prod.mk.injEq]at h;obtain⟨d',h1,rfl,rfl⟩:=h;try simp only[*]
   exact⟨G,by simp,by simp,λ_ _=>rfl,λ_ _=>rfl⟩
  ·cases h
 |store t a x =>
  simp only[fpA]at hg⊢;simp only[opH]at h⊢;split at h
  ·rename_i new n hc hs;try simp only[hc,hs]
   split at h
   ·rename_i hcond;try rw[if_pos hcond]
    split at h
    ·rename_i o sz i c ha;try simp only[ha]
     have hoG:G o=H o:=hg o (by simp[ha,D.ids1]);rw[hoG];split at h
     ·rename_i cs ho;split at h
      ·rename_i hcc;simp only[Option.some.injEq,Prod.mk.injEq]at h;obtain⟨rfl,rfl⟩:=h;try simp only[ho]
       try rw[if_pos hcc]
       exact⟨_,rfl,updl (by simp[D.ids1]) (λk hk=>.inr (hg k (by rw[ha];exact hk)))⟩
      ·cases h
     ·rename_i sz' es ho;split at h
      ·rename_i e xs he hxs;split at h
       ·rename_i hcc;simp only[Option.some.injEq,Prod.mk.injEq]at h;obtain⟨rfl,rfl⟩:=h;have hids:∀k∈new.flatMap D.ids1,k∈(evA sl a).ids1++(evA sl x).ids:=λk hk=>List.mem_append_right _ (xY hc k hk);have hm:new.mapM (eu G)=some xs:=by rw[ji (λo ho=>hg o (hids o ho))];exact hxs
        try simp only[ho,he,hm]
        try rw[if_pos hcc]
        refine⟨_,rfl,updfl (by simp[D.ids1]) (λk hk=>by rw[ha]at hids;exact hids k hk) (λk hk=>.inr (hg k (by rw[ha];exact hk)))⟩
       ·cases h
      ·cases h
     ·rename_i sz' es ho;split at h
      ·rename_i e he;split at h
       ·rename_i hcc;simp only[Option.some.injEq,Prod.mk.injEq]at h;obtain⟨rfl,rfl⟩:=h;try simp only[ho,he]
        try rw[if_pos hcc]
        exact⟨_,rfl,updl (by simp[D.ids1]) (λk hk=>.inr (hg k (by rw[ha];exact hk)))⟩
       ·cases h
      ·cases h
     ·cases h
    ·cases h
   ·cases h
  ·cases h
 |buildSlice t len parts =>
  simp only[fpA]at hg⊢;have hid:G id=H id:=hg id (by simp);simp only[opH]at h⊢;rw[hid];split at h
  ·rename_i e hu hf;split at h
   ·rename_i s z ps hs hz hps;split at h
    ·rename_i hcond;have hids:∀k∈ps.flatMap λp=>p.2.flatMap D.ids1,k∈id::parts.toList.flatMap λp=>(evA sl p.2).ids:=by
      intro k hk;obtain⟨m1,m2⟩:=mapM_get hps;obtain⟨q,hq,hk⟩:=List.mem_flatMap.1 hk;obtain⟨j,hj,rfl⟩:=List.mem_iff_getElem.1 hq;have hjl:j<parts.toList.length:=by omega
      obtain⟨b,hb1,hb2⟩:=m2 j parts.toList[j] (by simp[hjl]);simp only[Option.map_eq_some_iff]at hb2;obtain⟨cs,hcs,rfl⟩:=hb2;obtain⟨_,hb1⟩:=List.getElem?_eq_some_iff.1 hb1;rw[hb1]at hk;exact List.mem_cons_of_mem _ (List.mem_flatMap.2 ⟨parts.toList[j],List.getElem_mem hjl,xY hcs k hk⟩)
     have hm:(ps.mapM λp=>p.2.mapM (eu G))=ps.mapM λp=>p.2.mapM (eu H) :=
      jS λp hp=>ji λo ho=>hg o (hids o (List.mem_flatMap.2 ⟨p,hp,ho⟩))
     split at h
     ·rename_i es hes;simp only[Option.some.injEq,Prod.mk.injEq]at h;obtain⟨rfl,rfl⟩:=h;try simp only[hu,hf,hs,hz,hps]
      try rw[if_pos hcond,hm,hes]
      exact⟨_,rfl,updfl (by simp) hids (λk hk=>.inr (hg k hk))⟩
     ·cases h
    ·cases h
   ·cases h
  ·cases h
 |convert src dst x =>
  simp only[fpA]at hg⊢;have hsub:∀k∈(if src=dst then(evA sl x).ids1 else[]),k∈(evA sl x).ids1:=by
   intro k hk;split at hk
   ·exact hk
   ·simp at hk
  have he:aO G (evA sl x)=aO H (evA sl x):=jC hg;simp only[opH,he]at h⊢;split at h
  ·rename_i e hd hs;try simp only[hd,hs]
   split at h
   ·rename_i s h1 h2;split at h
    ·rename_i hc;simp only[Option.some.injEq,Prod.mk.injEq]at h;obtain⟨rfl,rfl⟩:=h;try simp only[h1,h2,hc,if_true]
     exact⟨G,rfl,λk hk=>hg k (hsub k hk),λ_ _=>rfl,λ_ _=>rfl⟩
    ·cases h
   ·cases h
  ·rename_i e hd hs;try simp only[hd,hs]
   split at h
   ·rename_i es h1 h2;simp only[Option.map_eq_some_iff,Prod.mk.injEq]at h;obtain⟨bs,hb,rfl,rfl⟩:=h;try simp only[h1,h2,hb]
    exact⟨G,rfl,λk hk=>hg k (hsub k hk),λ_ _=>rfl,λ_ _=>rfl⟩
   ·cases h
  ·rename_i e e' hd hs;split at h
   ·rename_i hsd;split at h
    ·rename_i o off len h1 h2;have ho':G o=H o:=hg o (by rw[h2];simp[D.ids1]);split at h
     ·rename_i es0 ho;simp only[Option.map_eq_some_iff,Prod.mk.injEq]at h;obtain⟨es,hes,rfl,rfl⟩:=h;have hes':aO G (.os o 1 off (len+1))=some es:=by rw[<- hes,<- h2,he]
      refine⟨frz [o] G,?_,λk hk=>wL (hg k (hsub k hk)),λk hk=>wK (λhm=>hk ?_),λk hk=>wK (λhm=>hk ?_)⟩
      ·simp only[hd,hs,hsd,if_true,h1,h2,ho',ho,hes',Option.map_some]
      ·rw[if_pos hsd,h2];simpa[D.ids1]using hm
      ·rw[if_pos hsd,h2];simpa[D.ids1]using hm
     ·cases h
    ·cases h
   ·cases h
  ·cases h
 |call c =>
  obtain⟨callee,args,tys⟩:=c;cases callee with
  |builtin b =>
   by_cases hb:b=.append
   ·subst hb;simp only[opH]at h;split at h
    ·rename_i s x t tx hargs htys;simp only[fpA,hargs]at hg⊢;have hid:G id=H id:=hg id (by simp);simp only[opH,hargs,htys];rw[hid];split at h
     ·rename_i e hu hf;try simp only[hu,hf]
      split at h
      ·rename_i n by_ zn hs hbb hzz;try simp only[hs,hbb,hzz]
       split at h
       ·rename_i hzn;try rw[if_pos hzn]
        have hx:aO G x=aO H x:=jC λo ho=>hg o (by simp[ho]);rw[hx];split at h
        ·rename_i new hnew;split at h
         ·split at h
          ·rename_i hc;simp only[Option.some.injEq,Prod.mk.injEq]at h;obtain⟨rfl,rfl⟩:=h;refine⟨upd G id (.arr (n+1) new),?_,updl (by simp) (λk hk=>by simp[D.ids1]at hk;exact .inl hk)⟩;try simp only[hnew]
           try rw[if_pos hc]
          ·cases h
         ·rename_i o sz len;have ho:G o=H o:=hg o (by simp[D.ids1]);split at h
          ·rename_i sz' es hos;split at h
           ·rename_i hc;simp only[Option.some.injEq,Prod.mk.injEq]at h;obtain⟨rfl,rfl⟩:=h;refine⟨upd (upd G o .dead) id (.arr (n+1) (es++new)),?_,λk hk=>?_,λk hk=>?_,λk hk=>?_⟩
            ·simp only[hnew,ho,hos];try rw[if_pos hc]
            ·by_cases e1:k=id
             ·subst e1;rw[upd_same,upd_same]
             ·rw[upd_ne _ _ e1,upd_ne _ _ e1];have:k=o:=by simpa[D.ids1,e1]using hk
              subst this;rw[upd_same,upd_same]
            ·simp[D.ids1]at hk;rw[upd_ne _ _ hk.1,upd_ne _ _ hk.2]
            ·simp[D.ids1]at hk;rw[upd_ne _ _ hk.1,upd_ne _ _ hk.2]
           ·cases h
          ·cases h
         ·cases h
        ·cases h
       ·cases h
      ·cases h
     ·cases h
    ·cases h
   ·exfalso;revert h;cases b<;>simp_all[opH]
  |_=>simp[opH]at h
 |_=>simp[opH]at h
theorem xK {n:Nat}{s:D}(h:∀o∈s.ids1,G o=H o):Bz G n s=Bz H n s:=by
 cases s with
 |i x=>cases x<;>rfl
 |os o sz off len=>simp only[Bz];rw[h o (by simp[D.ids1])]
 |oc o sz off len c=>simp only[Bz];rw[h o (by simp[D.ids1])]
 |_=>rfl
theorem FK {e:TypeId}{z:List D}(h:aJ P e=some z):z.mapM (eu G)=z.mapM (eu H):=by refine ji λo ho=>?_;obtain⟨zv,_,rfl,_⟩:=zcells_ok h;simp only[List.mem_flatMap,List.mem_map]at ho;obtain⟨d,⟨c,_,rfl⟩,ho⟩:=ho;simp[D.ids1]at ho
theorem IZ {d:D}{o sz off len:Nat}(h:UH d=some (o,sz,off,len)):d.ids1=[o]:=by cases d<;>simp[UH]at h<;>simp[D.ids1,h.1]
theorem LZ {o:Nat}{x:Ob}(hg:G o=H o):(∀k∈[o],upd G o x k=upd H o x k)/\(∀k,k ∉ [o]->upd G o x k=G k)/\(∀k,k ∉ [o]->upd H o x k=H k):=by
 refine⟨λk hk=>?_,λk hk=>?_,λk hk=>?_⟩
 ·simp at hk;subst hk;rw[upd_same,upd_same]
 ·simp at hk;rw[upd_ne _ _ hk]
 ·simp at hk;rw[upd_ne _ _ hk]
theorem PY {t:TypeId}{d s:D}{r:D}{H':Nat->Ob}(hg:∀k∈d.ids1++s.ids1,G k=H k)(h:cpX P t d s H=some (r,H')):Loc (d.ids1++s.ids1) d.ids1 H G H' (cpX P t d s G) r:=by
 unfold cpX at h⊢;split at h
 ·rename_i e hu;split at h
  ·rename_i n o sz off len ls hsz hdx hls;have hd:=IZ hdx;have ho:G o=H o:=hg o (by simp[hd]);have hs:Bz G (min ls len) s=Bz H (min ls len) s:=xK λo ho=>hg o (by simp[ho]);split at h
   ·rename_i E sz' es hE hos;split at h
    ·rename_i hc;simp only[Option.some.injEq,Prod.mk.injEq]at h;obtain⟨rfl,rfl⟩:=h;rw[hd];refine⟨upd G o (.arr (n+1) (over es off E)),?_,LZ ho⟩;simp only[hu,hsz,hdx,hls,hs,hE,ho,hos,if_pos hc]
    ·cases h
   ·cases h
  ·cases h
 ·cases h
theorem Qs {t:TypeId}{d:D}{r:D}{H':Nat->Ob}(hg:∀k∈d.ids1,G k=H k)(h:clX P t d H=some (r,H')):Loc d.ids1 d.ids1 H G H' (clX P t d G) r:=by
 unfold clX at h⊢;split at h
 ·rename_i e hu;split at h
  ·rename_i n o sz off len z hsz hdx hz;have hd:=IZ hdx;have ho:G o=H o:=hg o (by simp[hd]);have hs:z.mapM (eu G)=z.mapM (eu H):=FK hz;split at h
   ·rename_i xs sz' es hxs hos;split at h
    ·rename_i hc;simp only[Option.some.injEq,Prod.mk.injEq]at h;obtain⟨rfl,rfl⟩:=h;rw[hd];refine⟨upd G o (.arr (n+1) (over es off (List.replicate len xs))),?_,LZ ho⟩;simp only[hu,hsz,hdx,hz,hs,hxs,ho,hos,if_pos hc]
    ·cases h
   ·cases h
  ·cases h
 ·cases h
theorem QX {t tx:TypeId} {s x:D} {id:Nat} {r:D} {H':Nat->Ob} (hg:∀ k∈id :: s.ids1++x.ids1,G k=H k) (h:apX P t tx s x H id=some (r,H')):Loc (id :: s.ids1++x.ids1) (id :: s.ids1) H G H' (apX P t tx s x G id) r:=by
 have hid:G id=H id:=hg id (by simp)
 have hone:∀ {o:Nat} {x:Ob} {wr:List Nat},o∈wr->(∀ k∈wr,G k=H k)->(∀ k∈wr,upd G o x k=upd H o x k)/\(∀ k,k ∉ wr->upd G o x k=G k)/\(∀ k,k ∉ wr->upd H o x k=H k):=by
  intro o x wr ho hk
  refine ⟨fun k hkw=>?_,fun k hkw=>upd_ne _ _ (fun e=>hkw (by rw [e]; exact ho)),fun k hkw=>upd_ne _ _ (fun e=>hkw (by rw [e]; exact ho))⟩
  by_cases e:k=o
  ·subst e; rw [upd_same,upd_same]
  ·rw [upd_ne _ _ e,upd_ne _ _ e]; exact hk k hkw
 have hwr:∀ k∈id :: s.ids1,G k=H k:=fun k hk=>hg k (by simp at hk ⊢; rcases hk with rfl | hk; exact .inl rfl; exact .inr (.inl hk))
 unfold apX at h ⊢
 rw [hid]
 split at h
 ·rename_i e hu hf
  split at h
  ·rename_i n by_ z hsz hbb hz
   split at h
   ·rename_i hzn
    split at h
    ·split at h
     ·rename_i e' new htx hnew
      have hx:aO G x=aO H x:=jC fun o ho=>hg o (by simp [ho])
      split at h
      ·rename_i hc
       simp only [Option.some.injEq,Prod.mk.injEq] at h; obtain ⟨rfl,rfl⟩:=h
       refine ⟨upd G id (.arr (n+1) new),?_,hone (by simp) hwr⟩
       simp only [hu,hf,hsz,hbb,hz,if_pos hzn,htx,hx,hnew,if_pos hc]
      ·cases h
     ·cases h
    ·rename_i o sz off len cap
     have ho:G o=H o:=hg o (by simp [D.ids1])
     split at h
     ·rename_i k' sz' es htx hos
      have hzz:z.mapM (eu G)=z.mapM (eu H):=FK hz
      split at h
      ·rename_i k xs hk hxs
       split at h
       ·rename_i hc
        simp only [Option.some.injEq,Prod.mk.injEq] at h; obtain ⟨rfl,rfl⟩:=h
        refine ⟨upd G id (.arr (n+1) ((es.drop off).take len++List.replicate k.toNat xs)),?_,hone (by simp) hwr⟩
        simp only [hu,hf,hsz,hbb,hz,if_pos hzn,htx,ho,hos,hk,hzz,hxs,if_pos hc]
       ·cases h
      ·cases h
     ·rename_i e' sz' es htx hos
      split at h
      ·rename_i ls hls
       have hx:Bz G ls x=Bz H ls x:=xK fun o ho=>hg o (by simp [ho])
       split at h
       ·rename_i new hnew
        split at h
        ·rename_i hc
         simp only [Option.some.injEq,Prod.mk.injEq] at h; obtain ⟨rfl,rfl⟩:=h
         refine ⟨upd G o (.arr (n+1) (over es (off+len) new)),?_,hone (by simp [D.ids1]) hwr⟩
         simp only [hu,hf,hsz,hbb,hz,if_pos hzn,htx,ho,hos,hls,hx,hnew,if_pos hc]
        ·cases h
       ·cases h
      ·cases h
     ·cases h
    ·cases h
   ·cases h
  ·cases h
 ·cases h
theorem Cx {t:TypeId}{dm:D}{k:Option Value}{v:Option MV}{d:D}{H':Nat->Ob}(hg:∀k∈dm.ids1,G k=H k)(h:inX P t dm k v H=some (d,H')):Loc dm.ids1 dm.ids1 H G H' (inX P t dm k v G) d:=by
 unfold inX inU at h⊢;split at h
 ·rename_i kt et o key mv hu;have ho:G o=H o:=hg o (by simp[D.ids1]);simp only[ho];unfold inV at h⊢;split at h
  ·rename_i kind es hkt hos;split at h
   ·rename_i hok;rw[if_pos hok];unfold inW at h⊢;split at h
    ·rename_i hl;simp only[Option.some.injEq,Prod.mk.injEq]at h;obtain⟨rfl,rfl⟩:=h;refine⟨_,rfl,λk hk=>?_,λk hk=>?_,λk hk=>?_⟩
     ·by_cases e:k=o
      ·subst e;rw[upd_same,upd_same]
      ·rw[upd_ne _ _ e,upd_ne _ _ e];exact hg k hk
     ·rw[upd_ne _ _ (λe=>hk (by simp[D.ids1,e]))]
     ·rw[upd_ne _ _ (λe=>hk (by simp[D.ids1,e]))]
    ·cases h
   ·cases h
  ·cases h
 ·cases h
theorem Nz {op:Op}{id:Nat}{d:D}{H':Nat->Ob}(hg:∀k∈(fpA sl id op).1,G k=H k)(h:opX P sl H id op=some (d,H')):Loc (fpA sl id op).1 (fpA sl id op).2 H G H' (opX P sl G id op) d:=by
 have updl:∀{o:Nat}{x:Ob}{wr:List Nat},o∈wr->(∀k∈wr,k=o\/G k=H k)->(∀k∈wr,upd G o x k=upd H o x k)/\(∀k,k ∉ wr->upd G o x k=G k)/\(∀k,k ∉ wr->upd H o x k=H k):=by
  intro o x wr ho hk;refine⟨λk hkw=>?_,λk hkw=>upd_ne _ _ (λe=>hkw (by rw[e];exact ho)),λk hkw=>upd_ne _ _ (λe=>hkw (by rw[e];exact ho))⟩;by_cases e:k=o
  ·subst e;rw[upd_same,upd_same]
  ·rw[upd_ne _ _ e,upd_ne _ _ e];exact(hk k hkw).resolve_left e
 cases op with
 |range t x =>
  simp only[fpA]at hg⊢;have hid:G id=H id:=hg id (by simp);simp only[opX]at h⊢;rw[hid];unfold rgX at h⊢;split at h
  ·rename_i s hu hc hf;simp only[Option.some.injEq,Prod.mk.injEq]at h;obtain⟨rfl,rfl⟩:=h;try simp only[hu,hc,hf]
   exact⟨_,rfl,updl (by simp) (λk hk=>by simp at hk;exact .inl hk)⟩
  ·cases h
 |next x b =>
  cases b with
  |false=>simp[opX]at h
  |true =>
   simp only[fpA]at hg⊢;simp only[opX]at h⊢;unfold nxX at h⊢;split at h
   ·rename_i o sz hd;rw[hd]at hg⊢;have ho:G o=H o:=hg o (by simp[D.ids1]);simp only[ho];split at h
    ·rename_i s pos hos;try simp only[hos]
     split at h
     ·rename_i hp;simp only[Option.some.injEq,Prod.mk.injEq]at h;obtain⟨rfl,rfl⟩:=h;try rw[if_pos hp]
      exact⟨_,rfl,updl (by simp[D.ids1]) (λk hk=>.inr (hg k hk))⟩
     ·rename_i hp;simp only[Option.some.injEq,Prod.mk.injEq]at h;obtain⟨rfl,rfl⟩:=h;try rw[if_neg hp]
      exact⟨G,rfl,λk hk=>hg k hk,λ_ _=>rfl,λ_ _=>rfl⟩
    ·cases h
   ·cases h
 |makeMap t r =>
  simp only[fpA]at hg⊢;have hid:G id=H id:=hg id (by simp);simp only[opX]at h⊢;rw[hid];unfold mkX mkU at h⊢;split at h
  ·rename_i hu hc hf;simp only[Option.some.injEq,Prod.mk.injEq]at h;obtain⟨rfl,rfl⟩:=h;try simp only[hu,hc,hf]
   exact⟨_,rfl,updl (by simp) (λk hk=>by simp at hk;exact .inl hk)⟩
  ·rename_i hu hc hf;simp only[Option.some.injEq,Prod.mk.injEq]at h;obtain⟨rfl,rfl⟩:=h;try simp only[hu,hc,hf]
   exact⟨_,rfl,updl (by simp) (λk hk=>by simp at hk;exact .inl hk)⟩
  ·cases h
 |insert t m k x =>simp only[fpA]at hg⊢;simp only[opX]at h⊢;exact Cx hg h
 |mapUpdate t m k x =>simp only[fpA]at hg⊢;simp only[opX]at h⊢;exact Cx hg h
 |lookup t m k b =>
  simp only[fpA]at hg⊢;simp only[opX,Option.map_eq_some_iff,Prod.mk.injEq]at h;obtain⟨d',h,rfl,rfl⟩:=h;have e:luX P t (evA sl m) (dO (evA sl k)) b G=some d':=by
   rw[<- h];unfold luX luU;generalize dO (evA sl k)=c;generalize aG P t=u;generalize evA sl m=dm at hg;split
   ·rename_i o key;simp only[hg o (by simp[D.ids1])]
   ·rfl
  exact⟨G,by simp[opX,e],by simp,λ_ _=>rfl,λ_ _=>rfl⟩
 |buildSlice t len parts =>
  simp only[fpA]at hg⊢;have hid:G id=H id:=hg id (by simp);simp only[opX]at h⊢;rw[hid];unfold bsX at h⊢;split at h
  ·rename_i e hu hf;split at h
   ·rename_i zv ps hs hz hps;split at h
    ·rename_i hcond;simp only[Option.some.injEq,Prod.mk.injEq]at h;obtain⟨rfl,rfl⟩:=h;try simp only[hu,hf,hs,hz,hps]
     try rw[if_pos hcond]
     exact⟨_,rfl,updl (by simp) (λk hk=>.inr (hg k hk))⟩
    ·cases h
   ·cases h
  ·cases h
 |indexAddr t x i =>simp only[opX,Option.map_eq_some_iff,Prod.mk.injEq]at h⊢;obtain⟨d',h,rfl,rfl⟩:=h;exact⟨G,by simp[opX,h],by simp[fpA],λ_ _=>rfl,λ_ _=>rfl⟩
 |slice t x lo hi mx =>simp only[opX,Option.map_eq_some_iff,Prod.mk.injEq]at h⊢;obtain⟨d',h,rfl,rfl⟩:=h;exact⟨G,by simp[opX,h],by simp[fpA],λ_ _=>rfl,λ_ _=>rfl⟩
 |call c =>
  obtain⟨callee,args,tys⟩:=c;cases callee with
  |builtin b =>
   cases b with
   |len =>simp only[opX]at h⊢;obtain⟨a,t,hl,hk,hf⟩:=one_inv h;simp only[Option.map_eq_some_iff,Prod.mk.injEq]at hf;obtain⟨d',hf,rfl,rfl⟩:=hf;exact⟨G,by simp[one,hl,hk,hf],by simp[fpA],λ_ _=>rfl,λ_ _=>rfl⟩
   |cap =>simp only[opX]at h⊢;obtain⟨a,t,hl,hk,hf⟩:=one_inv h;simp only[Option.map_eq_some_iff,Prod.mk.injEq]at hf;obtain⟨d',hf,rfl,rfl⟩:=hf;exact⟨G,by simp[one,hl,hk,hf],by simp[fpA],λ_ _=>rfl,λ_ _=>rfl⟩
   |append =>simp only[opX]at h⊢;obtain⟨a,b,t,u,hl,hk,hf⟩:=two_inv h;simp only[fpA,hl]at hg⊢;have:=QX hg hf;simpa only[two,hl,hk]using this
   |copy =>simp only[opX]at h⊢;obtain⟨a,b,t,u,hl,hk,hf⟩:=two_inv h;simp only[fpA,hl]at hg⊢;have:=PY hg hf;simpa only[two,hl,hk]using this
   |clear =>simp only[opX]at h⊢;obtain⟨a,t,hl,hk,hf⟩:=one_inv h;simp only[fpA,hl]at hg⊢;have:=Qs hg hf;simpa only[one,hl,hk]using this
   |_=>simp[opX]at h
  |_=>simp[opX]at h
 |_=>simp[opX]at h
theorem Ny {op:Op}{id:Nat}{d:D}{H':Nat->Ob}(hg:∀k∈(fpA sl id op).1,G k=H k)(h:opY P sl H id op=some (d,H')):Loc (fpA sl id op).1 (fpA sl id op).2 H G H' (opY P sl G id op) d:=by
 unfold opY at h⊢;cases hh:opH P sl H id op with
 |some r =>obtain⟨d1,H1⟩:=r;rw[hh]at h;simp only[orX,Option.some.injEq,Prod.mk.injEq]at h;obtain⟨rfl,rfl⟩:=h;obtain⟨G',h1,h2⟩:=opH_local hg hh;exact⟨G',by rw[h1];rfl,h2⟩
 |none =>
  rw[hh]at h;have hG:opH P sl G id op=none:=by
   cases hG:opH P sl G id op with
   |none=>rfl
   |some r =>obtain⟨d1,H1⟩:=r;obtain⟨G',h1,_⟩:=opH_local (G:=H) (H:=G) (λk hk=>(hg k hk).symm) hG;rw[hh]at h1;cases h1
  rw[hG];exact Nz hg h
end
def mo (fp:List Nat)(G H:Nat->Ob):Prop:=∀k∈fp,G k=H k
structure Eff where
 d:D
 fp:List Nat
 wr:List Nat
 u:(Nat->Ob)->(Nat->Ob)
structure Eff.Loc (x:Eff):Prop where
 sub:∀k∈x.wr,k∈x.fp
 out:∀G k,k ∉ x.wr->x.u G k=G k
 same:∀G G',mo x.fp G G'->mo x.wr (x.u G) (x.u G')
def abn (P:Program)(rid k:Nat)(o:Oper)(sl:Nat->D)(G:Nat->Ob)(d:D)(G':Nat->Ob):Prop :=
 match bG o.op with
 |some (f,args)=>∃g caps,evA sl f=.fn g caps/\RG P g (args.toList.map (evA sl)++caps) G d G'
 |none=>opA P sl G (uo rid k) o.op=some (d,G')
def Ar (ops:Array Oper)(k:Nat):Option Nat:=(ops[k]?).bind (·.dst)
def FH (P:Program)(n rid:Nat)(ops:Array Oper)(k:Nat)(σ:St)(x:Eff):Prop :=
 ∃o,ops[k]?=some o/\fI n o.dst=true/\x.Loc/\((rz ops σ.sl o.guard=some false/\x.d=.un/\x.wr=[])\/(rz ops σ.sl o.guard=some true/\∀G,mo x.fp G σ.H->abn P rid k o σ.sl G x.d (x.u G)))
def gm (ops:Array Oper)(k:Nat)(x:Eff)(σ:St):St:=St.put ⟨σ.sl,x.u σ.H⟩ (Ar ops k) x.d
def yL (P:Program)(n rid:Nat)(ops:Array Oper):List (Nat×Eff)->St->St->Prop
 |[],σ,σ'=>σ=σ'
 |(k,x)::t,σ,σ'=>FH P n rid ops k σ x/\yL P n rid ops t (gm ops k x σ) σ'
def gP (ops:Array Oper)(i j:Nat):Bool :=
 match ops[i]?,ops[j]? with
 |some a,some b =>
  (match a.dst with|some t=>!(Oper.looksAt ops b).contains t|none=>true)&&(match b.dst with|some t=>!(Oper.looksAt ops a).contains t|none=>true) &&
  (match a.dst,b.dst with|some s,some t=>s != t|_,_=>true)
 |_,_=>false
def apart (fi wi fj wj:List Nat):Bool:=(wi.all λk=>!fj.contains k)&&(wj.all λk=>!fi.contains k)
def Dt (ops:Array Oper):Nat->Nat->List Nat
 |0,_=>[]
 |f+1,i=>match ops[i]? with
  |some o=>(o.after.toList.filter (Region.binds .any)).flatMap λe=>e.on::Dt ops f e.on
  |none=>[]
def mf (ops:Array Oper):Bool:=(List.range ops.size).all λi=>match ops[i]? with
 |some o=>o.after.all λe=>!Region.binds .any e||decide (e.on<i)
 |none=>true
def iV (ops:Array Oper):List (Nat×List Nat×List Nat)->Bool
 |[]=>true
 |(j,fj,wj)::t=>(t.all λ(i,fi,wi)=>(Dt ops ops.size j).contains i||(gP ops i j&&apart fi wi fj wj))&&iV ops t
def VU (P:Program)(g:FuncId)(ds:List D)(H:Nat->Ob)(x:Eff):Prop:=x.Loc/\∀G,mo x.fp G H->RG P g ds G x.d (x.u G)
def awD (P:Program)(n rid:Nat)(ops:Array Oper):List Nat->St->List (Nat×List Nat×List Nat)->(St->Prop)->Prop
 |[],σ,acc,Q=>(mf ops&&iV ops acc)=true/\Q σ
 |k::rest,σ,acc,Q=>match ops[k]? with
  |none=>False
  |some o=>match rz ops σ.sl o.guard with
   |none=>False
   |some b=>fI n o.dst=true/\(b=false->awD P n rid ops rest (σ.put o.dst .un) ((k,[],[])::acc) Q)/\(b=true ->
    match bG o.op with
    |some (f,args)=>match evA σ.sl f with
     | .fn g caps=>∃x,VU P g (args.toList.map (evA σ.sl)++caps) σ.H x/\awD P n rid ops rest (St.put ⟨σ.sl,x.u σ.H⟩ o.dst x.d) ((k,x.fp,x.wr)::acc) Q
     |_=>False
    |none=>∃d H',opA P σ.sl σ.H (uo rid k) o.op=some (d,H')/\awD P n rid ops rest (St.put ⟨σ.sl,H'⟩ o.dst d) ((k,(match opQ P σ.sl σ.H o.op with|some _=>([],[])|none=>fpA σ.sl (uo rid k) o.op))::acc) Q)
def drA (P:Program)(n:Nat)(id:Nat)(ops:Array Oper)(σ:St)(Q:St->Prop):Prop:=P.follows .mixedOrders=true/\awD P n id ops (List.range ops.size) σ [] Q
section
variable {P:Program}{n rid:Nat}{ops:Array Oper}
theorem aar (sl:Nat->D)(id:Nat)(op:Op):∀k∈(fpA sl id op).2,k∈(fpA sl id op).1:=by
 intro k hk;have key:∀(p:List Nat×List Nat),fpA sl id op=p->((p.1=p.2)\/p.2=[]\/(∃s x:D,p=(id::s.ids1++x.ids1,id::s.ids1))\/∃s x:D,p=(s.ids1++x.ids1,s.ids1)):=by
  intro p hp;by_cases hc:∃s d x,op=.convert s d x
  ·obtain⟨s,d,x,rfl⟩:=hc;subst hp;by_cases e:s=d
   ·exact .inl (by simp[fpA,e])
   ·exact .inr (.inl (by simp[fpA,e]))
  unfold fpA at hp;split at hp<;>(try(subst hp;first|exact .inl rfl|exact .inr (.inl rfl)|exact absurd ⟨_,_,_,rfl⟩ hc))
  ·split at hp
   ·subst hp;exact .inr (.inr (.inl ⟨_,_,rfl⟩))
   ·subst hp;exact .inl rfl
  ·split at hp
   ·subst hp;exact .inr (.inr (.inr ⟨_,_,rfl⟩))
   ·subst hp;exact .inl rfl
  ·split at hp
   ·subst hp;exact .inl rfl
   ·subst hp;exact .inl rfl
 rcases key _ rfl with h|h|⟨s,x,h⟩|⟨s,x,h⟩
 ·rw[h];exact hk
 ·rw[h]at hk;simp at hk
 ·rw[h]at hk⊢;simp only[List.mem_cons,List.mem_append,List.cons_append]at hk⊢;rcases hk with h|h
  ·exact .inl h
  ·exact .inr (.inl h)
 ·rw[h]at hk⊢;exact List.mem_append_left _ hk
theorem opA_eff {sl:Nat->D}{H H':Nat->Ob}{id:Nat}{op:Op}{d:D}(h:opA P sl H id op=some (d,H')):
  ∃x:Eff,x.Loc/\x.d=d/\x.u H=H'/\(x.fp,x.wr)=(match opQ P sl H op with|some _=>([],[])|none=>fpA sl id op)/\∀G,mo x.fp G H->opA P sl G id op=some (d,x.u G):=by
 cases hq:opQ P sl H op with
 |some d' =>simp only[opA,hq,Option.some.injEq,Prod.mk.injEq]at h;obtain⟨rfl,rfl⟩:=h;refine⟨⟨d',[],[],λG=>G⟩,⟨by simp,λ_ _ _=>rfl,λ_ _ _ k hk=>by simp at hk⟩,rfl,rfl,rfl,λG _=>?_⟩;have:opQ P sl G op=some d':=hq;simp[opA,this]
 |none =>
  have h':opY P sl H id op=some (d,H'):=by simpa[opA,hq]using h
  have hqG:∀G,opQ P sl G op=none:=λG=>hq;have hval:∀G,mo (fpA sl id op).1 G H->Loc (fpA sl id op).1 (fpA sl id op).2 H G H' (opY P sl G id op) d:=λG hg=>Ny hg h';let u:(Nat->Ob)->(Nat->Ob):=λG=>λk=>if(fpA sl id op).2.contains k then H' k else G k
  have hu:∀G,mo (fpA sl id op).1 G H->opY P sl G id op=some (d,u G):=by
   intro G hg;obtain⟨G',h1,h2,h3,h4⟩:=hval G hg;rw[h1];congr 2;funext k;by_cases hk:k∈(fpA sl id op).2
   ·simp[u,hk,h2 k hk]
   ·simp[u,hk,h3 k hk]
  have hsub:∀k∈(fpA sl id op).2,k∈(fpA sl id op).1:=by exact aar sl id op
  have hself:u H=H':=by have h1:=hu H (λ_ _=>rfl);rw[h']at h1;simp at h1;exact h1.symm
  refine⟨⟨d,(fpA sl id op).1,(fpA sl id op).2,u⟩,⟨hsub,λG k hk=>by simp[u,hk],λG G' _ k hk=>by simp[u,hk]⟩,rfl,hself,rfl,λG hg=>?_⟩;simp[opA,hqG,hu G hg]
theorem T_ {o:Oper}{t:Nat}{x:Operand}(hx:x∈o.op.operands)(ht:x=.tmp t):t∈Oper.looksAt ops o:=by subst ht;simp only[Oper.looksAt,List.mem_append,List.mem_filterMap];exact .inl ⟨.tmp t,by simpa using hx,rfl⟩
theorem EH {o:Oper}{j t:Nat}{w:Bool}(hg:o.guard=some (j,w))(ht:(ops[j]?).bind (·.dst)=some t):t∈Oper.looksAt ops o:=by simp only[Oper.looksAt,List.mem_append];exact .inr (by simp[hg,ht])
theorem PI {σ:St}{H':Nat->Ob}{o:Oper}{dst:Option Nat}{d:D}(hn:∀t,dst=some t->t ∉ Oper.looksAt ops o){x:Operand}(hx:x∈o.op.operands):evA (St.put ⟨σ.sl,H'⟩ dst d).sl x=evA σ.sl x:=by
 cases x with
 |tmp t =>
  cases dst with
  |none=>rfl
  |some s =>simp only[St.put,evA];exact upd_ne _ _ (λe=>hn s rfl (by rw[<- e];exact T_ hx rfl))
 |_=>rfl
theorem pU {σ:St}{H':Nat->Ob}{o:Oper}{dst:Option Nat}{d:D}(hn:∀t,dst=some t->t ∉ Oper.looksAt ops o):rz ops (St.put ⟨σ.sl,H'⟩ dst d).sl o.guard=rz ops σ.sl o.guard:=by
 cases hg:o.guard with
 |none=>rfl
 |some p =>
  obtain⟨j,w⟩:=p;simp only[rz];cases ht:(ops[j]?).bind (·.dst)with
  |none=>rfl
  |some t =>
   cases dst with
   |none=>rfl
   |some s =>simp only[St.put];rw[upd_ne _ _ (λe=>hn s rfl (by rw[<- e];exact EH hg ht))]
theorem yK {k:Nat}{o:Oper}{sl sl':Nat->D}{G G':Nat->Ob}{d:D}(h:∀x∈o.op.operands,evA sl x=evA sl' x)(hd:abn P rid k o sl G d G'):abn P rid k o sl' G d G':=by
 simp only[abn]at hd⊢;split at hd
 ·rename_i f args hc;obtain⟨tys,hop⟩:=callOf_some hc;obtain⟨g,caps,h1,h2⟩:=hd;have hf:=h f (by simp[hop,Op.operands,Call.operands]);have ha:args.toList.map (evA sl)=args.toList.map (evA sl'):=jJ λx hx=>h x (by simp[hop,Op.operands,Call.operands,hx]);exact⟨g,caps,by rw[<- hf];exact h1,by rw[<- ha];exact h2⟩
 ·rw[<- ND (P:=P) (H:=G) (uo rid k) h];exact hd
theorem St.ext' {a b:St}(h1:a.sl=b.sl)(h2:a.H=b.H):a=b:=by cases a;cases b;simp at*;exact⟨h1,h2⟩
theorem Zi (sl:Nat->D)(H:Nat->Ob)(dst:Option Nat)(d:D):(St.put ⟨sl,H⟩ dst d).H=H:=by cases dst<;>rfl
theorem swap {i j:Nat}{x y:Eff}{σ:St}(h1:FH P n rid ops i σ x)(h2:FH P n rid ops j (gm ops i x σ) y)(hs:gP ops i j=true)(ha:apart x.fp x.wr y.fp y.wr=true):
  FH P n rid ops j σ y/\FH P n rid ops i (gm ops j y σ) x/\gm ops i x (gm ops j y σ)=gm ops j y (gm ops i x σ):=by
 obtain⟨a,ha1,ha2,hlx,ha3⟩:=h1;obtain⟨b,hb1,hb2,hly,hb3⟩:=h2;have hda:Ar ops i=a.dst:=by simp[Ar,ha1]
 have hdb:Ar ops j=b.dst:=by simp[Ar,hb1]
 simp only[gP,ha1,hb1,Bool.and_eq_true]at hs;obtain⟨⟨s1,s2⟩,s3⟩:=hs;have n1:∀t,a.dst=some t->t ∉ Oper.looksAt ops b:=λt ht=>by rw[ht]at s1;simpa using s1
 have n2:∀t,b.dst=some t->t ∉ Oper.looksAt ops a:=λt ht=>by rw[ht]at s2;simpa using s2
 simp only[apart,Bool.and_eq_true,List.all_eq_true]at ha;obtain⟨p1,p2⟩:=ha;have q1:∀k∈x.wr,k ∉ y.fp:=λk hk=>by simpa using p1 k hk
 have q2:∀k∈y.wr,k ∉ x.fp:=λk hk=>by simpa using p2 k hk
 have g1:mo y.fp σ.H (x.u σ.H):=λk hk=>(hlx.out σ.H k (λhw=>q1 k hw hk)).symm;have g2:mo x.fp σ.H (y.u σ.H):=λk hk=>(hly.out σ.H k (λhw=>q2 k hw hk)).symm;simp only[gm,hda]at hb3;refine⟨⟨b,hb1,hb2,hly,?_⟩,⟨a,ha1,ha2,hlx,?_⟩,?_⟩
 ·rcases hb3 with⟨w,e1,e2⟩|⟨w,hd⟩
  ·exact .inl ⟨by rw[pU n1]at w;exact w,e1,e2⟩
  ·refine .inr ⟨by rw[pU n1]at w;exact w,λG hG=>?_⟩;refine yK (λz hz=>PI n1 hz) (hd G λk hk=>?_);rw[Zi,hG k hk];exact g1 k hk
 ·rcases ha3 with⟨w,e1,e2⟩|⟨w,hd⟩
  ·exact .inl ⟨by simp only[gm,hdb];rw[pU n2];exact w,e1,e2⟩
  ·refine .inr ⟨by simp only[gm,hdb];rw[pU n2];exact w,λG hG=>?_⟩;refine yK (λz hz=>by simp only[gm,hdb];exact(PI n2 hz).symm) (hd G λk hk=>?_);rw[hG k hk];simp only[gm,hdb,Zi];exact(g2 k hk).symm
 ·have hH:x.u (y.u σ.H)=y.u (x.u σ.H):=by
   funext k;by_cases hx:k∈x.wr
   ·rw[hly.out _ k (λhy=>q1 k hx (hly.sub k hy))];exact(hlx.same _ _ g2 k hx).symm
   ·rw[hlx.out _ k hx];by_cases hy:k∈y.wr
    ·exact hly.same _ _ g1 k hy
    ·rw[hly.out _ k hy,hly.out _ k hy,hlx.out _ k hx]
  refine St.ext' ?_ ?_
  ·simp only[gm,hda,hdb];cases ea:a.dst with
   |none =>
    cases eb:b.dst with
    |none=>rfl
    |some t=>simp only[St.put]
   |some s =>
    cases eb:b.dst with
    |none=>simp only[St.put]
    |some t =>
     rw[ea,eb]at s3;have hst:s≠t:=by simpa using s3
     simp only[St.put];funext k;by_cases e1:k=s
     ·subst e1;rw[upd_same,upd_ne _ _ hst,upd_same]
     ·by_cases e2:k=t
      ·subst e2;rw[upd_ne _ _ e1,upd_same,upd_same]
      ·rw[upd_ne _ _ e1,upd_ne _ _ e2,upd_ne _ _ e2,upd_ne _ _ e1]
  ·simp only[gm,Zi];exact hH
theorem front {i:Nat}{x:Eff}{post:List (Nat×Eff)}{σ':St}:∀{pre:List (Nat×Eff)}{σ:St},yL P n rid ops (pre++(i,x)::post) σ σ'->(∀p∈pre,gP ops p.1 i=true/\apart p.2.fp p.2.wr x.fp x.wr=true) ->
  yL P n rid ops ((i,x)::(pre++post)) σ σ'
 |[],σ,h,_=>h
 |(k,y)::pre,σ,h,hp=>by obtain⟨h1,h2⟩:=h;obtain⟨h3,h4⟩:=front h2 (λp hp'=>hp p (by simp[hp']));obtain⟨e1,e2⟩:=hp (k,y) (by simp);obtain⟨g1,g2,g3⟩:=swap h1 h3 e1 e2;exact⟨g1,g2,by rw[g3];exact h4⟩
theorem awD_chain {Q:St->Prop}:∀(l:List Nat)(σ:St)(acc:List (Nat×List Nat×List Nat)),awD P n rid ops l σ acc Q ->
  ∃(c:List (Nat×Eff)) (σ':St),c.map (·.1)=l/\yL P n rid ops c σ σ'/\Q σ'/\mf ops=true/\iV ops ((c.map λp=>(p.1,p.2.fp,p.2.wr)).reverse++acc)=true
 |[],σ,acc,h=>by simp only[awD,Bool.and_eq_true]at h;exact⟨[],σ,rfl,rfl,h.2,h.1.1,by simpa using h.1.2⟩
 |k::rest,σ,acc,h=>by
  simp only[awD]at h;have fin:∀(x:Eff) (o:Oper),ops[k]?=some o->FH P n rid ops k σ x->awD P n rid ops rest (gm ops k x σ) ((k,x.fp,x.wr)::acc) Q->∃(c:List (Nat×Eff)) (σ':St),c.map (·.1)=k::rest/\yL P n rid ops c σ σ'/\Q σ'/\mf ops=true/\iV ops ((c.map λp=>(p.1,p.2.fp,p.2.wr)).reverse++acc)=true:=by intro x o ho hs hw;obtain⟨c,σ',c1,c2,c3,c4,c5⟩:=awD_chain rest _ _ hw;exact⟨(k,x)::c,σ',by simp[c1],⟨hs,c2⟩,c3,c4,by simpa using c5⟩
  split at h
  ·exact h.elim
  ·rename_i o ho;have hdst:Ar ops k=o.dst:=by simp[Ar,ho]
   split at h
   ·exact h.elim
   ·rename_i b hb;obtain⟨hd,hf,ht⟩:=h;cases b with
    |false =>refine fin ⟨.un,[],[],λG=>G⟩ o ho ⟨o,ho,hd,⟨by simp,λ_ _ _=>rfl,λ_ _ _ k hk=>by simp at hk⟩,.inl ⟨hb,rfl,rfl⟩⟩ ?_;have:=hf rfl;simp only[gm,hdst];exact this
    |true =>
     have ht:=ht rfl;split at ht
     ·rename_i f args hc;split at ht
      ·rename_i g caps hfn;obtain⟨x,⟨hl,hx⟩,hw⟩:=ht;refine fin x o ho ⟨o,ho,hd,hl,.inr ⟨hb,λG hG=>?_⟩⟩ (by simp only[gm,hdst];exact hw);simp only[abn,hc];exact⟨g,caps,hfn,hx G hG⟩
      ·exact ht.elim
     ·rename_i hc;obtain⟨d,H',hop,hw⟩:=ht;obtain⟨x,x1,rfl,rfl,x4,x5⟩:=opA_eff hop;refine fin x o ho ⟨o,ho,hd,x1,.inr ⟨hb,λG hG=>?_⟩⟩ (by simp only[gm,hdst];rw[x4];exact hw);simp only[abn,hc];exact x5 G hG
theorem EW:∀{c:List (Nat×Eff)},iV ops ((c.map λp=>(p.1,p.2.fp,p.2.wr)).reverse)=true->∀(pre:List (Nat×Eff))(i:Nat)(x:Eff)(post:List (Nat×Eff)),c=pre++(i,x)::post ->
  ∀p∈pre,p.1∈Dt ops ops.size i\/(gP ops p.1 i=true/\apart p.2.fp p.2.wr x.fp x.wr=true):=by
 intro c h pre i x post hc p hp;subst hc;rw[List.map_append,List.map_cons,List.reverse_append,List.reverse_cons,List.append_assoc]at h;have key:∀(l:List (Nat×List Nat×List Nat)) (j:Nat) (fj wj:List Nat) (t:List (Nat×List Nat×List Nat)),iV ops (l++(j,fj,wj)::t)=true->∀q∈t,q.1∈Dt ops ops.size j\/(gP ops q.1 j=true/\apart q.2.1 q.2.2 fj wj=true):=by
  intro l;induction l with
  |nil =>intro j fj wj t h q hq;simp only[List.nil_append,iV,Bool.and_eq_true,List.all_eq_true]at h;have:=h.1 q hq;simpa using this
  |cons a l ih =>intro j fj wj t h q hq;obtain⟨a1,a2,a3⟩:=a;simp only[List.cons_append,iV,Bool.and_eq_true]at h;exact ih j fj wj t h.2 q hq
 exact key _ i x.fp x.wr _ h (p.1,p.2.fp,p.2.wr) (by simp;exact⟨p.1,p.2,hp,rfl,rfl,rfl⟩)
theorem Ee {K0 E0:Ctx}{T:Nat->Prop}{k:Nat}{x:Eff}{σ:St}{a:Act}{w:World}{next:Act->World->Prop}{Q':Exit->Act->World->Prop}(hall:∀(o:Oper),o∈ops->fI n o.dst=true)
  (hs:FH P n rid ops k σ x) (hA:AR K0 E0 T n σ a w) (hK:∀a' w',AR K0 E0 T n (gm ops k x σ) a' w'->next a' w'):wpOp P ops Q' k next a w:=by
 obtain⟨o,ho,hd,hl,hs⟩:=hs;have hdst:Ar ops k=o.dst:=by simp[Ar,ho]
 have hA':=hA;obtain⟨K,rfl,hE,h100,hr,hsl,hdf,hn⟩:=hA';unfold wpOp;simp only[ho];rcases hs with⟨hw,hdu,hwr⟩|⟨hw,hdo⟩
 ·rw[yQ hsl (by rw[hn];exact hall) hw];simp only[Bool.false_eq_true,if_false];refine hK _ _ ?_;have hu:x.u σ.H=σ.H:=by funext k;exact hl.out σ.H k (by simp[hwr])
  simp only[gm,hdst,hu,hdu];exact AR.put (σ:=σ) hE h100 hr hsl hdf hn .un hd
 ·rw[yQ hsl (by rw[hn];exact hall) hw];simp only[if_true];refine .inl (QV (P:=P) (rid:=rid) (k:=k) (σ:=σ) (Q:=λσ'=>σ'=gm ops k x σ) ?_ hA (λσ' a' w' e hA'=>hK a' w' (by rw[<- e];exact hA')));refine⟨hd,?_⟩;have:=hdo σ.H (λ_ _=>rfl);simp only[abn]at this;split at this
  ·rename_i f args hc;obtain⟨g,caps,h1,h2⟩:=this;simp only[hc,h1];exact⟨_,_,h2,by simp only[gm,hdst]⟩
  ·rename_i hc;simp only[hc];exact⟨_,_,this,by simp only[gm,hdst]⟩
theorem JM {listed:Array Bool}(hcl:∀f i,listed.getD i false=true->∀k∈Dt ops f i,listed.getD k false=true){i:Nat}(hready:∀(o:Oper),ops[i]?=some o->∀e∈o.after.toList,Region.binds .any e=true->listed.getD e.on false=true):
  ∀f,∀k∈Dt ops f i,listed.getD k false=true:=by
 intro f k hk;cases f with
 |zero=>simp[Dt]at hk
 |succ f =>
  simp only[Dt]at hk;split at hk
  ·rename_i o ho;obtain⟨e,he,hk⟩:=List.mem_flatMap.1 hk;simp only[List.mem_filter]at he;have hl:=hready o ho e he.1 he.2;rcases List.mem_cons.1 hk with rfl|hk
   ·exact hl
   ·exact hcl f e.on hl k hk
  ·simp at hk
theorem ready_mem {listed:Array Bool}{i:Nat}:i∈Region.ready .any ops listed↔i<ops.size/\listed.getD i true=false/\∀(o:Oper),ops[i]?=some o->∀e∈o.after.toList,Region.binds .any e=true->listed.getD e.on false=true:=by
 simp only[Region.ready,List.mem_filter,List.mem_range,Bool.and_eq_true,Bool.not_eq_true'];constructor
 ·rintro⟨h1,h2,h3⟩;refine⟨h1,h2,λo ho e he hb=>?_⟩;simp only[ho,Option.map_some,Option.getD_some]at h3;rw[<- Array.all_toList,List.all_eq_true]at h3;have:=h3 e he;simpa[hb]using this
 ·rintro⟨h1,h2,h3⟩;refine⟨h1,h2,?_⟩;simp only[h1,getElem?_pos,Option.map_some,Option.getD_some];rw[<- Array.all_toList,List.all_eq_true];intro e he;by_cases hb:Region.binds .any e=true
  ·simp[hb,h3 ops[i] (by simp[h1]) e he hb]
  ·simp[hb]
theorem ES (l:Array Bool){i k:Nat}(h:k≠i){b d:Bool}:(l.setIfInBounds i b).getD k d=l.getD k d:=by rw[Array.getD_eq_getD_getElem?,Array.getElem?_setIfInBounds_ne (by omega),Array.getD_eq_getD_getElem?]
theorem Ai (l:Array Bool){i:Nat}(h:i<l.size){b d:Bool}:(l.setIfInBounds i b).getD i d=b:=by rw[Array.getD_eq_getD_getElem?,Array.getElem?_setIfInBounds_self_of_lt h];rfl
theorem afm {K0 E0:Ctx}{T:Nat->Prop}{Q':Exit->Act->World->Prop}{σ':St}(hall:∀(o:Oper),o∈ops->fI n o.dst=true)(hed:mf ops=true)(hfin:∀a w,AR K0 E0 T n σ' a w->Q' .normal a w):
  ∀(fuel:Nat) (listed:Array Bool) (c:List (Nat×Eff)) (σ:St) (a:Act) (w:World),listed.size=ops.size->c.length<=fuel->(∀i,i<ops.size->(listed.getD i true=false↔i∈c.map (·.1))) ->
   (∀f i,listed.getD i false=true->∀k∈Dt ops f i,listed.getD k false=true)->(c.map (·.1)).Pairwise (· < ·)->(∀i∈c.map (·.1),i<ops.size) ->
   iV ops ((c.map λp=>(p.1,p.2.fp,p.2.wr)).reverse)=true->yL P n rid ops c σ σ'->AR K0 E0 T n σ a w->wpAny P .any ops Q' fuel listed a w:=by
 intro fuel;induction fuel with
 |zero =>intro listed c σ a w hsz hlen hc hcl hsort hin hfree hch hA;have:c=[]:=List.eq_nil_of_length_eq_zero (by omega);subst this;refine⟨?_,hfin a w (by have:σ=σ':=hch;rw[<- this];exact hA)⟩;rw[List.eq_nil_iff_forall_not_mem];intro i hi;obtain⟨h1,h2,_⟩:=ready_mem.1 hi;have:=(hc i h1).1 h2;simp at this
 |succ fuel ih =>
  intro listed c σ a w hsz hlen hc hcl hsort hin hfree hch hA;refine⟨λhre=>?_,λi hi=>?_⟩
  ·
   cases c with
   |nil=>exact hfin a w (by have:σ=σ':=hch;rw[<- this];exact hA)
   |cons p t =>
    exfalso;have hpl:p.1<ops.size:=hin p.1 (by simp);have:p.1∈Region.ready .any ops listed:=by
     refine ready_mem.2 ⟨hpl,(hc p.1 hpl).2 (by simp),λo ho e he hb=>?_⟩;have hE:=List.all_eq_true.1 hed p.1 (List.mem_range.2 hpl);simp only[ho]at hE;rw[<- Array.all_toList,List.all_eq_true]at hE;have hlt:e.on<p.1:=by have:=hE e he;simpa[hb]using this
     have hnot:e.on ∉ (p::t).map (·.1):=by
      intro hm;simp only[List.map_cons,List.mem_cons]at hm;rcases hm with hm|hm
      ·omega
      ·have h9:p.1<e.on:=(List.pairwise_cons.1 hsort).1 e.on hm;omega
     have h5:=(not_congr (hc e.on (by omega))).2 hnot;have h6:e.on<listed.size:=by omega
     simp only[Array.getD,h6,dif_pos]at h5⊢;simpa using h5
    rw[hre]at this;simp at this
  ·obtain⟨h1,h2,h3⟩:=ready_mem.1 hi;have him:=(hc i h1).1 h2;obtain⟨⟨i',x⟩,hxm,rfl⟩:=List.mem_map.1 him;obtain⟨pre,post,rfl⟩:=List.append_of_mem hxm;simp only at h1 h2 h3 hi him;have hpair:=EW hfree pre i' x post rfl;have hpre:∀p∈pre,gP ops p.1 i'=true/\apart p.2.fp p.2.wr x.fp x.wr=true:=by
    intro p hp;rcases hpair p hp with hanc|h
    ·exfalso;have hl:=JM hcl h3 _ _ hanc;have hps:p.1<ops.size:=hin p.1 (by simp;exact .inl ⟨p.2,hp⟩);have:=(hc p.1 hps).2 (by simp;exact .inl ⟨p.2,hp⟩);have h6:p.1<listed.size:=by omega
     simp only[Array.getD,h6,dif_pos]at this hl;rw[this]at hl;cases hl
    ·exact h
   obtain⟨hstep,hrest⟩:=front hch hpre;refine Ee hall hstep hA λa' w' hA'=>?_;have hsort':((pre++post).map (·.1)).Pairwise (· < ·):=by refine hsort.sublist ?_;simp only[List.map_append,List.map_cons];exact List.Sublist.append (List.Sublist.refl _) (List.sublist_cons_self _ _)
   have hnd:i' ∉ (pre++post).map (·.1):=by
    simp only[List.map_append,List.map_cons]at hsort;rw[List.pairwise_append]at hsort;obtain⟨_,s2,s3⟩:=hsort;simp only[List.map_append,List.mem_append,not_or];refine⟨λhm=>?_,λhm=>?_⟩
    ·have:=s3 i' hm i' (by simp);omega
    ·have:=(List.pairwise_cons.1 s2).1 i' hm;omega
   refine ih _ (pre++post) _ a' w' (by simp[hsz]) (by simp at hlen⊢;omega) (λk hk=>?_) (λf k hk q hq=>?_) hsort' (λk hk=>hin k ?_) ?_ hrest hA'
   ·have hkl:k<listed.size:=by omega
    by_cases e:k=i'
    ·subst e;rw[Ai _ hkl];constructor
     ·intro hcon;simp at hcon
     ·intro hm;exact absurd hm hnd
    ·have:=hc k hk;rw[ES _ e];rw[this];simp only[List.map_append,List.map_cons,List.mem_append,List.mem_cons];constructor
     ·rintro(h|h|h)
      ·exact .inl h
      ·exact absurd h e
      ·exact .inr h
     ·rintro(h|h)
      ·exact .inl h
      ·exact .inr (.inr h)
   ·have mono:∀{q},listed.getD q false=true->(listed.setIfInBounds i' true).getD q false=true:=by
     intro q hq;rw[Array.getD_eq_getD_getElem?]at hq⊢;rw[Array.getElem?_setIfInBounds];split
     ·split<;>simp;rename_i h1 h2;omega
     ·exact hq
    by_cases e:k=i'
    ·subst e;exact mono (JM hcl h3 f q hq)
    ·have:listed.getD k false=true:=by
      rw[Array.getD_eq_getD_getElem?]at hk⊢;rw[Array.getElem?_setIfInBounds_ne (by omega)]at hk;exact hk
     exact mono (hcl f k this q hq)
   ·simp only[List.map_append,List.map_cons,List.mem_append,List.mem_cons]at hk⊢;rcases hk with h|h
    ·exact .inl h
    ·exact .inr (.inr h)
   ·have sub:∀(l:List (Nat×List Nat×List Nat)) (y:Nat×List Nat×List Nat) (t:List (Nat×List Nat×List Nat)),iV ops (l++y::t)=true->iV ops (l++t)=true:=by
     intro l;induction l with
     |nil=>intro y t h;simp only[List.nil_append,iV,Bool.and_eq_true]at h⊢;exact h.2
     |cons b l ih2 =>intro y t h;simp only[List.cons_append,iV,Bool.and_eq_true,List.all_append,List.all_cons]at h⊢;exact⟨⟨h.1.1,h.1.2.2⟩,ih2 y t h.2⟩
    simp only[List.map_append,List.map_cons,List.reverse_append,List.reverse_cons,List.append_assoc,List.singleton_append]at hfree⊢;exact sub _ _ _ hfree
theorem aeM (P:Program)(n:Nat):afO P n (drA P n):=by
 intro K0 E0 T id ops σ Q a w Q' hall h hA hK;obtain⟨hm,h⟩:=h;obtain⟨c,σ',c1,c2,c3,c4,c5⟩:=awD_chain _ _ _ h;have hA':AR K0 E0 T n σ a {w with drawn:=w.drawn+1}:=by obtain⟨K,rfl,hE,h100,hr,hsl,hdf,hn⟩:=hA;have he:Ext K (K.world {K.w with drawn:=K.w.drawn+1}):=Ext.world rfl;exact⟨K.world {K.w with drawn:=K.w.drawn+1},rfl,hE.trans he,h100,hr.world rfl rfl rfl rfl,λi=>(hsl i).ext he,hdf,hn⟩
 refine wp_region_any hm (afm hall c4 (λa w hA=>hK σ' a w c3 hA) ops.size _ c σ a _ (by simp) ?_ (λi hi=>?_) (λf i hi=>?_) ?_ (λi hi=>?_) (by simpa using c5) c2 hA')
 ·have:=congrArg List.length c1;simp at this;omega
 ·rw[c1];simp[hi]
 ·simp[Array.getD]at hi
 ·rw[c1];exact List.pairwise_lt_range
 ·rw[c1]at hi;simpa using hi
end
inductive Fr where
 |code (c:Code)
 |blk (id:Nat)
 |lp (R:St->Prop)
abbrev It:=Nat×Oper×Option (Option Nat×Bool)
def uq (ops:Array Oper):List It:=ops.toList.zipIdx.map λ(o,k)=>(k,o,o.guard.map λ(j,w)=>((ops[j]?).bind (·.dst),w))
def gdA (sl:Nat->D):Option (Option Nat×Bool)->Option Bool
 |none=>some true
 |some (none,_)=>none
 |some (some t,w)=>match sl t with
  | .i (.s (.bool b))=>some (b==w)
  | .un=>some false
  |_=>none
section
variable (P:Program) (n:Nat)
def kq:List Fr->(Ex->St->Prop)->Ex->St->Prop
 |[],Q=>Q
 | .code y::ks,Q=>Ex.seq (λσ'=>aw P n (drA P n) y σ' (kq ks Q)) (kq ks Q)
 | .blk id::ks,Q=>Ex.blk id (kq ks Q)
 | .lp R::ks,Q=>Ex.seq R (kq ks Q)
def W (c:Code)(σ:St)(ks:List Fr)(Q:Ex->St->Prop):Prop:=aw P n (drA P n) c σ (kq P n ks Q)
def Kn (ks:List Fr)(σ:St)(Q:Ex->St->Prop):Prop:=kq P n ks Q .normal σ
def Kx (ks:List Fr)(id:Nat)(σ:St)(Q:Ex->St->Prop):Prop:=kq P n ks Q (.exit id) σ
def Kr (ks:List Fr)(σ:St)(Q:Ex->St->Prop):Prop:=kq P n ks Q .ret σ
def Wc (d:D)(x y:Code)(σ:St)(ks:List Fr)(Q:Ex->St->Prop):Prop:=Dq P n d (W P n x σ ks Q) (W P n y σ ks Q)
def Ro (rid:Nat):List It->St->List Fr->(Ex->St->Prop)->Prop
 |[],σ,ks,Q=>Kn P n ks σ Q
 |(k,o,g)::rest,σ,ks,Q=>match gdA σ.sl g with
  |none=>False
  |some false=>fI n o.dst=true/\Ro rid rest (σ.put o.dst .un) ks Q
  |some true=>abE P n rid k o σ λσ'=>Ro rid rest σ' ks Q
def RoG (rid:Nat)(b:Option Bool)(k:Nat)(o:Oper)(rest:List It)(σ:St)(ks:List Fr)(Q:Ex->St->Prop):Prop :=
 match b with
 |none=>False
 |some false=>fI n o.dst=true/\Ro P n rid rest (σ.put o.dst .un) ks Q
 |some true=>abE P n rid k o σ λσ'=>Ro P n rid rest σ' ks Q
def RoS (rid:Nat)(x:Option (D×(Nat->Ob)))(dst:Option Nat)(rest:List It)(sl:Nat->D)(ks:List Fr)(Q:Ex->St->Prop):Prop :=
 ∃d H',x=some (d,H')/\Ro P n rid rest (St.put ⟨sl,H'⟩ dst d) ks Q
def RoC (rid:Nat)(f:D)(args:List D)(dst:Option Nat)(rest:List It)(σ:St)(ks:List Fr)(Q:Ex->St->Prop):Prop :=
 match f with
 | .fn g caps=>∃r H',RG P g (args++caps) σ.H r H'/\Ro P n rid rest (St.put ⟨σ.sl,H'⟩ dst r) ks Q
 |_=>False
def Call (rid:Nat)(g:FuncId)(args:List D)(dst:Option Nat)(rest:List It)(σ:St)(ks:List Fr)(Q:Ex->St->Prop):Prop :=
 ∃r H',RG P g args σ.H r H'/\Ro P n rid rest (St.put ⟨σ.sl,H'⟩ dst r) ks Q
abbrev Acc:=List (Nat×List Nat×List Nat)
def Rd (rid:Nat)(ops:Array Oper):List It->Acc->St->List Fr->(Ex->St->Prop)->Prop
 |[],acc,σ,ks,Q=>(mf ops&&iV ops acc)=true/\Kn P n ks σ Q
 |(k,o,g)::rest,acc,σ,ks,Q=>match gdA σ.sl g with
  |none=>False
  |some false=>fI n o.dst=true/\Rd rid ops rest ((k,[],[])::acc) (σ.put o.dst .un) ks Q
  |some true=>fI n o.dst=true/\match bG o.op with
   |some (f,args)=>match evA σ.sl f with
    | .fn g caps=>∃x,VU P g (args.toList.map (evA σ.sl)++caps) σ.H x/\Rd rid ops rest ((k,x.fp,x.wr)::acc) (St.put ⟨σ.sl,x.u σ.H⟩ o.dst x.d) ks Q
    |_=>False
   |none=>∃d H',opA P σ.sl σ.H (uo rid k) o.op=some (d,H')/\Rd rid ops rest ((k,(match opQ P σ.sl σ.H o.op with|some _=>([],[])|none=>fpA σ.sl (uo rid k) o.op))::acc) (St.put ⟨σ.sl,H'⟩ o.dst d) ks Q
def RdG (rid:Nat)(ops:Array Oper)(b:Option Bool)(k:Nat)(o:Oper)(rest:List It)(acc:Acc)(σ:St)(ks:List Fr)(Q:Ex->St->Prop):Prop :=
 match b with
 |none=>False
 |some false=>fI n o.dst=true/\Rd P n rid ops rest ((k,[],[])::acc) (σ.put o.dst .un) ks Q
 |some true=>fI n o.dst=true/\match bG o.op with
   |some (f,args)=>match evA σ.sl f with
    | .fn g caps=>∃x,VU P g (args.toList.map (evA σ.sl)++caps) σ.H x/\Rd P n rid ops rest ((k,x.fp,x.wr)::acc) (St.put ⟨σ.sl,x.u σ.H⟩ o.dst x.d) ks Q
    |_=>False
   |none=>∃d H',opA P σ.sl σ.H (uo rid k) o.op=some (d,H')/\Rd P n rid ops rest ((k,(match opQ P σ.sl σ.H o.op with|some _=>([],[])|none=>fpA σ.sl (uo rid k) o.op))::acc) (St.put ⟨σ.sl,H'⟩ o.dst d) ks Q
def RdS (rid:Nat)(ops:Array Oper)(x:Option (D×(Nat->Ob)))(fp:List Nat×List Nat)(k:Nat)(dst:Option Nat)(rest:List It)(acc:Acc)(sl:Nat->D)(ks:List Fr)(Q:Ex->St->Prop):Prop :=
 ∃d H',x=some (d,H')/\Rd P n rid ops rest ((k,fp)::acc) (St.put ⟨sl,H'⟩ dst d) ks Q
def RdQ (rid:Nat)(ops:Array Oper)(q:Option D)(k:Nat)(o:Oper)(rest:List It)(acc:Acc)(σ:St)(ks:List Fr)(Q:Ex->St->Prop):Prop :=
 match q with
 |some d=>Rd P n rid ops rest ((k,[],[])::acc) (σ.put o.dst d) ks Q
 |none=>RdS P n rid ops (opY P σ.sl σ.H (uo rid k) o.op) (fpA σ.sl (uo rid k) o.op) k o.dst rest acc σ.sl ks Q
def mr (rid:Nat)(ops:Array Oper)(g:FuncId)(args:List D)(k:Nat)(dst:Option Nat)(rest:List It)(acc:Acc)(σ:St)(ks:List Fr)(Q:Ex->St->Prop):Prop :=
 ∃x,VU P g args σ.H x/\Rd P n rid ops rest ((k,x.fp,x.wr)::acc) (St.put ⟨σ.sl,x.u σ.H⟩ dst x.d) ks Q
def RdC (rid:Nat)(ops:Array Oper)(f:D)(args:List D)(k:Nat)(dst:Option Nat)(rest:List It)(acc:Acc)(σ:St)(ks:List Fr)(Q:Ex->St->Prop):Prop :=
 match f with
 | .fn g caps=>mr P n rid ops g (args++caps) k dst rest acc σ ks Q
 |_=>False
def RoQ (rid:Nat)(q:Option D)(k:Nat)(o:Oper)(rest:List It)(σ:St)(ks:List Fr)(Q:Ex->St->Prop):Prop :=
 match q with
 |some d=>Ro P n rid rest (σ.put o.dst d) ks Q
 |none=>RoS P n rid (opY P σ.sl σ.H (uo rid k) o.op) o.dst rest σ.sl ks Q
end
section
variable {P:Program}{n:Nat}{σ:St}{ks:List Fr}{Q:Ex->St->Prop}{rid:Nat}{ops:Array Oper}{rest:List It}{acc:Acc}{k:Nat}{o:Oper}
theorem afo {x y:Code}:W P n (.seq x y) σ ks Q=W P n x σ (.code y::ks) Q:=rfl
theorem Yl:W P n .skip σ ks Q=Kn P n ks σ Q:=rfl
theorem Rj {l:Nat}:W P n (.label l) σ ks Q=Kn P n ks σ Q:=rfl
theorem Rk {id:Nat}{c:Code}:W P n (.block id c) σ ks Q=W P n c σ (.blk id::ks) Q:=rfl
theorem Ym {id:Nat}:W P n (.exit id) σ ks Q=Kx P n ks id σ Q:=rfl
theorem afp:W P n .ret σ ks Q=Kr P n ks σ Q:=rfl
theorem Yn {c:Operand}{x y:Code}:W P n (.cond c x y) σ ks Q=Wc P n (evA σ.sl c) x y σ ks Q:=rfl
theorem Ri {x y:Code}:Wc P n (.i (.s (.bool true))) x y σ ks Q=W P n x σ ks Q:=by simp[Wc,Dq]
theorem JQ {x y:Code}:Wc P n (.i (.s (.bool false))) x y σ ks Q=W P n y σ ks Q:=by simp[Wc,Dq]
theorem aK {b:Bool}{x y:Code}(h1:b=true->W P n x σ ks Q)(h2:b=false->W P n y σ ks Q):Wc P n (.i (.s (.bool b))) x y σ ks Q:=⟨h1,h2⟩
theorem Yy:Kn P n [] σ Q=Q .normal σ:=rfl
theorem Rw {y:Code}:Kn P n (.code y::ks) σ Q=W P n y σ ks Q:=rfl
theorem Yz {id:Nat}:Kn P n (.blk id::ks) σ Q=Kn P n ks σ Q:=rfl
theorem afE {R:St->Prop}:Kn P n (.lp R::ks) σ Q=R σ:=rfl
theorem Yv {id:Nat}:Kx P n [] id σ Q=Q (.exit id) σ:=rfl
theorem Ru {id:Nat}{y:Code}:Kx P n (.code y::ks) id σ Q=Kx P n ks id σ Q:=rfl
theorem afC {id:Nat}{R:St->Prop}:Kx P n (.lp R::ks) id σ Q=Kx P n ks id σ Q:=rfl
theorem Rt {id:Nat}:Kx P n (.blk id::ks) id σ Q=Kn P n ks σ Q:=by simp[Kx,kq,Ex.blk,Kn]
theorem JX {id id':Nat}(h:id≠id'):Kx P n (.blk id'::ks) id σ Q=Kx P n ks id σ Q:=by simp[Kx,kq,Ex.blk,h]
theorem Yw:Kr P n [] σ Q=Q .ret σ:=rfl
theorem Rv {y:Code}:Kr P n (.code y::ks) σ Q=Kr P n ks σ Q:=rfl
theorem Yx {id:Nat}:Kr P n (.blk id::ks) σ Q=Kr P n ks σ Q:=rfl
theorem afD {R:St->Prop}:Kr P n (.lp R::ks) σ Q=Kr P n ks σ Q:=rfl
def Lp (n:Nat){ι:Type}(S:ι->St)(m:ι->Nat)(i:ι)(σ':St):Prop:=∃j,LE n σ' (S j)/\m j<m i
theorem xg {body:Code}{ι:Type}(S:ι->St)(m:ι->Nat)(i:ι)(h0:LE n σ (S i))(h:∀i,W P n body (S i) (.lp (Lp n S m i)::ks) Q):W P n (.loop body) σ ks Q :=
 ⟨ι,S,m,i,h0,h⟩
theorem Xn {sl:Nat->D}:gdA sl (o.guard.map λ(j,w)=>((ops[j]?).bind (·.dst),w))=rz ops sl o.guard:=by
 cases hg:o.guard with
 |none=>rfl
 |some p =>obtain⟨j,w⟩:=p;simp only[Option.map_some,rz,gdA];cases h:(ops[j]?).bind (·.dst)<;>rfl
theorem Xg (ops:Array Oper):∀(l:List (Oper×Nat)),(∀p∈l,ops[p.2]?=some p.1)->∀(σ:St),
  FC P n rid ops (l.map (·.2)) σ (λσ'=>Kn P n ks σ' Q)=Ro P n rid (l.map λ(o,k)=>(k,o,o.guard.map λ(j,w)=>((ops[j]?).bind (·.dst),w))) σ ks Q
 |[],_,σ=>rfl
 |(o,k)::l,hl,σ=>by
  simp only[List.map_cons,Ro];rw[Xn];simp only[FC,hl (o,k) (by simp)];have ih:=Xg ops l (λp hp=>hl p (by simp[hp]));cases rz ops σ.sl o.guard with
  |none=>rfl
  |some b=>cases b<;>simp[ih]
theorem LJ (ops:Array Oper):ops.toList.zipIdx.map (·.2)=List.range ops.size:=by rw[List.zipIdx_eq_zip_range'];rw[<- List.unzip_snd,List.unzip_zip_right (by simp)];simp[List.range_eq_range']
theorem vB (ops:Array Oper):∀p∈ops.toList.zipIdx,ops[p.2]?=some p.1:=by intro p hp;obtain⟨o,k⟩:=p;have:=List.mem_zipIdx_iff_getElem?.1 hp;simpa using this
theorem ahh {id:Nat}:W P n (.region id ops false) σ ks Q=(ops.all (λo=>fI n o.dst)=true/\Ro P n id (uq ops) σ ks Q):=by have:=Xg (P:=P) (n:=n) (rid:=id) (ks:=ks) (Q:=Q) ops ops.toList.zipIdx (vB ops) σ;rw[LJ]at this;show(_/\_)=_;rw[show(kq P n ks Q .normal)=λσ'=>Kn P n ks σ' Q from rfl,this];rfl
theorem OP (ops:Array Oper):∀(l:List (Oper×Nat)),(∀p∈l,ops[p.2]?=some p.1)->∀(σ:St)(acc:Acc),
  awD P n rid ops (l.map (·.2)) σ acc (λσ'=>Kn P n ks σ' Q)=Rd P n rid ops (l.map λ(o,k)=>(k,o,o.guard.map λ(j,w)=>((ops[j]?).bind (·.dst),w))) acc σ ks Q
 |[],_,σ,acc=>rfl
 |(o,k)::l,hl,σ,acc=>by
  simp only[List.map_cons,Rd];rw[Xn];simp only[awD,hl (o,k) (by simp)];have ih:=OP ops l (λp hp=>hl p (by simp[hp]));cases rz ops σ.sl o.guard with
  |none=>rfl
  |some b =>
   cases b
   ·simp[ih]
   ·cases hc:bG o.op with
    |none=>simp[ih]<;>(intro _;exact Iff.rfl)
    |some p =>obtain⟨f,args⟩:=p;cases hf:evA σ.sl f<;>simp[ih]<;>(intro _;exact Iff.rfl)
theorem afq {id:Nat}:W P n (.region id ops true) σ ks Q=(ops.all (λo=>fI n o.dst)=true/\P.follows .mixedOrders=true/\Rd P n id ops (uq ops) [] σ ks Q):=by have:=OP (P:=P) (n:=n) (rid:=id) (ks:=ks) (Q:=Q) ops ops.toList.zipIdx (vB ops) σ [];rw[LJ]at this;show(_/\_/\_)=_;rw[show(kq P n ks Q .normal)=λσ'=>Kn P n ks σ' Q from rfl,this];rfl
theorem Yp:Ro P n rid [] σ ks Q=Kn P n ks σ Q:=rfl
theorem Rm {g:Option (Option Nat×Bool)}:Ro P n rid ((k,o,g)::rest) σ ks Q=RoG P n rid (gdA σ.sl g) k o rest σ ks Q:=rfl
theorem afw (h:bG o.op=none):RoG P n rid (some true) k o rest σ ks Q=(fI n o.dst=true/\RoQ P n rid (opQ P σ.sl σ.H o.op) k o rest σ ks Q):=by
 simp only[RoG,abE,h];refine propext ⟨λ⟨a,d,H',b,c⟩=>⟨a,?_⟩,λ⟨a,b⟩=>⟨a,?_⟩⟩
 ·cases hq:opQ P σ.sl σ.H o.op with
  |some d'=>simp only[opA,hq,Option.some.injEq,Prod.mk.injEq]at b;obtain⟨rfl,rfl⟩:=b;exact c
  |none=>simp only[opA,hq]at b;exact⟨d,H',b,c⟩
 ·cases hq:opQ P σ.sl σ.H o.op with
  |some d'=>rw[hq]at b;exact⟨d',σ.H,by simp[opA,hq],b⟩
  |none=>rw[hq]at b;obtain⟨d,H',b,c⟩:=b;exact⟨d,H',by simp only[opA,hq];exact b,c⟩
theorem JS {d:D}{H':Nat->Ob}{dst:Option Nat}{sl:Nat->D}:RoS P n rid (some (d,H')) dst rest sl ks Q=Ro P n rid rest (St.put ⟨sl,H'⟩ dst d) ks Q:=by simp only[RoS];exact propext ⟨λ⟨_,_,e,h⟩=>by cases e;exact h,λh=>⟨_,_,rfl,h⟩⟩
theorem RoG_call {f:Operand}{args:Array Operand}(h:bG o.op=some (f,args)):RoG P n rid (some true) k o rest σ ks Q=(fI n o.dst=true/\RoC P n rid (evA σ.sl f) (args.toList.map (evA σ.sl)) o.dst rest σ ks Q):=by simp only[RoG,abE,h];rfl
theorem Yq {g:FuncId}{caps args:List D}{dst:Option Nat}:RoC P n rid (.fn g caps) args dst rest σ ks Q=Call P n rid g (args++caps) dst rest σ ks Q:=rfl
theorem Yr:Rd P n rid ops [] acc σ ks Q=((mf ops&&iV ops acc)=true/\Kn P n ks σ Q):=rfl
theorem Rn {g:Option (Option Nat×Bool)}:Rd P n rid ops ((k,o,g)::rest) acc σ ks Q=RdG P n rid ops (gdA σ.sl g) k o rest acc σ ks Q:=rfl
theorem afB (h:bG o.op=none):RdG P n rid ops (some true) k o rest acc σ ks Q=(fI n o.dst=true/\RdQ P n rid ops (opQ P σ.sl σ.H o.op) k o rest acc σ ks Q):=by
 simp only[RdG,h];refine propext ⟨λ⟨a,d,H',b,c⟩=>⟨a,?_⟩,λ⟨a,b⟩=>⟨a,?_⟩⟩
 ·cases hq:opQ P σ.sl σ.H o.op with
  |some d'=>simp only[opA,hq,Option.some.injEq,Prod.mk.injEq]at b;obtain⟨rfl,rfl⟩:=b;rw[hq]at c;exact c
  |none=>simp only[opA,hq]at b;rw[hq]at c;exact⟨d,H',b,c⟩
 ·cases hq:opQ P σ.sl σ.H o.op with
  |some d'=>rw[hq]at b;exact⟨d',σ.H,by simp[opA,hq],b⟩
  |none=>rw[hq]at b;obtain⟨d,H',b,c⟩:=b;exact⟨d,H',by simp only[opA,hq];exact b,c⟩
theorem JV {d:D}{H':Nat->Ob}{dst:Option Nat}{sl:Nat->D}{fp:List Nat×List Nat}:RdS P n rid ops (some (d,H')) fp k dst rest acc sl ks Q=Rd P n rid ops rest ((k,fp)::acc) (St.put ⟨sl,H'⟩ dst d) ks Q:=by simp only[RdS];exact propext ⟨λ⟨_,_,e,h⟩=>by cases e;exact h,λh=>⟨_,_,rfl,h⟩⟩
theorem RdG_call {f:Operand}{args:Array Operand}(h:bG o.op=some (f,args)):RdG P n rid ops (some true) k o rest acc σ ks Q=(fI n o.dst=true/\RdC P n rid ops (evA σ.sl f) (args.toList.map (evA σ.sl)) k o.dst rest acc σ ks Q):=by simp only[RdG,h];rfl
theorem Yt {g:FuncId}{caps args:List D}{dst:Option Nat}:RdC P n rid ops (.fn g caps) args k dst rest acc σ ks Q=mr P n rid ops g (args++caps) k dst rest acc σ ks Q:=rfl
theorem Gy {sl:Nat->D}{H:Nat->Ob}{i:Nat}{d:D}:St.put ⟨sl,H⟩ (some i) d=⟨upd sl i d,H⟩:=rfl
theorem put_none {d:D}:σ.put none d=σ:=rfl
def Fin (P:Program)(fn:Func)(H:Nat->Ob)(r:D)(H':Nat->Ob)(e:Ex)(σ:St):Prop :=
 match e with | .normal | .ret=>∃d,BN P fn σ=some d/\LER H d σ.H r H' | .exit _=>False
def inS:List D->Nat->List (Nat×D)
 |[],_=>[]
 |d::t,i=>(i,d)::inS t (i+1)
theorem Xd:∀(ds:List D)(i j:Nat),lk (inS ds i) .any (i+j)=ds.getD j .any
 |[],i,j=>by simp[inS,lk]
 |d::t,i,0=>by simp[inS,lk]
 |d::t,i,j+1=>by simp only[inS,lk];rw[if_neg (by omega)];have:=Xd t (i+1) j;rw[show i+1+j=i+(j+1) by omega]at this;rw[this];simp
theorem OY (ds:List D):Cw ds=lk (inS ds 0) .any:=by funext j;have:=Xd ds 0 j;rw[Nat.zero_add]at this;exact this.symm
theorem aP {f:FuncId}{fn:Func}{c:Code}{ds:List D}{H:Nat->Ob}{r:D}{H':Nat->Ob}(n:Nat)(hf:P.funcs[f]?=some fn)(hname:(fn.name == "runtime.NumGoroutine")=false)(hb:fn.body=some c)
  (hn:max fn.ntmps ds.length=n) (hH:∀o,100<=o->H o=.fresh)
  (h:W P n c ⟨lk (inS ds 0) .any,H⟩ [] (Fin P fn H r H')):aL P f ds H r H' :=
 Vm n hf hname hb hn (aeM P n) hH (by rw[OY];exact h)
theorem aa {f:FuncId}{fn:Func}{c:Code}{ds:List D}{H:Nat->Ob}{r:D}{H':Nat->Ob}(n:Nat)(hf:P.funcs[f]?=some fn)
  (h:W P n c ⟨lk (inS ds 0) .any,H⟩ [] (Fin P fn H r H')) (hb:fn.body=some c:=by exact rfl) (hname:(fn.name == "runtime.NumGoroutine")=false:=by exact rfl)
  (hn:max fn.ntmps ds.length=n:=by exact rfl) (hH:∀o,100<=o->H o=.fresh:=by exact λ_ _=>rfl):aL P f ds H r H' :=
 aP n hf hname hb hn hH h
theorem ja {g:FuncId}{args ds':List D}{dst:Option Nat}(F B:List Nat){r:D}(hp:PureD P g ds' r)(hc:CV σ.H F B args ds')(hflat:r.flat=true)(h:Ro P n rid rest (σ.put dst r) ks Q):Call P n rid g args dst rest σ ks Q :=
 ⟨r,σ.H,.inl (BQ F B hp hc hflat),h⟩
theorem kP {g:FuncId}{args ds':List D}{dst:Option Nat}(F:List Nat){r:D}(hp:PureD P g ds' r)(hc:CV σ.H F [] args ds')(h:Ro P n rid rest (St.put ⟨σ.sl,frz F σ.H⟩ dst r) ks Q):Call P n rid g args dst rest σ ks Q :=
 ⟨r,frz F σ.H,.inl (GG F hp hc),h⟩
end
section
variable {P:Program}{t:TypeId}{x y:Operand}{k:IntKind}{a b:Int}
theorem acJ:pv P (do eqGuard .add t x y (.int k a) (.int k b);Go.binOp .add t (.int k a) (.int k b))=some (.int k (k.wrap (a+b))):=by simp[eqGuard,Go.binOp,Op.intArith,pv,pure,bind,Sem.bind]
theorem acv:pv P (do eqGuard .sub t x y (.int k a) (.int k b);Go.binOp .sub t (.int k a) (.int k b))=some (.int k (k.wrap (a-b))):=by simp[eqGuard,Go.binOp,Op.intArith,pv,pure,bind,Sem.bind]
theorem acC:pv P (do eqGuard .mul t x y (.int k a) (.int k b);Go.binOp .mul t (.int k a) (.int k b))=some (.int k (k.wrap (a*b))):=by simp[eqGuard,Go.binOp,Op.intArith,pv,pure,bind,Sem.bind]
theorem acA (h:b≠0):pv P (do eqGuard .quo t x y (.int k a) (.int k b);Go.binOp .quo t (.int k a) (.int k b))=some (.int k (k.wrap (a.tdiv b))):=by simp[eqGuard,Go.binOp,Op.intDiv,pv,pure,bind,Sem.bind,h]
theorem acz (h:b≠0):pv P (do eqGuard .rem t x y (.int k a) (.int k b);Go.binOp .rem t (.int k a) (.int k b))=some (.int k (a.tmod b)):=by simp[eqGuard,Go.binOp,Op.intDiv,pv,pure,bind,Sem.bind,h]
theorem acD:pv P (do eqGuard .lss t x y (.int k a) (.int k b);Go.binOp .lss t (.int k a) (.int k b))=some (.bool (decide (a<b))):=by simp[eqGuard,Go.binOp,Op.intCmp,pv,pure,bind,Sem.bind]
theorem acE:pv P (do eqGuard .leq t x y (.int k a) (.int k b);Go.binOp .leq t (.int k a) (.int k b))=some (.bool (decide (a<=b))):=by simp[eqGuard,Go.binOp,Op.intCmp,pv,pure,bind,Sem.bind]
theorem acF:pv P (do eqGuard .gtr t x y (.int k a) (.int k b);Go.binOp .gtr t (.int k a) (.int k b))=some (.bool (decide (b<a))):=by simp[eqGuard,Go.binOp,Op.intCmp,pv,pure,bind,Sem.bind]
theorem acG:pv P (do eqGuard .geq t x y (.int k a) (.int k b);Go.binOp .geq t (.int k a) (.int k b))=some (.bool (decide (b<=a))):=by simp[eqGuard,Go.binOp,Op.intCmp,pv,pure,bind,Sem.bind]
theorem acH:pv P (do eqGuard .eql t x y (.int k a) (.int k b);Go.binOp .eql t (.int k a) (.int k b))=some (.bool (decide (a=b))):=by simp[eqGuard,Go.binOp,Op.intCmp,pv,pure,bind,Sem.bind];try exact(Bool.eq_iff_iff.2 (by simp))
theorem acB:pv P (do eqGuard .neq t x y (.int k a) (.int k b);Go.binOp .neq t (.int k a) (.int k b))=some (.bool (!decide (a=b))):=by simp[eqGuard,Go.binOp,Op.intCmp,pv,pure,bind,Sem.bind,bne];try exact(Bool.eq_iff_iff.2 (by simp))
theorem agt:pv P (do eqGuard .or t x y (.int k a) (.int k b);Go.binOp .or t (.int k a) (.int k b))=some (.int k (bits .or k a b)):=by simp[eqGuard,Go.binOp,Op.intBits,pv,pure,bind,Sem.bind,bits]
theorem acI:pv P (do eqGuard .and t x y (.int k a) (.int k b);Go.binOp .and t (.int k a) (.int k b))=some (.int k (bits .and k a b)):=by simp[eqGuard,Go.binOp,Op.intBits,pv,pure,bind,Sem.bind,bits]
theorem acu:pv P (do eqGuard .xor t x y (.int k a) (.int k b);Go.binOp .xor t (.int k a) (.int k b))=some (.int k (bits .xor k a b)):=by simp[eqGuard,Go.binOp,Op.intBits,pv,pure,bind,Sem.bind,bits]
theorem acx {k':IntKind}(h:0<=b):pv P (do eqGuard .shl t x y (.int k a) (.int k' b);Go.binOp .shl t (.int k a) (.int k' b))=some (.int k (k.wrap (a*2^(min b.toNat k.bits)))):=by simp[eqGuard,Go.binOp,Op.shift,pv,pure,bind,Sem.bind,show ¬b<0 by omega]
theorem acw {k':IntKind}(h:0<=b):pv P (do eqGuard .shr t x y (.int k a) (.int k' b);Go.binOp .shr t (.int k a) (.int k' b))=some (.int k (a.fdiv (2^(min b.toNat k.bits)))):=by simp[eqGuard,Go.binOp,Op.shift,pv,pure,bind,Sem.bind,show ¬b<0 by omega]
theorem UN {src dst:TypeId}{k':IntKind}{d0:TypeDesc}(h1:aG P dst=some (.int k'))(h0:aG P src=some d0):pv P (Go.convert src dst (.int k a))=some (.int k' (k'.wrap a)):=by rw[gu]at h1 h0;simp[Go.convert,underlying,program,bind,Sem.bind,pv,pure,h1,h0,Conv.intToInt]
theorem au {n:Int}(h1:-9223372036854775808<=n)(h2:n<=9223372036854775807):IntKind.i64.wrap n=n:=by rw[IntKind.wrap_i64];omega
end
def bI (l:List UInt8):I:=.sl (l.map aH)
end Go.Abs
