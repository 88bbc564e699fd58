/- Merged texts: AbsA, AbsB, AbsC, AbsD, AbsE, AbsF, AbsG. -/
import Derived.Test.YtdmeldhlbpdeeaaGreatDoorLib
set_option linter.all false
namespace Go.Abs
open Go Go.RowKit
theorem an {a b:Prop}(x:a)(y:b):a/\b:=⟨x,y⟩
theorem an3 {a b c:Prop}(a':a)(b':b)(c':c):a/\b/\c:=⟨a',b',c'⟩
theorem an4 {a b c d:Prop}(a':a)(b':b)(c':c)(d':d):a/\b/\c/\d:=⟨a',b',c',d'⟩
theorem an5 {a b c d e:Prop}(a':a)(b':b)(c':c)(d':d)(e':e):a/\b/\c/\d/\e:=⟨a',b',c',d',e'⟩
theorem an6 {a b c d e f:Prop}(a':a)(b':b)(c':c)(d':d)(e':e)(f':f):a/\b/\c/\d/\e/\f:=⟨a',b',c',d',e',f'⟩
theorem an7 {a b c d e f g:Prop}(a':a)(b':b)(c':c)(d':d)(e':e)(f':f)(g':g):a/\b/\c/\d/\e/\f/\g:=⟨a',b',c',d',e',f',g'⟩
theorem an8 {a b c d e f g h:Prop}(a':a)(b':b)(c':c)(d':d)(e':e)(f':f)(g':g)(h':h):a/\b/\c/\d/\e/\f/\g/\h:=⟨a',b',c',d',e',f',g',h'⟩
theorem an9 {a b c d e f g h i:Prop}(a':a)(b':b)(c':c)(d':d)(e':e)(f':f)(g':g)(h':h)(i':i):a/\b/\c/\d/\e/\f/\g/\h/\i:=⟨a',b',c',d',e',f',g',h',i'⟩
inductive I where
 |s (v:Value)
 |sl (es:List (List I))
inductive D where
 |i (x:I)
 |agg (cs:List D)
 |tup (vs:List D)
 |os (o sz off len:Nat)
 |oc (o sz off len cap:Nat)
 |z
 |bs (o off len:Nat)
 |pt (o sz i c:Nat)
 |rp (cs:List I) (c:Nat)
 |fn (f:FuncId) (caps:List D)
 |mp (o:Nat)
 |un
 |any
def D.one:D->Bool
 | .agg _ | .tup _ | .un | .any=>false
 |_=>true
abbrev MV:=Bool×List I
def mvD (r:MV):D:=if r.1=true then .agg (r.2.map .i)else(match r.2 with|[x]=>.i x|_=>.any)
inductive Ob where
 |fresh|dead
 |box (cs:List D)
 |arr (sz:Nat) (es:List (List I))
 |fz (sz:Nat) (es:List (List I))
 |it (s:ByteArray) (pos:Nat)
 |tab (sz:Nat) (es:List (List D))
 |mp (es:List (Value×MV))
structure Ctx where
 w:World
 S:Nat->Prop
 μ:Nat->Option Nat
def dR (w:World)(b:Nat):Nat:=match w.heap[b]? with|some (.cells c _ _)=>c.size|_=>0
inductive VI (w:World) (S:Nat->Prop):Value->I->Prop
 |s (v:Value) (h:v.oneCell'=true):VI w S v (.s v)
 |e (a:Option Addr) (cap:Nat):VI w S (.slice a 0 cap) (.sl [])
 |sl (b off cap sz:Nat) (es:List (List I)) (f:Nat->Value) (hS:S b) (hc:es.length<=cap) (hz:0<sz) (hsz:∀e∈es,e.length=sz)
   (hcell:∀j x,es.flatten[j]?=some x->w.cell? ⟨b,off+j,none⟩=some (f j))
   (hv:∀j x,es.flatten[j]?=some x->VI w S (f j) x):VI w S (.slice (some ⟨b,off,none⟩) es.length cap) (.sl es)
inductive VD (K:Ctx):Value->D->Prop
 |i {v:Value}{x:I}(h:VI K.w K.S v x):VD K v (.i x)
 |agg (vs:Array Value) (cs:List D) (hl:vs.size=cs.length) (h:∀j d,cs[j]?=some d->VD K (vs.getD j undef) d):VD K (.agg vs) (.agg cs)
 |tup (vs:Array Value) (cs:List D) (hl:vs.size=cs.length) (h:∀j d,cs[j]?=some d->VD K (vs.getD j undef) d):VD K (.tuple vs) (.tup cs)
 |os (o sz off len b off' cap:Nat) (hμ:K.μ o=some b) (hz:0<sz) (hc:len<=cap) (ho:off'=off*sz\/cap=0) (hr:off'+cap*sz<=dR K.w b):
   VD K (.slice (some ⟨b,off',none⟩) len cap) (.os o sz off len)
 |os0 (o sz:Nat) (a:Option Addr):VD K (.slice a 0 0) (.os o sz 0 0)
 |oc (o sz off len cap b off':Nat) (hμ:K.μ o=some b) (hz:0<sz) (hc:len<=cap) (ho:off'=off*sz\/cap=0) (hr:off'+cap*sz<=dR K.w b):
   VD K (.slice (some ⟨b,off',none⟩) len cap) (.oc o sz off len cap)
 |z (a:Option Addr):VD K (.slice a 0 0) .z
 |bs (o off len b cap:Nat) (hμ:K.μ o=some b):VD K (.slice (some ⟨b,off,none⟩) len cap) (.bs o off len)
 |pt (o sz i c b:Nat) (hμ:K.μ o=some b):VD K (.pointer (some ⟨b,i*sz+c,none⟩)) (.pt o sz i c)
 |rp (b off c:Nat) (cs:List I) (f:Nat->Value) (hS:K.S b) (hcell:∀j x,cs[j]?=some x->K.w.cell? ⟨b,off+j,none⟩=some (f j))
   (hv:∀j x,cs[j]?=some x->VI K.w K.S (f j) x):VD K (.pointer (some ⟨b,off+c,none⟩)) (.rp cs c)
 |fn (f:FuncId) (vs:Array Value) (cs:List D) (hl:vs.size=cs.length) (h:∀j d,cs[j]?=some d->VD K (vs.getD j undef) d):VD K (.func (.func f) #[] vs) (.fn f cs)
 |mp (o b:Nat) (hμ:K.μ o=some b):VD K (.map (some b)) (.mp o)
 |un:VD K undef .un
 |any (v:Value):VD K v .any
structure Ext (K K':Ctx):Prop where
 S:∀b,K.S b->K'.S b
 cell:∀b,K.S b->∀j,K'.w.cell? ⟨b,j,none⟩=K.w.cell? ⟨b,j,none⟩
 μ:∀o b,K.μ o=some b->K'.μ o=some b
 row:∀o b,K.μ o=some b->dR K'.w b=dR K.w b
theorem Ext.refl (K:Ctx):Ext K K:=⟨λ_ h=>h,λ_ _ _=>rfl,λ_ _ h=>h,λ_ _ _=>rfl⟩
theorem Ext.trans {K K' K'':Ctx}(h:Ext K K')(h':Ext K' K''):Ext K K'' :=
 ⟨λb hb=>h'.S b (h.S b hb),λb hb j=>(h'.cell b (h.S b hb) j).trans (h.cell b hb j),λo b hb=>h'.μ o b (h.μ o b hb),λo b hb=>(h'.row o b (h.μ o b hb)).trans (h.row o b hb)⟩
theorem VI.mono {w w':World}{S S':Nat->Prop}(hS:∀b,S b->S' b)(hc:∀b,S b->∀j,w'.cell? ⟨b,j,none⟩=w.cell? ⟨b,j,none⟩){v:Value}{x:I}(h:VI w S v x):VI w' S' v x:=by
 induction h with
 |s v h=>exact .s v h
 |e a cap=>exact .e a cap
 |sl b off cap sz es f h1 h2 h3 h4 h5 h6 ih=>exact .sl b off cap sz es f (hS b h1) h2 h3 h4 (λj x hx=>by rw[hc b h1];exact h5 j x hx) ih
theorem VI.ext {K K':Ctx}(h:Ext K K'){v:Value}{x:I}(hv:VI K.w K.S v x):VI K'.w K'.S v x:=hv.mono h.S h.cell
theorem VD.ext {K K':Ctx}(h:Ext K K'){v:Value}{d:D}(hv:VD K v d):VD K' v d:=by
 induction hv with
 |i hx=>exact .i (hx.ext h)
 |agg vs cs hl _ ih=>exact .agg vs cs hl ih
 |tup vs cs hl _ ih=>exact .tup vs cs hl ih
 |os o sz off len b off' cap h1 h2 h3 h4 h5=>exact .os o sz off len b off' cap (h.μ o b h1) h2 h3 h4 (by rw[h.row o b h1];exact h5)
 |os0 o sz a=>exact .os0 o sz a
 |oc o sz off len cap b off' h1 h2 h3 h4 h5=>exact .oc o sz off len cap b off' (h.μ o b h1) h2 h3 h4 (by rw[h.row o b h1];exact h5)
 |z a=>exact .z a
 |bs o off len b cap h1=>exact .bs o off len b cap (h.μ o b h1)
 |pt o sz i c b h1=>exact .pt o sz i c b (h.μ o b h1)
 |rp b off c cs f h1 h2 h3=>exact .rp b off c cs f (h.S b h1) (λj x hx=>by rw[h.cell b h1];exact h2 j x hx) (λj x hx=>(h3 j x hx).ext h)
 |fn f vs cs hl _ ih=>exact .fn f vs cs hl ih
 |mp o b h1=>exact .mp o b (h.μ o b h1)
 |un=>exact .un
 |any v=>exact .any v
def lM (K:Ctx):List MapEntry->List (Value×MV)->Prop
 |[],[]=>True
 |e::l,r::t=>e.key=r.1/\VD K e.val (mvD r.2)/\lM K l t
 |_,_=>False
theorem lM.imp {K K':Ctx}(h:∀v r,VD K v (mvD r)->VD K' v (mvD r)):∀{l:List MapEntry}{t:List (Value×MV)},lM K l t->lM K' l t
 |[],[],_=>trivial
 |e::l,r::t,q=>⟨q.1,h _ _ q.2.1,lM.imp h q.2.2⟩
 |[],_::_,q=>q.elim
 |_::_,[],q=>q.elim
theorem lM.ext {K K':Ctx}(h:Ext K K'){l:List MapEntry}{t:List (Value×MV)}(q:lM K l t):lM K' l t:=q.imp λ_ _ hv=>hv.ext h
theorem ado {K K':Ctx}(hw:K'.w=K.w)(hS:K'.S=K.S){v:Value}{r:MV}(h:VD K v (mvD r)):VD K' v (mvD r):=by
 have key:∀{v:Value}{x:I},VD K v (.i x)->VD K' v (.i x):=λh=>by
  cases h with
  |i hx=>exact .i (by rw[hw,hS];exact hx)
 unfold mvD at h⊢;split
 ·rename_i q;rw[if_pos q]at h;cases h with
  |agg vs cs hl h =>refine .agg vs _ hl λj d hd=>?_;have h2:=h j d hd;simp only[List.getElem?_map,Option.map_eq_some_iff]at hd;obtain⟨x,_,rfl⟩:=hd;exact key h2
 ·rename_i q;rw[if_neg q]at h;split
  ·rename_i x e;rw[e]at h;exact key h
  ·exact .any _
def Ob.own:Ob->Prop
 | .box _ | .arr .. | .it .. | .tab .. | .mp _=>True
 |_=>False
def ObR (w0:Ctx)(T:Nat->Prop)(K:Ctx)(o:Nat):Ob->Prop
 | .fresh=>K.μ o=none
 | .dead=>True
 | .box cs=>∃(b:Nat) (row:Array Value) (e:TypeId),K.μ o=some b/\K.w.heap[b]?=some (.cells row e (0,0))/\cs.length=row.size/\(∀(j:Nat) (d:D),cs[j]?=some d->VD K (row.getD j undef) d)/\(∀d∈cs,d.one=true)/\¬K.S b/\(w0.w.heap.size<=b\/T b)
 | .arr sz es=>0<sz/\(∀e∈es,e.length=sz)/\((K.μ o=none/\es=[]) \/
  ∃(b:Nat) (row:Array Value) (e:TypeId),K.μ o=some b/\K.w.heap[b]?=some (.cells row e (0,0))/\es.length*sz<=row.size/\(∀(j:Nat) (x:I),es.flatten[j]?=some x->VI K.w K.S (row.getD j undef) x)/\¬K.S b/\(w0.w.heap.size<=b\/T b))
 | .mp es=>∃(b:Nat) (en:Array MapEntry) (ck:Nat),K.μ o=some b/\K.w.heap[b]?=some (.map en ck)/\lM K en.toList es/\¬K.S b/\(w0.w.heap.size<=b\/T b)
 | .it s pos=>∃b,K.μ o=some b/\K.w.heap[b]?=some (.stringIter s pos)/\¬K.S b/\(w0.w.heap.size<=b\/T b)
 | .tab sz es=>0<sz/\(∀e∈es,e.length=sz)/\(∀e∈es,∀d∈e,d.one=true)/\((K.μ o=none/\es=[]) \/
  ∃(b:Nat) (row:Array Value) (e:TypeId),K.μ o=some b/\K.w.heap[b]?=some (.cells row e (0,0))/\es.length*sz<=row.size/\(∀(j:Nat) (d:D),es.flatten[j]?=some d->VD K (row.getD j undef) d)/\¬K.S b/\(w0.w.heap.size<=b\/T b))
 | .fz sz es=>0<sz/\(∀e∈es,e.length=sz)/\((K.μ o=none/\es=[]) \/
  ∃(b:Nat) (f:Nat->Value),K.μ o=some b/\K.S b/\(∀(j:Nat) (x:I),es.flatten[j]?=some x->K.w.cell? ⟨b,j,none⟩=some (f j)/\VI K.w K.S (f j) x))
def ER:List (String×Array Value):=[("internal/strconv.uint64pow10",(Go.Lib.pow10Tab.map λz=>Value.int .u64 z).toArray)]
structure G0 (w0:Ctx) (T:Nat->Prop):Prop where
 is:∀q∈ER,w0.w.var? Go.Proofs.Tryz.prog q.1=some q.2/\∀g,(Go.Proofs.Tryz.prog).globalNamed q.1=some g->¬T g
theorem var_heap {P:Program}{w:World}{n:String}{cs:Array Value}(h:w.var? P n=some cs):∃g t f,P.globalNamed n=some g/\w.heap[g]?=some (.cells cs t f):=by
 unfold World.var? at h;cases hg:P.globalNamed n with
 |none=>rw[hg]at h;cases h
 |some g =>
  rw[hg]at h;simp only[Option.bind_some]at h;split at h
  ·rename_i cs' t f e;cases h;exact⟨g,t,f,rfl,e⟩
  ·cases h
theorem abO {P:Program}{w:World}{n:String}{cs:Array Value}{g t:Nat}{f:Nat×Nat}(hg:P.globalNamed n=some g)(h:w.heap[g]?=some (.cells cs t f)):w.var? P n=some cs:=by unfold World.var?;rw[hg];simp only[Option.bind_some,h]
structure HR (w0:Ctx) (T:Nat->Prop) (K:Ctx) (H:Nat->Ob):Prop where
 g0:G0 w0 T
 os:K.w.os=w0.w.os
 tape:K.w.tape=w0.w.tape
 output:K.w.output=w0.w.output
 size:w0.w.heap.size<=K.w.heap.size
 block:∀k,k<w0.w.heap.size->¬T k->K.w.heap[k]?=w0.w.heap[k]?
 sB:∀b,K.S b->b<K.w.heap.size
 sN:∀b,K.S b->w0.S b\/w0.w.heap.size<=b\/T b
 mB:∀o b,K.μ o=some b->b<K.w.heap.size
 ob:∀o,ObR w0 T K o (H o)
 inj:∀o o' b,(H o).own->(H o').own->K.μ o=some b->K.μ o'=some b->o=o'
section
variable {w0:Ctx}{T:Nat->Prop}{K K':Ctx}{H H':Nat->Ob}
theorem HR.var (h:HR w0 T K H){q:String×Array Value}(hq:q∈ER):K.w.var? Go.Proofs.Tryz.prog q.1=some q.2:=by obtain⟨h1,h2⟩:=h.g0.is q hq;obtain⟨g,t,f,hg,hb⟩:=var_heap h1;refine abO hg ((h.block g ?_ (h2 g hg)).trans hb);exact(Array.getElem?_eq_some_iff.1 hb).1
theorem HR.get (h:HR w0 T K H){o:Nat}{x:Ob}(e:H o=x):ObR w0 T K o x:=e▸h.ob o
theorem ObR.ext (he:Ext K K'){o:Nat}{x:Ob}(h:ObR w0 T K o x)(hn:K.μ o=none->K'.μ o=none)
  (hb:∀b,x.own->K.μ o=some b->K'.w.heap[b]?=K.w.heap[b]?/\¬K'.S b):ObR w0 T K' o x:=by
 cases x with
 |fresh=>exact hn h
 |dead=>trivial
 |box cs =>obtain⟨b,row,e,h1,h2,h3,h4,h5,h6,h7⟩:=h;obtain⟨g1,g2⟩:=hb b trivial h1;exact⟨b,row,e,he.μ o b h1,g1.trans h2,h3,λj d hd=>(h4 j d hd).ext he,h5,g2,h7⟩
 |arr sz es =>
  obtain⟨h1,h2,h3⟩:=h;refine⟨h1,h2,?_⟩;rcases h3 with⟨h3,h4⟩|⟨b,row,e,h3,h4,h5,h6,h7,h8⟩
  ·exact .inl ⟨hn h3,h4⟩
  ·obtain⟨g1,g2⟩:=hb b trivial h3;exact .inr ⟨b,row,e,he.μ o b h3,g1.trans h4,h5,λj x hx=>(h6 j x hx).ext he,g2,h8⟩
 |it s pos =>obtain⟨b,h1,h2,h3,h4⟩:=h;obtain⟨g1,g2⟩:=hb b trivial h1;exact⟨b,he.μ o b h1,g1.trans h2,g2,h4⟩
 |mp es =>obtain⟨b,en,ck,h1,h2,h3,h4,h5⟩:=h;obtain⟨g1,g2⟩:=hb b trivial h1;exact⟨b,en,ck,he.μ o b h1,g1.trans h2,h3.ext he,g2,h5⟩
 |tab sz es =>
  obtain⟨h1,h2,h0,h3⟩:=h;refine⟨h1,h2,h0,?_⟩;rcases h3 with⟨h3,h4⟩|⟨b,row,e,h3,h4,h5,h6,h7,h8⟩
  ·exact .inl ⟨hn h3,h4⟩
  ·obtain⟨g1,g2⟩:=hb b trivial h3;exact .inr ⟨b,row,e,he.μ o b h3,g1.trans h4,h5,λj x hx=>(h6 j x hx).ext he,g2,h8⟩
 |fz sz es =>
  obtain⟨h1,h2,h3⟩:=h;refine⟨h1,h2,?_⟩;rcases h3 with⟨h3,h4⟩|⟨b,f,h3,h4,h5⟩
  ·exact .inl ⟨hn h3,h4⟩
  ·exact .inr ⟨b,f,he.μ o b h3,he.S b h4,λj x hx=>⟨(he.cell b h4 j).trans (h5 j x hx).1,((h5 j x hx).2).ext he⟩⟩
end
theorem bA {α:Type}{es:List (List α)}{sz:Nat}(h:∀e∈es,e.length=sz):es.flatten.length=es.length*sz:=by
 induction es with
 |nil=>simp
 |cons a t ih =>rw[List.flatten_cons,List.length_append,ih (λe he=>h e (by simp[he])),h a (by simp),List.length_cons,Nat.add_mul];omega
theorem bN {α:Type}{es:List (List α)}{sz:Nat}(h:∀e∈es,e.length=sz){i c:Nat}{e:List α}{x:α}(hi:es[i]?=some e)(hx:e[c]?=some x):es.flatten[i*sz+c]?=some x:=by
 induction es generalizing i with
 |nil=>simp at hi
 |cons a t ih =>
  have ha:a.length=sz:=h a (by simp);cases i with
  |zero =>simp at hi;subst hi;have hc:c<a.length:=(List.getElem?_eq_some_iff.1 hx).1;rw[List.flatten_cons,Nat.zero_mul,Nat.zero_add,List.getElem?_append_left hc];exact hx
  |succ i =>simp at hi;have:=ih (λe he=>h e (by simp[he])) hi;rw[List.flatten_cons,List.getElem?_append_right (by rw[ha,Nat.add_mul];omega),ha,show(i+1)*sz+c-sz=i*sz+c by rw[Nat.add_mul];omega];exact this
theorem flatten_get' {α:Type}{es:List (List α)}{sz:Nat}(hz:0<sz)(h:∀e∈es,e.length=sz){j:Nat}{x:α}(hx:es.flatten[j]?=some x):∃e,es[j/sz]?=some e/\e[j%sz]?=some x:=by
 have hj:j<es.flatten.length:=(List.getElem?_eq_some_iff.1 hx).1;rw[bA h]at hj;have hd:j/sz<es.length:=(Nat.div_lt_iff_lt_mul hz).2 hj;refine⟨es[j/sz],by simp[hd],?_⟩;have he:es[j/sz].length=sz:=h _ (List.getElem_mem hd);have hm:j%sz<es[j/sz].length:=by rw[he];exact Nat.mod_lt _ hz
 have:=bN h (i:=j/sz) (c:=j%sz) (e:=es[j/sz]) (x:=es[j/sz][j%sz]) (by simp[hd]) (by simp[hm]);rw[Nat.mul_comm,Nat.div_add_mod]at this;rw[this]at hx;simp[hm];simpa using hx
theorem iW {α:Type}{es:List (List α)}{sz:Nat}(h:∀e∈es,e.length=sz)(k:Nat):(es.drop k).flatten=es.flatten.drop (k*sz):=by
 induction es generalizing k with
 |nil=>simp
 |cons a t ih =>
  cases k with
  |zero=>simp
  |succ k =>have ha:a.length=sz:=h a (by simp);rw[List.drop_succ_cons,ih (λe he=>h e (by simp[he])),List.flatten_cons,Nat.add_mul,Nat.one_mul,Nat.add_comm,<- List.drop_drop,<- ha,List.drop_left]
theorem fV {α:Type}{es:List (List α)}{sz:Nat}(h:∀e∈es,e.length=sz)(k:Nat):(es.take k).flatten=es.flatten.take (k*sz):=by
 induction es generalizing k with
 |nil=>simp
 |cons a t ih =>
  cases k with
  |zero=>simp
  |succ k =>have ha:a.length=sz:=h a (by simp);rw[List.take_succ_cons,List.flatten_cons,ih (λe he=>h e (by simp[he])),List.flatten_cons,Nat.add_mul,Nat.one_mul,List.take_append,ha];rw[show k*sz+sz-sz=k*sz by omega,List.take_of_length_le (l:=a) (by rw[ha];exact Nat.le_add_left _ _)]
theorem VI.sub {w:World}{S:Nat->Prop}{v:Value}{es:List (List I)}(h:VI w S v (.sl es)):
  ∃a cap,v=.slice a es.length cap/\es.length<=cap/\(es=[]\/∃b off,a=some ⟨b,off,none⟩):=by
 cases h with
 |e a cap=>exact⟨a,cap,rfl,Nat.zero_le _,.inl rfl⟩
 |sl b off cap sz es f h1 h2 h3 h4 h5 h6=>exact⟨_,cap,rfl,h2,.inr ⟨b,off,rfl⟩⟩
def upd {α:Type}(H:Nat->α)(k:Nat)(x:α):Nat->α:=λj=>if j=k then x else H j
theorem upd_same {α:Type}(H:Nat->α)(k:Nat)(x:α):upd H k x k=x:=by simp[upd]
theorem upd_ne {α:Type}(H:Nat->α){k j:Nat}(x:α)(h:j≠k):upd H k x j=H j:=by simp[upd,h]
def pv {α:Type}(P:Program):Sem α->Option α
 | .pure a=>some a
 | .program k=>pv P (k P)
 |_=>none
theorem tu {α:Type}{P:Program}{s:Sem α}{a:α}(h:pv P s=some a)(w:World):s.run P w=.ok a w:=by
 induction s with
 |pure b=>simp[pv]at h;subst h;rfl
 |program k ih=>simp only[pv]at h;simp only[Sem.run];exact ih P h
 |_=>simp[pv]at h
def ofV:Value->D
 | .agg cs=>if cs.all (·.oneCell')then .agg (cs.toList.map λc=>.i (.s c))else .any
 | .tuple vs=>if vs.size=0 then .un else .any
 |v=>.i (.s v)
def Fu:D->Option Value
 | .i (.s v)=>some v
 |_=>none
def dO:D->Option Value
 | .i (.s v)=>some v
 | .agg cs=>(cs.mapM Fu).map λvs=>.agg vs.toArray
 | .un=>some undef
 |_=>none
def evA (sl:Nat->D):Operand->D
 | .tmp t=>sl t
 | .const v=>ofV v
 | .func f=>.fn f []
 | .global _=>.any
def bY:D->Option (List D)
 | .agg cs=>some cs
 | .tup _ | .un | .any=>none
 |d=>some [d]
def KF:Value->Bool
 | .slice _ 0 _=>true
 |_=>false
theorem nilS_eq {v:Value}(h:KF v=true):∃a c,v=.slice a 0 c:=by
 unfold KF at h;split at h
 ·exact⟨_,_,rfl⟩
 ·cases h
def wC:D->Bool
 | .i (.sl es)=>decide (0<es.length)
 | .os _ _ _ len=>decide (0<len)
 |_=>false
def aO (H:Nat->Ob):D->Option (List (List I))
 | .i (.sl es)=>some es
 | .i (.s v)=>if KF v then some []else none
 | .os o sz off len=>match H o with
  | .arr sz' es | .fz sz' es=>if sz=sz'/\off+len<=es.length then some ((es.drop off).take len)else none
  |_=>none
 |_=>none
def Od:I->I
 | .s (.slice none 0 0)=>.sl []
 |x=>x
def eu (H:Nat->Ob):D->Option I
 | .i x=>some (Od x)
 | .os o sz off len=>(aO H (.os o sz off len)).map .sl
 |_=>none
def D.ids1:D->List Nat
 | .os o _ _ _=>[o]
 | .oc o _ _ _ _=>[o]
 | .bs o _ _=>[o]
 | .pt o _ _ _=>[o]
 | .mp o=>[o]
 |_=>[]
def frz (ids:List Nat)(H:Nat->Ob):Nat->Ob:=λk=>if ids.contains k then(match H k with | .arr sz es=>.fz sz es|x=>x)else H k
theorem kW (H:Nat->Ob):frz [] H=H:=by funext k;simp[frz]
def aR (H:Nat->Ob)(o sz i c n:Nat):Option (List D) :=
 match H o with
 | .box cs=>if i=0/\c+n<=cs.length then some ((cs.drop c).take n)else none
 | .arr sz' es | .fz sz' es=>if sz=sz' then match es[i]? with
  |some e=>if c+n<=e.length then some (((e.drop c).take n).map .i)else none
  |none=>none else none
 | .tab sz' es=>if sz=sz' then match es[i]? with
  |some e=>if c+n<=e.length then some ((e.drop c).take n)else none
  |none=>none else none
 |_=>none
def aW (H:Nat->Ob)(p:D)(n:Nat):Option (List D) :=
 match p with
 | .pt o sz i c=>aR H o sz i c n
 | .rp cs c=>if c+n<=cs.length then some (((cs.drop c).take n).map .i)else none
 |_=>none
def ku:List D->Option D
 |[d]=>some d
 |_=>none
section
variable {P:Program}{w0:Ctx}{T:Nat->Prop}{K:Ctx}{H:Nat->Ob}
theorem VI.one {w:World}{S:Nat->Prop}{v:Value}{x:I}(h:VI w S v x):v.oneCell'=true:=by cases h<;>first|assumption|rfl
theorem VD.one {v:Value}{d:D}(h:VD K v d)(hd:d.one=true):v.oneCell'=true:=by cases h<;>first|(exact VI.one ‹_›)|rfl|(simp[D.one]at hd)
theorem NI (v:Value):VD K v (ofV v):=by
 cases v with
 |agg cs =>
  simp only[ofV];split
  ·rename_i h;refine .agg cs _ (by simp) λj d hd=>?_;simp only[List.getElem?_map,Option.map_eq_some_iff]at hd;obtain⟨c,hc,rfl⟩:=hd;have hj:j<cs.size:=by have:=(List.getElem?_eq_some_iff.1 hc).1;simpa using this
   have e:cs.getD j undef=c:=by simp[Array.getD,hj];simpa[hj]using hc
   rw[e];have:=(Array.all_eq_true_iff_forall_mem.1 h) c (by have:=List.mem_of_getElem? hc;simpa using this);exact .i (.s c this)
  ·exact .any _
 |tuple vs =>
  simp only[ofV];split
  ·rename_i h;have:vs=#[]:=Array.eq_empty_of_size_eq_zero h;subst this;exact .un
  ·exact .any _
 |_=>exact .i (.s _ rfl)
theorem Jh {v v':Value}{d:D}(h:VD K v d)(hc:Fu d=some v'):v=v':=by
 cases h with
 |i hx=>cases hx<;>simp[Fu]at hc;exact hc
 |_=>simp[Fu]at hc
theorem mapM_get {α β:Type}{f:α->Option β}:∀{l:List α}{r:List β},l.mapM f=some r->r.length=l.length/\∀(j:Nat)(a:α),l[j]?=some a->∃b,r[j]?=some b/\f a=some b
 |[],r,h=>by simp at h;subst h;simp
 |x::l,r,h=>by
  rw[List.mapM_cons]at h;cases hx:f x with
  |none=>simp[hx]at h
  |some b =>
   cases hl:l.mapM f with
   |none=>simp[hx,hl]at h
   |some r' =>
    simp[hx,hl]at h;subst h;obtain⟨h1,h2⟩:=mapM_get hl;refine⟨by simp[h1],λj a ha=>?_⟩;cases j with
    |zero=>simp at ha;subst ha;exact⟨b,by simp,hx⟩
    |succ j=>simpa using h2 j a (by simpa using ha)
theorem conc_ok {v v':Value}{d:D}(h:VD K v d)(hc:dO d=some v'):v=v':=by
 cases h with
 |i hx=>exact Jh (.i hx) (by cases hx<;>simp[dO]at hc;simpa[Fu]using hc)
 |agg vs cs hl hv =>
  simp only[dO,Option.map_eq_some_iff]at hc;obtain⟨r,hr,rfl⟩:=hc;obtain⟨h1,h2⟩:=mapM_get hr;congr 1;apply Array.ext
  ·simp[h1,hl]
  ·intro j hj hj';obtain⟨b,hb,hb'⟩:=h2 j (cs[j]'(by omega)) (by simp[show j<cs.length by omega]);have:=Jh (hv j _ (by simp[show j<cs.length by omega])) hb';rw[Array.getD,dif_pos hj]at this;obtain⟨hb1,hb2⟩:=List.getElem?_eq_some_iff.1 hb;exact(show vs[j]=b from this).trans (by simp[hb2])
 |un=>simp[dO]at hc;exact hc
 |_=>simp[dO]at hc
theorem elems_cells {α:Type}{es:List (List α)}{sz i c n:Nat}{e:List α}(hu:∀e∈es,e.length=sz)(hi:es[i]?=some e)(hn:c+n<=e.length){j:Nat}{x:α}(hx:((e.drop c).take n)[j]?=some x):
  j<n/\es.flatten[i*sz+(c+j)]?=some x:=by
 rw[List.getElem?_take]at hx;split at hx
 ·rw[List.getElem?_drop]at hx;exact⟨‹_›,bN hu hi hx⟩
 ·cases hx
theorem readAt_ok (hr:HR w0 T K H){v:Value}{p:D}{n:Nat}{cs:List D}(hp:VD K v p)(h:aW H p n=some cs):
  ∃(b off:Nat) (vs:List Value),v=.pointer (some ⟨b,off,none⟩)/\cs.length=n/\vs.length=n/\K.w.rangeAt b off vs/\(∀(j:Nat) (d:D),cs[j]?=some d->∃u,vs[j]?=some u/\VD K u d):=by
 have mk:∀(b off:Nat) (cs:List D),(∀(j:Nat) (d:D),cs[j]?=some d->∃u,K.w.cell? ⟨b,off+j,none⟩=some u/\VD K u d) ->
   ∃vs:List Value,vs.length=cs.length/\K.w.rangeAt b off vs/\(∀(j:Nat) (d:D),cs[j]?=some d->∃u,vs[j]?=some u/\VD K u d):=by
  intro b off cs hc;refine⟨(List.range cs.length).map λj=>(K.w.cell? ⟨b,off+j,none⟩).getD undef,by simp,λj v hv=>?_,λj d hd=>?_⟩
  ·simp only[List.getElem?_map,Option.map_eq_some_iff]at hv;obtain⟨k,hk,rfl⟩:=hv;have hk':k=j:=by have:=List.getElem?_eq_some_iff.1 hk;obtain⟨h1,h2⟩:=this;simpa using h2.symm
   subst hk';have hlt:k<cs.length:=by have:=(List.getElem?_eq_some_iff.1 hk).1;simpa using this
   obtain⟨u,hu,_⟩:=hc k cs[k] (by simp[hlt]);simp[hu]
  ·have hlt:j<cs.length:=(List.getElem?_eq_some_iff.1 hd).1;obtain⟨u,hu,hd'⟩:=hc j d hd;exact⟨u,by simp[hlt,hu],hd'⟩
 cases p with
 |pt o sz i c =>
  cases hp with
  |pt _ _ _ _ b hμ =>
   simp only[aW,aR]at h;split at h
   ·rename_i cs0 ho;split at h
    ·rename_i hcond;simp at h;obtain⟨rfl,hle⟩:=hcond;obtain⟨b',row,e,h1,h2,h3,h4,_⟩:=hr.get ho;have:b'=b:=by rw[h1]at hμ;simpa using hμ
     subst this;have hlen:cs.length=n:=by rw[<- h];simp;omega
     obtain⟨vs,a1,a2,a3⟩:=mk b' (0*sz+c) cs (λj d hd=>by
      subst h;rw[List.getElem?_take]at hd;split at hd
      ·rw[List.getElem?_drop]at hd;have hlt:c+j<row.size:=by have:=(List.getElem?_eq_some_iff.1 hd).1;omega
       refine⟨row.getD (c+j) undef,?_,h4 _ _ hd⟩;rw[cell_of_row K.w b' _ row e _ h2,Nat.zero_mul,Nat.zero_add];simp[Array.getD,hlt]
      ·cases hd)
     exact⟨b',_,vs,rfl,hlen,by omega,a2,a3⟩
    ·cases h
   ·rename_i sz' es ho;split at h
    ·rename_i hsz;subst hsz;split at h
     ·rename_i e he;split at h
      ·rename_i hle;simp at h;obtain⟨hz,hu,h3⟩:=hr.get ho;rcases h3 with⟨h3,_⟩|⟨b',row,ty,h1,h2,h3,h4,_⟩
       ·rw[h3]at hμ;cases hμ
       have:b'=b:=by rw[h1]at hμ;simpa using hμ
       subst this;have hlen:cs.length=n:=by rw[<- h];simp;omega
       obtain⟨vs,a1,a2,a3⟩:=mk b' (i*sz+c) cs (λj d hd=>by
        subst h;simp only[<- List.map_drop,<- List.map_take,List.getElem?_map,Option.map_eq_some_iff]at hd;obtain⟨x,hx,rfl⟩:=hd;obtain⟨hj,hx'⟩:=elems_cells hu he hle hx;have hlt:i*sz+(c+j)<row.size:=by have:=(List.getElem?_eq_some_iff.1 hx').1;rw[bA hu]at this;omega
        refine⟨row.getD (i*sz+(c+j)) undef,?_,.i (h4 _ _ hx')⟩;rw[cell_of_row K.w b' _ row ty _ h2,Nat.add_assoc];simp[Array.getD,hlt])
       exact⟨b',_,vs,rfl,hlen,by omega,a2,a3⟩
      ·cases h
     ·cases h
    ·cases h
   ·rename_i sz' es ho;split at h
    ·rename_i hsz;subst hsz;split at h
     ·rename_i e he;split at h
      ·rename_i hle;simp at h;obtain⟨hz,hu,h3⟩:=hr.get ho;rcases h3 with⟨h3,_⟩|⟨b',f,h1,h2,h4⟩
       ·rw[h3]at hμ;cases hμ
       have:b'=b:=by rw[h1]at hμ;simpa using hμ
       subst this;have hlen:cs.length=n:=by rw[<- h];simp;omega
       obtain⟨vs,a1,a2,a3⟩:=mk b' (i*sz+c) cs (λj d hd=>by subst h;simp only[<- List.map_drop,<- List.map_take,List.getElem?_map,Option.map_eq_some_iff]at hd;obtain⟨x,hx,rfl⟩:=hd;obtain⟨hj,hx'⟩:=elems_cells hu he hle hx;obtain⟨q1,q2⟩:=h4 _ _ hx';exact⟨f (i*sz+(c+j)),by rw[Nat.add_assoc];exact q1,.i q2⟩)
       exact⟨b',_,vs,rfl,hlen,by omega,a2,a3⟩
      ·cases h
     ·cases h
    ·cases h
   ·rename_i sz' es ho;split at h
    ·rename_i hsz;subst hsz;split at h
     ·rename_i e he;split at h
      ·rename_i hle;simp at h;obtain⟨hz,hu,_,h3⟩:=hr.get ho;rcases h3 with⟨h3,_⟩|⟨b',row,ty,h1,h2,h3,h4,_⟩
       ·rw[h3]at hμ;cases hμ
       have:b'=b:=by rw[h1]at hμ;simpa using hμ
       subst this;have hlen:cs.length=n:=by rw[<- h];simp;omega
       obtain⟨vs,a1,a2,a3⟩:=mk b' (i*sz+c) cs (λj d hd=>by
        subst h;obtain⟨hj,hx'⟩:=elems_cells hu he hle hd;have hlt:i*sz+(c+j)<row.size:=by have:=(List.getElem?_eq_some_iff.1 hx').1;rw[bA hu]at this;omega
        refine⟨row.getD (i*sz+(c+j)) undef,?_,h4 _ _ hx'⟩;rw[cell_of_row K.w b' _ row ty _ h2,Nat.add_assoc];simp[Array.getD,hlt])
       exact⟨b',_,vs,rfl,hlen,by omega,a2,a3⟩
      ·cases h
     ·cases h
    ·cases h
   ·cases h
 |rp cs0 c =>
  cases hp with
  |rp b off _ _ f hS hcell hv =>
   simp only[aW]at h;split at h
   ·rename_i hle;simp at h;have hlen:cs.length=n:=by rw[<- h];simp;omega
    obtain⟨vs,a1,a2,a3⟩:=mk b (off+c) cs (λj d hd=>by
     subst h;simp only[<- List.map_drop,<- List.map_take,List.getElem?_map,Option.map_eq_some_iff]at hd;obtain⟨x,hx,rfl⟩:=hd;rw[List.getElem?_take]at hx;split at hx
     ·rw[List.getElem?_drop]at hx;exact⟨f (c+j),by rw[Nat.add_assoc];exact hcell _ _ hx,.i (hv _ _ hx)⟩
     ·cases hx)
    exact⟨b,_,vs,rfl,hlen,by omega,a2,a3⟩
   ·cases h
 |_=>simp[aW]at h
end
def Ctx.alloc (K:Ctx)(id:Nat)(o:Obj):Ctx:=⟨K.w.alloc o,K.S,upd K.μ id (some K.w.heap.size)⟩
def Ctx.row (K:Ctx)(b:Nat)(row:Array Value):Ctx:=⟨K.w.setRow b row,K.S,K.μ⟩
def Ctx.world (K:Ctx)(w:World):Ctx:=⟨w,K.S,K.μ⟩
def Ctx.more (K:Ctx)(S:Nat->Prop):Ctx:=⟨K.w,λb=>K.S b\/S b,K.μ⟩
section
variable {P:Program}{w0:Ctx}{T:Nat->Prop}{K K':Ctx}{H:Nat->Ob}
theorem fG {w:World}{b:Nat}{row:Array Value}{e:TypeId}{fr:Nat×Nat}(h:w.heap[b]?=some (.cells row e fr)):dR w b=row.size:=by simp[dR,h]
theorem fe {w w':World}{b:Nat}(h:w'.heap[b]?=w.heap[b]?):dR w' b=dR w b:=by simp[dR,h]
theorem Ext.alloc (hr:HR w0 T K H){id:Nat}(hf:K.μ id=none)(o:Obj):Ext K (K.alloc id o) :=
 ⟨λ_ h=>h,λb hb j=>World.cell?_of_block (w:=K.w) (Below.heap_alloc K.w o b (hr.sB b hb)),
  λo' b hb=>by
  show upd K.μ id _ o'=_;rw[upd_ne _ _ (λe=>by subst e;rw[hf]at hb;cases hb)];exact hb,
  λo' b hb=>fe (Below.heap_alloc K.w o b (hr.mB o' b hb))⟩
theorem HR.place (hr:HR w0 T K H){o b:Nat}(ho:(H o).own)(hb:K.μ o=some b):∃row e,((∀s p,H o≠.it s p)->(∀es,H o≠.mp es)->K.w.heap[b]?=some (.cells row e (0,0)))/\¬K.S b/\(w0.w.heap.size<=b\/T b):=by
 cases hx:H o with
 |box cs=>obtain⟨b',row,e,a1,a2,_,_,_,a6,a7⟩:=hr.get hx;rw[hb]at a1;cases a1;exact⟨row,e,λ_ _=>a2,a6,a7⟩
 |arr sz es =>
  obtain⟨_,_,a3⟩:=hr.get hx;rcases a3 with⟨a3,_⟩|⟨b',row,e,a1,a2,_,_,a6,a7⟩
  ·rw[hb]at a3;cases a3
  ·rw[hb]at a1;cases a1;exact⟨row,e,λ_ _=>a2,a6,a7⟩
 |it s p=>obtain⟨b',a1,a2,a6,a7⟩:=hr.get hx;rw[hb]at a1;cases a1;exact⟨#[],0,λh=>absurd rfl (h s p),a6,a7⟩
 |mp es=>obtain⟨b',en,ck,a1,a2,_,a6,a7⟩:=hr.get hx;rw[hb]at a1;cases a1;exact⟨#[],0,λ_ h=>absurd rfl (h es),a6,a7⟩
 |tab sz es =>
  obtain⟨_,_,_,a3⟩:=hr.get hx;rcases a3 with⟨a3,_⟩|⟨b',row,e,a1,a2,_,_,a6,a7⟩
  ·rw[hb]at a3;cases a3
  ·rw[hb]at a1;cases a1;exact⟨row,e,λ_ _=>a2,a6,a7⟩
 |_=>rw[hx]at ho;exact ho.elim
theorem HR.alloc (hr:HR w0 T K H){id:Nat}(hf:K.μ id=none)(o:Obj){x:Ob}(hx:ObR w0 T (K.alloc id o) id x):HR w0 T (K.alloc id o) (upd H id x):=by
 have he:=Ext.alloc hr hf o;refine⟨hr.g0,hr.os,hr.tape,hr.output,?_,λk hk hT=>?_,λb hb=>?_,hr.sN,λo' b hb=>?_,λo'=>?_,λo1 o2 b h1 h2 g1 g2=>?_⟩
 ·show _<=(K.w.heap.push o).size;have:=hr.size;simp;omega
 ·exact(Below.heap_alloc K.w o k (by have:=hr.size;omega)).trans (hr.block k hk hT)
 ·show b<(K.w.heap.push o).size;have:=hr.sB b hb;simp;omega
 ·show b<(K.w.heap.push o).size;by_cases h:o'=id
  ·subst h;simp only[Ctx.alloc,upd_same,Option.some.injEq]at hb;simp;omega
  ·simp only[Ctx.alloc]at hb;rw[upd_ne _ _ h]at hb;have:=hr.mB o' b hb;simp;omega
 ·by_cases h:o'=id
  ·subst h;rw[upd_same];exact hx
  ·rw[upd_ne _ _ h];refine(hr.ob o').ext he (λhn=>?_) (λb hown hb=>⟨Below.heap_alloc K.w o b (hr.mB o' b hb),?_⟩)
   ·simp only[Ctx.alloc];rw[upd_ne _ _ h];exact hn
   ·obtain⟨_,_,_,q,_⟩:=hr.place hown hb;exact q
 ·simp only[Ctx.alloc]at g1 g2;by_cases e1:o1=id<;>by_cases e2:o2=id
  ·rw[e1,e2]
  ·subst e1;rw[upd_same]at g1;rw[upd_ne _ _ e2]at g2;have:=hr.mB o2 b g2;simp at g1;omega
  ·subst e2;rw[upd_same]at g2;rw[upd_ne _ _ e1]at g1;have:=hr.mB o1 b g1;simp at g2;omega
  ·rw[upd_ne _ _ e1]at g1 h1;rw[upd_ne _ _ e2]at g2 h2;exact hr.inj o1 o2 b h1 h2 g1 g2
theorem pE {b:Nat}{row row':Array Value}{e:TypeId}(hg:K.w.heap[b]?=some (.cells row e (0,0)))(hs:row'.size=row.size)(hS:¬K.S b):Ext K (K.row b row') :=
 ⟨λ_ h=>h,λb' hb' j=>cell_setRow_other K.w b row' ⟨b',j,none⟩ (λh=>hS (by simpa[<- h]using hb')),λ_ _ h=>h,λo' b' _=>by
  by_cases h:b'=b
  ·subst h;exact(fG (setRow_heap K.w b' row row' e (0,0) hg)).trans (hs.trans (fG hg).symm)
  ·exact fe (setRow_other K.w b b' row' h)⟩
theorem HR.row (hr:HR w0 T K H){o b:Nat}(ho:(H o).own)(hb:K.μ o=some b){row row':Array Value}{e:TypeId}(hg:K.w.heap[b]?=some (.cells row e (0,0)))(hs:row'.size=row.size)
  {x:Ob}(hx:ObR w0 T (K.row b row') o x):HR w0 T (K.row b row') (upd H o x):=by
 obtain⟨_,_,_,hS,hT⟩:=hr.place ho hb;have he:Ext K (K.row b row'):=pE hg hs hS;refine⟨hr.g0,hr.os,hr.tape,hr.output,?_,λk hk hT'=>?_,λb' hb'=>?_,hr.sN,λo' b' hb'=>?_,λo'=>?_,λo1 o2 b' h1 h2 g1 g2=>?_⟩
 ·show _<=(K.w.setRow b row').heap.size;simp;exact hr.size
 ·show(K.w.setRow b row').heap[k]?=_;rw[setRow_other K.w b k row' (λh=>by subst h;rcases hT with h|h;omega;exact hT' h)];exact hr.block k hk hT'
 ·show b'<(K.w.setRow b row').heap.size;simp;exact hr.sB b' hb'
 ·show b'<(K.w.setRow b row').heap.size;simp;exact hr.mB o' b' hb'
 ·by_cases h:o'=o
  ·subst h;rw[upd_same];exact hx
  ·rw[upd_ne _ _ h];refine(hr.ob o').ext he (λhn=>hn) (λb' hown hb'=>⟨setRow_other K.w b b' row' (λe=>?_),?_⟩)
   ·subst e;exact h (hr.inj o' o b' hown ho hb' hb)
   ·obtain⟨_,_,_,q,_⟩:=hr.place hown hb';exact q
 ·have k1:(H o1).own:=by
   by_cases h:o1=o
   ·subst h;exact ho
   ·rw[upd_ne _ _ h]at h1;exact h1
  have k2:(H o2).own:=by
   by_cases h:o2=o
   ·subst h;exact ho
   ·rw[upd_ne _ _ h]at h2;exact h2
  exact hr.inj o1 o2 b' k1 k2 g1 g2
theorem Ext.world {w:World}(hh:w.heap=K.w.heap):Ext K (K.world w) :=
 ⟨λ_ h=>h,λb _ j=>World.cell?_of_block (w:=K.w) (by simp[Ctx.world,hh]),λ_ _ h=>h,λ_ b _=>fe (by simp[Ctx.world,hh])⟩
theorem HR.world (hr:HR w0 T K H){w:World}(hh:w.heap=K.w.heap)(h1:w.os=K.w.os)(h2:w.tape=K.w.tape)(h3:w.output=K.w.output):HR w0 T (K.world w) H:=by
 have he:Ext K (K.world w):=Ext.world hh;refine⟨hr.g0,h1.trans hr.os,h2.trans hr.tape,h3.trans hr.output,?_,λk hk hT=>?_,λb hb=>?_,hr.sN,λo b hb=>?_,λo=>(hr.ob o).ext he (λh=>h) (λb hown hb=>⟨by simp[Ctx.world,hh],?_⟩),hr.inj⟩
 ·simp[Ctx.world,hh];exact hr.size
 ·simp only[Ctx.world,hh];exact hr.block k hk hT
 ·simp only[Ctx.world,hh];exact hr.sB b hb
 ·simp only[Ctx.world,hh];exact hr.mB o b hb
 ·obtain⟨_,_,_,q,_⟩:=hr.place hown hb;exact q
theorem HR.kill (hr:HR w0 T K H)(o:Nat):HR w0 T K (upd H o .dead):=by
 refine⟨hr.g0,hr.os,hr.tape,hr.output,hr.size,hr.block,hr.sB,hr.sN,hr.mB,λo'=>?_,λo1 o2 b h1 h2 g1 g2=>?_⟩
 ·by_cases h:o'=o
  ·subst h;rw[upd_same];trivial
  ·rw[upd_ne _ _ h];exact hr.ob o'
 ·have k1:(H o1).own:=by
   by_cases h:o1=o
   ·subst h;rw[upd_same]at h1;exact h1.elim
   ·rw[upd_ne _ _ h]at h1;exact h1
  have k2:(H o2).own:=by
   by_cases h:o2=o
   ·subst h;rw[upd_same]at h2;exact h2.elim
   ·rw[upd_ne _ _ h]at h2;exact h2
  exact hr.inj o1 o2 b k1 k2 g1 g2
def frzS (K:Ctx)(H:Nat->Ob)(ids:List Nat)(b:Nat):Prop:=∃o∈ids,(∃sz es,H o=.arr sz es)/\K.μ o=some b
theorem Ext.more (S:Nat->Prop):Ext K (K.more S):=⟨λ_ h=>.inl h,λ_ _ _=>rfl,λ_ _ h=>h,λ_ _ _=>rfl⟩
theorem HR.frz (hr:HR w0 T K H)(ids:List Nat):HR w0 T (K.more (frzS K H ids)) (frz ids H):=by
 have he:Ext K (K.more (frzS K H ids)):=Ext.more _;have hown:∀o,(Abs.frz ids H o).own->(H o).own:=by
  intro o h;simp only[Abs.frz]at h;split at h
  ·cases hx:H o<;>rw[hx]at h<;>first|exact h.elim|trivial
  ·exact h
 refine⟨hr.g0,hr.os,hr.tape,hr.output,hr.size,hr.block,λb hb=>?_,λb hb=>?_,hr.mB,λo=>?_,λo1 o2 b h1 h2 g1 g2=>hr.inj o1 o2 b (hown o1 h1) (hown o2 h2) g1 g2⟩
 ·rcases hb with hb|⟨o,_,_,hb⟩
  ·exact hr.sB b hb
  ·exact hr.mB o b hb
 ·rcases hb with hb|⟨o,_,⟨sz,es,hx⟩,hb⟩
  ·exact hr.sN b hb
  ·obtain⟨_,_,_,_,q⟩:=hr.place (by rw[hx];trivial) hb;exact .inr q
 ·by_cases hm:o∈ids/\∃sz es,H o=.arr sz es
  ·obtain⟨hm,sz,es,hx⟩:=hm;have:Abs.frz ids H o=.fz sz es:=by simp[Abs.frz,hm,hx]
   rw[this];obtain⟨h1,h2,h3⟩:=hr.get hx;refine⟨h1,h2,?_⟩;rcases h3 with h3|⟨b,row,e,h3,h4,h5,h6,h7,h8⟩
   ·exact .inl h3
   ·refine .inr ⟨b,λj=>row.getD j undef,h3,.inr ⟨o,hm,⟨sz,es,hx⟩,h3⟩,λj x hj=>⟨?_,(h6 j x hj).ext he⟩⟩;have hlt:j<row.size:=by have:=(List.getElem?_eq_some_iff.1 hj).1;rw[bA h2]at this;omega
    show K.w.cell? _=_;rw[cell_of_row K.w b j row e _ h4];simp[Array.getD,hlt]
  ·have:Abs.frz ids H o=H o:=by
    simp only[Abs.frz];split
    ·rename_i hc;split
     ·rename_i sz es hx;exact absurd ⟨by simpa using hc,sz,es,hx⟩ hm
     ·rfl
    ·rfl
   rw[this];refine(hr.ob o).ext he (λh=>h) (λb ho hb=>⟨rfl,?_⟩);rintro(hS|⟨o',ho',⟨sz,es,hx⟩,hb'⟩)
   ·obtain⟨_,_,_,q,_⟩:=hr.place ho hb;exact q hS
   ·have:o=o':=hr.inj o o' b ho (by rw[hx];trivial) hb hb';subst this;exact hm ⟨ho',sz,es,hx⟩
theorem nE (hr:HR w0 T K H){v:Value}{o sz off len:Nat}{es:List (List I)}(hv:VD K v (.os o sz off len))(h:aO H (.os o sz off len)=some es)(ids:List Nat)(hm:o∈ids):
  VI K.w (K.more (frzS K H ids)).S v (.sl es):=by
 have he:Ext K (K.more (frzS K H ids)):=Ext.more _;simp only[aO]at h;have key:∀(es0:List (List I)) (b:Nat) (f:Nat->Value),(H o=.arr sz es0\/H o=.fz sz es0)->K.μ o=some b->0<sz->(∀e∈es0,e.length=sz)->(K.S b\/frzS K H ids b) ->
   (∀(j:Nat) (x:I),es0.flatten[j]?=some x->K.w.cell? ⟨b,j,none⟩=some (f j)/\VI K.w K.S (f j) x)->off+len<=es0.length->es=(es0.drop off).take len->VI K.w (K.more (frzS K H ids)).S v (.sl es):=by
  intro es0 b f _ hμ hz hu hS hc hle hes;cases hv with
  |os _ _ _ _ b' off' cap q1 q2 q3 q4 q5 =>
   rw[hμ]at q1;cases q1;have hlen:es.length=len:=by rw[hes];simp;omega
   rcases q4 with q4|q4
   ·subst q4;have hflat:∀(j:Nat) (x:I),es.flatten[j]?=some x->es0.flatten[off*sz+j]?=some x:=by
     intro j x hx;rw[hes,fV (sz:=sz) (λe he=>hu e (List.mem_of_mem_drop he)),iW hu,List.getElem?_take]at hx;split at hx
     ·rw[List.getElem?_drop]at hx;exact hx
     ·cases hx
    rw[<- hlen];exact .sl b (off*sz) cap sz es (λj=>f (off*sz+j)) hS (by omega) hz (λe he=>hu e (by rw[hes]at he;exact List.mem_of_mem_drop (List.mem_of_mem_take he)))
     (λj x hx=>(hc _ _ (hflat j x hx)).1) (λj x hx=>((hc _ _ (hflat j x hx)).2).ext he)
   ·subst q4;have:es=[]:=List.eq_nil_of_length_eq_zero (by omega);have h0:len=0:=by omega
    subst this h0;exact .e _ _
  |os0 =>have:es=[]:=List.eq_nil_of_length_eq_zero (by rw[hes];simp);subst this;exact .e _ _
 have none_case:K.μ o=none->len=0->es=[]->VI K.w (K.more (frzS K H ids)).S v (.sl es):=by
  intro hn h0 hes;subst hes;cases hv with
  |os _ _ _ _ b' off' cap q1 q2 q3 q4 q5=>rw[hn]at q1;cases q1
  |os0=>exact .e _ _
 split at h
 ·rename_i sz' es0 ho;split at h
  ·rename_i hc;obtain⟨rfl,hle⟩:=hc;simp at h;obtain⟨hz,hu,h3⟩:=hr.get ho;rcases h3 with⟨h3,h4⟩|⟨b,row,e,h3,h4,h5,h6,h7,h8⟩
   ·subst h4;simp at hle;exact none_case h3 hle.2 (by rw[<- h];simp)
   ·refine key es0 b (λj=>row.getD j undef) (.inl ho) h3 hz hu (.inr ⟨o,hm,⟨_,_,ho⟩,h3⟩) (λj x hx=>⟨?_,h6 j x hx⟩) hle h.symm;have hlt:j<row.size:=by have:=(List.getElem?_eq_some_iff.1 hx).1;rw[bA hu]at this;omega
    rw[cell_of_row K.w b j row e _ h4];simp[Array.getD,hlt]
  ·cases h
 ·rename_i sz' es0 ho;split at h
  ·rename_i hc;obtain⟨rfl,hle⟩:=hc;simp at h;obtain⟨hz,hu,h3⟩:=hr.get ho;rcases h3 with⟨h3,h4⟩|⟨b,f,h3,h4,h5⟩
   ·subst h4;simp at hle;exact none_case h3 hle.2 (by rw[<- h];simp)
   ·exact key es0 b f (.inr ho) h3 hz hu (.inl h4) h5 hle h.symm
  ·cases h
 ·cases h
theorem N_ {w:World}{S:Nat->Prop}{v:Value}{x:I}(h:VI w S v x):VI w S v (Od x):=by
 unfold Od;split
 ·cases h;exact .e _ _
 ·exact h
theorem UO (hr:HR w0 T K H){v:Value}{d:D}{x:I}(hv:VD K v d)(h:eu H d=some x)(ids:List Nat)(hm:∀o∈d.ids1,o∈ids):VI K.w (K.more (frzS K H ids)).S v x:=by
 cases d with
 |i y =>simp only[eu,Option.some.injEq]at h;subst h;cases hv with|i hx=>exact(N_ hx).ext (Ext.more (K:=K) (frzS K H ids))
 |os o sz off len =>simp only[eu,Option.map_eq_some_iff]at h;obtain⟨es,h,rfl⟩:=h;exact nE hr hv h ids (hm o (by simp[D.ids1]))
 |_=>simp[eu]at h
end
def jo (P:Program)(t:TypeId):Option Value:=pv P (zeroValue t)
def aG (P:Program)(t:TypeId):Option TypeDesc:=pv P (underlying t)
def iE (P:Program)(t:TypeId):Option Nat:=pv P (sizeOf t)
def iy (P:Program)(t:TypeId):Option Nat:=(pv P (typeInfo t)).map (·.bytes)
def pM (P:Program)(t:TypeId):Option Bool:=pv P (isAgg t)
def aY (P:Program)(t:TypeId):Option (Array (Nat×Nat)) :=
 match aG P t with
 |some (.struct fields)=>pv P (fields.mapM λf=>do pure (f.offset,<- sizeOf f.type))
 |_=>none
def EZ (P:Program)(t:TypeId)(f:Nat):Option (Nat×TypeId) :=
 match aG P t with
 |some (.struct fs)=>match fs[f]? with
  |some fd=>some (fd.offset,fd.type)
  |none=>none
 |_=>none
def qD (P:Program)(t:TypeId)(cs:List D)(off:Nat):Option D :=
 match pM P t with
 |some true=>match iE P t with
  |some n=>if off+n<=cs.length then some (.agg ((cs.drop off).take n))else none
  |none=>none
 |some false=>cs[off]?
 |none=>none
def oH (place:Nat->Option (Nat×Nat))(cells:List D):List (Nat×List D)->Option (List D)
 |[]=>some cells
 |(i,cs)::rest =>
  match place i with
  |none=>none
  |some (off,size)=>if cs.length=size/\off+cs.length<=cells.length then oH place (cells.take off++cs++cells.drop (off+cs.length)) rest else none
def aJ (P:Program)(t:TypeId):Option (List D):=(jo P t).bind λz=>if z.cells.all (·.oneCell')then some (z.cells.toList.map λc=>.i (.s c))else none
def aH (b:UInt8):List I:=[.s (.int .u8 (b.toNat:Int))]
def Wm (s:ByteArray):I:=.sl (s.data.toList.map aH)
def nK:List I->Option UInt8
 |[.s (.int .u8 n)]=>if 0<=n/\n<256 then some (UInt8.ofNat n.toNat)else none
 |_=>none
def uni (s:Nat)(es:List (List I)):Bool:=es.all λe=>e.length==s
def ru (sl:Nat->D):Option Operand->Option (Option Value)
 |none=>some none
 |some y=>(dO (evA sl y)).map some
def abx:Option TypeDesc->Bool
 |some (.slice _)=>true
 |_=>false
def xW:Option Value->Bool
 |some (.slice none 0 0)=>true
 |_=>false
def EC (P:Program)(op:BinOp)(t:TypeId)(a:D)(b:Option Value):Option D :=
 if abx (aG P t)&&xW b&&wC a then match op with
  | .eql=>some (.i (.s (.bool false)))
  | .neq=>some (.i (.s (.bool true)))
  |_=>none
 else none
def opQ (P:Program)(sl:Nat->D)(H:Nat->Ob)(op:Op):Option D :=
 match op with
 | .move x | .assign x=>some (evA sl x)
 | .pick c a b=>match dO (evA sl c)with
  |some (.bool v)=>some (if v=true then evA sl a else evA sl b)
  |_=>none
 | .nilCheck x=>match evA sl x with
  | .pt o sz i c=>some (.pt o sz i c)
  | .rp cs c=>some (.rp cs c)
  | .fn f cs=>some (.fn f cs)
  |_=>none
 | .binOp op t x y _=>match dO (evA sl x),dO (evA sl y)with
  |some a,some b=>(pv P (do eqGuard op t x y a b;Go.binOp op t a b)).map ofV
  |none,b=>EC P op t (evA sl x) b
  |some _,none=>none
 | .unOp op _ x=>match dO (evA sl x)with
  |some a=>(pv P (Op.unary op a)).map ofV
  |none=>none
 | .convert src dst x=>match dO (evA sl x)with
  |some a=>(pv P (Go.convert src dst a)).map ofV
  |none=>none
 | .extract x ix=>match evA sl x with
  | .tup ds=>ds[ix]?
  |_=>none
 | .field t x f=>match evA sl x,EZ P t f with
  | .agg cs,some (off,ty)=>qD P ty cs off
  |_,_=>none
 | .index t x ix=>match dO (evA sl ix)with
  |some (.int k n)=>match evA sl x,aG P t with
   | .agg cs,some (.array len e)=>match iE P e with
    |some s=>if 0<=n/\n<len then qD P e cs (n.toNat*s)else none
    |none=>none
   |d,_=>match dO d with
    |some a=>(pv P (Instr.index t a (.int k n))).map ofV
    |none=>none
  |_=>none
 | .fieldAddr s x f=>match EZ P s f with
  |some (off,ty)=>match iE P ty with
   |some (_+1)=>match evA sl x with
    | .pt o sz i c=>some (.pt o sz i (c+off))
    | .rp cs c=>some (.rp cs (c+off))
    |_=>none
   |_=>none
  |_=>none
 | .indexAddr t x ix=>match dO (evA sl ix)with
  |some (.int _ n)=>match aG P t with
   |some (.slice e)=>match iE P e with
    |some s=>match evA sl x with
     | .os o sz off len=>if s=sz/\0<=n/\n<len then some (.pt o sz (off+n.toNat) 0)else none
     | .i (.sl es)=>match es[n.toNat]? with
      |some e=>if 0<=n/\e.length=s then some (.rp e 0)else none
      |none=>none
     |_=>none
    |none=>none
   |some (.array len e)=>match iE P e with
    |some s=>match evA sl x with
     | .pt o sz i c=>if 0<=n/\n<len then some (.pt o sz i (c+n.toNat*s))else none
     | .rp cs c=>if 0<=n/\n<len then some (.rp cs (c+n.toNat*s))else none
     |_=>none
    |none=>none
   |_=>none
  |_=>none
 | .slice t x lo hi none=>match aG P t with
  |some (.slice e)=>match iE P e with
   |some s =>
    let lo':=lo.map λx=>dO (evA sl x);let hi':=hi.map λx=>dO (evA sl x)
    match evA sl x with
    | .os o sz off len =>
     match lo',hi' with
     |none,none=>if s=sz then some (.os o sz off len)else none
     |some (some (.int _ l)),none=>if s=sz/\0<=l/\l<=len then some (.os o sz (off+l.toNat) (len-l.toNat))else none
     |none,some (some (.int _ h))=>if s=sz/\0<=h/\h<=len then some (.os o sz off h.toNat)else none
     |some (some (.int _ l)),some (some (.int _ h))=>if s=sz/\0<=l/\l<=h/\h<=len then some (.os o sz (off+l.toNat) (h.toNat-l.toNat))else none
     |_,_=>none
    | .i (.sl es)=>if uni s es=false then none else
     match lo',hi' with
     |none,none=>some (.i (.sl es))
     |some (some (.int _ l)),none=>if 0<=l/\l<=es.length then some (.i (.sl (es.drop l.toNat)))else none
     |none,some (some (.int _ h))=>if 0<=h/\h<=es.length then some (.i (.sl (es.take h.toNat)))else none
     |some (some (.int _ l)),some (some (.int _ h))=>if 0<=l/\l<=h/\h<=es.length then some (.i (.sl ((es.take h.toNat).drop l.toNat)))else none
     |_,_=>none
    |_=>none
   |none=>none
  |some .string=>match dO (evA sl x),ru sl lo,ru sl hi with
   |some a,some l,some h=>(pv P (Instr.sliceAt t a l h none)).map ofV
   |_,_,_=>none
  |_=>none
 | .build t parts=>match (parts.toList.mapM λp=>(bY (evA sl p.2)).map λcs=>(p.1,cs)),aJ P t with
  |some ps,some z=>match aY P t with
   |some pl=>(oH (pl[·]?) z ps).map .agg
   |none=>match aG P t with
    |some (.array _ e)=>match iE P e with
     |some s=>(oH (λi=>some (i*s,s)) z ps).map .agg
     |none=>none
    |_=>none
  |_,_=>none
 | .makeFunc (.func f) first captured=>if first.size=0 then some (.fn f (captured.toList.map (evA sl)))else none
 | .call {callee:=.builtin .len,args:=args,argTypes:=tys}=>match args.toList.map (evA sl)with
  |[.os _ _ _ len]=>match (tys[0]?).bind (aG P)with
   |some (.slice _)=>some (.i (.s (.int .i64 (len:Int))))
   |_=>none
  |[.i (.sl es)]=>match (tys[0]?).bind (aG P)with
   |some (.slice _)=>some (.i (.s (.int .i64 (es.length:Int))))
   |_=>none
  |[d]=>match dO d with
   |some a=>(pv P (Builtin.len_ tys 0 #[a])).map ofV
   |none=>none
  |_=>none
 | .call {callee:=.builtin b,args:=args,argTypes:=tys} =>
  if b=.min\/b=.max then match (args.toList.map (evA sl)).mapM dO with
   |some vs=>(match b with
    | .min=>(pv P (Builtin.min_ tys 0 vs.toArray)).map ofV
    |_=>(pv P (Builtin.max_ tys 0 vs.toArray)).map ofV)
   |none=>none
  else none
 |_=>none
def opH (P:Program)(sl:Nat->D)(H:Nat->Ob)(id:Nat)(op:Op):Option (D×(Nat->Ob)) :=
 match op with
 | .alloc t=>match aJ P t,H id with
  |some cs,.fresh=>some (.pt id 0 0 0,upd H id (.box cs))
  |_,_=>none
 | .box _ x=>match bY (evA sl x),H id with
  |some cs,.fresh=>if cs.all D.one then some (.pt id 0 0 0,upd H id (.box cs))else none
  |_,_=>none
 | .load t a=>match pM P t with
  |some true=>match iE P t with
   |some n=>(aW H (evA sl a) n).map λcs=>(.agg cs,H)
   |none=>none
  |some false=>((aW H (evA sl a) 1).bind ku).map λd=>(d,H)
  |none=>none
 | .store t a x=>match bY (evA sl x),iE P t with
  |some new,some n=>if new.length=n/\new.all D.one then
    match evA sl a with
    | .pt o sz i c=>match H o with
     | .box cs=>if i=0/\c+n<=cs.length then some (.un,upd H o (.box (cs.take c++new++cs.drop (c+n))))else none
     | .arr sz' es=>match es[i]?,new.mapM (eu H)with
      |some e,some xs=>if sz=sz'/\c+n<=e.length/\¬(new.flatMap D.ids1).contains o then
        some (.un,upd (frz (new.flatMap D.ids1) H) o (.arr sz (es.set i (e.take c++xs++e.drop (c+n)))))else none
      |_,_=>none
     | .tab sz' es=>match es[i]? with
      |some e=>if sz=sz'/\c+n<=e.length then some (D.un,upd H o (.tab sz (es.set i (e.take c++new++e.drop (c+n)))))else none
      |none=>none
     |_=>none
    |_=>none
   else none
  |_,_=>none
 | .convert src dst x=>match aG P dst,aG P src with
  |some (.slice e),some .string=>match aG P e,dO (evA sl x)with
   |some (.int .u8),some (.string s)=>if s.size<=140737488355328 then some (.i (Wm s),H)else none
   |_,_=>none
  |some .string,some (.slice e)=>match aG P e,aO H (evA sl x)with
   |some (.int .u8),some es=>(es.mapM nK).map λbs=>(.i (.s (.string ⟨bs.toArray⟩)),H)
   |_,_=>none
  |some (.slice e),some (.slice _)=>if src=dst then match aG P e,evA sl x with
   |some (.int .u8),.os o 1 off (len+1)=>match H o with
    | .arr 1 _=>(aO H (.os o 1 off (len+1))).map λes=>(.i (.sl es),frz [o] H)
    |_=>none
   |_,_=>none
   else none
  |_,_=>none
 | .makeSlice t l c=>match aG P t,dO (evA sl l),dO (evA sl c),H id with
  |some (.slice e),some (.int .i64 l),some (.int .i64 c),.fresh=>match iE P e,aJ P e,iy P e with
   |some (s+1),some z,some by_=>if 0<=l/\l<=c/\c<140737488355328/\c*by_<=140737488355328/\z.length=s+1 then
     match z.mapM (eu H)with
     |some xs=>some (.os id (s+1) 0 l.toNat,upd H id (.arr (s+1) (List.replicate l.toNat xs)))
     |none=>none
    else none
   |_,_,_=>none
  |_,_,_,_=>none
 | .buildSlice t len parts=>match aG P t,H id with
  |some (.slice e),.fresh=>match iE P e,aJ P e,parts.toList.mapM (λp=>(bY (evA sl p.2)).map λcs=>(p.1,cs))with
   |some (s+1),some z,some ps=>if len*(s+1)<=16777216/\z.length=s+1/\ps.map (·.1)=List.range len/\ps.all (λp=>p.2.length=s+1/\p.2.all D.one)then
     match ps.mapM (λp=>p.2.mapM (eu H))with
     |some es=>some (.os id (s+1) 0 len,upd (frz (ps.flatMap λp=>p.2.flatMap D.ids1) H) id (.arr (s+1) es))
     |none=>none
    else none
   |_,_,_=>none
  |_,_=>none
 | .call {callee:=.builtin .append,args:=args,argTypes:=tys}=>match args.toList.map (evA sl),tys.toList with
  |[s,x],[t,tx]=>match aG P t,H id with
   |some (.slice e),.fresh=>match iE P e,iy P e,(jo P e).map (·.cells.size)with
    |some (n+1),some by_,some zn=>if zn=n+1 then
      match (match aG P tx,dO x with
       |some .string,some (.string str)=>if n=0 then some (str.data.toList.map aH)else none
       |some (.slice _),_=>aO H x
       |_,_=>none)with
      |some new=>match s with
       | .i (.s (.slice none 0 0))=>if uni (n+1) new/\new.length*by_<=140737488355328/\new.length<=140737488355328 then some (.os id (n+1) 0 new.length,upd H id (.arr (n+1) new))else none
       | .os o sz 0 len=>match H o with
        | .arr sz' es=>if sz=n+1/\sz'=n+1/\es.length=len/\uni (n+1) new/\(len+new.length)*by_<=140737488355328/\len+new.length<=140737488355328 then
          some (.os id (n+1) 0 (len+new.length),upd (upd H o .dead) id (.arr (n+1) (es++new)))else none
        |_=>none
       |_=>none
      |none=>none
     else none
    |_,_,_=>none
   |_,_=>none
  |_,_=>none
 |_=>none
def RS (d:Nat):Option (Option Value)->Option Nat
 |none=>some d
 |some (some (.int _ l))=>if 0<=l then some l.toNat else none
 |_=>none
def over (es:List (List I))(off:Nat)(E:List (List I)):List (List I):=es.take off++E++es.drop (off+E.length)
def slX (P:Program)(t:TypeId)(d:D)(lo hi mx:Option (Option Value)):Option D :=
 match aG P t with
 |some (.slice e)=>match iE P e with
  |some s=>match d with
   | .oc o sz off len cap=>match RS 0 lo,RS len hi,RS cap mx with
    |some l,some h,some m=>if s=sz/\l<=h/\h<=m/\m<=cap/\(mx=none\/hi≠none)then some (.oc o sz (off+l) (h-l) (m-l))else none
    |_,_,_=>none
   | .os o sz off len=>match RS 0 lo,hi,mx with
    |some l,some (some (.int _ h)),some (some (.int _ m))=>if s=sz/\0<=h/\l<=h.toNat/\h<=m/\m<=len then some (.os o sz (off+l) (h.toNat-l))else none
    |_,_,_=>none
   | .i (.sl _)=>match RS 0 lo,hi,mx with
    |some 0,some (some (.int _ 0)),some (some (.int _ 0))=>some .z
    |_,_,_=>none
   |_=>none
  |none=>none
 |_=>none
def Ua:D->Option Nat
 | .i (.sl es)=>some es.length
 | .i (.s v)=>if KF v then some 0 else none
 | .os _ _ _ len=>some len
 | .oc _ _ _ len _=>some len
 |_=>none
def Bz (H:Nat->Ob)(n:Nat):D->Option (List (List I))
 | .i (.sl es)=>if n<=es.length then some (es.take n)else none
 | .i (.s v)=>if KF v/\n=0 then some []else none
 | .os o sz off len=>match H o with
  | .arr sz' es | .fz sz' es=>if sz=sz'/\n<=len/\off+n<=es.length then some ((es.drop off).take n)else none
  |_=>none
 | .oc o sz off len _=>match H o with
  | .arr sz' es | .fz sz' es=>if sz=sz'/\n<=len/\off+n<=es.length then some ((es.drop off).take n)else none
  |_=>none
 |_=>none
def UH:D->Option (Nat×Nat×Nat×Nat)
 | .os o sz off len=>some (o,sz,off,len)
 | .oc o sz off len _=>some (o,sz,off,len)
 |_=>none
def cpX (P:Program)(t:TypeId)(d s:D)(H:Nat->Ob):Option (D×(Nat->Ob)) :=
 match aG P t with
 |some (.slice e)=>match iE P e,UH d,Ua s with
  |some (n+1),some (o,sz,off,len),some ls=>match Bz H (min ls len) s,H o with
   |some E,.arr sz' es=>if sz=n+1/\sz'=n+1/\uni (n+1) E/\off<=es.length then some (.i (.s (.int .i64 (min ls len:Nat))),upd H o (.arr (n+1) (over es off E)))else none
   |_,_=>none
  |_,_,_=>none
 |_=>none
def clX (P:Program)(t:TypeId)(d:D)(H:Nat->Ob):Option (D×(Nat->Ob)) :=
 match aG P t with
 |some (.slice e)=>match iE P e,UH d,aJ P e with
  |some (n+1),some (o,sz,off,len),some z=>match z.mapM (eu H),H o with
   |some xs,.arr sz' es=>if sz=n+1/\sz'=n+1/\z.length=n+1/\off<=es.length then some (.un,upd H o (.arr (n+1) (over es off (List.replicate len xs))))else none
   |_,_=>none
  |_,_,_=>none
 |_=>none
def apX (P:Program)(t tx:TypeId)(s x:D)(H:Nat->Ob)(id:Nat):Option (D×(Nat->Ob)) :=
 match aG P t,H id with
 |some (.slice e),.fresh=>match iE P e,iy P e,aJ P e with
  |some (n+1),some by_,some z=>if z.length=n+1 then match s with
   | .z=>match aG P tx,aO H x with
    |some (.slice _),some new=>if uni (n+1) new/\new.length*by_<=140737488355328/\new.length<=140737488355328 then some (.os id (n+1) 0 new.length,upd H id (.arr (n+1) new))else none
    |_,_=>none
   | .oc o sz off len cap=>match aG P tx,H o with
    |some (.int _),.arr sz' es=>match dO x,z.mapM (eu H)with
     |some (.int .i64 k),some xs=>if sz=n+1/\sz'=n+1/\0<=k/\off+len<=es.length/\cap<len+k.toNat/\(len+k.toNat)*by_<=140737488355328/\len+k.toNat<=140737488355328 then
       some (.os id (n+1) 0 (len+k.toNat),upd H id (.arr (n+1) ((es.drop off).take len++List.replicate k.toNat xs)))else none
     |_,_=>none
    |some (.slice _),.arr sz' es=>match Ua x with
     |some ls=>match Bz H ls x with
      |some new=>if sz=n+1/\sz'=n+1/\uni (n+1) new/\off+len<=es.length/\len+ls<=cap then some (.oc o sz off (len+ls) cap,upd H o (.arr (n+1) (over es (off+len) new)))else none
      |none=>none
     |none=>none
    |_,_=>none
   |_=>none
   else none
  |_,_,_=>none
 |_,_=>none
def ZR (P:Program)(t:TypeId):D->Option D
 | .oc _ _ _ len _=>match aG P t with
  |some (.slice _)=>some (.i (.s (.int .i64 (len:Int))))
  |_=>none
 | .bs _ _ len=>match aG P t with
  |some (.slice _)=>some (.i (.s (.int .i64 (len:Int))))
  |_=>none
 |_=>none
def afK (P:Program)(t:TypeId):D->Option D
 | .oc _ _ _ _ cap=>match aG P t with
  |some (.slice _)=>some (.i (.s (.int .i64 (cap:Int))))
  |_=>none
 |_=>none
def two {α:Type}(l:List D)(k:List TypeId)(f:D->D->TypeId->TypeId->Option α):Option α :=
 match l,k with
 |[a,b],[t,u]=>f a b t u
 |_,_=>none
def one {α:Type}(l:List D)(k:List TypeId)(f:D->TypeId->Option α):Option α :=
 match l,k with
 |[a],[t]=>f a t
 |_,_=>none
def rgX (P:Program)(t:TypeId)(c:Option Value)(H:Nat->Ob)(x:Ob)(id:Nat):Option (D×(Nat->Ob)) :=
 match aG P t,c,x with
 |some .string,some (.string s),.fresh=>some (.pt id 0 0 0,upd H id (.it s 0))
 |_,_,_=>none
def nxX (d:D)(H:Nat->Ob):Option (D×(Nat->Ob)) :=
 match d with
 | .pt o sz 0 0=>match H o with
  | .it s pos=>if pos<s.size then some (.tup [.i (.s (.bool true)),.i (.s (.int .i64 (pos:Int))),.i (.s (.int .i32 ((Utf8.decode s pos).1:Int)))],upd H o (.it s (pos+(Utf8.decode s pos).2)))
   else some (.tup [.i (.s (.bool false))],H)
  |_=>none
 |_=>none
def bsX (P:Program)(t:TypeId)(len:Nat)(ps:Option (List (Nat×List D)))(H:Nat->Ob)(x:Ob)(id:Nat):Option (D×(Nat->Ob)) :=
 match aG P t,x with
 |some (.slice e),.fresh=>match iE P e,jo P e,ps with
  |some 1,some zv,some ps=>if zv.cells.size=1/\len<=16777216/\ps.map (·.1)=List.range len/\ps.all (λp=>p.2.length=1/\p.2.all D.one)then some (.bs id 0 len,upd H id (.box (ps.flatMap (·.2))))else none
  |_,_,_=>none
 |_,_=>none
def ixX (P:Program)(t:TypeId)(d:D)(c:Option Value):Option D :=
 match aG P t with
 |some (.slice e)=>match iE P e,d,c with
  |some 1,.bs o off len,some (.int _ n)=>if 0<=n/\n<len then some (.pt o 0 0 (off+n.toNat))else none
  |_,_,_=>none
 |_=>none
def luM {β:Type}(kind:TypeDesc)(key:Value):List (Value×β)->Option (Option β)
 |[]=>some none
 |(k,v)::t=>match Instr.sameNow kind key k with
  |some true=>some (some v)
  |some false=>luM kind key t
  |none=>none
def upM {β:Type}(kind:TypeDesc)(key:Value)(v:β):List (Value×β)->List (Value×β)
 |[]=>[(key,v)]
 |(k,w)::t=>match Instr.sameNow kind key k with
  |some true=>(key,v)::t
  |_=>(k,w)::upM kind key v t
def wE:TypeDesc->Bool
 | .int _ | .string=>true
 |_=>false
def R_:List D->Option (List I)
 |[]=>some []
 | .i x::t=>(R_ t).map (x :: ·)
 |_::_=>none
def Oj:D->Option MV
 | .i x=>some (false,[x])
 | .agg cs=>(R_ cs).map λl=>(true,l)
 |_=>none
def mkU (u:Option TypeDesc)(r:Option (Option Value))(x:Ob)(H:Nat->Ob)(id:Nat):Option (D×(Nat->Ob)) :=
 match u,r,x with
 |some (.map _ _),some none,.fresh=>some (.mp id,upd H id (.mp []))
 |some (.map _ _),some (some (.int _ _)),.fresh=>some (.mp id,upd H id (.mp []))
 |_,_,_=>none
def mkX (P:Program)(t:TypeId)(r:Option (Option Value))(x:Ob)(H:Nat->Ob)(id:Nat):Option (D×(Nat->Ob)):=mkU (aG P t) r x H id
def inW (r:Option (Option MV))(es:List (Value×MV))(o:Nat)(H:Nat->Ob):Option (D×(Nat->Ob)):=match r with
 |some _=>some (.un,upd H o (.mp es))
 |none=>none
def inV (u:Option TypeDesc)(x:Ob)(o:Nat)(key:Value)(mv:MV)(H:Nat->Ob):Option (D×(Nat->Ob)):=match u,x with
 |some kind,.mp es=>if wE kind=true then inW (luM kind key es) (upM kind key mv es) o H else none
 |_,_=>none
def inU (P:Program)(u:Option TypeDesc)(d:D)(k:Option Value)(v:Option MV)(H:Nat->Ob):Option (D×(Nat->Ob)) :=
 match u,d,k,v with
 |some (.map kt _),.mp o,some key,some mv=>inV (aG P kt) (H o) o key mv H
 |_,_,_,_=>none
def inX (P:Program)(t:TypeId)(d:D)(k:Option Value)(v:Option MV)(H:Nat->Ob):Option (D×(Nat->Ob)):=inU P (aG P t) d k v H
def luT (c:Bool)(d:D)(b:Bool):D:=if c=true then .tup [d,.i (.s (.bool b))]else d
def luW (c:Bool)(z:Option Value):Option (Option MV)->Option D
 |some (some v)=>some (luT c (mvD v) true)
 |some none=>z.map λz=>luT c (ofV z) false
 |none=>none
def luV (u:Option TypeDesc)(x:Ob)(key:Value)(z:Option Value)(c:Bool):Option D:=match u,x with
 |some kind,.mp es=>if wE kind=true then luW c z (luM kind key es)else none
 |_,_=>none
def luU (P:Program)(u:Option TypeDesc)(d:D)(k:Option Value)(c:Bool)(H:Nat->Ob):Option D :=
 match u,d,k with
 |some (.map kt et),.mp o,some key=>luV (aG P kt) (H o) key (jo P et) c
 |_,_,_=>none
def luX (P:Program)(t:TypeId)(d:D)(k:Option Value)(c:Bool)(H:Nat->Ob):Option D:=luU P (aG P t) d k c H
def opX (P:Program)(sl:Nat->D)(H:Nat->Ob)(id:Nat)(op:Op):Option (D×(Nat->Ob)) :=
 match op with
 | .range t x=>rgX P t (dO (evA sl x)) H (H id) id
 | .next x true=>nxX (evA sl x) H
 | .makeMap t r=>mkX P t (ru sl r) (H id) H id
 | .insert t m k x=>inX P t (evA sl m) (dO (evA sl k)) (Oj (evA sl x)) H
 | .mapUpdate t m k x=>inX P t (evA sl m) (dO (evA sl k)) (Oj (evA sl x)) H
 | .lookup t m k c=>(luX P t (evA sl m) (dO (evA sl k)) c H).map λd=>(d,H)
 | .buildSlice t len parts=>bsX P t len (parts.toList.mapM λp=>(bY (evA sl p.2)).map λcs=>(p.1,cs)) H (H id) id
 | .indexAddr t x i=>(ixX P t (evA sl x) (dO (evA sl i))).map λd=>(d,H)
 | .slice t x lo hi mx=>(slX P t (evA sl x) (lo.map λx=>dO (evA sl x)) (hi.map λx=>dO (evA sl x)) (mx.map λx=>dO (evA sl x))).map λd=>(d,H)
 | .call {callee:=.builtin .len,args:=args,argTypes:=tys}=>one (args.toList.map (evA sl)) tys.toList λd t=>(ZR P t d).map λd=>(d,H)
 | .call {callee:=.builtin .cap,args:=args,argTypes:=tys}=>one (args.toList.map (evA sl)) tys.toList λd t=>(afK P t d).map λd=>(d,H)
 | .call {callee:=.builtin .append,args:=args,argTypes:=tys}=>two (args.toList.map (evA sl)) tys.toList λs x t tx=>apX P t tx s x H id
 | .call {callee:=.builtin .copy,args:=args,argTypes:=tys}=>two (args.toList.map (evA sl)) tys.toList λd s t _=>cpX P t d s H
 | .call {callee:=.builtin .clear,args:=args,argTypes:=tys}=>one (args.toList.map (evA sl)) tys.toList λd t=>clX P t d H
 |_=>none
def orX {α:Type}:Option α->Option α->Option α
 |some r,_=>some r
 |none,x=>x
@[congr] theorem acR {α:Type}{a a' b:Option α}(h:a=a'):orX a b=orX a' b:=by rw[h]
def opY (P:Program)(sl:Nat->D)(H:Nat->Ob)(id:Nat)(op:Op):Option (D×(Nat->Ob)):=orX (opH P sl H id op) (opX P sl H id op)
def opA (P:Program)(sl:Nat->D)(H:Nat->Ob)(id:Nat)(op:Op):Option (D×(Nat->Ob)) :=
 match opQ P sl H op with
 |some d=>some (d,H)
 |none=>opY P sl H id op
def Ran (P:Program)(w0:Ctx)(T:Nat->Prop)(K:Ctx)(s:Sem Next)(d:D)(H':Nat->Ob):Prop :=
 ∃v K',(s.run P K.w=.ok (.value v) K'.w\/(s.run P K.w=.ok .skip K'.w/\v=undef))/\Ext K K'/\HR w0 T K' H'/\VD K' v d
section
variable {P:Program}{w0:Ctx}{T:Nat->Prop}{K:Ctx}{H:Nat->Ob}{sl:Nat->D}{ρ:Operand->Value}
def Qv (P:Program)(K:Ctx)(s:Sem Next)(d:D):Prop:=∃v,s.run P K.w=.ok (.value v) K.w/\VD K v d
theorem Qv.of {s:Sem Value}{v:Value}{d:D}(h:s.run P K.w=.ok v K.w)(hd:VD K v d):Qv P K (do pure (.value (<- s))) d:=⟨v,by simp[h],hd⟩
theorem Qv.pv {s:Sem Value}{d:D}(h:(Abs.pv P s).map ofV=some d):Qv P K (do pure (.value (<- s))) d:=by simp only[Option.map_eq_some_iff]at h;obtain⟨v,h,rfl⟩:=h;exact .of (tu h K.w) (NI v)
theorem und_run {t:TypeId}{d:TypeDesc}(h:aG P t=some d)(w:World):(underlying t).run P w=.ok d w:=tu h w
theorem fD {t:TypeId}{n:Nat}(h:iE P t=some n)(w:World):(sizeOf t).run P w=.ok n w:=tu h w
theorem A_ {t:TypeId}{b:Bool}(h:pM P t=some b)(w:World):(isAgg t).run P w=.ok b w:=tu h w
theorem yM {t:TypeId}{v:Value}(h:jo P t=some v)(w:World):(zeroValue t).run P w=.ok v w:=tu h w
theorem gD {vs:Array Value}{j:Nat}(h:j<vs.size):vs.getD j undef=vs[j]:=by simp[Array.getD,h]
theorem part_ok {vs:Array Value}{cs:List D}{t off:Nat}{d:D}(hl:vs.size=cs.length)(hv:∀(j:Nat)(d:D),cs[j]?=some d->VD K (vs.getD j undef) d)(h:qD P t cs off=some d)(w:World):
  ∃v,(part t vs off).run P w=.ok v w/\VD K v d:=by
 simp only[qD]at h;split at h
 ·rename_i ha;split at h
  ·rename_i n hn;split at h
   ·rename_i hle;simp at h;subst h;refine⟨.agg (vs.extract off (off+n)),by simp[part,A_ ha,fD hn],.agg _ _ (by simp;omega) λj d hd=>?_⟩;rw[List.getElem?_take]at hd;split at hd
    ·rw[List.getElem?_drop]at hd;have:=hv _ _ hd;have h1:off+j<vs.size:=by have:=(List.getElem?_eq_some_iff.1 hd).1;omega
     rw[gD h1]at this;rw[gD (by simp;omega)];simpa using this
    ·cases hd
   ·cases h
  ·cases h
 ·rename_i ha;have hlt:off<vs.size:=by have:=(List.getElem?_eq_some_iff.1 h).1;omega
  have:=hv _ _ h;rw[gD hlt]at this;exact⟨vs[off],by simp[part,A_ ha,hlt],this⟩
 ·cases h
theorem dcells_ok {v:Value}{d:D}{cs:List D}(hv:VD K v d)(h:bY d=some cs):v.cells.size=cs.length/\∀(j:Nat)(d:D),cs[j]?=some d->VD K (v.cells.getD j undef) d:=by
 have one:∀{v:Value}{d:D},VD K v d->v.oneCell'=true->v.cells.size=[d].length/\∀(j:Nat) (d':D),[d][j]?=some d'->VD K (v.cells.getD j undef) d':=by
  intro v d hv h1;have:v.cells=#[v]:=by cases v<;>first|rfl|(simp[Value.oneCell']at h1)
  rw[this];refine⟨rfl,λj d' hd=>?_⟩;cases j with
  |zero=>simp at hd;subst hd;exact hv
  |succ j=>simp at hd
 cases hv with
 |agg vs cs' hl hv=>simp[bY]at h;subst h;exact⟨hl,hv⟩
 |i hx=>simp[bY]at h;subst h;exact one (.i hx) hx.one
 |os o sz off len b off' cap h1 h2 h3 h4 h5=>simp[bY]at h;subst h;exact one (.os o sz off len b off' cap h1 h2 h3 h4 h5) rfl
 |os0 o sz a=>simp[bY]at h;subst h;exact one (.os0 o sz a) rfl
 |oc o sz off len cap b off' h1 h2 h3 h4 h5=>simp[bY]at h;subst h;exact one (.oc o sz off len cap b off' h1 h2 h3 h4 h5) rfl
 |z a=>simp[bY]at h;subst h;exact one (.z a) rfl
 |bs o off len b cap h1=>simp[bY]at h;subst h;exact one (.bs o off len b cap h1) rfl
 |pt o sz i c b h1=>simp[bY]at h;subst h;exact one (.pt o sz i c b h1) rfl
 |rp b off c cs' f h1 h2 h3=>simp[bY]at h;subst h;exact one (.rp b off c cs' f h1 h2 h3) rfl
 |fn f vs cs' hl hv=>simp[bY]at h;subst h;exact one (.fn f vs cs' hl hv) rfl
 |mp o b h1=>simp[bY]at h;subst h;exact one (.mp o b h1) rfl
 |_=>simp[bY]at h
def RC (K:Ctx)(vs:Array Value)(cs:List D):Prop:=vs.size=cs.length/\∀(j:Nat)(d:D),cs[j]?=some d->VD K (vs.getD j undef) d
theorem foldl_set (off:Nat):∀(vs:List Value)(k:Nat)(a:Array Value),(∀m,((vs.zipIdx k).foldl (λcs (p:Value×Nat)=>cs.setIfInBounds (off+p.2) p.1) a)[m]?=if off+k<=m/\m<off+k+vs.length/\m<a.size then vs[m-(off+k)]? else a[m]?) /\
  ((vs.zipIdx k).foldl (λcs (p:Value×Nat)=>cs.setIfInBounds (off+p.2) p.1) a).size=a.size
 |[],k,a=>by simp;intro m h1 h2;omega
 |v::vs,k,a=>by
  obtain⟨h1,h2⟩:=foldl_set off vs (k+1) (a.setIfInBounds (off+k) v);simp only[List.zipIdx_cons,List.foldl_cons];refine⟨λm=>?_,by rw[h2];simp⟩;rw[h1 m];simp only[Array.size_setIfInBounds,List.length_cons,Array.getElem?_setIfInBounds];by_cases hm:off+k=m
  ·subst hm;by_cases hs:off+k<a.size
   ·simp[hs];intro h;omega
   ·simp[hs]
  ·by_cases hin:off+(k+1)<=m/\m<off+(k+1)+vs.length/\m<a.size
   ·rw[if_pos hin,if_pos (by omega)];rw[show m-(off+k)=(m-(off+(k+1)))+1 by omega,List.getElem?_cons_succ]
   ·rw[if_neg hin,if_neg hm,if_neg (by omega)]
theorem fill_ok (place:Nat->Option (Nat×Nat)):∀(ps:List (Nat×Value))(qs:List (Nat×List D))(vs:Array Value)(cs r:List D),RC K vs cs ->
  ps.length=qs.length->(∀(j:Nat) (p:Nat×Value) (q:Nat×List D),ps[j]?=some p->qs[j]?=some q->p.1=q.1/\RC K p.2.cells q.2)->oH place cs qs=some r->∃vs',Instr.fill place vs ps=some vs'/\RC K vs' r
 |[],qs,vs,cs,r,h0,hl,hp,h=>by have:qs=[]:=List.eq_nil_of_length_eq_zero (by simpa using hl.symm);subst this;simp[oH]at h;subst h;exact⟨vs,rfl,h0⟩
 |(i,v)::ps,[],vs,cs,r,h0,hl,hp,h=>by simp at hl
 |(i,v)::ps,(i',c)::qs,vs,cs,r,h0,hl,hp,h=>by
  obtain⟨e,hc⟩:=hp 0 (i,v) (i',c) (by simp) (by simp);simp only at e hc;subst e;simp only[oH]at h;cases hpl:place i with
  |none=>simp[hpl]at h
  |some q =>
   obtain⟨off,size⟩:=q;simp only[hpl]at h;split at h
   ·rename_i hcond;obtain⟨h1,h2⟩:=hcond;have hsz:v.cells.size=size:=by rw[hc.1,h1]
    have hbound:¬(v.cells.size≠size\/off+v.cells.size>vs.size):=by rw[hc.1,h0.1];omega
    obtain⟨g1,g2⟩:=foldl_set off v.cells.toList 0 vs;have hfold:v.cells.zipIdx.foldl (λcs (p:Value×Nat)=>cs.setIfInBounds (off+p.2) p.1) vs=(v.cells.toList.zipIdx 0).foldl (λcs (p:Value×Nat)=>cs.setIfInBounds (off+p.2) p.1) vs:=by rw[<- Array.foldl_toList];simp
    have hnew:RC K (v.cells.zipIdx.foldl (λcs (p:Value×Nat)=>cs.setIfInBounds (off+p.2) p.1) vs) (cs.take off++c++cs.drop (off+c.length)):=by
     rw[hfold];refine⟨by rw[g2,h0.1];simp;omega,λj d hd=>?_⟩;have hget:∀m,m<vs.size->((v.cells.toList.zipIdx 0).foldl (λcs (p:Value×Nat)=>cs.setIfInBounds (off+p.2) p.1) vs).getD m undef=if off<=m/\m<off+c.length then v.cells.getD (m-off) undef else vs.getD m undef:=by
      intro m hm;have:=g1 m;simp only[Nat.add_zero,Array.length_toList,hc.1,hm,and_true]at this;rw[Array.getD_eq_getD_getElem?,this];by_cases hin:off<=m/\m<off+c.length
      ·rw[if_pos hin,if_pos hin,Array.getD_eq_getD_getElem?];simp
      ·rw[if_neg hin,if_neg hin,Array.getD_eq_getD_getElem?]
     have hjlt:j<vs.size:=by have:=(List.getElem?_eq_some_iff.1 hd).1;simp at this;have:=h0.1;omega
     rw[hget j hjlt];by_cases hin:off<=j/\j<off+c.length
     ·rw[if_pos hin];rw[List.append_assoc,List.getElem?_append_right (by simp;omega)]at hd;rw[List.getElem?_append_left (by simp;omega)]at hd;have:min off cs.length=off:=by omega
      simp only[List.length_take,this]at hd;exact hc.2 _ _ hd
     ·rw[if_neg hin];refine h0.2 j d ?_;by_cases hlo:j<off
      ·rw[List.append_assoc,List.getElem?_append_left (by simp;omega),List.getElem?_take,if_pos hlo]at hd;exact hd
      ·rw[List.getElem?_append_right (by simp;omega),List.getElem?_drop]at hd;rw[<- hd];congr 1;simp;omega
    obtain⟨vs',k1,k2⟩:=fill_ok place ps qs _ _ r hnew (by simpa using hl) (λj p q hp' hq=>hp (j+1) p q (by simpa using hp') (by simpa using hq)) h;refine⟨vs',?_,k2⟩;simp only[Instr.fill,hpl];rw[if_neg (by simpa using hbound)];exact k1
   ·cases h
end
section
variable {P:Program}{K:Ctx}{H:Nat->Ob}{sl:Nat->D}{ρ:Operand->Value}
theorem slice_os {s o off len l h:Nat}{lo hi:Option Value}{v:Value}{t e:TypeId}(hu:aG P t=some (.slice e))(hs:iE P e=some s)(hv:VD K v (.os o s off len))
  (hlo:(lo=none/\l=0)\/∃k,lo=some (.int k (l:Int))) (hhi:(hi=none/\h=len)\/∃k,hi=some (.int k (h:Int))) (h1:l<=h) (h2:h<=len):
  ∃v',(Instr.sliceAt t v lo hi none).run P K.w=.ok v' K.w/\VD K v' (.os o s (off+l) (h-l)):=by
 have bounds:∀cap,len<=cap->(Instr.sliceBounds true len cap lo hi none).run P K.w=.ok (l,h,cap) K.w:=by
  intro cap hcap
  unfold Instr.sliceBounds
  rcases hlo with⟨rfl,rfl⟩|⟨k,rfl⟩<;>rcases hhi with⟨rfl,rfl⟩|⟨k',rfl⟩<;>simp[Instr.sliceBound,asIntOf]<;>(try rw[if_pos (by omega)])<;>(try simp)<;>(try omega)
 cases hv with
 |os _ _ _ _ b off' cap q1 q2 q3 q4 q5 =>
  refine⟨_,by simp[Instr.sliceAt,Instr.slice,und_run hu,fD hs,bounds cap q3];rfl,?_⟩
  by_cases hc:cap=l
  ·subst hc
   simp only[if_pos]
   exact .os o s _ _ b off' _ q1 q2 (by omega) (.inr (by omega)) (by have:(cap-cap)*s=0:=by simp
                                                                     omega)
  ·rw[if_neg hc]
   have hadd:(⟨b,off',none⟩:Addr).add (l*s)=⟨b,off'+l*s,none⟩:=by rw[Addr.add_mid]
   simp only[Option.map_some,hadd]
   refine .os o s _ _ b _ _ q1 q2 (by omega) ?_ ?_
   ·rcases q4 with q4|q4
    ·exact .inl (by rw[q4,Nat.add_mul])
    ·omega
   ·have:l*s+(cap-l)*s=cap*s:=by rw[<- Nat.add_mul];congr 1;omega
    omega
 |os0 _ _ a =>
  have:h=0/\l=0:=by omega
  obtain⟨rfl,rfl⟩:=this
  refine⟨.slice a 0 0,by simp[Instr.sliceAt,Instr.slice,und_run hu,fD hs,bounds 0 (Nat.le_refl _)],?_⟩
  have hd:VD K (.slice a 0 0) (.os o s 0 0):=.os0 o s a
  simpa using hd
theorem slice_sl {s l h:Nat}{es:List (List I)}{lo hi:Option Value}{v:Value}{t e:TypeId}(hu:aG P t=some (.slice e))(hs:iE P e=some s)(hv:VI K.w K.S v (.sl es))(hsz:∀x∈es,x.length=s)
  (hlo:(lo=none/\l=0)\/∃k,lo=some (.int k (l:Int))) (hhi:(hi=none/\h=es.length)\/∃k,hi=some (.int k (h:Int))) (h1:l<=h) (h2:h<=es.length):
  ∃v',(Instr.sliceAt t v lo hi none).run P K.w=.ok v' K.w/\VI K.w K.S v' (.sl ((es.take h).drop l)):=by
 have bounds:∀len cap,len=es.length->len<=cap->(Instr.sliceBounds true len cap lo hi none).run P K.w=.ok (l,h,cap) K.w:=by intro len cap hlen hcap;subst hlen;unfold Instr.sliceBounds;rcases hlo with⟨rfl,rfl⟩|⟨k,rfl⟩<;>rcases hhi with⟨rfl,rfl⟩|⟨k',rfl⟩<;>simp[Instr.sliceBound,asIntOf]<;>(try rw[if_pos (by omega)])<;>(try simp)<;>(try omega)
 cases hv with
 |e a cap =>
  simp at h2;subst h2;have:l=0:=by omega
  subst this;refine⟨_,by simp[Instr.sliceAt,Instr.slice,und_run hu,fD hs,bounds 0 cap rfl (Nat.zero_le _)];rfl,?_⟩;simp only[Nat.sub_self,List.take_nil,List.drop_nil];exact .e _ _
 |sl b off cap sz _ f q1 q2 q3 q4 q5 q6 =>
  refine⟨_,by simp[Instr.sliceAt,Instr.slice,und_run hu,fD hs,bounds _ cap rfl q2];rfl,?_⟩;have hlen:((es.take h).drop l).length=h-l:=by simp;omega
  by_cases hz:h-l=0
  ·have:(es.take h).drop l=[]:=List.eq_nil_of_length_eq_zero (by omega);rw[this,hz];exact .e _ _
  have hss:s=sz:=by
   cases es with
   |nil=>simp at h2;omega
   |cons x t=>rw[<- hsz x (by simp),q4 x (by simp)]
  subst hss;rw[if_neg (by omega)];have hadd:(⟨b,off,none⟩:Addr).add (l*s)=⟨b,off+l*s,none⟩:=by rw[Addr.add_mid]
  simp only[Option.map_some,hadd];rw[<- hlen];have hflat:∀(j:Nat) (x:I),((es.take h).drop l).flatten[j]?=some x->es.flatten[l*s+j]?=some x:=by
   intro j x hx;rw[iW (sz:=s) (λe he=>q4 e (List.mem_of_mem_take he)),fV q4,List.getElem?_drop,List.getElem?_take]at hx;split at hx
   ·exact hx
   ·cases hx
  exact .sl b _ _ s _ (λj=>f (l*s+j)) q1 (by omega) q3 (λe he=>q4 e (List.mem_of_mem_take (List.mem_of_mem_drop he)))
   (λj x hx=>by rw[Nat.add_assoc];exact q5 _ _ (hflat j x hx)) (λj x hx=>q6 _ _ (hflat j x hx))
theorem opt_slice {lo:Option Operand}(hρ:∀x,VD K (ρ x) (evA sl x)){k:IntKind}{l:Int}(h:(lo.map λx=>dO (evA sl x))=some (some (.int k l)))(h0:0<=l):∃k',lo.map ρ=some (.int k' (l.toNat:Int)):=by
 cases lo with
 |none=>simp at h
 |some x =>simp at h;exact⟨k,by simp[conc_ok (hρ x) h,Int.toNat_of_nonneg h0]⟩
theorem opt_none {lo:Option Operand}(h:(lo.map λx=>dO (evA sl x))=none):lo.map ρ=none:=by cases lo<;>simp_all
theorem VD.inv_i {v:Value}{x:I}(h:VD K v (.i x)):VI K.w K.S v x:=by cases h;assumption
theorem fldOf_some {t:TypeId}{f off:Nat}{ty:TypeId}(h:EZ P t f=some (off,ty)):∃fs fd,aG P t=some (.struct fs)/\fs[f]?=some fd/\fd.offset=off/\fd.type=ty:=by
 simp only[EZ]at h;split at h
 ·rename_i fs hu;split at h
  ·rename_i fd hf;simp at h;exact⟨fs,fd,hu,hf,h.1,h.2⟩
  ·cases h
 ·cases h
theorem isSl_eq {x:Option TypeDesc}(h:abx x=true):∃e,x=some (.slice e):=by
 unfold abx at h;split at h
 ·exact⟨_,rfl⟩
 ·cases h
theorem isNilV_eq {x:Option Value}(h:xW x=true):x=some (.slice none 0 0):=by
 unfold xW at h;split at h
 ·rfl
 ·cases h
theorem longD_ok {v:Value}{d:D}(h:VD K v d)(hl:wC d=true):∃a n c,v=.slice (some a) n c:=by
 cases h with
 |i hx =>
  cases hx with
  |s=>simp[wC]at hl
  |e=>simp[wC]at hl
  |sl=>exact⟨_,_,_,rfl⟩
 |os=>exact⟨_,_,_,rfl⟩
 |os0=>simp[wC]at hl
 |_=>simp[wC]at hl
theorem Zd {t:TypeId}{d:TypeDesc}(h:aG P t=some d)(w:World):(underlying t).run P w=.ok d w:=tu h w
theorem xL {t e:TypeId}(h:aG P t=some (.slice e))(a:Addr)(n c:Nat)(w:World):(Go.Op.equal t (.slice (some a) n c) (.slice none 0 0)).run P w=.ok false w:=by show(Go.Op.equalIn (9999+1) t (.slice (some a) n c) (.slice none 0 0)).run P w=_;unfold Go.Op.equalIn;simp only[Sem.run_bind,Zd h,Result.andThen_ok];rfl
theorem nilEq_ok {op:BinOp}{t:TypeId}{x y:Operand}{v u:Value}{dx dy:D}{d:D}(hx:VD K v dx)(hy:VD K u dy)(h:EC P op t dx (dO dy)=some d):
  ∃r,VD K r d/\∀w,(do eqGuard op t x y v u;Go.binOp op t v u:Sem Value).run P w=.ok r w:=by
 unfold EC at h;split at h
 ·rename_i hc;simp only[Bool.and_eq_true]at hc;obtain⟨⟨h1,h2⟩,h3⟩:=hc;obtain⟨e,h1⟩:=isSl_eq h1;obtain rfl:=conc_ok hy (isNilV_eq h2);obtain⟨a,n,c,rfl⟩:=longD_ok hx h3;split at h
  ·cases h;refine⟨.bool false,.i (.s _ rfl),λw=>?_⟩;have:=xL h1 a n c w;simp[eqGuard,Go.binOp,Sem.run_bind,Sem.run_pure,this,Result.andThen_ok]
  ·cases h;refine⟨.bool true,.i (.s _ rfl),λw=>?_⟩;have:=xL h1 a n c w;simp[eqGuard,Go.binOp,Sem.run_bind,Sem.run_pure,this,Result.andThen_ok]
  ·cases h
 ·cases h
theorem opQ_ok (hρ:∀x,VD K (ρ x) (evA sl x))(o:Oper){d:D}(h:opQ P sl H o.op=some d):Qv P K (execOp ρ o) d:=by
 generalize hop:o.op=op at h;cases op with
 |move x=>simp only[opQ,Option.some.injEq]at h;subst h;exact⟨_,by simp[execOp,hop],hρ x⟩
 |assign x=>simp only[opQ,Option.some.injEq]at h;subst h;exact⟨_,by simp[execOp,hop],hρ x⟩
 |pick c a b =>
  simp only[opQ]at h;split at h
  ·rename_i v hc;simp only[Option.some.injEq]at h;have hv:=conc_ok (hρ c) hc;cases v with
   |true=>simp only[if_true]at h;subst h;exact⟨ρ a,by simp[execOp,hop,hv,asBool],hρ a⟩
   |false=>simp only[Bool.false_eq_true,if_false]at h;subst h;exact⟨ρ b,by simp[execOp,hop,hv,asBool],hρ b⟩
  ·cases h
 |nilCheck x =>
  simp only[opQ]at h;have hx:=hρ x;cases hd:evA sl x<;>rw[hd]at hx<;>simp only[hd,Option.some.injEq,reduceCtorEq]at h;all_goals subst h
  all_goals generalize hv:ρ x=v at hx
  all_goals cases hx
  ·rename_i hμ;exact⟨_,by simp[execOp,hop,hv],.pt _ _ _ _ _ hμ⟩
  ·rename_i h1 h2 h3;exact⟨_,by simp[execOp,hop,hv],.rp _ _ _ _ _ h1 h2 h3⟩
  ·rename_i h1 h2;exact⟨_,by simp[execOp,hop,hv],.fn _ _ _ h1 h2⟩
 |binOp op t x y yt =>
  simp only[opQ]at h;split at h
  ·rename_i a b ha hb;rw[<- conc_ok (hρ x) ha,<- conc_ok (hρ y) hb]at h;have:=Qv.pv (K:=K) h;simpa only[execOp,hop]using this
  ·rename_i hb;obtain⟨r,hr,hrun⟩:=nilEq_ok (x:=x) (y:=y) (hρ x) (hρ y) h;have:=Qv.of (K:=K) (hrun K.w) hr;simpa only[execOp,hop]using this
  ·cases h
 |unOp op t x =>
  simp only[opQ]at h;split at h
  ·rename_i a ha;rw[<- conc_ok (hρ x) ha]at h;have:=Qv.pv (K:=K) h;simpa only[execOp,hop]using this
  ·cases h
 |convert s t x =>
  simp only[opQ]at h;split at h
  ·rename_i a ha;rw[<- conc_ok (hρ x) ha]at h;have:=Qv.pv (K:=K) h;simpa only[execOp,hop]using this
  ·cases h
 |extract x ix =>
  simp only[opQ]at h;have hx:=hρ x;split at h
  ·rename_i ds hd;rw[hd]at hx;generalize hv:ρ x=v at hx;cases hx with
   |tup vs cs hl hc =>
    have hlt:ix<vs.size:=by have:=(List.getElem?_eq_some_iff.1 h).1;omega
    have:=hc ix d h;rw[gD hlt]at this;exact⟨vs[ix],by simp[execOp,hop,hv,Instr.extract,hlt],this⟩
  ·cases h
 |field t x f =>
  simp only[opQ]at h;split at h
  ·rename_i cs off ty hd hf;obtain⟨fs,fd,hu,hfd,rfl,rfl⟩:=fldOf_some hf;have hx:=hρ x;rw[hd]at hx;generalize hv:ρ x=v at hx;cases hx with
   |agg vs cs hl hc =>obtain⟨v,h1,h2⟩:=part_ok hl hc h K.w;exact⟨v,by simp[execOp,hop,hv,Instr.field,und_run hu,hfd,asAgg,h1],h2⟩
  ·cases h
 |index t x ix =>
  simp only[opQ]at h;split at h
  ·rename_i k n hn;have hix:=conc_ok (hρ ix) hn;split at h
   ·rename_i cs len e hd hu;split at h
    ·rename_i s hs;split at h
     ·rename_i hc;have hx:=hρ x;rw[hd]at hx;generalize hv:ρ x=v at hx;cases hx with
      |agg vs cs hl hcc =>obtain⟨v,h1,h2⟩:=part_ok hl hcc h K.w;exact⟨v,by simp[execOp,hop,hv,hix,Instr.index,asIntOf,und_run hu,fD hs,hc,h1],h2⟩
     ·cases h
    ·cases h
   ·rename_i hne;split at h
    ·rename_i a ha;rw[<- conc_ok (hρ x) ha,<- hix]at h;have:=Qv.pv (K:=K) h;simpa only[execOp,hop]using this
    ·cases h
  ·cases h
 |fieldAddr s x f =>
  simp only[opQ]at h;split at h
  ·rename_i off ty hf;obtain⟨fs,fd,hu,hfd,rfl,rfl⟩:=fldOf_some hf;split at h
   ·rename_i m hm;have hx:=hρ x;split at h
    ·rename_i o' sz i c hd;simp at h;subst h;rw[hd]at hx;generalize hv:ρ x=v at hx;cases hx with
     |pt _ _ _ _ b hμ =>refine⟨.pointer (some ⟨b,i*sz+(c+fd.offset),none⟩),?_,.pt _ _ _ _ b hμ⟩;simp[execOp,hop,hv,Instr.fieldAt,und_run hu,hfd,Instr.sureAddr,fieldPlace,fD hm,Addr.add_mid,Nat.add_assoc]
    ·rename_i cs c hd;simp at h;subst h;rw[hd]at hx;generalize hv:ρ x=v at hx;cases hx with
     |rp b off _ _ g h1 h2 h3 =>refine⟨.pointer (some ⟨b,off+(c+fd.offset),none⟩),?_,.rp b off _ _ g h1 h2 h3⟩;simp[execOp,hop,hv,Instr.fieldAt,und_run hu,hfd,Instr.sureAddr,fieldPlace,fD hm,Addr.add_mid,Nat.add_assoc]
    ·cases h
   ·cases h
  ·cases h
 |indexAddr t x ix =>
  simp only[opQ]at h;split at h
  ·rename_i k n hn;have hix:=conc_ok (hρ ix) hn;have hx:=hρ x;split at h
   ·rename_i e hu;split at h
    ·rename_i s hs;split at h
     ·rename_i o' sz off len hd;split at h
      ·rename_i hc;obtain⟨rfl,h0,h1⟩:=hc;simp at h;subst h;rw[hd]at hx;generalize hv:ρ x=v at hx;cases hx with
       |os _ _ _ _ b off' cap q1 q2 q3 q4 q5 =>
        have ho:off'=off*s:=q4.resolve_right (by omega);subst ho;refine⟨.pointer (some ⟨b,(off+n.toNat)*s+0,none⟩),?_,.pt _ _ _ _ b q1⟩;have:(⟨b,off*s,none⟩:Addr).add (n.toNat*s)=⟨b,(off+n.toNat)*s+0,none⟩:=by rw[Addr.add_mid,Nat.add_mul,Nat.add_zero]
        simp[execOp,hop,hv,hix,Instr.indexAt,asIntOf,und_run hu,fD hs,h0,h1,this]
       |os0=>simp at h1;omega
      ·cases h
     ·rename_i es hd;split at h
      ·rename_i el hel;split at h
       ·rename_i hc;obtain⟨h0,h1⟩:=hc;simp at h;subst h;rw[hd]at hx;generalize hv:ρ x=v at hx;have hlt:n.toNat<es.length:=(List.getElem?_eq_some_iff.1 hel).1;cases hx with
        |i hx =>
         cases hx with
         |e a cap=>simp at hlt
         |sl b off cap sz _ f q1 q2 q3 q4 q5 q6 =>
          have hsz:sz=s:=by rw[<- h1];exact(q4 el (List.mem_of_getElem? hel)).symm
          subst hsz;refine⟨.pointer (some ⟨b,(off+n.toNat*sz)+0,none⟩),?_,.rp b _ 0 _ (λj=>f (n.toNat*sz+j)) q1 (λj x hx=>?_) (λj x hx=>q6 _ _ (bN q4 hel hx))⟩
          ·have:(⟨b,off,none⟩:Addr).add (n.toNat*sz)=⟨b,(off+n.toNat*sz)+0,none⟩:=by rw[Addr.add_mid,Nat.add_zero]
           have hn':n<(es.length:Int):=by omega
           simp[execOp,hop,hv,hix,Instr.indexAt,asIntOf,und_run hu,fD hs,h0,hn',this]
          ·rw[Nat.add_assoc];exact q5 _ _ (bN q4 hel hx)
       ·cases h
      ·cases h
     ·cases h
    ·cases h
   ·rename_i len e hu;split at h
    ·rename_i s hs;split at h
     ·rename_i o' sz i c hd;split at h
      ·rename_i hc;simp at h;subst h;rw[hd]at hx;generalize hv:ρ x=v at hx;cases hx with
       |pt _ _ _ _ b hμ =>refine⟨.pointer (some ⟨b,i*sz+(c+n.toNat*s),none⟩),?_,.pt _ _ _ _ b hμ⟩;simp[execOp,hop,hv,hix,Instr.indexAt,asIntOf,und_run hu,fD hs,Instr.sureAddr,hc,Addr.add_mid,Nat.add_assoc]
      ·cases h
     ·rename_i cs c hd;split at h
      ·rename_i hc;simp at h;subst h;rw[hd]at hx;generalize hv:ρ x=v at hx;cases hx with
       |rp b off _ _ g h1 h2 h3 =>refine⟨.pointer (some ⟨b,off+(c+n.toNat*s),none⟩),?_,.rp b off _ _ g h1 h2 h3⟩;simp[execOp,hop,hv,hix,Instr.indexAt,asIntOf,und_run hu,fD hs,Instr.sureAddr,hc,Addr.add_mid,Nat.add_assoc]
      ·cases h
     ·cases h
    ·cases h
   ·cases h
  ·cases h
 |slice t x lo hi mx =>
  cases mx with
  |some _=>simp[opQ]at h
  |none =>
   simp only[opQ]at h;have fin:∀{v':Value}{d:D},(Instr.sliceAt t (ρ x) (lo.map ρ) (hi.map ρ) none).run P K.w=.ok v' K.w->VD K v' d->Qv P K (execOp ρ o) d:=by intro v' d h1 h2;exact⟨v',by simp[execOp,hop,h1],h2⟩
   have hx:=hρ x;split at h
   ·rename_i e hu;split at h
    ·rename_i s hs;split at h
     ·rename_i o' sz off len hd;rw[hd]at hx;split at h
      ·rename_i hlo hhi;split at h
       ·rename_i hc;subst hc;simp at h;subst h;obtain⟨v',a1,a2⟩:=slice_os (h:=len) (l:=0) hu hs hx (.inl ⟨opt_none hlo,rfl⟩) (.inl ⟨opt_none hhi,rfl⟩) (Nat.zero_le _) (Nat.le_refl _);exact fin a1 (by simpa using a2)
       ·cases h
      ·rename_i k l hlo hhi;split at h
       ·rename_i hc;obtain⟨rfl,h0,h1⟩:=hc;simp at h;subst h;obtain⟨v',a1,a2⟩:=slice_os (h:=len) (l:=l.toNat) hu hs hx (.inr (opt_slice hρ hlo h0)) (.inl ⟨opt_none hhi,rfl⟩) (by omega) (Nat.le_refl _);exact fin a1 a2
       ·cases h
      ·rename_i k l hlo hhi;split at h
       ·rename_i hc;obtain⟨rfl,h0,h1⟩:=hc;simp at h;subst h;obtain⟨v',a1,a2⟩:=slice_os (l:=0) (h:=l.toNat) hu hs hx (.inl ⟨opt_none hlo,rfl⟩) (.inr (opt_slice hρ hhi h0)) (by omega) (by omega);exact fin a1 (by simpa using a2)
       ·cases h
      ·rename_i k l k' h' hlo hhi;split at h
       ·rename_i hc;obtain⟨rfl,h0,h1,h2⟩:=hc;simp at h;subst h;obtain⟨v',a1,a2⟩:=slice_os (l:=l.toNat) (h:=h'.toNat) hu hs hx (.inr (opt_slice hρ hlo h0)) (.inr (opt_slice hρ hhi (by omega))) (by omega) (by omega);exact fin a1 a2
       ·cases h
      ·cases h
     ·rename_i es hd;rw[hd]at hx;have hx:=hx.inv_i;split at h
      ·cases h
      rename_i hun;have hun:∀x∈es,x.length=s:=by
       have:uni s es=true:=by simpa using hun
       intro x hx;have:=List.all_eq_true.1 this x hx;simpa using this
      split at h
      ·rename_i hlo hhi;simp at h;subst h;obtain⟨v',a1,a2⟩:=slice_sl (h:=es.length) (l:=0) hu hs hx hun (.inl ⟨opt_none hlo,rfl⟩) (.inl ⟨opt_none hhi,rfl⟩) (Nat.zero_le _) (Nat.le_refl _);exact fin a1 (.i (by simpa using a2))
      ·rename_i k l hlo hhi;split at h
       ·rename_i hc;obtain⟨h0,h1⟩:=hc;simp at h;subst h;obtain⟨v',a1,a2⟩:=slice_sl (h:=es.length) (l:=l.toNat) hu hs hx hun (.inr (opt_slice hρ hlo h0)) (.inl ⟨opt_none hhi,rfl⟩) (by omega) (Nat.le_refl _);exact fin a1 (.i (by simpa using a2))
       ·cases h
      ·rename_i k l hlo hhi;split at h
       ·rename_i hc;obtain⟨h0,h1⟩:=hc;simp at h;subst h;obtain⟨v',a1,a2⟩:=slice_sl (l:=0) (h:=l.toNat) hu hs hx hun (.inl ⟨opt_none hlo,rfl⟩) (.inr (opt_slice hρ hhi h0)) (by omega) (by omega);exact fin a1 (.i (by simpa using a2))
       ·cases h
      ·rename_i k l k' h' hlo hhi;split at h
       ·rename_i hc;obtain⟨h0,h1,h2⟩:=hc;simp at h;subst h;obtain⟨v',a1,a2⟩:=slice_sl (l:=l.toNat) (h:=h'.toNat) hu hs hx hun (.inr (opt_slice hρ hlo h0)) (.inr (opt_slice hρ hhi (by omega))) (by omega) (by omega);exact fin a1 (.i a2)
       ·cases h
      ·cases h
     ·cases h
    ·cases h
   ·rename_i hu;split at h
    ·rename_i a l r ha hl hr;have h1:lo.map ρ=l:=by
      cases lo with
      |none=>simp[ru]at hl;subst hl;rfl
      |some y =>simp[ru]at hl;obtain⟨z,hz,rfl⟩:=hl;simp[conc_ok (hρ y) hz]
     have h2:hi.map ρ=r:=by
      cases hi with
      |none=>simp[ru]at hr;subst hr;rfl
      |some y =>simp[ru]at hr;obtain⟨z,hz,rfl⟩:=hr;simp[conc_ok (hρ y) hz]
     rw[<- conc_ok hx ha,<- h1,<- h2]at h;have:=Qv.pv (K:=K) h;simpa only[execOp,hop,Option.map_none]using this
    ·cases h
   ·cases h
 |build t parts =>
  simp only[opQ]at h;have hps:∀{ps:List (Nat×List D)},(parts.toList.mapM λp=>(bY (evA sl p.2)).map λcs=>(p.1,cs))=some ps ->
    (parts.toList.map λp=>(p.1,ρ p.2)).length=ps.length/\(∀(j:Nat) (p:Nat×Value) (q:Nat×List D),(parts.toList.map λp=>(p.1,ρ p.2))[j]?=some p->ps[j]?=some q->p.1=q.1/\RC K p.2.cells q.2):=by
   intro ps hm;obtain⟨m1,m2⟩:=mapM_get hm;refine⟨by simp[m1],λj p q hp hq=>?_⟩;simp only[List.getElem?_map,Option.map_eq_some_iff]at hp;obtain⟨pp,hpp,rfl⟩:=hp;obtain⟨b,hb,hb'⟩:=m2 j pp hpp;rw[hq]at hb;cases hb;simp only[Option.map_eq_some_iff]at hb';obtain⟨cs,hcs,rfl⟩:=hb';exact⟨rfl,dcells_ok (hρ pp.2) hcs⟩
  have hz:∀{z:List D},aJ P t=some z->∃zv,(zeroValue t).run P K.w=.ok zv K.w/\RC K zv.cells z:=by
   intro z hz;simp only[aJ,Option.bind_eq_some_iff]at hz;obtain⟨zv,h1,h2⟩:=hz;split at h2
   ·rename_i hall;simp at h2;subst h2;refine⟨zv,yM h1 _,by simp,λj d hd=>?_⟩;simp only[List.getElem?_map,Option.map_eq_some_iff]at hd;obtain⟨c,hc,rfl⟩:=hd;have hlt:j<zv.cells.size:=by have:=(List.getElem?_eq_some_iff.1 hc).1;simpa using this
    have e:zv.cells[j]=c:=by simpa[hlt]using hc
    rw[gD hlt,e];exact .i (.s c ((Array.all_eq_true_iff_forall_mem.1 hall) c (by rw[<- e];exact Array.getElem_mem hlt)))
   ·cases h2
  split at h
  ·rename_i ps z hp hzz;obtain⟨zv,z1,z2⟩:=hz hzz;obtain⟨p1,p2⟩:=hps hp;split at h
   ·rename_i pl hpl;simp only[Option.map_eq_some_iff]at h;obtain⟨r,hr,rfl⟩:=h;obtain⟨vs,v1,v2⟩:=fill_ok _ _ _ _ _ r z2 p1 p2 hr;simp only[aY]at hpl;split at hpl
    ·rename_i fields hu;refine⟨.agg vs,?_,.agg _ _ v2.1 v2.2⟩;have e:=tu hpl K.w;simp at e;simp[execOp,hop,Instr.build,z1,und_run hu,e,v1]
    ·cases hpl
   ·split at h
    ·rename_i len e hu;split at h
     ·rename_i s hs;simp only[Option.map_eq_some_iff]at h;obtain⟨r,hr,rfl⟩:=h;obtain⟨vs,v1,v2⟩:=fill_ok _ _ _ _ _ r z2 p1 p2 hr;refine⟨.agg vs,?_,.agg _ _ v2.1 v2.2⟩;simp[execOp,hop,Instr.build,z1,und_run hu,fD hs,v1]
     ·cases h
    ·cases h
  ·cases h
 |makeFunc fn first captured =>
  cases fn with
  |func f =>
   simp only[opQ]at h;split at h
   ·rename_i h0;simp at h;subst h;have:first=#[]:=Array.eq_empty_of_size_eq_zero h0
    subst this;refine⟨.func (.func f) #[] (captured.map ρ),by simp[execOp,hop,Instr.makeFunc],.fn _ _ _ (by simp) λj d hd=>?_⟩;simp only[List.getElem?_map,Option.map_eq_some_iff]at hd;obtain⟨x,hx,rfl⟩:=hd;have hlt:j<captured.size:=by have:=(List.getElem?_eq_some_iff.1 hx).1;simpa using this
    rw[gD (by simpa using hlt)];have:captured[j]=x:=by simpa[hlt]using hx
    simp[this];exact hρ x
   ·cases h
  |_=>simp[opQ]at h
 |call c =>
  obtain⟨callee,args,tys⟩:=c;cases callee with
  |builtin b =>
   have args1:∀{x:Value}{d:D},args.toList.map (evA sl)=[d]->∃x,args=#[x]/\evA sl x=d:=by
    intro x d he;obtain⟨l⟩:=args;cases l with
    |nil=>simp at he
    |cons x t=>cases t<;>simp_all
   have argsN:∀{vs:List Value},(args.toList.map (evA sl)).mapM dO=some vs->args.map ρ=vs.toArray:=by
    intro vs hm;obtain⟨m1,m2⟩:=mapM_get hm;apply Array.ext
    ·simp[m1]
    ·intro j hj hj';have hlt:j<args.size:=by simpa using hj
     obtain⟨b,hb,hb'⟩:=m2 j (evA sl args[j]) (by simp[hlt]);have:=conc_ok (hρ args[j]) hb';obtain⟨q1,q2⟩:=List.getElem?_eq_some_iff.1 hb;simp[q2,this]
   by_cases hlen:b=.len
   ·subst hlen;simp only[opQ]at h;split at h
    ·rename_i o' sz off len he;obtain⟨x,rfl,hx'⟩:=args1 (x:=undef) he;have hx:=hρ x;rw[hx']at hx;split at h
     ·rename_i e hu;simp at h;subst h;refine⟨.int .i64 len,?_,.i (.s _ rfl)⟩;simp only[Option.bind_eq_some_iff]at hu;obtain⟨t,ht,hu⟩:=hu;generalize hv:ρ x=v at hx;cases hx<;>simp[execOp,hop,resolve,invoke,builtin,hv,Builtin.len_,ht,und_run hu,goInt]
     ·cases h
    ·rename_i es he;obtain⟨x,rfl,hx'⟩:=args1 (x:=undef) he;have hx:=hρ x;rw[hx']at hx;split at h
     ·rename_i e hu;simp at h;subst h;refine⟨.int .i64 es.length,?_,.i (.s _ rfl)⟩;simp only[Option.bind_eq_some_iff]at hu;obtain⟨t,ht,hu⟩:=hu;generalize hv:ρ x=v at hx;cases hx with
      |i hx=>obtain⟨a,cap,rfl,_⟩:=hx.sub;simp[execOp,hop,resolve,invoke,builtin,hv,Builtin.len_,ht,und_run hu,goInt]
     ·cases h
    ·rename_i d0 hne1 hne2 he;obtain⟨x,rfl,hx'⟩:=args1 (x:=undef) he;split at h
     ·rename_i a ha;have hx:=hρ x;rw[hx']at hx;rw[<- conc_ok hx ha]at h;obtain⟨v,h1,h2⟩:=Qv.pv (K:=K) h;have e:∀a,Builtin.len_ tys o.type a=Builtin.len_ tys 0 a:=λ_=>rfl;exact⟨v,by simpa[execOp,hop,resolve,invoke,builtin,e]using h1,h2⟩
     ·cases h
    ·cases h
   ·have h':(if b=.min\/b=.max then match (args.toList.map (evA sl)).mapM dO with
      |some vs=>(match b with
       | .min=>(Abs.pv P (Builtin.min_ tys 0 vs.toArray)).map ofV
       |_=>(Abs.pv P (Builtin.max_ tys 0 vs.toArray)).map ofV)
      |none=>none
     else none)=some d:=by
     rw[<- h];cases b<;>first|rfl|exact absurd rfl hlen
    split at h'
    ·rename_i hb;split at h'
     ·rename_i vs hvs;have e:=argsN hvs;rcases hb with rfl|rfl
      ·obtain⟨v,h1,h2⟩:=Qv.pv (K:=K) h';exact⟨v,by simpa[execOp,hop,resolve,invoke,builtin,e,Builtin.min_]using h1,h2⟩
      ·obtain⟨v,h1,h2⟩:=Qv.pv (K:=K) h';exact⟨v,by simpa[execOp,hop,resolve,invoke,builtin,e,Builtin.max_]using h1,h2⟩
     ·cases h'
    ·cases h'
  |_=>simp[opQ]at h
 |_=>simp[opQ]at h
end
section
variable {P:Program}{w0:Ctx}{T:Nat->Prop}{K:Ctx}{H:Nat->Ob}{sl:Nat->D}{ρ:Operand->Value}
theorem Ran.of {s:Sem Value}{v:Value}{K':Ctx}{d:D}{H':Nat->Ob}(h:s.run P K.w=.ok v K'.w)(he:Ext K K')(hr:HR w0 T K' H')(hd:VD K' v d):Ran P w0 T K (do pure (.value (<- s))) d H' :=
 ⟨v,K',.inl (by simp[h]),he,hr,hd⟩
theorem zcells_ok {t:TypeId}{z:List D}(hz:aJ P t=some z):∃zv,jo P t=some zv/\z=zv.cells.toList.map (λc=>.i (.s c))/\(∀c∈zv.cells,c.oneCell'=true):=by
 simp only[aJ,Option.bind_eq_some_iff]at hz;obtain⟨zv,h1,h2⟩:=hz;split at h2
 ·rename_i hall;simp at h2;exact⟨zv,h1,h2.symm,λc hc=>(Array.all_eq_true_iff_forall_mem.1 hall) c hc⟩
 ·cases h2
theorem zcells_rc {zv:Value}(h1:∀c∈zv.cells,c.oneCell'=true):RC K zv.cells (zv.cells.toList.map (λc=>.i (.s c))):=by
 refine⟨by simp,λj d hd=>?_⟩;simp only[List.getElem?_map,Option.map_eq_some_iff]at hd;obtain⟨c,hc,rfl⟩:=hd;have hlt:j<zv.cells.size:=by have:=(List.getElem?_eq_some_iff.1 hc).1;simpa using this
 have e:zv.cells[j]=c:=by simpa[hlt]using hc
 rw[gD hlt,e];exact .i (.s c (h1 c (by rw[<- e];exact Array.getElem_mem hlt)))
theorem newBox (hr:HR w0 T K H){id:Nat}(hf:H id=.fresh)(t:TypeId){v:Value}{cs:List D}(hc:RC K v.cells cs)(h1:∀d∈cs,d.one=true):
  ∃K',(newVar t v).run P K.w=.ok ⟨K.w.heap.size,0,none⟩ K'.w/\Ext K K'/\HR w0 T K' (upd H id (.box cs))/\VD K' (.pointer (some ⟨K.w.heap.size,0,none⟩)) (.pt id 0 0 0):=by
 have hn:K.μ id=none:=hr.get hf;have he:=Ext.alloc hr hn (.cells v.cells t);refine⟨K.alloc id (.cells v.cells t),by simp[newVar,newRow,Ctx.alloc],he,hr.alloc hn _ ?_,?_⟩
 ·refine⟨K.w.heap.size,v.cells,t,by simp[Ctx.alloc,upd_same],heap_alloc_new K.w _,hc.1.symm,λj d hd=>(hc.2 j d hd).ext he,h1,λhS=>?_,.inl hr.size⟩;have:=hr.sB _ hS;omega
 ·have:=VD.pt (K:=K.alloc id (.cells v.cells t)) id 0 0 0 K.w.heap.size (by simp[Ctx.alloc,upd_same]);simpa using this
theorem load_ok (hr:HR w0 T K H){v:Value}{p:D}(hp:VD K v p){t:TypeId}{d:D}
  (h:(match pM P t with
  |some true=>match iE P t with
   |some n=>(aW H p n).map λcs=>D.agg cs
   |none=>none
  |some false=>(aW H p 1).bind ku
  |none=>none)=some d):∃u,(Instr.loadAt t v).run P K.w=.ok u K.w/\VD K u d:=by
 split at h
 ·rename_i ha;split at h
  ·rename_i n hn;simp only[Option.map_eq_some_iff]at h;obtain⟨cs,hcs,rfl⟩:=h;obtain⟨b,off,vs,rfl,h1,h2,h3,h4⟩:=readAt_ok hr hp hcs;have hl:(loadCells ⟨b,off,none⟩ vs.length).run P K.w=.ok vs.toArray K.w :=
    run_loadCells_list (P:=P) K.w ⟨b,off,none⟩ vs (λj v hv=>by rw[Addr.add_mid];exact h3 j v hv)
   rw[h2]at hl;refine⟨.agg vs.toArray,by simp[Instr.loadAt,Instr.sureAddr,loadVar,A_ ha,fD hn,hl],.agg _ _ (by simp;omega) λj d hd=>?_⟩;obtain⟨u,hu,hd'⟩:=h4 j d hd;obtain⟨q1,q2⟩:=List.getElem?_eq_some_iff.1 hu;rw[gD (by simpa using q1)];simpa[q2]using hd'
  ·cases h
 ·rename_i ha;simp only[Option.bind_eq_some_iff]at h;obtain⟨cs,hcs,hd⟩:=h;obtain⟨b,off,vs,rfl,h1,h2,h3,h4⟩:=readAt_ok hr hp hcs;cases cs with
  |nil=>simp at h1
  |cons c t' =>
   cases t' with
   |cons _ _=>simp at h1
   |nil =>simp[ku]at hd;subst hd;obtain⟨u,hu,hd'⟩:=h4 0 c (by simp);have:=h3 0 u hu;exact⟨u,by simp[Instr.loadAt,Instr.sureAddr,loadVar,A_ ha,show K.w.cell? ⟨b,off,none⟩=some u by simpa using this],hd'⟩
 ·cases h
theorem qL (row:Array Value)(o:Nat)(vs:List Value)(h:o+vs.length<=row.size)(m:Nat):
  ((row.toList.take o++vs++row.toList.drop (o+vs.length)).toArray).getD m undef=if o<=m/\m<o+vs.length then vs.getD (m-o) undef else row.getD m undef:=by
 rw[Array.getD_eq_getD_getElem?,List.getElem?_toArray];by_cases hin:o<=m/\m<o+vs.length
 ·rw[if_pos hin,List.append_assoc,List.getElem?_append_right (by simp;omega),List.getElem?_append_left (by simp;omega),List.getD_eq_getElem?_getD];congr 2;simp;omega
 ·rw[if_neg hin,Array.getD_eq_getD_getElem?];by_cases hlo:m<o
  ·rw[List.append_assoc,List.getElem?_append_left (by simp;omega),List.getElem?_take,if_pos hlo];simp
  ·rw[List.getElem?_append_right (by simp;omega),List.getElem?_drop];congr 1;rw[<- Array.getElem?_toList];congr 1;simp;omega
theorem lX (row:Array Value)(o:Nat)(vs:List Value)(h:o+vs.length<=row.size):(row.toList.take o++vs++row.toList.drop (o+vs.length)).toArray.size=row.size:=by simp;omega
theorem vP {t:TypeId}{n b off:Nat}{v:Value}{row:Array Value}{e:TypeId}(hs:iE P t=some n)(hv:v.cells.size=n)(h1:∀c∈v.cells,c.oneCell'=true)
  (hg:K.w.heap[b]?=some (.cells row e (0,0))) (hle:off+n<=row.size):
  (Instr.storeAt t (.pointer (some ⟨b,off,none⟩)) v).run P K.w=.ok () (K.w.setRow b (row.toList.take off++v.cells.toList++row.toList.drop (off+v.cells.toList.length)).toArray):=by
 have hst:=run_storeCells_at (P:=P) b off e v.cells.toList 0 row K.w hg (by simp;omega) (λc hc=>h1 c (by simpa using hc));simp only[Nat.add_zero]at hst;simp[Instr.storeAt,Instr.sureAddr,storeVar,fD hs,hv,hst]
theorem Qy {v:Value}{cs:List D}(hc:RC K v.cells cs)(h1:∀d∈cs,d.one=true):∀c∈v.cells,c.oneCell'=true:=by
 intro c hcm;obtain⟨j,hj,rfl⟩:=Array.mem_iff_getElem.1 hcm;have hlt:j<cs.length:=by have:=hc.1;omega
 have:=hc.2 j cs[j] (by simp[hlt]);rw[gD hj]at this;exact this.one (h1 _ (List.getElem_mem hlt))
theorem conv_list (hr:HR w0 T K H){vs:Array Value}{cs:List D}{xs:List I}(hc:RC K vs cs)(h:cs.mapM (eu H)=some xs)(ids:List Nat)(hm:∀o∈cs.flatMap D.ids1,o∈ids):
  vs.size=xs.length/\∀(j:Nat) (x:I),xs[j]?=some x->VI (K.more (frzS K H ids)).w (K.more (frzS K H ids)).S (vs.getD j undef) x:=by
 obtain⟨m1,m2⟩:=mapM_get h;refine⟨by rw[hc.1,m1],λj x hx=>?_⟩;have hlt:j<cs.length:=by have:=(List.getElem?_eq_some_iff.1 hx).1;omega
 obtain⟨y,hy,hy'⟩:=m2 j cs[j] (by simp[hlt]);rw[hx]at hy;cases hy;exact UO hr (hc.2 j _ (by simp[hlt])) hy' ids (λo ho=>hm o (List.mem_flatMap.2 ⟨cs[j],List.getElem_mem hlt,ho⟩))
theorem frz_arr {ids:List Nat}{o sz:Nat}{es:List (List I)}(h:H o=.arr sz es)(hn:o ∉ ids):frz ids H o=.arr sz es:=by simp[frz,hn,h]
theorem frz_fresh {ids:List Nat}{o:Nat}(h:H o=.fresh):frz ids H o=.fresh:=by simp[frz,h]
theorem store_ok (hr:HR w0 T K H){v pv:Value}{p:D}{t:TypeId}{n:Nat}{new:List D}(hp:VD K pv p)(hc:RC K v.cells new)(hs:iE P t=some n)(hn:new.length=n)(h1:∀d∈new,d.one=true){H':Nat->Ob}
  (h:(match p with
    | .pt o sz i c=>match H o with
     | .box cs=>if i=0/\c+n<=cs.length then some (D.un,upd H o (.box (cs.take c++new++cs.drop (c+n))))else none
     | .arr sz' es=>match es[i]?,new.mapM (eu H)with
      |some e,some xs=>if sz=sz'/\c+n<=e.length/\¬(new.flatMap D.ids1).contains o then
        some (.un,upd (frz (new.flatMap D.ids1) H) o (.arr sz (es.set i (e.take c++xs++e.drop (c+n)))))else none
      |_,_=>none
     | .tab sz' es=>match es[i]? with
      |some e=>if sz=sz'/\c+n<=e.length then some (D.un,upd H o (.tab sz (es.set i (e.take c++new++e.drop (c+n)))))else none
      |none=>none
     |_=>none
    |_=>none)=some (.un,H')):∃K',(Instr.storeAt t pv v).run P K.w=.ok () K'.w/\Ext K K'/\HR w0 T K' H':=by
 have hone:=Qy hc h1;have hvs:v.cells.size=n:=by rw[hc.1,hn]
 have hvl:v.cells.toList.length=n:=by simpa using hvs
 split at h
 ·rename_i o sz i c;cases hp with
  |pt _ _ _ _ b hμ =>
  split at h
  ·rename_i cs ho;split at h
   ·rename_i hcond;obtain⟨rfl,hle⟩:=hcond;simp only[Option.some.injEq,Prod.mk.injEq,true_and]at h;subst h;obtain⟨b',row,e,g1,g2,g3,g4,g5,g6,g7⟩:=hr.get ho;rw[hμ]at g1;cases g1;have hbound:c+v.cells.toList.length<=row.size:=by omega
    have hst:=vP (K:=K) (P:=P) hs hvs hone (off:=0*sz+c) g2 (by omega);have he:Ext K (K.row b _):=pE g2 (lX row (0*sz+c) v.cells.toList (by omega)) g6;refine⟨K.row b _,hst,he,hr.row (by rw[ho];trivial) hμ g2 (lX row (0*sz+c) v.cells.toList (by omega)) ?_⟩;refine⟨b,_,e,hμ,setRow_heap K.w b row _ e (0,0) g2,by rw[lX _ _ _ (by omega)];simp;omega,λj d hd=>?_,λd hd=>?_,g6,g7⟩
    ·refine VD.ext he ?_;rw[qL row (0*sz+c) v.cells.toList (by omega)];simp only[Nat.zero_mul,Nat.zero_add,hvl];by_cases hin:c<=j/\j<c+n
     ·rw[if_pos hin];rw[List.append_assoc,List.getElem?_append_right (by simp;omega),List.getElem?_append_left (by simp;omega)]at hd;have:min c cs.length=c:=by omega
      simp only[List.length_take,this]at hd;have:=hc.2 _ _ hd;simpa[Array.getD_eq_getD_getElem?,List.getD_eq_getElem?_getD]using this
     ·rw[if_neg hin];refine g4 j d ?_;by_cases hlo:j<c
      ·rw[List.append_assoc,List.getElem?_append_left (by simp;omega),List.getElem?_take,if_pos hlo]at hd;exact hd
      ·rw[List.getElem?_append_right (by simp;omega),List.getElem?_drop]at hd;rw[<- hd];congr 1;simp;omega
    ·simp only[List.mem_append]at hd;rcases hd with(hd|hd)|hd
     ·exact g5 d (List.mem_of_mem_take hd)
     ·exact h1 d hd
     ·exact g5 d (List.mem_of_mem_drop hd)
   ·cases h
  ·rename_i sz' es ho;split at h
   ·rename_i e xs hei hxs;split at h
    ·rename_i hcond;obtain⟨rfl,hle,hno⟩:=hcond;simp only[Option.some.injEq,Prod.mk.injEq,true_and]at h;subst h;have hno:o ∉ new.flatMap D.ids1:=by simpa using hno
     have hr':=hr.frz (new.flatMap D.ids1);obtain⟨hx1,hx2⟩:=conv_list hr hc hxs (new.flatMap D.ids1) (λo h=>h);have he0:Ext K (K.more (frzS K H (new.flatMap D.ids1))):=Ext.more _;obtain⟨hz,hu,g⟩:=hr'.get (frz_arr ho hno);rcases g with⟨g,_⟩|⟨b',row,e',g1,g2,g3,g4,g6,g7⟩
     ·rw[show(K.more (frzS K H (new.flatMap D.ids1))).μ o=some b from hμ]at g;cases g
     rw[show(K.more (frzS K H (new.flatMap D.ids1))).μ o=some b from hμ]at g1;cases g1;have hil:i<es.length:=(List.getElem?_eq_some_iff.1 hei).1;have hel:e.length=sz:=hu e (List.mem_of_getElem? hei);have hxl:xs.length=n:=by omega
     have hmul:i*sz+sz<=es.length*sz:=by rw[<- Nat.succ_mul];exact Nat.mul_le_mul_right _ hil
     have hst:=vP (K:=K) (P:=P) hs hvs hone (off:=i*sz+c) g2 (by omega);have hsize:=lX row (i*sz+c) v.cells.toList (by omega);have he:Ext (K.more (frzS K H (new.flatMap D.ids1))) ((K.more (frzS K H (new.flatMap D.ids1))).row b (row.toList.take (i*sz+c)++v.cells.toList++row.toList.drop (i*sz+c+v.cells.toList.length)).toArray):=pE g2 hsize g6;refine⟨_,hst,he0.trans he,hr'.row (by rw[frz_arr ho hno];trivial) hμ g2 hsize ?_⟩;have hnewlen:(e.take c++xs++e.drop (c+n)).length=sz:=by simp;omega
     have hu':∀y∈es.set i (e.take c++xs++e.drop (c+n)),y.length=sz:=by
      intro y hy;rcases List.mem_or_eq_of_mem_set hy with hy|hy
      ·exact hu y hy
      ·rw[hy];exact hnewlen
     refine⟨hz,hu',.inr ⟨b,_,e',hμ,setRow_heap K.w b row _ e' (0,0) g2,by rw[hsize];simpa using g3,λj x hx=>?_,g6,g7⟩⟩;refine VI.ext he ?_;rw[qL row (i*sz+c) v.cells.toList (by omega),hvl];obtain⟨y,hy1,hy2⟩:=flatten_get' hz hu' hx;have hjd:j=j/sz*sz+j%sz:=by rw[Nat.mul_comm];exact(Nat.div_add_mod j sz).symm
     have hjm:j%sz<sz:=Nat.mod_lt _ hz;rw[List.getElem?_set]at hy1;by_cases hji:i=j/sz
     ·rw[if_pos hji]at hy1;simp only[hil,if_true,Option.some.injEq]at hy1;subst hy1;rw[<- hji]at hjd;by_cases hin:i*sz+c<=j/\j<i*sz+c+n
      ·rw[if_pos hin];rw[List.append_assoc,List.getElem?_append_right (by simp;omega),List.getElem?_append_left (by simp;omega)]at hy2;have hmin:min c e.length=c:=by omega
       simp only[List.length_take,hmin]at hy2;have:=hx2 _ _ hy2;rw[show j%sz-c=j-(i*sz+c) by omega]at this;simpa[Array.getD_eq_getD_getElem?,List.getD_eq_getElem?_getD]using this
      ·rw[if_neg hin];refine g4 j x ?_;have hsame:e[j%sz]?=some x:=by
        by_cases hlo:j%sz<c
        ·rw[List.append_assoc,List.getElem?_append_left (by simp;omega),List.getElem?_take,if_pos hlo]at hy2;exact hy2
        ·rw[List.getElem?_append_right (by simp;omega),List.getElem?_drop]at hy2;rw[<- hy2];congr 1;simp;omega
       rw[hjd];exact bN hu hei hsame
     ·rw[if_neg hji]at hy1;have hout:¬(i*sz+c<=j/\j<i*sz+c+n):=by
       intro hin;apply hji;have:j<(i+1)*sz:=by rw[Nat.succ_mul];omega
       have h2:i*sz<=j:=by omega
       exact(Nat.div_eq_of_lt_le h2 this).symm
      rw[if_neg hout];refine g4 j x ?_;rw[hjd];exact bN hu hy1 hy2
    ·cases h
   ·cases h
  ·rename_i sz' es ho;split at h
   ·rename_i e hei;split at h
    ·rename_i hcond;obtain⟨rfl,hle⟩:=hcond;simp only[Option.some.injEq,Prod.mk.injEq,true_and]at h;subst h;obtain⟨hz,hu,h0,g⟩:=hr.get ho;rcases g with⟨g,_⟩|⟨b',row,e',g1,g2,g3,g4,g6,g7⟩
     ·rw[hμ]at g;cases g
     rw[hμ]at g1;cases g1;have hil:i<es.length:=(List.getElem?_eq_some_iff.1 hei).1;have hel:e.length=sz:=hu e (List.mem_of_getElem? hei);have hmul:i*sz+sz<=es.length*sz:=by rw[<- Nat.succ_mul];exact Nat.mul_le_mul_right _ hil
     have hst:=vP (K:=K) (P:=P) hs hvs hone (off:=i*sz+c) g2 (by omega);have hsize:=lX row (i*sz+c) v.cells.toList (by omega);have he:Ext K (K.row b (row.toList.take (i*sz+c)++v.cells.toList++row.toList.drop (i*sz+c+v.cells.toList.length)).toArray):=pE g2 hsize g6;refine⟨_,hst,he,hr.row (by rw[ho];trivial) hμ g2 hsize ?_⟩;have hnewlen:(e.take c++new++e.drop (c+n)).length=sz:=by simp;omega
     have hu':∀y∈es.set i (e.take c++new++e.drop (c+n)),y.length=sz:=by
      intro y hy;rcases List.mem_or_eq_of_mem_set hy with hy|hy
      ·exact hu y hy
      ·rw[hy];exact hnewlen
     refine⟨hz,hu',λy hy d hd=>?_,.inr ⟨b,_,e',hμ,setRow_heap K.w b row _ e' (0,0) g2,by rw[hsize];simpa using g3,λj x hx=>?_,g6,g7⟩⟩
     ·rcases List.mem_or_eq_of_mem_set hy with hy|rfl
      ·exact h0 y hy d hd
      ·simp only[List.mem_append]at hd;rcases hd with(hd|hd)|hd
       ·exact h0 e (List.mem_of_getElem? hei) d (List.mem_of_mem_take hd)
       ·exact h1 d hd
       ·exact h0 e (List.mem_of_getElem? hei) d (List.mem_of_mem_drop hd)
     refine VD.ext he ?_;rw[qL row (i*sz+c) v.cells.toList (by omega),hvl];obtain⟨y,hy1,hy2⟩:=flatten_get' hz hu' hx;have hjd:j=j/sz*sz+j%sz:=by rw[Nat.mul_comm];exact(Nat.div_add_mod j sz).symm
     have hjm:j%sz<sz:=Nat.mod_lt _ hz;rw[List.getElem?_set]at hy1;by_cases hji:i=j/sz
     ·rw[if_pos hji]at hy1;simp only[hil,if_true,Option.some.injEq]at hy1;subst hy1;rw[<- hji]at hjd;by_cases hin:i*sz+c<=j/\j<i*sz+c+n
      ·rw[if_pos hin];rw[List.append_assoc,List.getElem?_append_right (by simp;omega),List.getElem?_append_left (by simp;omega)]at hy2;have hmin:min c e.length=c:=by omega
       simp only[List.length_take,hmin]at hy2;have:=hc.2 _ _ hy2;rw[show j%sz-c=j-(i*sz+c) by omega]at this;simpa[Array.getD_eq_getD_getElem?,List.getD_eq_getElem?_getD]using this
      ·rw[if_neg hin];refine g4 j x ?_;have hsame:e[j%sz]?=some x:=by
        by_cases hlo:j%sz<c
        ·rw[List.append_assoc,List.getElem?_append_left (by simp;omega),List.getElem?_take,if_pos hlo]at hy2;exact hy2
        ·rw[List.getElem?_append_right (by simp;omega),List.getElem?_drop]at hy2;rw[<- hy2];congr 1;simp;omega
       rw[hjd];exact bN hu hei hsame
     ·rw[if_neg hji]at hy1;have hout:¬(i*sz+c<=j/\j<i*sz+c+n):=by
       intro hin;apply hji;have:j<(i+1)*sz:=by rw[Nat.succ_mul];omega
       have h2:i*sz<=j:=by omega
       exact(Nat.div_eq_of_lt_le h2 this).symm
      rw[if_neg hout];refine g4 j x ?_;rw[hjd];exact bN hu hy1 hy2
    ·cases h
   ·cases h
  ·cases h
 ·cases h
end
end Go.Abs
