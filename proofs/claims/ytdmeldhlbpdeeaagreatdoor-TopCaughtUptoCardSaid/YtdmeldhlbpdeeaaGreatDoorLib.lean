/- Lemmas on the walk's world that all proofs of this seat share: slices as they lie in memory (read, or owned and appended to), draws, and 'Below'. Nothing is said of the program here. -/
import Derived.Test.YtdmeldhlbpdeeaaGreatDoorChecked
import Derived.WalkKit
import Derived.WalkLawsBesides
import Derived.Deep.QuietTactic
import Derived.BigQuiet
import Derived.Lib.Hide
import Derived.Lib.ItoaNum
import Derived.Deep.Upon
import Derived.Deep.MidRow
import Derived.Deep.WholeRow
set_option linter.all false
namespace Go.Proofs.YtdmeldhlbpdeeaaGreatDoor
open Go.RowKit
theorem jO {k:IntKind}{a b:Int}(h:a=b):Ending.returned (.int k a)=.returned (.int k b):=by rw[h]
theorem Ms {α:Type}{l:List α}{k:Nat}(h:k<l.length):l.take (k+1)=l.take k++[l[k]]:=List.take_succ_eq_append_getElem h
theorem pK (B:Nat)(w:World)(n:Nat):Below B w (w.drewN n):=⟨rfl,rfl,rfl,Nat.le_refl _,λ_ _=>rfl⟩
theorem qy {B:Nat}{w w':World}{b o:Nat}{cs:List Value}(h:w.rangeAt b o cs)(hb:Below B w w')(hB:b<B):w'.rangeAt b o cs:=λj v hv=>by rw[hb.cell (p:=⟨b,o+j,none⟩) hB];exact h j v hv
theorem rangeAt_take {w:World}{b o:Nat}{cs:List Value}(h:w.rangeAt b o cs)(n:Nat):w.rangeAt b o (cs.take n):=λj v hv=>by
 rw[List.getElem?_take]at hv;split at hv
 ·exact h j v hv
 ·cases hv
theorem sW {w:World}{b o:Nat}{cs:List Value}(h:w.rangeAt b o cs)(n:Nat):w.rangeAt b (o+n) (cs.drop n):=λj v hv=>by rw[List.getElem?_drop]at hv;rw[show o+n+j=o+(n+j) by omega];exact h (n+j) v hv
theorem zB {w:World}{b o:Nat}{cs:List Value}(h:w.rangeAt b o cs)(n:Nat):(w.drewN n).rangeAt b o cs:=h
def IsS (B size:Nat)(w:World)(v:Value)(cs:List Value):Prop :=
 (∃a cap,v=.slice a 0 cap/\cs=[])\/∃b off n cap,v=.slice (some ⟨b,off,none⟩) n cap/\b<B/\n<=cap/\n<=maxLen/\cs.length=n*size/\w.rangeAt b off cs
section
variable {B B' size:Nat}{w w':World}{v:Value}{cs:List Value}
theorem IsS.nil (B size:Nat)(w:World):IsS B size w (.slice none 0 0) []:=.inl ⟨_,_,rfl,rfl⟩
theorem IsS.mono (h:IsS B size w v cs)(hB:B<=B'):IsS B' size w v cs:=by
 rcases h with h|⟨b,off,n,cap,h1,h2,h3⟩
 ·exact .inl h
 ·exact .inr ⟨b,off,n,cap,h1,by omega,h3⟩
theorem IsS.below (h:IsS B size w v cs)(hb:Below B' w w')(hB:B<=B'):IsS B size w' v cs:=by
 rcases h with h|⟨b,off,n,cap,h1,h2,h3,h4,h5,h6⟩
 ·exact .inl h
 ·exact .inr ⟨b,off,n,cap,h1,h2,h3,h4,h5,qy h6 hb (by omega)⟩
theorem IsS.drewN (h:IsS B size w v cs)(n:Nat):IsS B size (w.drewN n) v cs:=h
end
theorem IsS.setCell {B size:Nat}{w:World}{v:Value}{cs:List Value}(h:IsS B size w v cs)(p:Addr)(u:Value)(hne:cs=[]\/v.ownBlock≠some p.block):IsS B size (w.setCell p u) v cs:=by
 rcases h with h|⟨b,off,n,cap,rfl,h2,h3,h4,h5,h6⟩
 ·exact .inl h
 rcases hne with rfl|hne
 ·exact .inr ⟨b,off,n,cap,rfl,h2,h3,h4,h5,λj x hx=>by simp at hx⟩
 ·refine .inr ⟨b,off,n,cap,rfl,h2,h3,h4,h5,λj x hx=>?_⟩;have hb:b≠p.block:=λe=>hne (by simp[Value.ownBlock,e]);rw[World.cell?_of_block (w:=w) (Below.heap_setCell w p u b hb)];exact h6 j x hx
def uy (c:UInt8):Value:=.int .u8 (c.toNat:Int)
def bcs (l:List UInt8):List Value:=l.map uy
theorem aU (l:List UInt8):(bcs l).length=l.length:=by simp[bcs]
theorem sJ (a b:List UInt8):bcs (a++b)=bcs a++bcs b:=by simp[bcs]
theorem QT (l:List UInt8):∀u∈bcs l,u.oneCell'=true:=by intro u hu;obtain⟨c,_,rfl⟩:=List.mem_map.1 hu;rfl
theorem Vv (l:List UInt8)(n:Nat):(bcs l).take n=bcs (l.take n):=by simp[bcs,List.map_take]
theorem JG (l:List UInt8)(n:Nat):(bcs l).drop n=bcs (l.drop n):=by simp[bcs,List.map_drop]
def bnth (l:List UInt8)(i:Nat):Nat:=(l.getD i 0).toNat
theorem mi (l:List UInt8)(i:Nat):bnth l i<256:=(l.getD i 0).toNat_lt
theorem AV {l:List UInt8}{i:Nat}(h:i<l.length):bnth l i=(l[i]).toNat:=by simp[bnth,List.getD_eq_getElem?_getD,h]
def IsB (B:Nat)(w:World)(v:Value)(l:List UInt8):Prop:=IsS B 1 w v (bcs l)
section
variable {B B':Nat}{w w':World}{v:Value}{l:List UInt8}
theorem IsB.nil (B:Nat)(w:World):IsB B w (.slice none 0 0) []:=IsS.nil _ _ _
theorem IsB.mono (h:IsB B w v l)(hB:B<=B'):IsB B' w v l:=IsS.mono h hB
theorem IsB.below (h:IsB B w v l)(hb:Below B' w w')(hB:B<=B'):IsB B w' v l:=IsS.below h hb hB
theorem oC {b off:Nat}(h:w.rangeAt b off (bcs l)){i:Nat}(hi:i<l.length):w.cell? ⟨b,off+i,none⟩=some (.int .u8 (bnth l i:Int)) :=
 h i _ (by simp[bcs,uy,AV hi,hi])
theorem IsB.open (h:IsB B w v l):(∃a cap,v=.slice a 0 cap/\l=[])\/∃b off cap,v=.slice (some ⟨b,off,none⟩) l.length cap/\b<B/\l.length<=cap/\l.length<=maxLen/\w.rangeAt b off (bcs l):=by
 rcases h with⟨a,cap,h1,h2⟩|⟨b,off,n,cap,h1,h2,h3,h4,h5,h6⟩
 ·exact .inl ⟨a,cap,h1,by cases l<;>simp_all[bcs]⟩
 ·have hn:l.length=n:=by simpa[aU]using h5
  subst hn;exact .inr ⟨b,off,cap,h1,h2,h3,h4,h6⟩
theorem IsB.mk {b off n cap:Nat}(hb:b<B)(hn:n=l.length)(h1:n<=cap)(h2:cap<=maxLen)(hr:w.rangeAt b off (bcs l)):IsB B w (.slice (some ⟨b,off,none⟩) n cap) l :=
 .inr ⟨b,off,n,cap,rfl,hb,h1,Nat.le_trans h1 h2,by simp[aU,hn],hr⟩
end
def iB (B size:Nat)(w:World)(v:Value)(cs:List Value):Prop :=
 (v=.slice none 0 0/\cs=[])\/∃g off n cap,v=.slice (some ⟨g,off,none⟩) n cap/\B<=g/\g<w.heap.size/\n<=cap/\cap<=maxLen/\cs.length=n*size/\w.rangeAt g off cs/\w.there g off (cap*size)
section
variable {B B' size:Nat}{w w':World}{v:Value}{cs:List Value}
theorem iB.nil (B size:Nat)(w:World):iB B size w (.slice none 0 0) []:=.inl ⟨rfl,rfl⟩
theorem iB.toIsS (h:iB B size w v cs):IsS w.heap.size size w v cs:=by
 rcases h with⟨h,h'⟩|⟨g,off,n,cap,h1,h2,h3,h4,h5,h6,h7,h8⟩
 ·exact .inl ⟨_,_,h,h'⟩
 ·exact .inr ⟨g,off,n,cap,h1,h3,h4,Nat.le_trans h4 h5,h6,h7⟩
theorem iB.toIsB {l:List UInt8}(h:iB B 1 w v (bcs l)):IsB w.heap.size w v l:=h.toIsS
theorem iB.mono (h:iB B size w v cs)(hB:B'<=B):iB B' size w v cs:=by
 rcases h with h|⟨g,off,n,cap,h1,h2,h3⟩
 ·exact .inl h
 ·exact .inr ⟨g,off,n,cap,h1,by omega,h3⟩
theorem iB.lt (h:iB B size w v cs):∀k,v.ownBlock=some k->B<=k/\k<w.heap.size:=by
 intro k hk;rcases h with⟨rfl,_⟩|⟨g,off,n,cap,rfl,h2,h3,_⟩
 ·simp[Value.ownBlock]at hk
 ·simp[Value.ownBlock]at hk;subst hk;exact⟨h2,h3⟩
theorem iB.same (h:iB B size w v cs)(hs:w.heap.size<=w'.heap.size)(hb:∀k,v.ownBlock=some k->w'.heap[k]?=w.heap[k]?):iB B size w' v cs:=by
 rcases h with h|⟨g,off,n,cap,rfl,h2,h3,h4,h5,h6,h7,h8⟩
 ·exact .inl h
 ·have hk:w'.heap[g]?=w.heap[g]?:=hb g rfl;refine .inr ⟨g,off,n,cap,rfl,h2,by omega,h4,h5,h6,λj u hu=>?_,λj hj=>?_⟩
  ·rw[World.cell?_of_block (w:=w) hk];exact h7 j u hu
  ·rw[World.cell?_of_block (w:=w) hk,World.frozen?_of_block (w:=w) hk];exact h8 j hj
theorem iB.alloc (h:iB B size w v cs)(o:Obj):iB B size (w.alloc o) v cs :=
 h.same (by simp) (λk hk=>Below.heap_alloc w o k (h.lt k hk).2)
theorem iB.drewN (h:iB B size w v cs)(n:Nat):iB B size (w.drewN n) v cs:=h
theorem iB.below (h:iB B size w v cs)(hb:Below B' w w')(hB:w.heap.size<=B'):iB B size w' v cs :=
 h.same hb.size (λk hk=>hb.block k (by have:=(h.lt k hk).2;omega))
theorem iB.setCell (h:iB B size w v cs)(p:Addr)(u:Value)(hne:v.ownBlock≠some p.block):iB B size (w.setCell p u) v cs :=
 h.same (by simp[World.setCell]) (λk hk=>Below.heap_setCell _ _ _ _ (λe=>hne (by rw[hk,e])))
theorem iB.reslice {g off n cap k:Nat}(h:iB B size w (.slice (some ⟨g,off,none⟩) n cap) cs)(hk:k<=n):iB B size w (.slice (some ⟨g,off+k*size,none⟩) (n-k) (cap-k)) (cs.drop (k*size)):=by
 rcases h with⟨h,_⟩|⟨g',off',n',cap',h1,h2,h3,h4,h5,h6,h7,h8⟩
 ·cases h
 ·injection h1 with e1 e2 e3
  injection e1 with e1
  injection e1 with e1 e4 e5
  subst e1 e2 e3 e4;refine .inr ⟨g,_,_,_,rfl,h2,h3,by omega,by omega,?_,sW h7 _,λj hj=>?_⟩
  ·rw[List.length_drop,h6,Nat.sub_mul]
  ·rw[show off+k*size+j=off+(k*size+j) by omega];refine h8 _ ?_;have:k*size+(cap-k)*size=cap*size:=by rw[<- Nat.add_mul];congr 1;omega
   omega
end
structure SlT (P:Program) (t e size bytes:Nat):Prop where
 sl:P.underlying t=some (.slice e)
 info:∃i z,P.info? e=some i/\i.zero=some z/\i.size=size/\i.bytes=bytes/\z.cells.size=size
 pos:0<size
theorem SlT.mk' {P:Program}{t e size bytes:Nat}{z:Value}(h1:P.underlying t=some (.slice e))(h2:(P.info? e).map (λi=>(i.zero,i.size,i.bytes))=some (some z,size,bytes))(hz:z.cells.size=size)(h0:0<size):SlT P t e size bytes:=by obtain⟨i,hi,a,b,c⟩:=info_parts h2;exact⟨h1,⟨i,z,hi,a,b,c,hz⟩,h0⟩
theorem IsS.src {P:Program}{B size tx e:Nat}{w:World}{v:Value}{cs:List Value}(h:IsS B size w v cs)(hs:0<size)(ht:P.underlying tx=some (.slice e))(h1:∀u∈cs,u.oneCell'=true):
  Src P size tx v (cs.length/size) cs w:=by
 rcases h with⟨a,cap,rfl,rfl⟩|⟨b,off,n,cap,rfl,_,_,_,h5,h6⟩
 ·rw[List.length_nil,Nat.zero_div];cases a with
  |none=>exact Src.ofNil w ht cap
  |some a=>exact Src.ofSlice w ht a 0 cap [] (by simp) (λj u hu=>by simp at hu) (λu hu=>by simp at hu)
 ·have hn:cs.length/size=n:=by rw[h5];exact Nat.mul_div_cancel _ hs
  rw[hn];exact Src.ofSlice w ht _ n cap cs h5 (λj u hu=>by rw[Addr.add_mid];exact h6 j u hu) h1
theorem jA (g:Nat):∀(vs:List Value)(o:Nat)(w:World),(w.setCells g o vs).heap.size=w.heap.size
 |[],_,_=>rfl
 |u::vs,o,w=>(jA g vs (o+1) (w.setCell ⟨g,o,none⟩ u)).trans (by simp[World.setCell])
theorem qg (g:Nat):∀(vs:List Value)(o:Nat)(w:World),(w.setCells g o vs).tape=w.tape
 |[],_,_=>rfl
 |u::vs,o,w=>(qg g vs (o+1) (w.setCell ⟨g,o,none⟩ u)).trans rfl
theorem jm (w:World)(g o:Nat)(vs:List Value):w.grownBy (w.setCells g o vs) (some g):=by
 refine⟨World.os_setCells _ _ _ _,?_,World.output_setCells _ _ _ _,?_,λk hk hne=>World.heap_setCells_other _ _ _ _ hk (λe=>hne (by rw[e]))⟩
 ·exact qg g vs o w
 ·exact Nat.le_of_eq (jA g vs o w).symm
theorem run_append_o {P:Program}{B t e size bytes tx:Nat}(T:SlT P t e size bytes)(ty:TypeId){w:World}{v x:Value}{cs news:List Value}{m:Nat}
  (ho:iB B size w v cs) (hs:Src P size tx x m news w) (hB:B<=w.heap.size) (hbytes:(cs.length/size+m)*bytes<=140737488355328) (h63:cs.length/size+m<=maxLen):
  ∃v' w',(Builtin.append_ #[t,tx] ty #[v,x]).run P w=.ok v' w'/\iB B size w' v' (cs++news)/\w.grownBy w' v.ownBlock/\(∀k,v'.ownBlock=some k->v.ownBlock=some k\/w.heap.size<=k):=by
 obtain⟨i,z,hi,hz,hsz,hby,hzs⟩:=T.info;subst hsz hby;have hpos:=T.pos;have hm0:maxLen=9223372036854775807:=rfl;have grow:∀(base:Option Addr) (n cap:Nat) (_:cs.length=n*i.size) (_:cap<n+m)
   (_:(Builtin.firstCells i.size n (.slice base n cap)).run P w.drew=.ok cs.toArray w.drew) (row:Option Nat),
   ∃v' w',(Builtin.append_ #[t,tx] ty #[.slice base n cap,x]).run P w=.ok v' w'/\iB B i.size w' v' (cs++news)/\w.grownBy w' row/\(∀k,v'.ownBlock=some k->w.heap.size<=k):=by
  intro base n cap hn hlt hold row;have hdiv:cs.length/i.size=n:=by rw[hn];exact Nat.mul_div_cancel _ hpos
  rw[hdiv]at hbytes h63;have hr:=run_append_grow_src (P:=P) w t tx ty e i z T.sl hi hz base n cap cs hold x m news hs hlt (by omega) (growslice_fits (by omega) hbytes);refine⟨_,_,hr,?_,⟨rfl,rfl,rfl,by simp,λk hk _=>Below.heap_alloc w.drew _ k hk⟩,λk hk=>?_⟩
  ·have hge:=grownCap_ge w (n+m) cap e;have hcm:=grownCap_le_maxLen w (n+m) cap e h63;have hlen:(cs++news).length=(n+m)*i.size:=by rw[List.length_append,hn,hs.newsLen,Nat.add_mul]
   have hnew:((w.drew).alloc (.cells ((cs++news).toArray++Builtin.zeroCells z.cells (grownCap w (n+m) cap e-(n+m))) e)).heap[w.heap.size]?=some (.cells ((cs++news).toArray++Builtin.zeroCells z.cells (grownCap w (n+m) cap e-(n+m))) e (0,0)):=heap_alloc_new w.drew _;refine .inr ⟨w.heap.size,0,n+m,_,rfl,hB,by simp,hge,hcm,hlen,λj u hu=>?_,λj hj=>?_⟩
   ·rw[Nat.zero_add,cell_of_row _ _ _ _ _ _ hnew,Array.getElem?_append_left (by simpa using(List.getElem?_eq_some_iff.1 hu).1)];simpa using hu
   ·rw[Nat.zero_add,cell_of_row _ _ _ _ _ _ hnew];refine⟨?_,frozen_of_row _ _ _ _ _ hnew⟩;rw[Option.isSome_iff_exists];refine⟨_,Array.getElem?_eq_getElem (h:=?_)⟩;rw[Array.size_append,List.size_toArray,size_zeroCells,hzs,hlen,<- Nat.add_mul];rw[show n+m+(grownCap w (n+m) cap e-(n+m))=grownCap w (n+m) cap e by omega];exact hj
  ·simp[Value.ownBlock]at hk;omega
 rcases ho with⟨rfl,rfl⟩|⟨g,off,n,cap,rfl,h2,h3,h4,h5,h6,h7,h8⟩
 ·by_cases hm:m=0
  ·subst hm;have hn:news=[]:=List.eq_nil_of_length_eq_zero (by simpa using hs.newsLen);subst hn;exact⟨.slice none 0 0,w,run_append_nothing w t tx ty e i T.sl hi none 0 0 (Nat.le_refl _) x hs,.inl ⟨rfl,rfl⟩,⟨rfl,rfl,rfl,Nat.le_refl _,λ_ _ _=>rfl⟩,by simp[Value.ownBlock]⟩
  ·obtain⟨v',w',a,b,c,d⟩:=grow none 0 0 (by simp) (by omega) (by simpa using run_firstCells_none (P:=P) w.drew i.size 0 0 0) (Value.ownBlock (.slice none 0 0));exact⟨v',w',a,b,c,λk hk=>.inr (d k hk)⟩
 ·by_cases hroom:n+m<=cap
  ·have hin:∀j,j<news.length->n*i.size+j<cap*i.size:=by
    intro j hj;rw[hs.newsLen]at hj;have:(n+m)*i.size<=cap*i.size:=Nat.mul_le_mul_right _ hroom;rw[Nat.add_mul]at this;omega
   have hth:w.there g (off+n*i.size) news.length:=λj hj=>by rw[show off+n*i.size+j=off+(n*i.size+j) by omega];exact h8 _ (hin j hj)
   have hr:=run_append_room_src (P:=P) w t tx ty e i T.sl hi g off n cap x m news hs hroom (λj hj=>(hth j hj).1) (λj hj=>(hth j hj).2);refine⟨_,_,hr,.inr ⟨g,off,n+m,cap,rfl,h2,by rw[jA];exact h3,hroom,h5,?_,?_,World.there_setCells h8 _ _ _⟩,jm _ _ _ _,λk hk=>.inl hk⟩
   ·rw[List.length_append,h6,hs.newsLen,Nat.add_mul]
   ·intro j u hu;by_cases hj:j<cs.length
    ·rw[List.getElem?_append_left hj]at hu;exact World.rangeAt_setCells_apart h7 g (off+n*i.size) news (.inr (.inl (by omega))) j u hu
    ·rw[List.getElem?_append_right (by omega)]at hu;have:=World.rangeAt_setCells_same w g (off+n*i.size) news hth (j-cs.length) u hu;rw[show off+n*i.size+(j-cs.length)=off+j by omega]at this;exact this
  ·obtain⟨v',w',a,b,c,d⟩:=grow (some ⟨g,off,none⟩) n cap h6 (by omega)
    (run_firstCells_some (P:=P) w.drew i.size n ⟨g,off,none⟩ n cap cs h6 (λj u hu=>by rw[Addr.add_mid];exact h7 j u hu)) (Value.ownBlock (.slice (some ⟨g,off,none⟩) n cap))
   exact⟨v',w',a,b,c,λk hk=>.inr (d k hk)⟩
theorem eP {P:Program}{ops:Array Oper}{rest:List Oper}{o:Oper}{a:Act}{w:World}{Q:Exit->Act->World->Prop}(hgd:o.guard=none)(s x:Operand){t tx:TypeId}
  (ho:o.op=.call {callee:=.builtin .append,args:=#[s,x],argTypes:=#[t,tx]})
  (B size:Nat) {e bytes:Nat}(T:SlT P t e size bytes) {v xv:Value}{cs news:List Value}{m:Nat}(hv:a.eval s=v) (hx:a.eval x=xv)
  (hown:iB B size w v cs) (hs:Src P size tx xv m news w) (hB:B<=w.heap.size) (hbytes:(cs.length/size+m)*bytes<=140737488355328) (h63:cs.length/size+m<=maxLen)
  (hK:∀v' w',iB B size w' v' (cs++news)->w.grownBy w' v.ownBlock->(∀k,v'.ownBlock=some k->v.ownBlock=some k\/w.heap.size<=k)->wpList P ops Q rest (a.put o.dst v') w'):wpList P ops Q (o::rest) a w:=by
 refine wpList_plain hgd λK hK'=>?_;obtain⟨v',w',hrun,h1,h2,h3⟩:=run_append_o (P:=P) T o.type hown hs hB hbytes h63;unfold Oper.wp;simp[execOp,ho,resolve,invoke,builtin,hv,hx,hrun,Result.andThen];exact hK' _ _ (hK v' w' h1 h2 h3)
theorem LV {P:Program}{ops:Array Oper}{rest:List Oper}{o:Oper}{a:Act}{w:World}{Q:Exit->Act->World->Prop}(hgd:o.guard=none)(t:TypeId)(parts:Array (Nat×Operand))(ho:o.op=.build t parts)(v:Value)
  (hrun:(execOp a.eval o).run P w=.ok (.value v) w) (h:wpList P ops Q rest (a.put o.dst v) w):wpList P ops Q (o::rest) a w :=
 wpList_plain hgd λK hK=>by unfold Oper.wp;rw[hrun];exact hK _ _ h
theorem pR {P:Program}{ops:Array Oper}{rest:List Oper}{o:Oper}{a:Act}{w:World}{Q:Exit->Act->World->Prop}{t:TypeId}{c:Array Value}{n:Nat}(c':Array Value)(hgd:o.guard=none)(x y:Operand)(ho:o.op=.store t x y)
  (hx:a.eval x=.pointer (some ⟨n,0,none⟩)) (hn:n=w.heap.size) (hy:a.eval y=.agg c') (hi:(P.info? t).map (·.size)=some c'.size) (hs:c.size=c'.size) (h1:c'.all (·.oneCell')=true)
  (h:wpList P ops Q rest (a.put o.dst undef) (w.alloc (.cells c' t))):wpList P ops Q (o::rest) a (w.alloc (.cells c t)) :=
 wpList_plain hgd λK hK=>by subst hn;unfold Oper.wp execOp;simp only[ho,hx,hy,Sem.run_bind,run_storeAt_new w t c c' hi hs h1,Result.andThen_ok];exact hK _ _ h
theorem iB.grown {B size:Nat}{w w':World}{v:Value}{cs:List Value}{row:Option Nat}(h:iB B size w v cs)(hg:w.grownBy w' row)(hne:∀k,v.ownBlock=some k->row≠some k):iB B size w' v cs :=
 h.same hg.size (λk hk=>hg.block k (h.lt k hk).2 (λe=>hne k hk e.symm))
end Go.Proofs.YtdmeldhlbpdeeaaGreatDoor
