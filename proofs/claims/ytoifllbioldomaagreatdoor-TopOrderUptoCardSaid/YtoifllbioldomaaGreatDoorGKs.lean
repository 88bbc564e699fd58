/- Merged texts: Ito, StKs, StK. -/
import Derived.Shelf.Small.Bits
import Derived.Shelf.Strconv.Itoa0
import Derived.Shelf.Strconv.Itoa1
import Derived.Shelf.LaysM
import Derived.Shelf.Strconv.Itoa2
import Derived.Shelf.Strconv.Itoa3
import Derived.Shelf.Strconv.Itoa4
import Derived.Lib.ItoaLen
import Derived.Test.YtoifllbioldomaaGreatDoorGSt
set_option linter.all false
set_option maxHeartbeats 4000000
namespace Go.Proofs
section
open Go.Shelf
def Tryz.laysM171_ren:Go.Shelf.Ren:=⟨λ|171=>41|243=>79|246=>135|283=>196|284=>197|285=>198|286=>199|129=>145|317=>250|318=>251|319=>252|320=>253|337=>278|338=>279|n=>n,λ|3=>3|9=>9|2=>2|4=>4|171=>291|0=>0|53=>22|37=>25|5=>5|173=>293|212=>353|51=>246|20=>20|213=>354|46=>185|232=>387|233=>388|n=>n,λ|17=>3|18=>4|19=>5|n=>n⟩
theorem Tryz.laysM171:Go.Proofs.LaysM.n171 Tryz.prog Tryz.laysM171_ren:={
 mixed:=by kernel_rfl
 f129:=Tryz.func145.trans (congrArg some (by kernel_rfl))
 f171:=Tryz.func41.trans (congrArg some (by kernel_rfl))
 f243:=Tryz.func79.trans (congrArg some (by kernel_rfl))
 f246:=Tryz.func135.trans (congrArg some (by kernel_rfl))
 f283:=Tryz.func196.trans (congrArg some (by kernel_rfl))
 f284:=Tryz.func197.trans (congrArg some (by kernel_rfl))
 f285:=Tryz.func198.trans (congrArg some (by kernel_rfl))
 f286:=Tryz.func199.trans (congrArg some (by kernel_rfl))
 f317:=Tryz.func250.trans (congrArg some (by kernel_rfl))
 f318:=Tryz.func251.trans (congrArg some (by kernel_rfl))
 f319:=Tryz.func252.trans (congrArg some (by kernel_rfl))
 f320:=Tryz.func253.trans (congrArg some (by kernel_rfl))
 f337:=Tryz.func278.trans (congrArg some (by kernel_rfl))
 f338:=Tryz.func279.trans (congrArg some (by kernel_rfl))
 t0:=Tryz.underlying0
 a0:=Tryz.isAgg0
 z0:=Tryz.sizeOf0
 v0:=Tryz.zeroValue0
 t2:=Tryz.underlying2
 a2:=Tryz.isAgg2
 z2:=Tryz.sizeOf2
 v2:=Tryz.zeroValue2
 t3:=Tryz.underlying3
 a3:=Tryz.isAgg3
 z3:=Tryz.sizeOf3
 v3:=Tryz.zeroValue3
 t4:=Tryz.underlying4
 a4:=Tryz.isAgg4
 z4:=Tryz.sizeOf4
 v4:=Tryz.zeroValue4
 t5:=Tryz.underlying5
 a5:=Tryz.isAgg5
 z5:=Tryz.sizeOf5
 v5:=Tryz.zeroValue5
 t9:=Tryz.underlying9
 a9:=Tryz.isAgg9
 z9:=Tryz.sizeOf9
 v9:=Tryz.zeroValue9
 t20:=Tryz.underlying20
 a20:=Tryz.isAgg20
 z20:=Tryz.sizeOf20
 v20:=Tryz.zeroValue20
 t37:=Tryz.underlying25
 a37:=Tryz.isAgg25
 z37:=Tryz.sizeOf25
 v37:=Tryz.zeroValue25
 t46:=Tryz.underlying185
 a46:=Tryz.isAgg185
 z46:=Tryz.sizeOf185
 v46:=Tryz.zeroValue185
 t51:=Tryz.underlying246
 a51:=Tryz.isAgg246
 z51:=Tryz.sizeOf246
 v51:=Tryz.zeroValue246
 t53:=Tryz.underlying22
 a53:=Tryz.isAgg22
 z53:=Tryz.sizeOf22
 v53:=Tryz.zeroValue22
 t171:=Tryz.underlying291
 a171:=Tryz.isAgg291
 z171:=Tryz.sizeOf291
 v171:=Tryz.zeroValue291
 t173:=Tryz.underlying293
 a173:=Tryz.isAgg293
 z173:=Tryz.sizeOf293
 v173:=Tryz.zeroValue293
 t212:=Tryz.underlying353
 a212:=Tryz.isAgg353
 z212:=Tryz.sizeOf353
 v212:=Tryz.zeroValue353
 t213:=Tryz.underlying354
 a213:=Tryz.isAgg354
 z213:=Tryz.sizeOf354
 t232:=Tryz.underlying387
 a232:=Tryz.isAgg387
 z232:=Tryz.sizeOf387
 v232:=Tryz.zeroValue387
 t233:=Tryz.underlying388
 a233:=Tryz.isAgg388
 z233:=Tryz.sizeOf388
 v233:=Tryz.zeroValue388
 g17:=by kernel_rfl
 g18:=by kernel_rfl
 g19:=by kernel_rfl
 i0:=by kernel_rfl
 i2:=by kernel_rfl
 i3:=by kernel_rfl
 i4:=by kernel_rfl
 i5:=by kernel_rfl
 i9:=by kernel_rfl
 i20:=by kernel_rfl
 i37:=by kernel_rfl
 i46:=by kernel_rfl
 i51:=by kernel_rfl
 i53:=by kernel_rfl
 i171:=by kernel_rfl
 i173:=by kernel_rfl
 i212:=by kernel_rfl
 i232:=by kernel_rfl
 i233:=by kernel_rfl
 m17:=by kernel_rfl
 m18:=by kernel_rfl
 m19:=by kernel_rfl}
open Go.RowKit Go.Sort Go.Lib in
theorem Tryz.strconv_Itoa (n:Int)(h0:-9223372036854775808<=n)(h1:n<=9223372036854775807)(w:World)(htab:Lib.TabIs Tryz.prog w "internal/strconv.uint64pow10" .u64 Lib.pow10Tab):
  Calls Tryz.prog 41 #[.int .i64 n] w λe w'=>e=.returned (.string ⟨(Lib.itoa n).toArray⟩)/\∃k os,w'=grow (w.drewN k) os:=Any.strconv_Itoa Tryz.laysM171 n h0 h1 w htab
end
end Go.Proofs
namespace Go.Proofs.YtoifllbioldomaaGreatDoor
open Go Go.Abs Go.RowKit
theorem t_ (n:Int)(h0:-9223372036854775808<=n)(h1:n<=9223372036854775807):PureD Tryz.prog 41 [intD n] (.i (.s (.string ⟨(Lib.itoa n).toArray⟩))):=by
 refine⟨fQ Tryz.func41 (by kernel_rfl) (by kernel_rfl),λK0 T K vs hr hrd=>?_⟩;obtain⟨hs,hg⟩:=hrd;have hv:vs=#[.int .i64 n]:=by
  have h2:=conc_ok (hg 0 _ rfl) (v':=.int .i64 n) rfl;apply Array.ext
  ·simpa using hs
  ·intro j hj1 hj2;have:j=0:=by simp at hj2;exact hj2
   subst this;rw[f_ hj1]at h2;simpa using h2
 subst hv;have ht:Lib.TabIs Tryz.prog K.w "internal/strconv.uint64pow10" .u64 Lib.pow10Tab:=hr.var (q:=("internal/strconv.uint64pow10",(Go.Lib.pow10Tab.map λz=>Value.int .u64 z).toArray)) (by simp[Ez]);refine(Tryz.strconv_Itoa n h0 h1 K.w ht).mono ?_;rintro e w' ⟨rfl,k,os,rfl⟩;have hsz:K.w.heap.size<=(Go.Sort.grow (K.w.drewN k) os).heap.size:=by show _<=(K.w.heap++os).size;simp
 obtain⟨g1,g2⟩:=hr.grow (w':=Go.Sort.grow (K.w.drewN k) os) (S':=K.S) rfl rfl rfl hsz (λj hj=>by show(K.w.heap++os)[j]?=_;rw[Array.getElem?_append_left hj]) (λ_ h=>h) (λ_ h=>.inl h) (λb hb=>Nat.lt_of_lt_of_le (hr.sB b hb) hsz);exact⟨_,_,rfl,rfl,g1,g2,.i (.s _ rfl)⟩
theorem jG {P:Program}{t:TypeId}{x y:Operand}(a b:List UInt8)(h:a.length<=100/\b.length<=100):fZ P .add t x y (some (.string ⟨a.toArray⟩)) (some (.string ⟨b.toArray⟩))=some (.i (.s (.string ⟨(a++b).toArray⟩))):=by rw[lQ (by simp only[ByteArray.size,List.size_toArray];omega)];congr 5
def fe (n:Int):Prop:=-9223372036854775808<=n/\n<=9223372036854775807
theorem jZ {n:Int}(h:fe n):(Lib.itoa n).length<=21:=Lib.itoa_length_le n h.1 h.2
open Go.Proofs.YtoifllbioldomaaGreatDoor.Ty
theorem zw (l:List UInt8):Yd ⟨l.toArray⟩=bI l:=rfl
def keyC (i:Int):List UInt8:=[99,111,110,110,47]++Lib.itoa i
def keyH (i:Int):List UInt8:=[99,104,97,110,47]++Lib.itoa i
def keyN (i:Int):List UInt8:=[110,101,120,116,47]++Lib.itoa i
def keyM (w:List UInt8)(ch seq:Int):List UInt8:=w++[47]++Lib.itoa ch++[47]++Lib.itoa seq
theorem CU (i:Int)(h:fe i):PureD Tryz.prog 98 [intD i] (.i (bI (keyC i))):=by
 refine af λR hR=>?_;have c1:=t_ i h.1 h.2;have hl:=jZ h;unfold keyC at hR;generalize Lib.itoa i=L at*;have s1:=λP t x y=>@jG P t x y [99,111,110,110,47] L (by simp;omega);have s2:([99,111,110,110,47]++L).length<=140737488355328:=by simp;omega
 have s3:=zw ([99,111,110,110,47]++L);generalize[99,111,110,110,47]++L=K at*;refine aa 7 Tryz.func98 ?_;exact wkl trivial
theorem Cv (i:Int)(h:fe i):PureD Tryz.prog 100 [intD i] (.i (bI (keyH i))):=by
 refine af λR hR=>?_;have c1:=t_ i h.1 h.2;have hl:=jZ h;unfold keyH at hR;generalize Lib.itoa i=L at*;have s1:=λP t x y=>@jG P t x y [99,104,97,110,47] L (by simp;omega);have s2:([99,104,97,110,47]++L).length<=140737488355328:=by simp;omega
 have s3:=zw ([99,104,97,110,47]++L);generalize[99,104,97,110,47]++L=K at*;refine aa 7 Tryz.func100 ?_;exact wkl trivial
theorem NF (i:Int)(h:fe i):PureD Tryz.prog 103 [intD i] (.i (bI (keyN i))):=by
 refine af λR hR=>?_;have c1:=t_ i h.1 h.2;have hl:=jZ h;unfold keyN at hR;generalize Lib.itoa i=L at*;have s1:=λP t x y=>@jG P t x y [110,101,120,116,47] L (by simp;omega);have s2:([110,101,120,116,47]++L).length<=140737488355328:=by simp;omega
 have s3:=zw ([110,101,120,116,47]++L);generalize[110,101,120,116,47]++L=K at*;refine aa 7 Tryz.func103 ?_;exact wkl trivial
theorem qU (w:List UInt8)(ch seq:Int)(hw:w.length<=10)(h1:fe ch)(h2:fe seq):PureD Tryz.prog 102 [.i (.s (.string ⟨w.toArray⟩)),intD ch,intD seq] (.i (bI (keyM w ch seq))):=by
 refine af λR hR=>?_;have c1:=t_ ch h1.1 h1.2;have c2:=t_ seq h2.1 h2.2;have hl:=jZ h1;have hl2:=jZ h2;unfold keyM at hR;generalize Lib.itoa ch=L at*;generalize Lib.itoa seq=M at*;have s1:=λP t x y=>@jG P t x y w [47] (by simp;omega);have s2:=λP t x y=>@jG P t x y (w++[47]) L (by simp;omega);have s3:=λP t x y=>@jG P t x y (w++[47]++L) [47] (by simp;omega);have s4:=λP t x y=>@jG P t x y (w++[47]++L++[47]) M (by simp;omega);have s5:(w++[47]++L++[47]++M).length<=140737488355328:=by simp;omega
 have s6:=zw (w++[47]++L++[47]++M);generalize w++[47]++L++[47]++M=K4 at*;generalize w++[47]++L++[47]=K3 at*;generalize w++[47]++L=K2 at*;generalize w++[47]=K1 at*;refine aa 17 Tryz.func102 ?_;exact wkl trivial
theorem Sj (x:Int):PureD Tryz.prog 173 [intD x] (.agg [.i (.s (.int .i64 1)),.i (.s (.int .u64 (u64 x))),.i (.sl [])]):=by refine af λR hR=>?_;have w1:=Lf x;refine aa 6 Tryz.func173 ?_;exact wkl trivial
theorem vO (l:List bK)(hl:l.length<=1048576)(hb:∀p∈l,p.b.length<=1048576)(hn:Rk l):PureD Tryz.prog 172 [.i (.sl (l.map wS))] (.i (bI (writeF l).1)):=by refine af λR hR=>?_;have c1:=yU l hl hb hn;simp only[pG]at c1;generalize writeF l=W at*;refine aa 11 Tryz.func172 ?_;exact wkl trivial
def kU (c:ConnD):List UInt8:=(writeF [jW (u64 c.st),jW (u64 c.cl),jW (u64 c.oc),jW (u64 (c.on+1))]).1
def kV (c:ChanD):List UInt8:=(writeF [jW (u64 c.st),jW (u64 (if c.ord=true then 1 else 0)),jW (u64 c.cn),jW (u64 (c.oc+1))]).1
def Bi (x:Int):List UInt8:=(writeF [jW (u64 x)]).1
theorem Em {l:List Nat}(h:∀n∈l,n<18446744073709551616):Rk (l.map jW):=λp hp=>by obtain⟨n,hn,rfl⟩:=List.mem_map.1 hp;exact h n hn
theorem Nw (l:List Nat):∀p∈l.map jW,p.b.length<=1048576:=λp hp=>by obtain⟨n,hn,rfl⟩:=List.mem_map.1 hp;simp[jW]
theorem Pt (c:ConnD)(h:-1<=c.on/\c.on<=1000000000000):PureD Tryz.prog 105 [connD c] (.i (bI (kU c))):=by refine af λR hR=>?_;have c1:=Sj c.st;have c2:=Sj c.cl;have c3:=Sj c.oc;have c4:=Sj (c.on+1);have w1:IntKind.i64.wrap (c.on+1)=c.on+1:=ai (by omega) (by omega);have c5:=vO ([u64 c.st,u64 c.cl,u64 c.oc,u64 (c.on+1)].map jW) (by simp) (Nw _) (Em (by simp[u64_lt]));unfold kU at hR;simp only[List.map_cons,List.map_nil]at c5;generalize writeF [jW (u64 c.st),jW (u64 c.cl),jW (u64 c.oc),jW (u64 (c.on+1))]=W at*;generalize u64 c.st=a1 at*;generalize u64 c.cl=a2 at*;generalize u64 c.oc=a3 at*;generalize u64 (c.on+1)=a4 at*;simp only[wS,jW,bI,List.map_nil]at c5;refine aa 18 Tryz.func105 ?_;exact wkl trivial
theorem PV (c:ChanD)(h:-1<=c.oc/\c.oc<=1000000000000):PureD Tryz.prog 106 [chanD c] (.i (bI (kV c))):=by
 refine af λR hR=>?_;unfold kV at hR;have c1:=Sj c.st;have c2:=Sj (if c.ord=true then 1 else 0);have c3:=Sj c.cn;have c4:=Sj (c.oc+1);have w1:IntKind.i64.wrap (c.oc+1)=c.oc+1:=ai (by omega) (by omega);have c5:=vO ([u64 c.st,u64 (if c.ord=true then 1 else 0),u64 c.cn,u64 (c.oc+1)].map jW) (by simp) (Nw _) (Em (by simp[u64_lt]));simp only[List.map_cons,List.map_nil]at c5;generalize writeF [jW (u64 c.st),jW (u64 (if c.ord=true then 1 else 0)),jW (u64 c.cn),jW (u64 (c.oc+1))]=W at*;generalize u64 c.st=a1 at*;generalize u64 c.cn=a2 at*;generalize u64 (if c.ord=true then 1 else 0)=a3 at*;generalize u64 (c.oc+1)=a4 at*;simp only[wS,jW,bI,List.map_nil]at c5;cases ho:c.ord;all_goals
  simp only[ho,Bool.false_eq_true,if_true,if_false]at c2;refine aa 20 Tryz.func106 ?_;exact wkl trivial
theorem NG (x:Int):PureD Tryz.prog 107 [intD x] (.i (bI (Bi x))):=by refine af λR hR=>?_;have c1:=Sj x;have c5:=vO ([u64 x].map jW) (by simp) (Nw _) (Em (by simp[u64_lt]));unfold Bi at hR;simp only[List.map_cons,List.map_nil]at c5;generalize writeF [jW (u64 x)]=W at*;generalize u64 x=a1 at*;simp only[wS,jW,bI,List.map_nil]at c5;refine aa 7 Tryz.func107 ?_;exact wkl trivial
end Go.Proofs.YtoifllbioldomaaGreatDoor
