/- Merged texts: Ito, StKs, StK. -/
import Derived.Shelf.Small.Bits
import Derived.Shelf.Strconv.Itoa0
import Derived.Shelf.Strconv.Itoa1
import Derived.Shelf.LaysM
import Derived.Shelf.Strconv.Itoa2
import Derived.Shelf.Strconv.Itoa3
import Derived.Shelf.Strconv.Itoa4
import Derived.Lib.ItoaLen
import Derived.Test.YtdmeldhlbpdeeaaGreatDoorGSt
set_option linter.all false
set_option maxHeartbeats 4000000
namespace Go.Proofs
section
open Go.Shelf
def Tryz.laysM171_ren:Go.Shelf.Ren:=⟨λ|171=>89|243=>138|246=>175|283=>220|284=>221|285=>222|286=>223|129=>148|317=>257|318=>258|319=>259|320=>260|337=>277|338=>278|n=>n,λ|3=>3|9=>9|2=>2|4=>4|171=>321|0=>0|53=>59|37=>29|5=>5|173=>323|212=>364|51=>245|20=>20|213=>365|46=>190|232=>388|233=>389|n=>n,λ|17=>3|18=>4|19=>5|n=>n⟩
theorem Tryz.laysM171:Go.Proofs.LaysM.n171 Tryz.prog Tryz.laysM171_ren:={
 mixed:=by kernel_rfl
 f129:=Tryz.func148.trans (congrArg some (by kernel_rfl))
 f171:=Tryz.func89.trans (congrArg some (by kernel_rfl))
 f243:=Tryz.func138.trans (congrArg some (by kernel_rfl))
 f246:=Tryz.func175.trans (congrArg some (by kernel_rfl))
 f283:=Tryz.func220.trans (congrArg some (by kernel_rfl))
 f284:=Tryz.func221.trans (congrArg some (by kernel_rfl))
 f285:=Tryz.func222.trans (congrArg some (by kernel_rfl))
 f286:=Tryz.func223.trans (congrArg some (by kernel_rfl))
 f317:=Tryz.func257.trans (congrArg some (by kernel_rfl))
 f318:=Tryz.func258.trans (congrArg some (by kernel_rfl))
 f319:=Tryz.func259.trans (congrArg some (by kernel_rfl))
 f320:=Tryz.func260.trans (congrArg some (by kernel_rfl))
 f337:=Tryz.func277.trans (congrArg some (by kernel_rfl))
 f338:=Tryz.func278.trans (congrArg some (by kernel_rfl))
 t0:=Tryz.underlying0
 a0:=Tryz.isAgg0
 z0:=Tryz.sizeOf0
 v0:=Tryz.zeroValue0
 t2:=Tryz.underlying2
 a2:=Tryz.isAgg2
 z2:=Tryz.sizeOf2
 v2:=Tryz.zeroValue2
 t3:=Tryz.underlying3
 a3:=Tryz.isAgg3
 z3:=Tryz.sizeOf3
 v3:=Tryz.zeroValue3
 t4:=Tryz.underlying4
 a4:=Tryz.isAgg4
 z4:=Tryz.sizeOf4
 v4:=Tryz.zeroValue4
 t5:=Tryz.underlying5
 a5:=Tryz.isAgg5
 z5:=Tryz.sizeOf5
 v5:=Tryz.zeroValue5
 t9:=Tryz.underlying9
 a9:=Tryz.isAgg9
 z9:=Tryz.sizeOf9
 v9:=Tryz.zeroValue9
 t20:=Tryz.underlying20
 a20:=Tryz.isAgg20
 z20:=Tryz.sizeOf20
 v20:=Tryz.zeroValue20
 t37:=Tryz.underlying29
 a37:=Tryz.isAgg29
 z37:=Tryz.sizeOf29
 v37:=Tryz.zeroValue29
 t46:=Tryz.underlying190
 a46:=Tryz.isAgg190
 z46:=Tryz.sizeOf190
 v46:=Tryz.zeroValue190
 t51:=Tryz.underlying245
 a51:=Tryz.isAgg245
 z51:=Tryz.sizeOf245
 v51:=Tryz.zeroValue245
 t53:=Tryz.underlying59
 a53:=Tryz.isAgg59
 z53:=Tryz.sizeOf59
 v53:=Tryz.zeroValue59
 t171:=Tryz.underlying321
 a171:=Tryz.isAgg321
 z171:=Tryz.sizeOf321
 v171:=Tryz.zeroValue321
 t173:=Tryz.underlying323
 a173:=Tryz.isAgg323
 z173:=Tryz.sizeOf323
 v173:=Tryz.zeroValue323
 t212:=Tryz.underlying364
 a212:=Tryz.isAgg364
 z212:=Tryz.sizeOf364
 v212:=Tryz.zeroValue364
 t213:=Tryz.underlying365
 a213:=Tryz.isAgg365
 z213:=Tryz.sizeOf365
 t232:=Tryz.underlying388
 a232:=Tryz.isAgg388
 z232:=Tryz.sizeOf388
 v232:=Tryz.zeroValue388
 t233:=Tryz.underlying389
 a233:=Tryz.isAgg389
 z233:=Tryz.sizeOf389
 v233:=Tryz.zeroValue389
 g17:=by kernel_rfl
 g18:=by kernel_rfl
 g19:=by kernel_rfl
 i0:=by kernel_rfl
 i2:=by kernel_rfl
 i3:=by kernel_rfl
 i4:=by kernel_rfl
 i5:=by kernel_rfl
 i9:=by kernel_rfl
 i20:=by kernel_rfl
 i37:=by kernel_rfl
 i46:=by kernel_rfl
 i51:=by kernel_rfl
 i53:=by kernel_rfl
 i171:=by kernel_rfl
 i173:=by kernel_rfl
 i212:=by kernel_rfl
 i232:=by kernel_rfl
 i233:=by kernel_rfl
 m17:=by kernel_rfl
 m18:=by kernel_rfl
 m19:=by kernel_rfl}
open Go.RowKit Go.Sort Go.Lib in
theorem Tryz.strconv_Itoa (n:Int)(h0:-9223372036854775808<=n)(h1:n<=9223372036854775807)(w:World)(htab:Lib.TabIs Tryz.prog w "internal/strconv.uint64pow10" .u64 Lib.pow10Tab):
  Calls Tryz.prog 89 #[.int .i64 n] w λe w'=>e=.returned (.string ⟨(Lib.itoa n).toArray⟩)/\∃k os,w'=grow (w.drewN k) os:=Any.strconv_Itoa Tryz.laysM171 n h0 h1 w htab
end
end Go.Proofs
namespace Go.Proofs.YtdmeldhlbpdeeaaGreatDoor
open Go Go.Abs Go.RowKit
theorem tJ (n:Int)(h0:-9223372036854775808<=n)(h1:n<=9223372036854775807):PureD Tryz.prog 89 [intD n] (.i (.s (.string ⟨(Lib.itoa n).toArray⟩))):=by
 refine⟨gH Tryz.func89 (by kernel_rfl) (by kernel_rfl),λK0 T K vs hr hrd=>?_⟩;obtain⟨hs,hg⟩:=hrd;have hv:vs=#[.int .i64 n]:=by
  have h2:=conc_ok (hg 0 _ rfl) (v':=.int .i64 n) rfl;apply Array.ext
  ·simpa using hs
  ·intro j hj1 hj2;have:j=0:=by simp at hj2;exact hj2
   subst this;rw[gD hj1]at h2;simpa using h2
 subst hv;have ht:Lib.TabIs Tryz.prog K.w "internal/strconv.uint64pow10" .u64 Lib.pow10Tab:=hr.var (q:=("internal/strconv.uint64pow10",(Go.Lib.pow10Tab.map λz=>Value.int .u64 z).toArray)) (by simp[ER]);refine(Tryz.strconv_Itoa n h0 h1 K.w ht).mono ?_;rintro e w' ⟨rfl,k,os,rfl⟩;have hsz:K.w.heap.size<=(Go.Sort.grow (K.w.drewN k) os).heap.size:=by show _<=(K.w.heap++os).size;simp
 obtain⟨g1,g2⟩:=hr.grow (w':=Go.Sort.grow (K.w.drewN k) os) (S':=K.S) rfl rfl rfl hsz (λj hj=>by show(K.w.heap++os)[j]?=_;rw[Array.getElem?_append_left hj]) (λ_ h=>h) (λ_ h=>.inl h) (λb hb=>Nat.lt_of_lt_of_le (hr.sB b hb) hsz);exact⟨_,_,rfl,rfl,g1,g2,.i (.s _ rfl)⟩
theorem jD {P:Program}{t:TypeId}{x y:Operand}(a b:List UInt8)(h:a.length<=100/\b.length<=100):gM P .add t x y (some (.string ⟨a.toArray⟩)) (some (.string ⟨b.toArray⟩))=some (.i (.s (.string ⟨(a++b).toArray⟩))):=by rw[lK (by simp only[ByteArray.size,List.size_toArray];omega)];congr 5
def gT (n:Int):Prop:=-9223372036854775808<=n/\n<=9223372036854775807
theorem jU {n:Int}(h:gT n):(Lib.itoa n).length<=21:=Lib.itoa_length_le n h.1 h.2
open Go.Proofs.YtdmeldhlbpdeeaaGreatDoor.Ty
theorem zo (l:List UInt8):Wm ⟨l.toArray⟩=bI l:=rfl
def keyC (i:Int):List UInt8:=[99,111,110,110,47]++Lib.itoa i
def keyH (i:Int):List UInt8:=[99,104,97,110,47]++Lib.itoa i
def keyN (i:Int):List UInt8:=[110,101,120,116,47]++Lib.itoa i
def keyM (w:List UInt8)(ch seq:Int):List UInt8:=w++[47]++Lib.itoa ch++[47]++Lib.itoa seq
theorem Df (i:Int)(h:gT i):PureD Tryz.prog 29 [intD i] (.i (bI (keyC i))):=by
 refine ai λR hR=>?_;have c1:=tJ i h.1 h.2;have hl:=jU h;unfold keyC at hR;generalize Lib.itoa i=L at*;have s1:=λP t x y=>@jD P t x y [99,111,110,110,47] L (by simp;omega);have s2:([99,111,110,110,47]++L).length<=140737488355328:=by simp;omega
 have s3:=zo ([99,111,110,110,47]++L);generalize[99,111,110,110,47]++L=K at*;refine aa 7 Tryz.func29 ?_;exact wkl trivial
theorem CB (i:Int)(h:gT i):PureD Tryz.prog 31 [intD i] (.i (bI (keyH i))):=by
 refine ai λR hR=>?_;have c1:=tJ i h.1 h.2;have hl:=jU h;unfold keyH at hR;generalize Lib.itoa i=L at*;have s1:=λP t x y=>@jD P t x y [99,104,97,110,47] L (by simp;omega);have s2:([99,104,97,110,47]++L).length<=140737488355328:=by simp;omega
 have s3:=zo ([99,104,97,110,47]++L);generalize[99,104,97,110,47]++L=K at*;refine aa 7 Tryz.func31 ?_;exact wkl trivial
theorem Og (i:Int)(h:gT i):PureD Tryz.prog 33 [intD i] (.i (bI (keyN i))):=by
 refine ai λR hR=>?_;have c1:=tJ i h.1 h.2;have hl:=jU h;unfold keyN at hR;generalize Lib.itoa i=L at*;have s1:=λP t x y=>@jD P t x y [110,101,120,116,47] L (by simp;omega);have s2:([110,101,120,116,47]++L).length<=140737488355328:=by simp;omega
 have s3:=zo ([110,101,120,116,47]++L);generalize[110,101,120,116,47]++L=K at*;refine aa 7 Tryz.func33 ?_;exact wkl trivial
theorem qG (w:List UInt8)(ch seq:Int)(hw:w.length<=10)(h1:gT ch)(h2:gT seq):PureD Tryz.prog 35 [.i (.s (.string ⟨w.toArray⟩)),intD ch,intD seq] (.i (bI (keyM w ch seq))):=by
 refine ai λR hR=>?_;have c1:=tJ ch h1.1 h1.2;have c2:=tJ seq h2.1 h2.2;have hl:=jU h1;have hl2:=jU h2;unfold keyM at hR;generalize Lib.itoa ch=L at*;generalize Lib.itoa seq=M at*;have s1:=λP t x y=>@jD P t x y w [47] (by simp;omega);have s2:=λP t x y=>@jD P t x y (w++[47]) L (by simp;omega);have s3:=λP t x y=>@jD P t x y (w++[47]++L) [47] (by simp;omega);have s4:=λP t x y=>@jD P t x y (w++[47]++L++[47]) M (by simp;omega);have s5:(w++[47]++L++[47]++M).length<=140737488355328:=by simp;omega
 have s6:=zo (w++[47]++L++[47]++M);generalize w++[47]++L++[47]++M=K4 at*;generalize w++[47]++L++[47]=K3 at*;generalize w++[47]++L=K2 at*;generalize w++[47]=K1 at*;refine aa 17 Tryz.func35 ?_;exact wkl trivial
theorem SY (x:Int):PureD Tryz.prog 91 [intD x] (.agg [.i (.s (.int .i64 1)),.i (.s (.int .u64 (u64 x))),.i (.sl [])]):=by refine ai λR hR=>?_;have w1:=LU x;refine aa 6 Tryz.func91 ?_;exact wkl trivial
theorem vL (l:List bC)(hl:l.length<=1048576)(hb:∀p∈l,p.b.length<=1048576)(hn:KM l):PureD Tryz.prog 90 [.i (.sl (l.map wM))] (.i (bI (bD l).1)):=by refine ai λR hR=>?_;have c1:=yP l hl hb hn;simp only[oU]at c1;generalize bD l=W at*;refine aa 11 Tryz.func90 ?_;exact wkl trivial
def kQ (c:ConnD):List UInt8:=(bD [jh (u64 c.st),jh (u64 c.cl),jh (u64 c.oc),jh (u64 (c.on+1))]).1
def kR (c:ChanD):List UInt8:=(bD [jh (u64 c.st),jh (u64 (if c.ord=true then 1 else 0)),jh (u64 c.cn),jh (u64 (c.oc+1))]).1
def Dw (x:Int):List UInt8:=(bD [jh (u64 x)]).1
theorem EA {l:List Nat}(h:∀n∈l,n<18446744073709551616):KM (l.map jh):=λp hp=>by obtain⟨n,hn,rfl⟩:=List.mem_map.1 hp;exact h n hn
theorem NY (l:List Nat):∀p∈l.map jh,p.b.length<=1048576:=λp hp=>by obtain⟨n,hn,rfl⟩:=List.mem_map.1 hp;simp[jh]
theorem P_ (c:ConnD)(h:-1<=c.on/\c.on<=1000000000000):PureD Tryz.prog 30 [connD c] (.i (bI (kQ c))):=by refine ai λR hR=>?_;have c1:=SY c.st;have c2:=SY c.cl;have c3:=SY c.oc;have c4:=SY (c.on+1);have w1:IntKind.i64.wrap (c.on+1)=c.on+1:=au (by omega) (by omega);have c5:=vL ([u64 c.st,u64 c.cl,u64 c.oc,u64 (c.on+1)].map jh) (by simp) (NY _) (EA (by simp[u64_lt]));unfold kQ at hR;simp only[List.map_cons,List.map_nil]at c5;generalize bD [jh (u64 c.st),jh (u64 c.cl),jh (u64 c.oc),jh (u64 (c.on+1))]=W at*;generalize u64 c.st=a1 at*;generalize u64 c.cl=a2 at*;generalize u64 c.oc=a3 at*;generalize u64 (c.on+1)=a4 at*;simp only[wM,jh,bI,List.map_nil]at c5;refine aa 18 Tryz.func30 ?_;exact wkl trivial
theorem Qu (c:ChanD)(h:-1<=c.oc/\c.oc<=1000000000000):PureD Tryz.prog 32 [chanD c] (.i (bI (kR c))):=by
 refine ai λR hR=>?_;unfold kR at hR;have c1:=SY c.st;have c2:=SY (if c.ord=true then 1 else 0);have c3:=SY c.cn;have c4:=SY (c.oc+1);have w1:IntKind.i64.wrap (c.oc+1)=c.oc+1:=au (by omega) (by omega);have c5:=vL ([u64 c.st,u64 (if c.ord=true then 1 else 0),u64 c.cn,u64 (c.oc+1)].map jh) (by simp) (NY _) (EA (by simp[u64_lt]));simp only[List.map_cons,List.map_nil]at c5;generalize bD [jh (u64 c.st),jh (u64 (if c.ord=true then 1 else 0)),jh (u64 c.cn),jh (u64 (c.oc+1))]=W at*;generalize u64 c.st=a1 at*;generalize u64 c.cn=a2 at*;generalize u64 (if c.ord=true then 1 else 0)=a3 at*;generalize u64 (c.oc+1)=a4 at*;simp only[wM,jh,bI,List.map_nil]at c5;cases ho:c.ord;all_goals
  simp only[ho,Bool.false_eq_true,if_true,if_false]at c2;refine aa 20 Tryz.func32 ?_;exact wkl trivial
theorem Oh (x:Int):PureD Tryz.prog 34 [intD x] (.i (bI (Dw x))):=by refine ai λR hR=>?_;have c1:=SY x;have c5:=vL ([u64 x].map jh) (by simp) (NY _) (EA (by simp[u64_lt]));unfold Dw at hR;simp only[List.map_cons,List.map_nil]at c5;generalize bD [jh (u64 x)]=W at*;generalize u64 x=a1 at*;simp only[wM,jh,bI,List.map_nil]at c5;refine aa 7 Tryz.func34 ?_;exact wkl trivial
end Go.Proofs.YtdmeldhlbpdeeaaGreatDoor
