/- Merged texts: ShaS, ShaA, ShaB, ShaW, ShaE, ShaP, ShaD. -/
import Derived.StillTailTactics
import Derived.Deep.DeepCutAuto
import Derived.Deep.LoopGhost
import Derived.Deep.RegionHeld3
import Derived.Deep.RegionWith
import Derived.Test.YtdmeldhlbpdeeaaGreatDoorTy
set_option linter.all false
set_option maxHeartbeats 1000000
set_option maxRecDepth 100000
namespace Go.Proofs.YtdmeldhlbpdeeaaGreatDoor
open Go.RowKit
def wadd (a b:Nat):Nat:=(a+b)%4294967296
def wxor (a b:Nat):Nat:=(a%4294967296) ^^^ (b%4294967296)
def wand (a b:Nat):Nat:=(a%4294967296) &&& (b%4294967296)
def wor (a b:Nat):Nat:=(a%4294967296) ||| (b%4294967296)
def wnot (a:Nat):Nat:=4294967295 ^^^ (a%4294967296)
def wshl (a d:Nat):Nat:=a*d%4294967296
def wshr (a d:Nat):Nat:=a/d
def wrot (a n:Nat):Nat:=wor (wshl a (2^(32-n))) (wshr a (2^n))
theorem LP (a b:Nat):wxor a b<4294967296:=Nat.xor_lt_two_pow (n:=32) (Nat.mod_lt _ (by decide)) (Nat.mod_lt _ (by decide))
theorem VY (a b:Nat):wor a b<4294967296:=Nat.or_lt_two_pow (n:=32) (Nat.mod_lt _ (by decide)) (Nat.mod_lt _ (by decide))
theorem LY (a b:Nat):wand a b<4294967296:=Nat.and_lt_two_pow _ (n:=32) (Nat.mod_lt _ (by decide))
theorem AY (a b:Nat):bits .xor .u32 a b=((wxor a b:Nat):Int)/\bits .and .u32 a b=((wand a b:Nat):Int)/\bits .or .u32 a b=((wor a b:Nat):Int):=by
 have e:IntKind.u32.bits=32:=rfl;refine⟨?_,?_,?_⟩
 ·simp only[bits,BitVec.ofInt_natCast,BitVec.toNat_xor,BitVec.toNat_ofNat,e,IntKind.wrap_u32];have:=LP a b;unfold wxor at*;simp only[show(2:Nat)^32=4294967296 from rfl];omega
 ·simp only[bits,BitVec.ofInt_natCast,BitVec.toNat_and,BitVec.toNat_ofNat,e,IntKind.wrap_u32];have:=LY a b;unfold wand at*;simp only[show(2:Nat)^32=4294967296 from rfl];omega
 ·simp only[bits,BitVec.ofInt_natCast,BitVec.toNat_or,BitVec.toNat_ofNat,e,IntKind.wrap_u32];have:=VY a b;unfold wor at*;simp only[show(2:Nat)^32=4294967296 from rfl];omega
theorem rx (a b:Nat):bits .xor .u32 a b=((wxor a b:Nat):Int):=(AY a b).1
theorem ra (a b:Nat):bits .and .u32 a b=((wand a b:Nat):Int):=(AY a b).2.1
theorem ro (a b:Nat):bits .or .u32 a b=((wor a b:Nat):Int):=(AY a b).2.2
theorem rn (a:Nat):bits .xor .u32 4294967295 a=((wnot a:Nat):Int):=(rx 4294967295 a).trans rfl
theorem rs (a b:Nat):((a:Int)+(b:Int))%4294967296=((wadd a b:Nat):Int):=by unfold wadd;omega
theorem afG (a:Nat)(h:a<4294967296):(a:Int)%4294967296=a:=by omega
structure V8 where
 a:Nat
 b:Nat
 c:Nat
 d:Nat
 e:Nat
 f:Nat
 g:Nat
 h:Nat
def V8.cells (v:V8):List Value:=[.int .u32 v.a,.int .u32 v.b,.int .u32 v.c,.int .u32 v.d,.int .u32 v.e,.int .u32 v.f,.int .u32 v.g,.int .u32 v.h]
def V8.list (v:V8):List Nat:=[v.a,v.b,v.c,v.d,v.e,v.f,v.g,v.h]
def KS:List Nat:=[1116352408,1899447441,3049323471,3921009573,961987163,1508970993,2453635748,2870763221,3624381080,310598401,607225278,1426881987,1925078388,2162078206,2614888103,3248222580,3835390401,4022224774,264347078,604807628,770255983,1249150122,1555081692,1996064986,2554220882,2821834349,2952996808,3210313671,3336571891,3584528711,113926993,338241895,666307205,773529912,1294757372,1396182291,1695183700,1986661051,2177026350,2456956037,2730485921,2820302411,3259730800,3345764771,3516065817,3600352804,4094571909,275423344,430227734,506948616,659060556,883997877,958139571,1322822218,1537002063,1747873779,1955562222,2024104815,2227730452,2361852424,2428436474,2756734187,3204031479,3329325298]
def V0:V8:=⟨1779033703,3144134277,1013904242,2773480762,1359893119,2600822924,528734635,1541459225⟩
def wordAt (l:List UInt8)(i:Nat):Nat:=wor (wor (wor (wshl (bnth l i) 16777216) (wshl (bnth l (i+1)) 65536)) (wshl (bnth l (i+2)) 256)) (bnth l (i+3))
def sgA (x:Nat):Nat:=wxor (wxor (wrot x 7) (wrot x 18)) (wshr x 8)
def sgB (x:Nat):Nat:=wxor (wxor (wrot x 17) (wrot x 19)) (wshr x 1024)
def KH (l:List Nat)(t:Nat):Nat:=wadd (wadd (wadd (l.getD (t-16) 0) (l.getD (t-7) 0)) (sgA (l.getD (t-15) 0))) (sgB (l.getD (t-2) 0))
def sched (blk:List UInt8):Nat->List Nat
 |0=>[]
 |t+1=>let l:=sched blk t;l++[if t<16 then wordAt blk (4*t)else KH l t]
theorem mX (blk:List UInt8)(t:Nat):(sched blk t).length=t:=by
 induction t with
 |zero=>rfl
 |succ t ih=>simp[sched,ih]
def BL (v:V8)(k w:Nat):V8 :=
 let one:=wadd (wadd (wadd (wadd v.h (wxor (wxor (wrot v.e 6) (wrot v.e 11)) (wrot v.e 25))) (wxor (wand v.e v.f) (wand (wnot v.e) v.g))) k) w;let two:=wadd (wxor (wxor (wrot v.a 2) (wrot v.a 13)) (wrot v.a 22)) (wxor (wxor (wand v.a v.b) (wand v.a v.c)) (wand v.b v.c))
 ⟨wadd one two,v.a,v.b,v.c,wadd v.d one,v.e,v.f,v.g⟩
def roundsTo (v:V8)(W:List Nat):Nat->V8
 |0=>v
 |t+1=>BL (roundsTo v W t) (KS.getD t 0) (W.getD t 0)
def wY (v:V8)(blk:List UInt8):V8 :=
 let u:=roundsTo v (sched blk 64) 64
 ⟨wadd v.a u.a,wadd v.b u.b,wadd v.c u.c,wadd v.d u.d,wadd v.e u.e,wadd v.f u.f,wadd v.g u.g,wadd v.h u.h⟩
def cK (v:V8):Nat->List UInt8->V8
 |0,_=>v
 |k+1,l=>cK (wY v (l.take 64)) k (l.drop 64)
theorem tX (k:Nat):∀(v:V8)(l:List UInt8),cK v (k+1) l=wY (cK v k l) ((l.drop (64*k)).take 64):=by
 induction k with
 |zero=>intro v l;simp[cK]
 |succ k ih =>intro v l;rw[cK,ih,cK];congr 2;rw[List.drop_drop];congr 1;omega
theorem xz (k:Nat):∀(v:V8)(l m:List UInt8),64*k<=l.length->cK v k (l++m)=cK v k l:=by
 induction k with
 |zero=>intro v l m _;rfl
 |succ k ih =>intro v l m h;rw[cK,cK,List.take_append_of_le_length (by omega),List.drop_append_of_le_length (by omega)];exact ih _ _ _ (by rw[List.length_drop];omega)
def aQ (n d:Nat):UInt8:=UInt8.ofNat (n/d%256)
def fF (n:Nat):List UInt8:=[aQ n 72057594037927936,aQ n 281474976710656,aQ n 1099511627776,aQ n 4294967296,aQ n 16777216,aQ n 65536,aQ n 256,aQ n 1]
def vo (n:Nat):List UInt8:=[aQ n 16777216,aQ n 65536,aQ n 256,aQ n 1]
def oG (n:Nat):List UInt8:=128::(List.replicate ((119-n%64)%64) 0++fF (n*8%18446744073709551616))
def Zo (v:V8):List UInt8:=vo v.a++vo v.b++vo v.c++vo v.d++vo v.e++vo v.f++vo v.g++vo v.h
def sha (m:List UInt8):List UInt8:=Zo (cK V0 ((m.length+(oG m.length).length)/64) (m++oG m.length))
theorem bg (m:List UInt8):(sha m).length=32:=by simp[sha,Zo,vo]
theorem ny (n:Nat):(oG n).length=9+(119-n%64)%64:=by simp[oG,fF];omega
theorem aiq (x:Nat)(w:World):
  Calls Tryz.prog 184 #[.int .u32 (x:Int),.int .i64 (-7)] w λe w'=>e=.returned (.int .u32 (wrot x 7:Nat))/\w=w':=by
 have h1:bits BinOp.and IntKind.u64 (IntKind.u64.wrap (-7)) 31=25:=by decide
 have h2:(x:Int)*33554432%4294967296=((wshl x 33554432:Nat):Int):=by unfold wshl;omega
 have h3:(x:Int)/128=((wshr x 128:Nat):Int):=by unfold wshr;omega
 have H:=Lib.hid (show wrot x 7=wor (wshl x 33554432) (wshr x 128)from rfl);have h4:=ro (wshl x 33554432) (wshr x 128)
 go_enter Tryz.func184,Tryz.ntmps184
 go_wp2
 go_ret
 exact⟨jO (by rw[H.out]),rfl⟩
theorem agm (x:Nat)(w:World):
  Calls Tryz.prog 184 #[.int .u32 (x:Int),.int .i64 (-18)] w λe w'=>e=.returned (.int .u32 (wrot x 18:Nat))/\w=w':=by
 have h1:bits BinOp.and IntKind.u64 (IntKind.u64.wrap (-18)) 31=14:=by decide
 have h2:(x:Int)*16384%4294967296=((wshl x 16384:Nat):Int):=by unfold wshl;omega
 have h3:(x:Int)/262144=((wshr x 262144:Nat):Int):=by unfold wshr;omega
 have H:=Lib.hid (show wrot x 18=wor (wshl x 16384) (wshr x 262144)from rfl);have h4:=ro (wshl x 16384) (wshr x 262144)
 go_enter Tryz.func184,Tryz.ntmps184
 go_wp2
 go_ret
 exact⟨jO (by rw[H.out]),rfl⟩
theorem agn (x:Nat)(w:World):
  Calls Tryz.prog 184 #[.int .u32 (x:Int),.int .i64 (-17)] w λe w'=>e=.returned (.int .u32 (wrot x 17:Nat))/\w=w':=by
 have h1:bits BinOp.and IntKind.u64 (IntKind.u64.wrap (-17)) 31=15:=by decide
 have h2:(x:Int)*32768%4294967296=((wshl x 32768:Nat):Int):=by unfold wshl;omega
 have h3:(x:Int)/131072=((wshr x 131072:Nat):Int):=by unfold wshr;omega
 have H:=Lib.hid (show wrot x 17=wor (wshl x 32768) (wshr x 131072)from rfl);have h4:=ro (wshl x 32768) (wshr x 131072)
 go_enter Tryz.func184,Tryz.ntmps184
 go_wp2
 go_ret
 exact⟨jO (by rw[H.out]),rfl⟩
theorem agl (x:Nat)(w:World):
  Calls Tryz.prog 184 #[.int .u32 (x:Int),.int .i64 (-19)] w λe w'=>e=.returned (.int .u32 (wrot x 19:Nat))/\w=w':=by
 have h1:bits BinOp.and IntKind.u64 (IntKind.u64.wrap (-19)) 31=13:=by decide
 have h2:(x:Int)*8192%4294967296=((wshl x 8192:Nat):Int):=by unfold wshl;omega
 have h3:(x:Int)/524288=((wshr x 524288:Nat):Int):=by unfold wshr;omega
 have H:=Lib.hid (show wrot x 19=wor (wshl x 8192) (wshr x 524288)from rfl);have h4:=ro (wshl x 8192) (wshr x 524288)
 go_enter Tryz.func184,Tryz.ntmps184
 go_wp2
 go_ret
 exact⟨jO (by rw[H.out]),rfl⟩
theorem ais (x:Nat)(w:World):
  Calls Tryz.prog 184 #[.int .u32 (x:Int),.int .i64 (-6)] w λe w'=>e=.returned (.int .u32 (wrot x 6:Nat))/\w=w':=by
 have h1:bits BinOp.and IntKind.u64 (IntKind.u64.wrap (-6)) 31=26:=by decide
 have h2:(x:Int)*67108864%4294967296=((wshl x 67108864:Nat):Int):=by unfold wshl;omega
 have h3:(x:Int)/64=((wshr x 64:Nat):Int):=by unfold wshr;omega
 have H:=Lib.hid (show wrot x 6=wor (wshl x 67108864) (wshr x 64)from rfl);have h4:=ro (wshl x 67108864) (wshr x 64)
 go_enter Tryz.func184,Tryz.ntmps184
 go_wp2
 go_ret
 exact⟨jO (by rw[H.out]),rfl⟩
theorem agq (x:Nat)(w:World):
  Calls Tryz.prog 184 #[.int .u32 (x:Int),.int .i64 (-11)] w λe w'=>e=.returned (.int .u32 (wrot x 11:Nat))/\w=w':=by
 have h1:bits BinOp.and IntKind.u64 (IntKind.u64.wrap (-11)) 31=21:=by decide
 have h2:(x:Int)*2097152%4294967296=((wshl x 2097152:Nat):Int):=by unfold wshl;omega
 have h3:(x:Int)/2048=((wshr x 2048:Nat):Int):=by unfold wshr;omega
 have H:=Lib.hid (show wrot x 11=wor (wshl x 2097152) (wshr x 2048)from rfl);have h4:=ro (wshl x 2097152) (wshr x 2048)
 go_enter Tryz.func184,Tryz.ntmps184
 go_wp2
 go_ret
 exact⟨jO (by rw[H.out]),rfl⟩
theorem agj (x:Nat)(w:World):
  Calls Tryz.prog 184 #[.int .u32 (x:Int),.int .i64 (-25)] w λe w'=>e=.returned (.int .u32 (wrot x 25:Nat))/\w=w':=by
 have h1:bits BinOp.and IntKind.u64 (IntKind.u64.wrap (-25)) 31=7:=by decide
 have h2:(x:Int)*128%4294967296=((wshl x 128:Nat):Int):=by unfold wshl;omega
 have h3:(x:Int)/33554432=((wshr x 33554432:Nat):Int):=by unfold wshr;omega
 have H:=Lib.hid (show wrot x 25=wor (wshl x 128) (wshr x 33554432)from rfl);have h4:=ro (wshl x 128) (wshr x 33554432)
 go_enter Tryz.func184,Tryz.ntmps184
 go_wp2
 go_ret
 exact⟨jO (by rw[H.out]),rfl⟩
theorem aiu (x:Nat)(w:World):
  Calls Tryz.prog 184 #[.int .u32 (x:Int),.int .i64 (-2)] w λe w'=>e=.returned (.int .u32 (wrot x 2:Nat))/\w=w':=by
 have h1:bits BinOp.and IntKind.u64 (IntKind.u64.wrap (-2)) 31=30:=by decide
 have h2:(x:Int)*1073741824%4294967296=((wshl x 1073741824:Nat):Int):=by unfold wshl;omega
 have h3:(x:Int)/4=((wshr x 4:Nat):Int):=by unfold wshr;omega
 have H:=Lib.hid (show wrot x 2=wor (wshl x 1073741824) (wshr x 4)from rfl);have h4:=ro (wshl x 1073741824) (wshr x 4)
 go_enter Tryz.func184,Tryz.ntmps184
 go_wp2
 go_ret
 exact⟨jO (by rw[H.out]),rfl⟩
theorem agp (x:Nat)(w:World):
  Calls Tryz.prog 184 #[.int .u32 (x:Int),.int .i64 (-13)] w λe w'=>e=.returned (.int .u32 (wrot x 13:Nat))/\w=w':=by
 have h1:bits BinOp.and IntKind.u64 (IntKind.u64.wrap (-13)) 31=19:=by decide
 have h2:(x:Int)*524288%4294967296=((wshl x 524288:Nat):Int):=by unfold wshl;omega
 have h3:(x:Int)/8192=((wshr x 8192:Nat):Int):=by unfold wshr;omega
 have H:=Lib.hid (show wrot x 13=wor (wshl x 524288) (wshr x 8192)from rfl);have h4:=ro (wshl x 524288) (wshr x 8192)
 go_enter Tryz.func184,Tryz.ntmps184
 go_wp2
 go_ret
 exact⟨jO (by rw[H.out]),rfl⟩
theorem agk (x:Nat)(w:World):
  Calls Tryz.prog 184 #[.int .u32 (x:Int),.int .i64 (-22)] w λe w'=>e=.returned (.int .u32 (wrot x 22:Nat))/\w=w':=by
 have h1:bits BinOp.and IntKind.u64 (IntKind.u64.wrap (-22)) 31=10:=by decide
 have h2:(x:Int)*1024%4294967296=((wshl x 1024:Nat):Int):=by unfold wshl;omega
 have h3:(x:Int)/4194304=((wshr x 4194304:Nat):Int):=by unfold wshr;omega
 have H:=Lib.hid (show wrot x 22=wor (wshl x 1024) (wshr x 4194304)from rfl);have h4:=ro (wshl x 1024) (wshr x 4194304)
 go_enter Tryz.func184,Tryz.ntmps184
 go_wp2
 go_ret
 exact⟨jO (by rw[H.out]),rfl⟩
theorem Sv (l:List UInt8)(b o n c:Nat)(w:World)(hl:4<=l.length)(hn:n=l.length)(hm:n<=9223372036854775807)(hr:w.rangeAt b o (bcs l)):
  Calls Tryz.prog 183 #[.slice (some ⟨b,o,none⟩) n c] w λe w'=>e=.returned (.int .u32 (wordAt l 0:Nat))/\∃k,w'=w.drewN k:=by
 have i0:(0:Int)<(n:Int):=by omega
 have i1:(1:Int)<(n:Int):=by omega
 have i2:(2:Int)<(n:Int):=by omega
 have i3:(3:Int)<(n:Int):=by omega
 have h0:w.cell? ⟨b,o,none⟩=some (.int .u8 (bnth l 0:Int)):=by simpa using oC hr (i:=0) (by omega)
 have h1:w.cell? ⟨b,o+1,none⟩=some (.int .u8 (bnth l 1:Int)):=oC hr (i:=1) (by omega);have h2:w.cell? ⟨b,o+2,none⟩=some (.int .u8 (bnth l 2:Int)):=oC hr (i:=2) (by omega);have h3:w.cell? ⟨b,o+3,none⟩=some (.int .u8 (bnth l 3:Int)):=oC hr (i:=3) (by omega);have m0:=afG (bnth l 0) (by have:=mi l 0;omega);have m1:=afG (bnth l 1) (by have:=mi l 1;omega);have m2:=afG (bnth l 2) (by have:=mi l 2;omega);have m3:=afG (bnth l 3) (by have:=mi l 3;omega);have s0:(bnth l 0:Int)*16777216%4294967296=((wshl (bnth l 0) 16777216:Nat):Int):=by unfold wshl;omega
 have s1:(bnth l 1:Int)*65536%4294967296=((wshl (bnth l 1) 65536:Nat):Int):=by unfold wshl;omega
 have s2:(bnth l 2:Int)*256%4294967296=((wshl (bnth l 2) 256:Nat):Int):=by unfold wshl;omega
 have ro:=ro;have H:=Lib.hid (show wordAt l 0=wor (wor (wor (wshl (bnth l 0) 16777216) (wshl (bnth l 1) 65536)) (wshl (bnth l 2) 256)) (bnth l 3)from rfl);clear hr hl hn
 go_enter Tryz.func183,Tryz.ntmps183
 go_wp2
 go_quiet (fail)
 go_wp2
 go_ret
 exact⟨jO (by rw[H.out]),nq,rfl⟩
def kcells:List Value:=KS.map λx:Nat=>Value.int .u32 (x:Int)
theorem KP (j:Nat)(h:j<64):kcells[j]?=some (.int .u32 (KS.getD j 0:Nat)):=by have:j<KS.length:=h;simp[kcells,List.getElem?_map,List.getD_eq_getElem?_getD,this]
theorem Ky (w:World):Calls Tryz.prog 185 #[] w λe w'=>e=.returned (.agg kcells.toArray)/\w'=w.alloc (.cells kcells.toArray 289):=by
 go_enter Tryz.func185,Tryz.ntmps185
 go_wp2_with (first|(refine LV rfl 289 _ rfl (.agg kcells.toArray) (by kernel_rfl) ?_)|(refine pR (t:=289) kcells.toArray rfl _ _ rfl rfl rfl rfl (by kernel_rfl) rfl (by decide +kernel) ?_))
 refine bodyPost_ret (results_cell_row rfl _ _ w.heap.size _ _ (0,0) _ rfl (heap_alloc_new w _) rfl rfl (by kernel_rfl)) rfl ⟨rfl,rfl⟩
def wrow (l:List Nat):Array Value:=((l++List.replicate (64-l.length) 0).map (λx:Nat=>Value.int .u32 (x:Int))).toArray
def lnth (l:List Nat)(j:Nat):Nat:=l.getD j 0
theorem Su (l:List Nat)(j:Nat)(hj:j<64)(hl:l.length<=64):(wrow l)[j]?=some (.int .u32 (lnth l j:Nat)):=by
 unfold wrow lnth;simp only[List.getElem?_toArray,List.getElem?_map,List.getElem?_append,List.getD_eq_getElem?_getD];split
 ·rename_i h;simp[h]
 ·rename_i h;rw[List.getElem?_replicate,if_pos (by omega)];simp[List.getElem?_eq_none (Nat.le_of_not_lt h)]
theorem Sr (l:List Nat)(x:Nat)(h:l.length<64):(wrow l).setIfInBounds l.length (.int .u32 (x:Int))=wrow (l++[x]):=by
 unfold wrow;rw[List.setIfInBounds_toArray,<- List.map_set,List.set_append_right _ _ (Nat.le_refl _),Nat.sub_self];congr 2;have:64-l.length=(64-(l++[x]).length)+1:=by simp;omega
 rw[this,List.replicate_succ,List.set_cons_zero];simp[List.append_assoc]
theorem QP (l:List UInt8)(k i:Nat):bnth (l.drop k) i=bnth l (k+i):=by simp[bnth,List.getD_eq_getElem?_getD,List.getElem?_drop]
theorem DN (l:List UInt8)(k:Nat):wordAt (l.drop k) 0=wordAt l k:=by simp[wordAt,QP]
theorem Tk (bk:List UInt8){t:Nat}(h:t<16):sched bk (t+1)=sched bk t++[wordAt bk (4*t)]:=by simp[sched,h]
theorem Tm (bk:List UInt8){t:Nat}(h:¬t<16):sched bk (t+1)=sched bk t++[KH (sched bk t) t]:=by simp[sched,h]
theorem Bu (w:World)(c:Array Value)(t m i:Nat)(v:Value):((w.alloc (.cells c t)).drewN m).setCell ⟨w.heap.size,i,none⟩ v=(w.alloc (.cells (c.setIfInBounds i v) t)).drewN m:=by show((w.alloc (.cells c t)).setCell ⟨w.heap.size,i,none⟩ v).drewN m=_;rw[World.setCell_alloc_at _ _ _ _ _ rfl]
theorem AJ (w:World)(c:Array Value)(t i:Nat):(w.alloc (.cells c t)).cell? ⟨w.heap.size,i,none⟩=c[i]?:=World.cell?_alloc_at _ _ _ _ rfl
theorem qo (g:Nat)(u:Value):∀(vs:List Value)(o:Nat)(w:World),w.setCells g o (vs++[u])=(w.setCells g o vs).setCell ⟨g,o+vs.length,none⟩ u
 |[],o,w=>by simp[World.setCells]
 |x::vs,o,w=>by rw[List.cons_append,World.setCells,qo g u vs (o+1) _,World.setCells,List.length_cons];rw[show o+1+vs.length=o+(vs.length+1) by omega]
theorem kN (w:World)(g i:Nat)(vs:List Value)(h:vs.length<=i):(w.setCells g 0 vs).cell? ⟨g,i,none⟩=w.cell? ⟨g,i,none⟩ :=
 World.cell?_setCells_out g vs 0 w ⟨g,i,none⟩ (λ_ _=>by right;simpa using h)
theorem pJ (w:World)(g b i:Nat)(vs:List Value)(h:b≠g):(w.setCells g 0 vs).cell? ⟨b,i,none⟩=w.cell? ⟨b,i,none⟩ :=
 World.cell?_setCells_out g vs 0 w ⟨b,i,none⟩ (λhb _=>absurd hb h)
def V8.add (v u:V8):V8:=⟨wadd v.a u.a,wadd v.b u.b,wadd v.c u.c,wadd v.d u.d,wadd v.e u.e,wadd v.f u.f,wadd v.g u.g,wadd v.h u.h⟩
theorem V8.add_nth (v u:V8)(i:Nat)(hi:i<8):lnth (v.add u).list i=wadd (lnth v.list i) (lnth u.list i):=by
 match i,hi with
 |0,_|1,_|2,_|3,_|4,_|5,_|6,_|7,_=>rfl
theorem V8.cells_take (v:V8)(i:Nat)(hi:i<8):v.cells.take (i+1)=v.cells.take i++[.int .u32 (lnth v.list i:Nat)]:=by
 match i,hi with
 |0,_|1,_|2,_|3,_|4,_|5,_|6,_|7,_=>rfl
theorem V8.cells_get (v:V8)(i:Nat)(hi:i<8):v.cells[i]?=some (.int .u32 (lnth v.list i:Nat)):=by
 match i,hi with
 |0,_|1,_|2,_|3,_|4,_|5,_|6,_|7,_=>rfl
def Rh (g:Nat)(cs:List Value)(w w':World):Prop:=∃w1 m,Below w.heap.size w w1/\w'=(w1.setCells g 0 cs).drewN m
theorem Kv (w:World)(m:Nat)(a:Addr)(v:Value):(w.drewN m).setCell a v=(w.setCell a v).drewN m:=rfl
theorem acb (X:World)(n t m:Nat)(hn:n=X.heap.size)(o0 o1 o2 o3 o4 o5 o6 o7 n0 n1 n2 n3 n4 n5 n6 n7:Value):
  (((((((((X.alloc (.cells #[o0,o1,o2,o3,o4,o5,o6,o7] t)).drewN m).setCell ⟨n,0,none⟩ n0).setCell ⟨n,1,none⟩ n1).setCell ⟨n,2,none⟩ n2).setCell ⟨n,3,none⟩ n3).setCell ⟨n,4,none⟩ n4).setCell ⟨n,5,none⟩ n5).setCell ⟨n,6,none⟩ n6).setCell ⟨n,7,none⟩ n7=(X.alloc (.cells #[n0,n1,n2,n3,n4,n5,n6,n7] t)).drewN m:=by
 subst hn;simp[Kv,World.setCell_alloc_at]
theorem aii (a b c d e:Nat):((a:Int)+b+c+d+e)%4294967296=((wadd (wadd (wadd (wadd a b) c) d) e:Nat):Int):=by unfold wadd;omega
theorem aij (a b c d e:Nat):((e:Int)+((a:Int)+b+c+d))%4294967296=((wadd e (wadd (wadd (wadd a b) c) d):Nat):Int):=by unfold wadd;omega
theorem uI {P:Program}{f:FuncId}{args:Array Value}{w:World}{v:Value}(h:Calls P f args w λe w'=>e=.returned v/\w=w'):Calls P f args w λe w'=>e=.returned v/\w'=w :=
 h.mono λ_ _ ⟨a,b⟩=>⟨a,b.symm⟩
theorem QQ (bk:List UInt8)(v:V8)(g b o c n:Nat)(w:World)(hgB:g<w.heap.size)(hfz:∀j,j<8->w.frozen? ⟨g,j,none⟩=false)(hl:bk.length=64)(hb:n=bk.length)(hc:n<=c)(hcm:c<=9223372036854775807)(hr:w.rangeAt b o (bcs bk))
  (hg:w.rangeAt g 0 v.cells):
  Calls Tryz.prog 155 #[.pointer (some ⟨g,0,none⟩),.slice (some ⟨b,o,none⟩) n c] w λe w'=>e=.returned (.tuple #[])/\Rh g (wY v bk).cells w w':=by
 have HL:=Lib.hid hl;have HR:=Lib.hid hr;have HN:=Lib.hid (show n=64 by omega);clear hl hr hb
 go_enter Tryz.func155,Tryz.ntmps155
 go_wp2
 go_loopw [16] (λi wr=>∃t:Nat,t<=64/\i=.int .i64 t/\∃m,wr=(w.alloc (.cells (wrow (sched bk t)) 289)).drewN m) (λi _=>64-(intOf i).toNat)
 case atStart=>exact⟨0,by omega,rfl,0,rfl⟩
 case round =>
  obtain⟨t,ht,rfl,m,rfl⟩:=hrel;have HW:=Lib.hid (Su (sched bk t));have HS:=Lib.hid (Sr (sched bk t));have hlen:=mX bk t;have HLen:=Lib.hid hlen;clear hlen;generalize hsc:sched bk t=l at*;have HSc:=Lib.hid hsc;clear hsc;by_cases h16:t<16
  ·have hn1:4*t+4<=n:=by have:=HN.out;omega
   have hn2:n<=64:=by have:=HN.out;omega
   have hn3:64<=n:=by have:=HN.out;omega
   have HR2:=Lib.hid (sW HR.out (4*t));have hg1:=HW.out t (by omega) (by have:=HLen.out;omega)
   go_wp2_with (go_at_call 183;refine(Sv (bk.drop (4*t)) _ _ _ _ _ ?_ ?_ ?_ ?_).mono ?_)
   case refine_1=>have:=HL.out;rw[List.length_drop];omega
   case refine_2=>have:=HL.out;rw[List.length_drop];omega
   case refine_3=>omega
   case refine_4=>rw[<- JG];exact zB (World.rangeAt_alloc HR2.out _) _
   rintro e w' ⟨rfl,k,rfl⟩
   go_wp2
   go_roundw
   case rel =>refine⟨t+1,by omega,by go_num,m+k,?_⟩;rw[Tk bk h16,HSc.out,<- HS.out _ (by have:=HLen.out;omega),HLen.out,DN,<- Bu]
   case measure=>simp[intOf];omega
  ·by_cases hlt:t<64
   ·have e2:(16:Int)<=(t:Int):=by omega
    have g16:=HW.out (t-16) (by omega) (by have:=HLen.out;omega);have g7:=HW.out (t-7) (by omega) (by have:=HLen.out;omega);have g15:=HW.out (t-15) (by omega) (by have:=HLen.out;omega);have g2:=HW.out (t-2) (by omega) (by have:=HLen.out;omega);have gt:=HW.out t (by omega) (by have:=HLen.out;omega)
    go_wp2
    go_quiet (fail)
    go_wp2
    clear g16 g7 g15 g2;have g16:=HW.out (t-16) (by omega) (by have:=HLen.out;omega);have g7:=HW.out (t-7) (by omega) (by have:=HLen.out;omega);generalize hx16:lnth l (t-16)=x16 at*;generalize hx7:lnth l (t-7)=x7 at*;generalize hx15:lnth l (t-15)=x15 at*;generalize hx2:lnth l (t-2)=x2 at*;have X16:=Lib.hid hx16;have X7:=Lib.hid hx7;have X15:=Lib.hid hx15;have X2:=Lib.hid hx2;clear hx16 hx7 hx15 hx2;rw[World.drewN_drewN];have hs1:∀a:Nat,(a:Int)/8=((wshr a 8:Nat):Int):=λa=>by unfold wshr;omega
    have hs2:∀a:Nat,(a:Int)/1024=((wshr a 1024:Nat):Int):=λa=>by unfold wshr;omega
    have rs:=rs;have rx:=rx;obtain⟨W,HWW⟩:∃W,Hid (W=(w.alloc (.cells (wrow l) 289)).drewN (m+nq)):=⟨_,Lib.hid rfl⟩
    rw[<- HWW.out];have c16:∀tp d os out,World.cell? ⟨W.heap,tp,d,os,out⟩ ⟨w.heap.size,t-16,none⟩=some (.int .u32 (x16:Int)):=λ_ _ _ _=>by rw[HWW.out];exact(AJ _ _ _ _).trans g16
    have c7:∀tp d os out,World.cell? ⟨W.heap,tp,d,os,out⟩ ⟨w.heap.size,t-7,none⟩=some (.int .u32 (x7:Int)):=λ_ _ _ _=>by rw[HWW.out];exact(AJ _ _ _ _).trans g7
    have k16:IntKind.i64.wrap ((t:Int)-16)=(t:Int)-16:=IntWalk.i64_in _ (by omega);have k7:IntKind.i64.wrap ((t:Int)-7)=(t:Int)-7:=IntWalk.i64_in _ (by omega);have p16:((t:Int)-16).toNat=t-16:=by omega
    have p7:((t:Int)-7).toNat=t-7:=by omega
    have q16:(0:Int)<=(t:Int)-16:=by omega
    have q7:(7:Int)<=(t:Int):=by omega
    have r16:(t:Int)-16<64:=by omega
    have r7:(t:Int)-7<64:=by omega
    go_still_tail 29,(by kernel_rfl)
    still_call (uI (aiq x15 _))
    repeat still_step
    still_call (uI (agm x15 _))
    repeat still_step
    still_call (uI (agn x2 _))
    repeat still_step
    still_call (uI (agl x2 _))
    repeat still_step
    refine wpStill_nil ?_;change wpList _ _ _ _ _ W.drew;rw[HWW.out];clear c16 c7
    go_wp2
    go_roundw
    case rel =>
     refine⟨t+1,by omega,by go_num,m+nq+1,?_⟩;rw[Tm bk h16,HSc.out,<- HS.out _ (by have:=HLen.out;omega),HLen.out,<- Bu];have e:KH l t=wadd (wadd (wadd x16 x7) (wxor (wxor (wrot x15 7) (wrot x15 18)) (wshr x15 8))) (wxor (wxor (wrot x2 17) (wrot x2 19)) (wshr x2 1024)):=by rw[<- X16.out,<- X7.out,<- X15.out,<- X2.out];rfl
     rw[e]
    case measure=>simp[intOf];omega
   ·have T64:=Lib.hid (show t=64 by omega);have h64:¬(t:Int)<64:=by omega
    obtain⟨W,HWW⟩:∃W,Hid (W=(w.alloc (.cells (wrow l) 289)).drewN m):=⟨_,Lib.hid rfl⟩
    rw[<- HWW.out];have hsz:W.heap.size=w.heap.size+1:=by rw[HWW.out];simp[World.drewN]
    have HSZ:=Lib.hid hsz;have hc:∀j u,v.cells[j]?=some u->W.cell? ⟨g,j,none⟩=some u:=λj u hu=>by rw[HWW.out];exact(World.cell?_alloc_past _ _ _ hgB).trans (by simpa using hg j u hu)
    have c0:=hc 0 _ rfl;have c1:=hc 1 _ rfl;have c2:=hc 2 _ rfl;have c3:=hc 3 _ rfl;have c4:=hc 4 _ rfl;have c5:=hc 5 _ rfl;have c6:=hc 6 _ rfl;have c7:=hc 7 _ rfl;clear hc hsz
    go_wp2_with fail
    refine(Ky _).mono ?_;rintro e w' ⟨rfl,rfl⟩;simp only[]
    go_step
    go_step
    go_step
    go_step
    refine(pR (t:=289) kcells.toArray rfl _ _ rfl rfl ?_ rfl ?_ ?_ ?_ ?_)
    ·simp
    ·kernel_rfl
    ·rfl
    ·decide +kernel
    simp only[Act.put];obtain⟨ka,HKA⟩:∃ka,Hid (kcells=ka.toList):=⟨kcells.toArray,Lib.hid rfl⟩
    have hka:kcells.toArray=ka:=by rw[HKA.out]
    rw[hka];clear hka;have hgW:g<W.heap.size:=by have:=HSZ.out;omega
    have hgW1:g<W.heap.size+1:=by omega
    have hgW2:g<W.heap.size+1+1:=by omega
    clear ht h16 hlt h64;have cw:∀t,t<64->W.cell? ⟨w.heap.size,t,none⟩=some (.int .u32 (lnth l t:Nat)):=λj hj=>by rw[HWW.out];exact(AJ _ _ _ _).trans (HW.out j hj (by have:=HLen.out;have:=T64.out;omega))
    have CW:=Lib.hid cw;have KG:Hid (∀j,j<64->ka[j]?=some (.int .u32 (KS.getD j 0:Nat))):=λj hj=>by rw[<- KP j hj,HKA.out,Array.getElem?_toList]
    clear HKA;have HSc:=Lib.hid (show l=sched bk t from HSc.out.symm);have hNW:w.heap.size<W.heap.size:=by have:=HSZ.out;omega
    have hNW1:w.heap.size<W.heap.size+1:=by omega
    have hNW2:w.heap.size<W.heap.size+1+1:=by omega
    clear cw
    go_wp2
    go_loopw [71] (λi wr=>∃t:Nat,t<=64/\i=.int .i64 t/\∃m,wr=(((W.alloc (.cells ka 289)).alloc (.cells ka 289)).alloc (.cells #[.int .u32 ((roundsTo v l t).a:Nat),.int .u32 ((roundsTo v l t).b:Nat),.int .u32 ((roundsTo v l t).c:Nat),.int .u32 ((roundsTo v l t).d:Nat),.int .u32 ((roundsTo v l t).e:Nat),.int .u32 ((roundsTo v l t).f:Nat),.int .u32 ((roundsTo v l t).g:Nat),.int .u32 ((roundsTo v l t).h:Nat)] 253)).drewN m) (λi _=>64-(intOf i).toNat)
    case atStart=>exact⟨0,by omega,rfl,0,rfl⟩
    case round =>
     obtain⟨j,hj,rfl,m,rfl⟩:=hrel;by_cases hlt:j<64
     ·have hlj:(j:Int)<64:=by omega
      have hkt:=KG.out j hlt;have hwt:=CW.out j hlt;have hkt':KS.getD j 0=lnth KS j:=rfl;rw[hkt']at hkt;clear hkt';generalize hkk:lnth KS j=kk at*;generalize hww:lnth l j=ww at*;generalize huu:roundsTo v l j=u at*;have KK:=Lib.hid hkk;have WW:=Lib.hid hww;have UU:=Lib.hid huu;clear hkk hww huu;have rs:=rs;have rx:=rx;have ra:=ra;have rn:∀a:Nat,bits BinOp.xor IntKind.u32 IntKind.u32.max (a:Int)=((wnot a:Nat):Int):=rn
      go_wp2
      go_quiet (fail)
      go_wp2
      rw[World.drewN_drewN]
      go_quiet (first|(go_at_call 184;(with_reducible refine(ais _ _).mono ?_);exact(λ_ _ h=>⟨h.1,_,h.2.symm⟩))|(go_at_call 184;(with_reducible refine(agq _ _).mono ?_);exact(λ_ _ h=>⟨h.1,_,h.2.symm⟩))|(go_at_call 184;(with_reducible refine(agj _ _).mono ?_);exact(λ_ _ h=>⟨h.1,_,h.2.symm⟩)))
      go_wp2
      go_quiet (first|(go_at_call 184;(with_reducible refine(aiu _ _).mono ?_);exact(λ_ _ h=>⟨h.1,_,h.2.symm⟩))|(go_at_call 184;(with_reducible refine(agp _ _).mono ?_);exact(λ_ _ h=>⟨h.1,_,h.2.symm⟩))|(go_at_call 184;(with_reducible refine(agk _ _).mono ?_);exact(λ_ _ h=>⟨h.1,_,h.2.symm⟩)))
      go_wp2
      go_roundw
      case rel =>
       have e:roundsTo v l (j+1)=BL u kk ww:=by rw[<- KK.out,<- WW.out,<- UU.out];rfl
       rw[acb _ _ _ _ (by simp),aii,aij];refine⟨j+1,by omega,by go_num,?_⟩;rw[e];exact⟨_,rfl⟩
      case measure=>simp[intOf];omega
     ·have J64:=Lib.hid (show j=64 by omega);have hj64:¬(j:Int)<64:=by omega
      generalize huu:roundsTo v l j=u at*;have UU:=Lib.hid huu;clear huu;obtain⟨W3,HW3⟩:∃X,Hid (X=(((W.alloc (.cells ka 289)).alloc (.cells ka 289)).alloc (.cells #[.int .u32 (u.a:Nat),.int .u32 (u.b:Nat),.int .u32 (u.c:Nat),.int .u32 (u.d:Nat),.int .u32 (u.e:Nat),.int .u32 (u.f:Nat),.int .u32 (u.g:Nat),.int .u32 (u.h:Nat)] 253)).drewN m):=⟨_,Lib.hid rfl⟩
      rw[<- HW3.out];have hB3:Below w.heap.size w W3:=by rw[HW3.out,HWW.out];exact((((((Below.refl _ w).alloc (Nat.le_refl _) _).trans (pK _ _ _)).alloc (by simp[World.drewN]) _).alloc (by simp[World.drewN];omega) _).alloc (by simp[World.drewN];omega) _).trans (pK _ _ _)
      have HB3:=Lib.hid hB3;have gc:Hid (∀i,i<8->W3.cell? ⟨g,i,none⟩=some (.int .u32 (lnth v.list i:Nat))):=λi hi=>by rw[hB3.cell (p:=⟨g,i,none⟩) hgB];simpa using hg i _ (v.cells_get i hi)
      have gf:Hid (∀i,i<8->W3.frozen? ⟨g,i,none⟩=false):=λi hi=>by rw[hB3.frozen (p:=⟨g,i,none⟩) hgB];exact hfz i hi
      have uc:Hid (∀i,i<8->W3.cell? ⟨W.heap.size+1+1,i,none⟩=some (.int .u32 (lnth u.list i:Nat))):=λi hi=>by rw[HW3.out];refine(World.cell?_alloc_at _ _ _ _ (by simp)).trans ?_;exact(List.getElem?_toArray).trans (u.cells_get i hi)
      clear hB3 hj64 c0 c1 c2 c3 c4 c5 c6 c7 hg hfz;have hne:W.heap.size+1+1≠g:=by omega
      go_wp2
      go_loopw [151] (λi wr=>∃k:Nat,k<=8/\i=.int .i64 k/\∃m,wr=(W3.setCells g 0 ((v.add u).cells.take k)).drewN m) (λi _=>8-(intOf i).toNat)
      case atStart=>exact⟨0,by omega,rfl,0,rfl⟩
      case round =>
       obtain⟨k,hk,rfl,m,rfl⟩:=hrel;by_cases hlt:k<8
       ·have hlk:(k:Int)<8:=by omega
        have g1:=gc.out k hlt;have g2:=gf.out k hlt;have g3:=uc.out k hlt;have hlen:((v.add u).cells.take k).length=k:=by rw[List.length_take];show min k 8=k;omega
        obtain⟨W4,HW4⟩:∃X,Hid (X=(W3.setCells g 0 ((v.add u).cells.take k)).drewN m):=⟨_,Lib.hid rfl⟩
        rw[<- HW4.out];have k1:∀tp d os out,World.cell? ⟨W4.heap,tp,d,os,out⟩ ⟨g,k,none⟩=some (.int .u32 (lnth v.list k:Nat)):=λ_ _ _ _=>by rw[HW4.out];exact(kN _ _ _ _ (by omega)).trans g1
        have k2:∀tp d os out,World.cell? ⟨W4.heap,tp,d,os,out⟩ ⟨W.heap.size+1+1,k,none⟩=some (.int .u32 (lnth u.list k:Nat)):=λ_ _ _ _=>by rw[HW4.out];exact(pJ _ _ _ _ _ hne).trans g3
        have k3:W4.frozen? ⟨g,k,none⟩=false:=by rw[HW4.out];exact(World.frozen?_setCells _ _ _ _ _).trans g2
        have HLEN:=Lib.hid hlen;clear hlen g1 g2 g3;have rs:=rs
        go_wp2
        go_still_tail 13,(by kernel_rfl)
        change wpList _ _ _ _ _ W4.drew
        go_wp2
        go_roundw
        case rel =>refine⟨k+1,by omega,by go_num,?_⟩;rw[V8.cells_take _ _ hlt,qo,HLEN.out,V8.add_nth _ _ _ hlt,HW4.out,Nat.zero_add];exact⟨m+1,rfl⟩
        case measure=>simp[intOf];omega
       ·have K8:=Lib.hid (show k=8 by omega);have hk8:¬(k:Int)<8:=by omega
        go_wp2
        go_end0
        have hfin:(v.add u).cells.take k=(wY v bk).cells:=by rw[K8.out,<- UU.out,HSc.out,J64.out,T64.out];exact(List.take_of_length_le (Nat.le_refl 8)).trans rfl
        exact⟨rfl,W3,m,HB3.out,by rw[hfin]⟩
theorem iB.open' {B size:Nat}{w:World}{v:Value}{cs:List Value}(h:iB B size w v cs)(hpos:0<size):∃a n cap,v=.slice a n cap/\cs.length=n*size/\(0<n->∃g off,a=some ⟨g,off,none⟩)/\n<=cap/\cap<=maxLen:=by
 rcases h with⟨rfl,rfl⟩|⟨g,off,n,cap,rfl,h2,h3,h4,h5,h6,h7,h8⟩
 ·exact⟨none,0,0,rfl,by simp,by omega,Nat.le_refl _,by simp[maxLen]⟩
 ·exact⟨_,n,cap,rfl,h6,λ_=>⟨g,off,rfl⟩,h4,h5⟩
def n64 (n:Nat):Nat:=n%18446744073709551616
theorem ZC (a b:Nat):IntKind.u64.wrap ((n64 a:Int)+(b:Int))=(n64 (a+b):Int):=by simp[IntKind.wrap,IntKind.bits,IntKind.signed,n64]
def Sb (B:Nat)(w:World)(g k:Nat)(M:List UInt8):Prop :=
 ∃rv,w.rangeAt g 0 ((cK V0 k M).cells++[rv,.int .u64 (n64 M.length:Int)])/\(∀j,j<10->w.frozen? ⟨g,j,none⟩=false) /\
  iB B 1 w rv (bcs (M.drop (64*k)))/\rv.ownBlock≠some g/\64*k<=M.length/\B<=g/\g<w.heap.size
def IsSt (B:Nat)(w:World)(g:Nat)(M:List UInt8):Prop:=Sb B w g (M.length/64) M
theorem st_cells {w:World}{g:Nat}{v:V8}{a b:Value}(h:w.rangeAt g 0 (v.cells++[a,b])):w.rangeAt g 0 v.cells/\w.cell? ⟨g,8,none⟩=some a/\w.cell? ⟨g,9,none⟩=some b:=by refine⟨λj u hu=>?_,by simpa using h 8 a rfl,by simpa using h 9 b rfl⟩;exact h j u (by rw[List.getElem?_append_left (List.getElem?_eq_some_iff.1 hu).1];exact hu)
theorem SN {w:World}{g:Nat}{v:V8}{a b:Value}(h:w.rangeAt g 0 v.cells)(ha:w.cell? ⟨g,8,none⟩=some a)(hb:w.cell? ⟨g,9,none⟩=some b):w.rangeAt g 0 (v.cells++[a,b]):=by
 intro j u hu;rcases Nat.lt_or_ge j 8 with hj|hj
 ·rw[List.getElem?_append_left (show j<v.cells.length from hj)]at hu;exact h j u hu
 ·rw[List.getElem?_append_right (show v.cells.length<=j from hj)]at hu;have hl:v.cells.length=8:=rfl;rw[hl]at hu
  match j,hj,hu with
  |8,_,hu=>simp at hu;subst hu;simpa using ha
  |9,_,hu=>simp at hu;subst hu;simpa using hb
  |j+10,_,hu=>simp[show j+10-8=j+2 by omega]at hu
theorem iB.cap_end {B w g off cs}(h:iB B 1 w (.slice (some ⟨g,off,none⟩) 64 64) cs):iB B 1 w (.slice (some ⟨g,off,none⟩) 0 0) (cs.drop 64):=by
 rcases h with⟨h,_⟩|⟨g',off',n',cap',h1,h2,h3,h4,h5,h6,h7,h8⟩
 ·cases h
 ·injection h1 with e1 e2 e3
  injection e1 with e1
  injection e1 with e1 e4 e5
  subst e1 e2 e3 e4;exact .inr ⟨g,_,0,0,rfl,h2,h3,by omega,by simp[maxLen],by simp[h6],by rw[List.drop_of_length_le (by omega)];exact λj u hu=>by simp at hu,λj hj=>by omega⟩
theorem iB.setCells {B size:Nat}{w:World}{v:Value}{cs:List Value}(h:iB B size w v cs)(g o:Nat)(vs:List Value)(hne:v.ownBlock≠some g):iB B size (w.setCells g o vs) v cs :=
 h.grown (jm w g o vs) (λk hk e=>hne (by rw[hk,<- e]))
theorem qV {w:World}{g j:Nat}{o:Value}(u:Value)(h:w.cell? ⟨g,j,none⟩=some o):(w.setCell ⟨g,j,none⟩ u).cell? ⟨g,j,none⟩=some u :=
 World.cell?_setCell_same _ _ u h
theorem iN {w:World}{g j i:Nat}(u:Value)(h:i≠j):(w.setCell ⟨g,j,none⟩ u).cell? ⟨g,i,none⟩=w.cell? ⟨g,i,none⟩ :=
 World.cell?_setCell_other _ _ _ _ (λe=>h (by injection e with _ e;exact e.symm))
theorem xA {B:Nat}{w w':World}(h:Below B w w')(g o:Nat)(vs:List Value)(hg:B<=g)(hB:B<=w'.heap.size):Below B w (w'.setCells g o vs) :=
 h.grown (jm w' g o vs) hB (λk e=>by cases e;exact hg)
theorem mV (w:World)(a:Addr)(v:Value):(w.setCell a v).heap.size=w.heap.size:=by simp[World.setCell]
theorem Wn {B g k m2:Nat}{M:List UInt8}{w X:World}{rv rv':Value}(e8:X.cell? ⟨g,8,none⟩=w.cell? ⟨g,8,none⟩)(hr8:w.cell? ⟨g,8,none⟩=some rv)
  (h9:X.cell? ⟨g,9,none⟩=some (.int .u64 (n64 M.length:Int))) (ef:∀j,j<10->X.frozen? ⟨g,j,none⟩=false) (ho:iB B 1 X rv' (bcs (M.drop (64*k)))) (hne:rv'.ownBlock≠some g)
  (hr:X.rangeAt g 0 (cK V0 k M).cells) (hg:g<X.heap.size) (hb:Below B w X) (hl:64*k<=M.length) (hBg:B<=g):
  (X.drewN m2).cell? ⟨g,8,none⟩=some rv/\(X.drewN m2).frozen? ⟨g,8,none⟩=false/\Sb B ((X.drewN m2).setCell ⟨g,8,none⟩ rv') g k M/\Below B w ((X.drewN m2).setCell ⟨g,8,none⟩ rv'):=by
 have c8:=e8.trans hr8;refine⟨c8,ef 8 (by omega),?_,?_⟩
 ·have hr':(X.setCell ⟨g,8,none⟩ rv').rangeAt g 0 (cK V0 k M).cells:=λj u hu=>by
   have hj:j<8:=(List.getElem?_eq_some_iff.1 hu).1;have:=hr j u hu;rw[Nat.zero_add]at this⊢;rw[iN _ (by omega)];exact this
  have h9':(X.setCell ⟨g,8,none⟩ rv').cell? ⟨g,9,none⟩=some (.int .u64 (n64 M.length:Int)):=by rw[iN _ (by omega)];exact h9
  have h8':=qV rv' c8;have hst:Sb B (X.setCell ⟨g,8,none⟩ rv') g k M :=
   ⟨rv',SN hr' h8' h9',λj hj=>by rw[World.frozen?_setCell];exact ef j hj,ho.setCell _ _ hne,hne,hl,hBg,by rw[mV];exact hg⟩
  exact hst
 ·have:=Below.setCell hb (p:=⟨g,8,none⟩) hBg rv';exact this.trans (pK B _ m2)
theorem Mx {B g k q2 n2:Nat}{M:List UInt8}{w w':World}{rv rv':Value}{q off:Nat}(hrv:rv=.slice (some ⟨q,off,none⟩) n2 q2)
  (hr1:w.rangeAt g 0 (cK V0 k M).cells) (hr8:w.cell? ⟨g,8,none⟩=some rv) (hr9:w.cell? ⟨g,9,none⟩=some (.int .u64 (n64 M.length:Int)))
  (hf:∀j,j<10->w.frozen? ⟨g,j,none⟩=false) (ho:iB B 1 w rv (bcs (M.drop (64*k)))) (hrg:rv.ownBlock≠some g) (h64:64<=n2) (hn2:(M.drop (64*k)).length=n2) (hBg:B<=g) (hg:g<w.heap.size)
  (hrv':rv'=if q2=64 then .slice (some ⟨q,off,none⟩) (n2-64) (q2-64)else .slice (some ⟨q,off+64,none⟩) (n2-64) (q2-64))
  (hw:Rh g (wY (cK V0 k M) ((M.drop (64*k)).take 64)).cells w w'):
  w'.cell? ⟨g,8,none⟩=some rv/\w'.frozen? ⟨g,8,none⟩=false/\Sb B (w'.setCell ⟨g,8,none⟩ rv') g (k+1) M/\Below B w (w'.setCell ⟨g,8,none⟩ rv'):=by
 obtain⟨w2,m2,hB2,rfl⟩:=hw;generalize hnew:wY (cK V0 k M) ((M.drop (64*k)).take 64)=new;have hlen:new.cells.length=8:=rfl;have e8:∀j,8<=j->(w2.setCells g 0 new.cells).cell? ⟨g,j,none⟩=w.cell? ⟨g,j,none⟩:=λj hj=>by rw[kN _ _ _ _ (by rw[hlen];exact hj),hB2.cell (p:=⟨g,j,none⟩) hg]
 have ef:∀j,j<10->(w2.setCells g 0 new.cells).frozen? ⟨g,j,none⟩=false:=λj hj=>by rw[World.frozen?_setCells,hB2.frozen (p:=⟨g,j,none⟩) hg];exact hf j hj
 have hth:w2.there g 0 new.cells.length:=λj hj=>by have hj':j<8:=hj;rw[Nat.zero_add,hB2.cell (p:=⟨g,j,none⟩) hg,hB2.frozen (p:=⟨g,j,none⟩) hg];refine⟨?_,hf j (by omega)⟩;have:=hr1 j _ ((cK V0 k M).cells_get j hj');rw[Nat.zero_add]at this;rw[this];rfl
 have hown:iB B 1 (w2.setCells g 0 new.cells) rv (bcs (M.drop (64*k))):=(ho.below hB2 (Nat.le_refl _)).setCells _ _ _ hrg;have hq:iB B 1 (w2.setCells g 0 new.cells) rv' (bcs (M.drop (64*(k+1))))/\rv'.ownBlock≠some g:=by
  have hd:bcs (M.drop (64*(k+1)))=(bcs (M.drop (64*k))).drop 64:=by rw[JG,List.drop_drop];congr 2
  subst hrv;rw[hd,hrv'];split
  ·rename_i hq2;subst hq2;have:n2=64:=by
    rcases ho with⟨h,_⟩|⟨_,_,_,_,h1,_,_,h4,_⟩
    ·cases h
    ·injection h1 with _ e2 e3;omega
   subst this;exact⟨hown.cap_end,hrg⟩
  ·exact⟨by simpa using hown.reslice h64,hrg⟩
 have hrr:(w2.setCells g 0 new.cells).rangeAt g 0 (cK V0 (k+1) M).cells:=by rw[tX,hnew];exact World.rangeAt_setCells_same w2 g 0 new.cells hth
 have hsz:w.heap.size<=(w2.setCells g 0 new.cells).heap.size:=by rw[jA];exact hB2.size
 have hbb:Below B w (w2.setCells g 0 new.cells):=xA (hB2.mono (by omega)) g 0 _ hBg (by have:=hB2.size;omega);have hlast:64*(k+1)<=M.length:=by rw[List.length_drop]at hn2;omega
 clear hth hr1 hn2 hrv' ho;generalize w2.setCells g 0 new.cells=X at*;exact Wn (e8 8 (Nat.le_refl _)) hr8 ((e8 9 (by omega)).trans hr9) ef hq.1 hq.2 hrr (by omega) hbb hlast hBg
theorem fU:SlT Tryz.prog 29 5 1 1:=.mk' (z:=.int .u8 0) (by kernel_rfl) (by kernel_rfl) (by kernel_rfl) (by decide)
theorem Bj (B B' g:Nat)(m b:List UInt8)(bv:Value)(w:World)(hst:IsSt B w g m)(hb:IsB B' w bv b)(hne:b=[]\/∀k,bv.ownBlock=some k->k≠g)(hB:B<=w.heap.size)
  (hlen:b.length<=140737488355264):
  Calls Tryz.prog 113 #[.pointer (some ⟨g,0,none⟩),bv] w λe w'=>e=.returned (.tuple #[])/\IsSt B w' g (m++b)/\Below B w w':=by
 obtain⟨rv,hr,hf,ho,hrg,hk,hBg,hg⟩:=hst;obtain⟨hr1,hr8,hr9⟩:=st_cells hr;have f8:=hf 8 (by omega);have f9:=hf 9 (by omega);have HR:=Lib.hid hr1;have HF:=Lib.hid hf;have HO:=Lib.hid ho;have HRG:=Lib.hid hrg;have HB:=Lib.hid hb;have HNE:=Lib.hid hne;have hbl:∃a n cap,bv=.slice a n cap/\n=b.length:=by
  rcases hb.open with⟨_,_,rfl,rfl⟩|⟨q,off,cap,rfl,_⟩
  ·exact⟨_,_,_,rfl,rfl⟩
  ·exact⟨_,_,_,rfl,rfl⟩
 obtain⟨a,n,cap,rfl,hn⟩:=hbl;have HN:=Lib.hid hn;have hn2:n<=140737488355264:=by omega
 clear hr hf ho hrg hb hne hn hr1;generalize hml:(n64 m.length:Int)=ml at*;have HML:=Lib.hid hml;clear hml
 go_enter Tryz.func113,Tryz.ntmps113
 go_wp2_with (refine eP rfl _ _ rfl B 1 (cs:=bcs (m.drop (64*(m.length/64)))) (news:=bcs b) (m:=b.length) fU rfl rfl ?h1 ?h2 ?h3 ?h4 ?h5 ?_)
 case h1=>exact HO.out.setCell _ _ HRG.out
 case h2 =>have:=(IsS.setCell HB.out ⟨g,9,none⟩ (.int .u64 (IntKind.u64.wrap (ml+↑n))) (HNE.out.imp (λe=>by rw[e];rfl) (λh e=>h _ e rfl))).src (P:=Tryz.prog) (tx:=29) (by decide) rfl (QT b);rw[aU,Nat.div_one]at this;exact this
 case h3=>simpa[World.setCell]using hB
 case h4=>simp[aU];omega
 case h5=>simp[aU,maxLen];omega
 intro v1 w1 ho1 hg1 hk1;obtain⟨a1,n1,q1,rfl,-,-,-,-⟩:=ho1.open' (by decide);have hs1:w.heap.size<=w1.heap.size:=by have:=hg1.size;simpa[World.setCell]using this
 have hbg:w1.heap[g]?=(w.setCell ⟨g,9,none⟩ (.int .u64 (IntKind.u64.wrap (ml+↑n)))).heap[g]?:=hg1.block g (by simpa[World.setCell]using hg) (λe=>HRG.out e.symm);have c8:w1.cell? ⟨g,8,none⟩=some rv:=by rw[World.cell?_of_block hbg];exact(iN _ (by omega)).trans hr8
 have c9:w1.cell? ⟨g,9,none⟩=some (.int .u64 (n64 (m++b).length:Int)):=by rw[World.cell?_of_block hbg,qV _ hr9,<- HML.out,HN.out,ZC,List.length_append]
 have d8:w1.frozen? ⟨g,8,none⟩=false:=by rw[World.frozen?_of_block hbg,World.frozen?_setCell];exact f8
 have hput:=Wn (B:=B) (g:=g) (k:=m.length/64) (m2:=0) (M:=m++b) (w:=w) (X:=w1) (rv:=rv) (rv':=.slice a1 n1 q1) (c8.trans hr8.symm) hr8 c9
  (λj hj=>by rw[World.frozen?_of_block hbg,World.frozen?_setCell];exact HF.out j hj)
  (by rw[List.drop_append_of_le_length (by omega),sJ];exact ho1)
  (λe=>(hk1 g e).elim HRG.out (λh=>by have:(w.setCell ⟨g,9,none⟩ (.int .u64 (IntKind.u64.wrap (ml+↑n)))).heap.size=w.heap.size:=mV _ _ _;omega))
  (by rw[xz _ _ _ _ (by omega)];intro j u hu;have hj:j<8:=(List.getElem?_eq_some_iff.1 hu).1;rw[Nat.zero_add,World.cell?_of_block hbg,iN _ (by omega)];simpa using HR.out j u hu)
  (by omega)
  (((Below.refl B w).setCell (p:=⟨g,9,none⟩) hBg _).grown hg1 (by rw[mV];exact hB) (λk hk=>(HO.out.lt k hk).1))
  (by rw[List.length_append];omega) hBg
 have hst1:Sb B (w1.setCell ⟨g,8,none⟩ (.slice a1 n1 q1)) g (m.length/64) (m++b):=hput.2.2.1;have hbel1:Below B w (w1.setCell ⟨g,8,none⟩ (.slice a1 n1 q1)):=hput.2.2.2;clear hput;have HST:=Lib.hid hst1;have HBEL:=Lib.hid hbel1;have HC9:=Lib.hid c9;clear hst1 hbel1 hbg ho1 hg1 hk1 c9
 go_wp2
 obtain⟨W,HW⟩:∃W,Hid (W=w1.setCell ⟨g,8,none⟩ (.slice a1 n1 q1)):=⟨_,Lib.hid rfl⟩
 rw[<- HW.out];rw[<- HW.out]at HST HBEL;clear HW c8 d8 hr8 hr9 f8 f9
 go_loopg [] ((m++b).length/64-m.length/64) (λgk wr=>∃k,k+gk=(m++b).length/64/\Sb B wr g k (m++b)/\Below B w wr)
 case atStart=>exact⟨m.length/64,by rw[List.length_append];have:=Nat.div_le_div_right (c:=64) (Nat.le_add_right m.length b.length);omega,HST.out,HBEL.out⟩
 case round =>
  obtain⟨k,hk,hst,hbel⟩:=hrel;have HSTK:=Lib.hid hst;obtain⟨rv2,hr,hf,ho,hrg,h64,hBg2,hg2⟩:=hst;obtain⟨hr1,hr8,hr9⟩:=st_cells hr;obtain⟨a2,n2,q2,rfl,hl2,ha2,hq2,hm2⟩:=ho.open' (by decide);rw[aU,Nat.mul_one]at hl2;have f8:=hf 8 (by omega);have HBL:=Lib.hid hbel;have HK:=Lib.hid hk;have HO2:=Lib.hid ho;have HR1:=Lib.hid hr1;have HF2:=Lib.hid hf;have HR9:=Lib.hid hr9;have HRG2:=Lib.hid hrg;have HL2:=Lib.hid hl2;unfold maxLen at hm2;clear hbel hk ho hr1 hf hr9 hr hrg hl2;by_cases hge:64<=n2
  ·obtain⟨q,off,rfl⟩:=ha2 (by omega);have e1:(64:Int)<=(n2:Int):=by omega
   have e2:(64:Int)<=(q2:Int):=by omega
   go_wp2_with (go_at_call 155;refine(QQ (((m++b).drop (64*k)).take 64) (cK V0 k (m++b)) g q off q2 64 wr hg2 ?hfz ?hl ?hb ?hc ?hcm ?hr ?hg).mono ?_)
   case hfz=>exact λj hj=>HF2.out j (by omega)
   case hl=>rw[List.length_take,HL2.out];omega
   case hb=>rw[List.length_take,HL2.out];omega
   case hc=>omega
   case hcm=>omega
   case hr =>
    rw[<- Vv];rcases HO2.out with⟨h,_⟩|⟨g',off',n',cap',h1,h2,h3,h4,h5,h6,h7,h8⟩
    ·cases h
    ·injection h1 with e1 _ _
     injection e1 with e1
     injection e1 with e1 e4 e5
     subst e1 e4;exact rangeAt_take h7 64
   case hg=>exact HR1.out
   rintro e w2 ⟨rfl,hw2⟩;by_cases hq64:q2=64
   ·have hstep:=Mx rfl HR1.out hr8 HR9.out HF2.out HO2.out HRG2.out hge HL2.out hBg2 hg2 (if_pos hq64).symm hw2;obtain⟨s1,s2,s3,s4⟩:=hstep;have S3:=Lib.hid s3;have S4:=Lib.hid s4;clear s3 s4 hr8 hw2 f8;subst hq64
    go_wp2
    go_roundg (gk-1)
    case measure =>have:=HK.out;have:=HL2.out;rw[List.length_drop]at this;omega
    case rel =>
     have:=HK.out;have hl:=HL2.out;rw[List.length_drop]at hl;have h0:n2-64=0:=by omega
     have S3':=S3.out;have S4':=S4.out;rw[h0]at S3' S4';exact⟨k+1,by omega,S3',HBL.out.trans S4'⟩
   ·have hstep:=Mx rfl HR1.out hr8 HR9.out HF2.out HO2.out HRG2.out hge HL2.out hBg2 hg2 (if_neg hq64).symm hw2;obtain⟨s1,s2,s3,s4⟩:=hstep;have S3:=Lib.hid s3;have S4:=Lib.hid s4;clear s3 s4 hr8 hw2 f8
    go_wp2
    go_roundg (gk-1)
    case measure =>have:=HK.out;have:=HL2.out;rw[List.length_drop]at this;omega
    case rel =>have:=HK.out;have hl:=HL2.out;rw[List.length_drop]at hl;exact⟨k+1,by omega,S3.out,HBL.out.trans S4.out⟩
  ·have e1:(n2:Int)<64:=by omega
   have e2:¬(64:Int)<=(n2:Int):=by omega
   go_wp2
   go_end0
   have hl:=HL2.out;rw[List.length_drop]at hl;have hkk:k=(m++b).length/64:=by omega
   exact⟨rfl,by unfold IsSt;rw[<- hkk];exact HSTK.out,HBL.out⟩
theorem Sb.below {B B' g k:Nat}{w w':World}{M:List UInt8}(h:Sb B w g k M)(hb:Below B' w w')(hB:w.heap.size<=B'):Sb B w' g k M:=by obtain⟨rv,hr,hf,ho,hrg,hl,hBg,hg⟩:=h;refine⟨rv,qy hr hb (by omega),λj hj=>?_,ho.below hb hB,hrg,hl,hBg,Nat.lt_of_lt_of_le hg hb.size⟩;rw[hb.frozen (p:=⟨g,j,none⟩) (by show g<B';omega)];exact hf j hj
theorem IsSt.below {B B' g:Nat}{w w':World}{M:List UInt8}(h:IsSt B w g M)(hb:Below B' w w')(hB:w.heap.size<=B'):IsSt B w' g M:=Sb.below h hb hB
theorem kS {P:Program}{size tx e:Nat}(ht:P.underlying tx=some (.slice e))(w:World)(t:TypeId)(cs:List Value)(n c:Nat)(hn:cs.length=n*size)(h1:∀u∈cs,u.oneCell'=true)(m:Nat)(hm:m=w.heap.size):
  Src P size tx (.slice (some ⟨m,0,none⟩) n c) n cs (w.alloc (.cells cs.toArray t)):=by
 subst hm;refine Src.ofSlice _ ht _ n c cs hn (λj u hu=>?_) h1;rw[Addr.add_mid,Nat.zero_add,cell_of_row _ _ _ _ _ _ (heap_alloc_new w _)];simpa using hu
theorem TD {B size:Nat}(w:World)(t:TypeId)(cs:List Value)(n:Nat)(hn:cs.length=n*size)(hm:n<=maxLen)(hB:B<=w.heap.size)(m:Nat)(he:m=w.heap.size):
  iB B size (w.alloc (.cells cs.toArray t)) (.slice (some ⟨m,0,none⟩) n n) cs:=by
 subst he;refine .inr ⟨_,0,n,n,rfl,hB,by simp,Nat.le_refl _,hm,hn,λj u hu=>?_,λj hj=>?_⟩
 ·rw[Nat.zero_add,cell_of_row _ _ _ _ _ _ (heap_alloc_new w _)];simpa using hu
 ·rw[Nat.zero_add,cell_of_row _ _ _ _ _ _ (heap_alloc_new w _)];refine⟨?_,frozen_of_row _ _ _ _ _ (heap_alloc_new w _)⟩;rw[<- hn]at hj;simp[hj]
theorem dZ (n d:Nat):((aQ n d).toNat:Int)=(n:Int)/(d:Int)%256:=by unfold aQ;rw[UInt8.toNat_ofNat'];omega
def oo (z:Nat):List UInt8:=128::List.replicate z 0
theorem Nq (z:Nat):oo (z+1)=oo z++[0]:=by unfold oo;rw[List.cons_append,<- List.replicate_succ']
theorem bi (z:Nat):(oo z).length=z+1:=by simp[oo]
def zOf (n:Nat):Nat:=(119-n%64)%64
theorem abI (n:Nat):zOf n<64:=Nat.mod_lt _ (by decide)
theorem Sk (n z:Nat)(h:z<=zOf n):(n%64+(z+1))%64=56↔z=zOf n:=by unfold zOf at*;omega
def z32:Array Value:=(List.replicate 32 (Value.int .u8 0)).toArray
theorem adr (W:World):(Instr.makeSlice 29 (.int .i64 0) (.int .i64 32)).run Tryz.prog W=.ok (.slice (some ⟨W.heap.size,0,none⟩) 0 32) (W.alloc (.cells z32 5)):=by kernel_rfl
theorem agv {B:Nat}(w:World)(hB:B<=w.heap.size)(t:TypeId):iB B 1 (w.alloc (.cells z32 t)) (.slice (some ⟨w.heap.size,0,none⟩) 0 32) []:=by refine .inr ⟨_,0,0,32,rfl,hB,by simp,by omega,by simp[maxLen],rfl,λj u hu=>by simp at hu,λj hj=>?_⟩;rw[Nat.zero_add,cell_of_row _ _ _ _ _ _ (heap_alloc_new w _)];refine⟨?_,frozen_of_row _ _ _ _ _ (heap_alloc_new w _)⟩;have:j<z32.size:=hj;simp[this]
theorem Kg (v:V8):∀j:Nat,j<8->∀W,(Instr.index 253 (.agg #[.int .u32 (v.a:Nat),.int .u32 (v.b:Nat),.int .u32 (v.c:Nat),.int .u32 (v.d:Nat),.int .u32 (v.e:Nat),.int .u32 (v.f:Nat),.int .u32 (v.g:Nat),.int .u32 (v.h:Nat)]) (.int .i64 (j:Int))).run Tryz.prog W=.ok (.int .u32 (lnth v.list j:Nat)) W
 |0,_,_|1,_,_|2,_,_|3,_,_|4,_,_|5,_,_|6,_,_|7,_,_=>by kernel_rfl
def TI (v:V8)(j:Nat):List UInt8:=(v.list.take j).flatMap vo
theorem Nt (v:V8)(j:Nat)(h:j<8):TI v (j+1)=TI v j++vo (lnth v.list j):=by
 match j,h with
 |0,_|1,_|2,_|3,_|4,_|5,_|6,_|7,_=>simp[TI,V8.list,lnth,vo]
theorem TH (v:V8):TI v 8=Zo v:=by simp[TI,V8.list,Zo]
theorem GU (v:V8)(j:Nat)(h:j<=8):(TI v j).length=4*j:=by
 match j,h with
 |0,_|1,_|2,_|3,_|4,_|5,_|6,_|7,_|8,_=>simp[TI,V8.list,vo]
def abm (B:Nat)(m:List UInt8)(w:World)(e:Ending)(w':World):Prop:=∃v,e=.returned v/\iB B 1 w' v (bcs (sha m))/\Below B w w'
theorem aaw (B g:Nat)(m:List UInt8)(w:World)(hst:IsSt B w g m)(hB:B<=w.heap.size):
  Calls Tryz.prog 114 #[.pointer (some ⟨g,0,none⟩)] w (abm B m w):=by
 have HST:=Lib.hid hst;obtain⟨rv,hr,hf,ho,hrg,hk,hBg,hg⟩:=hst;obtain⟨hr1,hr8,hr9⟩:=st_cells hr;obtain⟨a1,n1,q1,rfl,hl1,-,-,-⟩:=ho.open' (by decide);rw[aU,Nat.mul_one,List.length_drop]at hl1;have hn1:n1=m.length%64:=by omega
 have hn1':n1<64:=by omega
 have HN1:=Lib.hid hn1;clear hr hr1 ho hrg hf hl1 hn1;obtain⟨N,hN⟩:∃N,Hid (n64 (m.length*8)=N):=⟨_,Lib.hid rfl⟩
 have hmul:IntKind.u64.wrap ((n64 m.length:Int)*8)=(N:Int):=by rw[<- hN.out];simp[IntKind.wrap,IntKind.bits,IntKind.signed,n64];omega
 have hz:=abI m.length
 go_enter Tryz.func114,Tryz.ntmps114
 go_wp2
 go_loopg [4] (zOf m.length) (λgk v wr=>∃z,z+gk=zOf m.length/\iB w.heap.size 1 wr v (bcs (oo z))/\Below w.heap.size w wr)
 case atStart=>exact⟨0,by omega,TD w 5 (bcs (oo 0)) 1 rfl (by simp[maxLen]) (Nat.le_refl _) _ rfl,(Below.refl _ _).alloc (Nat.le_refl _) _⟩
 case round =>
  obtain⟨z,hz1,ho,hb⟩:=hrel;obtain⟨a2,n2,q2,rfl,hl2,-,-,-⟩:=ho.open' (by decide);rw[aU,bi,Nat.mul_one]at hl2;have c8:wr.cell? ⟨g,8,none⟩=some (.slice a1 n1 q1):=(hb.cell (p:=⟨g,8,none⟩) hg).trans hr8;have ht:=Sk m.length z (by omega);have hn2:n2<=64:=by omega
  have HO:=Lib.hid ho;have HB:=Lib.hid hb;have HT:=Lib.hid ht;have HL:=Lib.hid hl2;have HZ1:=Lib.hid hz1;clear ho hb ht hl2 hz1;by_cases he:z=zOf m.length
  ·have ht1:((((n1:Int)+(n2:Int))%64) != 56)=false:=by
    have h1:=HT.out.2 he;have h2:=HN1.out;have h3:=HL.out;simp;omega
   have HE:=Lib.hid he;clear he
   go_wp2
   go_loopg [4,5] 8 (λgk2 v i wr2=>∃j,j+gk2=8/\i=.int .i64 (56-8*(j:Int))/\iB w.heap.size 1 wr2 v (bcs (oo z++(fF N).take j))/\Below w.heap.size w wr2)
   case atStart=>exact⟨0,rfl,rfl,by rw[List.take_zero,List.append_nil];exact HO.out,HB.out⟩
   case round =>
   obtain⟨j,hj,rfl,ho2,hb2⟩:=hrel;obtain⟨a3,n3,q3,rfl,-,-,-,-⟩:=ho2.open' (by decide);have HO2:=Lib.hid ho2;have HB2:=Lib.hid hb2;have hsz:=hb2.size;have hz64:z<64:=by have:=HE.out;omega
   clear ho2 hb2;rcases(show j=0\/j=1\/j=2\/j=3\/j=4\/j=5\/j=6\/j=7\/j=8 by omega)with rfl|rfl|rfl|rfl|rfl|rfl|rfl|rfl|rfl
   ·rw[show(56-8*((0:Nat):Int))=56 from rfl];have hs:(N:Int)/72057594037927936%256=((aQ N 72057594037927936).toNat:Int):=by rw[dZ];simp
    go_wp2_with (refine eP rfl _ _ rfl w.heap.size 1 (cs:=bcs (oo z++(fF N).take 0)) (news:=[.int .u8 ((aQ N 72057594037927936).toNat:Int)]) (m:=1) fU rfl rfl (HO2.out.alloc _) (kS rfl _ _ [.int .u8 ((aQ N 72057594037927936).toNat:Int)] 1 1 rfl (by simp[Value.oneCell']) _ rfl) ?h3 ?h4 ?h5 ?_)
    case h3=>simp;omega
    case h4=>simp[aU,bi];omega
    case h5=>simp[aU,bi,maxLen];omega
    intro v1 w1 ho1 hg1 hk1;have hb1:Below w.heap.size w w1:=(HB2.out.alloc hsz _).grown hg1 (by simp;omega) (λk hk=>(HO2.out.lt k hk).1);have HO1:=Lib.hid ho1;have HB1:=Lib.hid hb1;clear ho1 hg1 hk1 hb1
    go_wp2
    go_roundg (gk-1)
    case measure=>omega
    case rel=>exact⟨1,by omega,rfl,by rw[show bcs (oo z++List.take 1 (fF N))=bcs (oo z)++[.int .u8 ((aQ N 72057594037927936).toNat:Int)] by simp[fF,bcs,uy]];exact HO1.out,HB1.out⟩
   ·rw[show(56-8*((1:Nat):Int))=48 from rfl];have hs:(N:Int)/281474976710656%256=((aQ N 281474976710656).toNat:Int):=by rw[dZ];simp
    go_wp2_with (refine eP rfl _ _ rfl w.heap.size 1 (cs:=bcs (oo z++(fF N).take 1)) (news:=[.int .u8 ((aQ N 281474976710656).toNat:Int)]) (m:=1) fU rfl rfl (HO2.out.alloc _) (kS rfl _ _ [.int .u8 ((aQ N 281474976710656).toNat:Int)] 1 1 rfl (by simp[Value.oneCell']) _ rfl) ?h3 ?h4 ?h5 ?_)
    case h3=>simp;omega
    case h4=>simp[aU,bi];omega
    case h5=>simp[aU,bi,maxLen];omega
    intro v1 w1 ho1 hg1 hk1;have hb1:Below w.heap.size w w1:=(HB2.out.alloc hsz _).grown hg1 (by simp;omega) (λk hk=>(HO2.out.lt k hk).1);have HO1:=Lib.hid ho1;have HB1:=Lib.hid hb1;clear ho1 hg1 hk1 hb1
    go_wp2
    go_roundg (gk-1)
    case measure=>omega
    case rel=>exact⟨2,by omega,rfl,by rw[show bcs (oo z++List.take 2 (fF N))=bcs (oo z++List.take 1 (fF N))++[.int .u8 ((aQ N 281474976710656).toNat:Int)] by simp[fF,bcs,uy]];exact HO1.out,HB1.out⟩
   ·rw[show(56-8*((2:Nat):Int))=40 from rfl];have hs:(N:Int)/1099511627776%256=((aQ N 1099511627776).toNat:Int):=by rw[dZ];simp
    go_wp2_with (refine eP rfl _ _ rfl w.heap.size 1 (cs:=bcs (oo z++(fF N).take 2)) (news:=[.int .u8 ((aQ N 1099511627776).toNat:Int)]) (m:=1) fU rfl rfl (HO2.out.alloc _) (kS rfl _ _ [.int .u8 ((aQ N 1099511627776).toNat:Int)] 1 1 rfl (by simp[Value.oneCell']) _ rfl) ?h3 ?h4 ?h5 ?_)
    case h3=>simp;omega
    case h4=>simp[aU,bi];omega
    case h5=>simp[aU,bi,maxLen];omega
    intro v1 w1 ho1 hg1 hk1;have hb1:Below w.heap.size w w1:=(HB2.out.alloc hsz _).grown hg1 (by simp;omega) (λk hk=>(HO2.out.lt k hk).1);have HO1:=Lib.hid ho1;have HB1:=Lib.hid hb1;clear ho1 hg1 hk1 hb1
    go_wp2
    go_roundg (gk-1)
    case measure=>omega
    case rel=>exact⟨3,by omega,rfl,by rw[show bcs (oo z++List.take 3 (fF N))=bcs (oo z++List.take 2 (fF N))++[.int .u8 ((aQ N 1099511627776).toNat:Int)] by simp[fF,bcs,uy]];exact HO1.out,HB1.out⟩
   ·rw[show(56-8*((3:Nat):Int))=32 from rfl];have hs:(N:Int)/4294967296%256=((aQ N 4294967296).toNat:Int):=by rw[dZ];simp
    go_wp2_with (refine eP rfl _ _ rfl w.heap.size 1 (cs:=bcs (oo z++(fF N).take 3)) (news:=[.int .u8 ((aQ N 4294967296).toNat:Int)]) (m:=1) fU rfl rfl (HO2.out.alloc _) (kS rfl _ _ [.int .u8 ((aQ N 4294967296).toNat:Int)] 1 1 rfl (by simp[Value.oneCell']) _ rfl) ?h3 ?h4 ?h5 ?_)
    case h3=>simp;omega
    case h4=>simp[aU,bi];omega
    case h5=>simp[aU,bi,maxLen];omega
    intro v1 w1 ho1 hg1 hk1;have hb1:Below w.heap.size w w1:=(HB2.out.alloc hsz _).grown hg1 (by simp;omega) (λk hk=>(HO2.out.lt k hk).1);have HO1:=Lib.hid ho1;have HB1:=Lib.hid hb1;clear ho1 hg1 hk1 hb1
    go_wp2
    go_roundg (gk-1)
    case measure=>omega
    case rel=>exact⟨4,by omega,rfl,by rw[show bcs (oo z++List.take 4 (fF N))=bcs (oo z++List.take 3 (fF N))++[.int .u8 ((aQ N 4294967296).toNat:Int)] by simp[fF,bcs,uy]];exact HO1.out,HB1.out⟩
   ·rw[show(56-8*((4:Nat):Int))=24 from rfl];have hs:(N:Int)/16777216%256=((aQ N 16777216).toNat:Int):=by rw[dZ];simp
    go_wp2_with (refine eP rfl _ _ rfl w.heap.size 1 (cs:=bcs (oo z++(fF N).take 4)) (news:=[.int .u8 ((aQ N 16777216).toNat:Int)]) (m:=1) fU rfl rfl (HO2.out.alloc _) (kS rfl _ _ [.int .u8 ((aQ N 16777216).toNat:Int)] 1 1 rfl (by simp[Value.oneCell']) _ rfl) ?h3 ?h4 ?h5 ?_)
    case h3=>simp;omega
    case h4=>simp[aU,bi];omega
    case h5=>simp[aU,bi,maxLen];omega
    intro v1 w1 ho1 hg1 hk1;have hb1:Below w.heap.size w w1:=(HB2.out.alloc hsz _).grown hg1 (by simp;omega) (λk hk=>(HO2.out.lt k hk).1);have HO1:=Lib.hid ho1;have HB1:=Lib.hid hb1;clear ho1 hg1 hk1 hb1
    go_wp2
    go_roundg (gk-1)
    case measure=>omega
    case rel=>exact⟨5,by omega,rfl,by rw[show bcs (oo z++List.take 5 (fF N))=bcs (oo z++List.take 4 (fF N))++[.int .u8 ((aQ N 16777216).toNat:Int)] by simp[fF,bcs,uy]];exact HO1.out,HB1.out⟩
   ·rw[show(56-8*((5:Nat):Int))=16 from rfl];have hs:(N:Int)/65536%256=((aQ N 65536).toNat:Int):=by rw[dZ];simp
    go_wp2_with (refine eP rfl _ _ rfl w.heap.size 1 (cs:=bcs (oo z++(fF N).take 5)) (news:=[.int .u8 ((aQ N 65536).toNat:Int)]) (m:=1) fU rfl rfl (HO2.out.alloc _) (kS rfl _ _ [.int .u8 ((aQ N 65536).toNat:Int)] 1 1 rfl (by simp[Value.oneCell']) _ rfl) ?h3 ?h4 ?h5 ?_)
    case h3=>simp;omega
    case h4=>simp[aU,bi];omega
    case h5=>simp[aU,bi,maxLen];omega
    intro v1 w1 ho1 hg1 hk1;have hb1:Below w.heap.size w w1:=(HB2.out.alloc hsz _).grown hg1 (by simp;omega) (λk hk=>(HO2.out.lt k hk).1);have HO1:=Lib.hid ho1;have HB1:=Lib.hid hb1;clear ho1 hg1 hk1 hb1
    go_wp2
    go_roundg (gk-1)
    case measure=>omega
    case rel=>exact⟨6,by omega,rfl,by rw[show bcs (oo z++List.take 6 (fF N))=bcs (oo z++List.take 5 (fF N))++[.int .u8 ((aQ N 65536).toNat:Int)] by simp[fF,bcs,uy]];exact HO1.out,HB1.out⟩
   ·rw[show(56-8*((6:Nat):Int))=8 from rfl];have hs:(N:Int)/256%256=((aQ N 256).toNat:Int):=by rw[dZ];simp
    go_wp2_with (refine eP rfl _ _ rfl w.heap.size 1 (cs:=bcs (oo z++(fF N).take 6)) (news:=[.int .u8 ((aQ N 256).toNat:Int)]) (m:=1) fU rfl rfl (HO2.out.alloc _) (kS rfl _ _ [.int .u8 ((aQ N 256).toNat:Int)] 1 1 rfl (by simp[Value.oneCell']) _ rfl) ?h3 ?h4 ?h5 ?_)
    case h3=>simp;omega
    case h4=>simp[aU,bi];omega
    case h5=>simp[aU,bi,maxLen];omega
    intro v1 w1 ho1 hg1 hk1;have hb1:Below w.heap.size w w1:=(HB2.out.alloc hsz _).grown hg1 (by simp;omega) (λk hk=>(HO2.out.lt k hk).1);have HO1:=Lib.hid ho1;have HB1:=Lib.hid hb1;clear ho1 hg1 hk1 hb1
    go_wp2
    go_roundg (gk-1)
    case measure=>omega
    case rel=>exact⟨7,by omega,rfl,by rw[show bcs (oo z++List.take 7 (fF N))=bcs (oo z++List.take 6 (fF N))++[.int .u8 ((aQ N 256).toNat:Int)] by simp[fF,bcs,uy]];exact HO1.out,HB1.out⟩
   ·rw[show(56-8*((7:Nat):Int))=0 from rfl];have hs:(N:Int)%256=((aQ N 1).toNat:Int):=by rw[dZ];simp
    go_wp2_with (refine eP rfl _ _ rfl w.heap.size 1 (cs:=bcs (oo z++(fF N).take 7)) (news:=[.int .u8 ((aQ N 1).toNat:Int)]) (m:=1) fU rfl rfl (HO2.out.alloc _) (kS rfl _ _ [.int .u8 ((aQ N 1).toNat:Int)] 1 1 rfl (by simp[Value.oneCell']) _ rfl) ?h3 ?h4 ?h5 ?_)
    case h3=>simp;omega
    case h4=>simp[aU,bi];omega
    case h5=>simp[aU,bi,maxLen];omega
    intro v1 w1 ho1 hg1 hk1;have hb1:Below w.heap.size w w1:=(HB2.out.alloc hsz _).grown hg1 (by simp;omega) (λk hk=>(HO2.out.lt k hk).1);have HO1:=Lib.hid ho1;have HB1:=Lib.hid hb1;clear ho1 hg1 hk1 hb1
    go_wp2
    go_roundg (gk-1)
    case measure=>omega
    case rel=>exact⟨8,by omega,rfl,by rw[show bcs (oo z++List.take 8 (fF N))=bcs (oo z++List.take 7 (fF N))++[.int .u8 ((aQ N 1).toNat:Int)] by simp[fF,bcs,uy]];exact HO1.out,HB1.out⟩
   ·rw[show(56-8*((8:Nat):Int))=-8 from rfl];have hpad:oo z++(fF N).take 8=oG m.length:=by
     rw[HE.out,<- hN.out];rfl
    have HP:=Lib.hid hpad;have HI:=Lib.hid (HST.out.below HB2.out (Nat.le_refl _));have HB3:=Lib.hid (HB2.out.mono hB);have hIB:=HO2.out.toIsB;rw[hpad]at hIB;have HIB:=Lib.hid hIB;have hB3:B<=wr.heap.size:=by omega
    have hne:oG m.length=[]\/∀k,(Value.slice a3 n3 q3).ownBlock=some k->k≠g:=.inr λk hk e=>by have:=(HO2.out.lt k hk).1;omega
    have HNE:=Lib.hid hne;clear hpad hIB hne
    go_wp2_with (go_at_call 113;refine(Bj B _ g m (oG m.length) _ _ HI.out HIB.out HNE.out hB3 (by rw[ny];omega)).mono ?_)
    rintro e w4 ⟨rfl,hst4,hb4⟩;have HB4:=Lib.hid (HB3.out.trans hb4);have hl64:(m++oG m.length).length=64*((m++oG m.length).length/64):=by rw[List.length_append,ny];omega
    obtain⟨rv4,hr4,hf4,-,-,-,-,hg4⟩:=hst4;have hrr4:=(st_cells hr4).1;generalize hvv:cK V0 ((m++oG m.length).length/64) (m++oG m.length)=vv at*;have HVV:=Lib.hid hvv;have hc:∀j u,vv.cells[j]?=some u->w4.cell? ⟨g,j,none⟩=some u:=λj u hu=>by simpa using hrr4 j u hu
    have c0:=hc 0 _ rfl;have c1:=hc 1 _ rfl;have c2:=hc 2 _ rfl;have c3:=hc 3 _ rfl;have c4:=hc 4 _ rfl;have c5:=hc 5 _ rfl;have c6:=hc 6 _ rfl;have c7:=hc 7 _ rfl;have hB4:B<=w4.heap.size:=by have:=hb4.size;omega
    clear hc hvv hrr4 hr4 hf4 hb4 hl64;have hmk:=adr;have hgN:g<w4.heap.size:=hg4
    go_wp2
    go_loopg [6,47] 8 (λgk v i wr=>∃j,j+gk=8/\i=.int .i64 (j:Int)/\iB B 1 wr v (bcs (TI vv j))/\Below B w wr)
    case atStart=>exact⟨0,rfl,rfl,agv w4 hB4 _,HB4.out.alloc hB4 _⟩
    case round =>
    obtain⟨j,hj,rfl,ho,hb⟩:=hrel;obtain⟨a5,n5,q5,rfl,-,-,-,-⟩:=ho.open' (by decide);have hB5:B<=wr.heap.size:=by have:=hb.size;omega
    have HO5:=Lib.hid ho;have HB5:=Lib.hid hb;clear ho hb;by_cases hlt:j<8
    ·have hix:=Kg vv j hlt;generalize hx:lnth vv.list j=x at*;have HX:=Lib.hid hx;clear hx;have s1:(x:Int)/16777216%256=((aQ x 16777216).toNat:Int):=by rw[dZ];simp
     have s2:(x:Int)/65536%256=((aQ x 65536).toNat:Int):=by rw[dZ];simp
     have s3:(x:Int)/256%256=((aQ x 256).toNat:Int):=by rw[dZ];simp
     have s4:(x:Int)%256=((aQ x 1).toNat:Int):=by rw[dZ];simp
     go_wp2_with (refine eP rfl _ _ rfl B 1 (cs:=bcs (TI vv j)) (news:=bcs (vo x)) (m:=4) fU rfl rfl (HO5.out.alloc _) (kS rfl _ _ (bcs (vo x)) 4 4 rfl (QT _) _ rfl) ?h3 ?h4 ?h5 ?_)
     case h3=>simp;omega
     case h4=>simp[aU,GU _ _ (Nat.le_of_lt hlt)];omega
     case h5=>simp[aU,GU _ _ (Nat.le_of_lt hlt),maxLen];omega
     intro v1 w1 ho1 hg1 hk1;have hb1:Below B w w1:=(HB5.out.alloc hB5 _).grown hg1 (by simp;omega) (λk hk=>(HO5.out.lt k hk).1);have HO1:=Lib.hid ho1;have HB1:=Lib.hid hb1;clear ho1 hg1 hk1 hb1
     go_wp2
     go_roundg (gk-1)
     case measure=>omega
     case rel=>exact⟨j+1,by omega,by go_num,by rw[Nt _ _ hlt,sJ,HX.out];exact HO1.out,HB1.out⟩
    ·have J8:=Lib.hid (show j=8 by omega);have hj8:¬(j:Int)<8:=by omega
     go_wp2
     go_ret
     exact⟨_,rfl,by have:=HO5.out;rw[J8.out,TH,<- HVV.out]at this;unfold sha;rw[<- List.length_append];exact this,HB5.out⟩
  ·have ht1:((((n1:Int)+(n2:Int))%64) != 56)=true:=by
    have h1:=mt HT.out.1 he;have h2:=HN1.out;have h3:=HL.out;simp;omega
   have HE:=Lib.hid he;clear he;have hsz:=HB.out.size
   go_wp2_with (refine eP rfl _ _ rfl w.heap.size 1 (cs:=bcs (oo z)) (news:=[.int .u8 0]) (m:=1) fU rfl rfl (HO.out.alloc _) (kS rfl _ _ [.int .u8 0] 1 1 rfl (by simp[Value.oneCell']) _ rfl) ?h3 ?h4 ?h5 ?_)
   case h3=>simp;omega
   case h4=>have:=HL.out;simp[aU,bi];omega
   case h5=>have:=HL.out;simp[aU,bi,maxLen];omega
   intro v1 w1 ho1 hg1 hk1;have hb1:Below w.heap.size w w1:=(HB.out.alloc hsz _).grown hg1 (by simp;omega) (λk hk=>(HO.out.lt k hk).1);have HO1:=Lib.hid ho1;have HB1:=Lib.hid hb1;clear ho1 hg1 hk1 hb1
   go_wp2
   go_roundg (gk-1)
   case measure=>have:=HZ1.out;have:=HE.out;omega
   case rel =>have:=HZ1.out;have:=HE.out;exact⟨z+1,by omega,by rw[Nq,sJ];exact HO1.out,HB1.out⟩
def VN (B:Nat)(w:World)(v:Value)(ls:List (List UInt8)):Prop:=∃vs,IsS B 1 w v vs/\vs.length=ls.length/\∀k,k<ls.length->IsB B w (vs.getD k undef) (ls.getD k [])
theorem VN.below {B B':Nat}{w w':World}{v:Value}{ls:List (List UInt8)}(h:VN B w v ls)(hb:Below B' w w')(hB:B<=B'):VN B w' v ls:=by obtain⟨vs,h1,h2,h3⟩:=h;exact⟨vs,h1.below hb hB,h2,λk hk=>(h3 k hk).below hb hB⟩
theorem VN.mono {B B':Nat}{w:World}{v:Value}{ls:List (List UInt8)}(h:VN B w v ls)(hB:B<=B'):VN B' w v ls:=by obtain⟨vs,h1,h2,h3⟩:=h;exact⟨vs,h1.mono hB,h2,λk hk=>(h3 k hk).mono hB⟩
theorem IsB.block {B:Nat}{w:World}{v:Value}{l:List UInt8}(h:IsB B w v l):l=[]\/∀k,v.ownBlock=some k->k<B:=by
 rcases h.open with⟨_,_,rfl,h0⟩|⟨b,off,cap,rfl,h2,_⟩
 ·exact .inl h0
 ·exact .inr λk hk=>by simp[Value.ownBlock]at hk;omega
def ahk (B:Nat)(bs:List UInt8)(w:World)(e:Ending)(w':World):Prop:=∃v,e=.returned v/\iB B 1 w' v (bcs bs)/\Below B w w'
def st0:Array Value:=#[.int .u32 1779033703,.int .u32 3144134277,.int .u32 1013904242,.int .u32 2773480762,.int .u32 1359893119,.int .u32 2600822924,.int .u32 528734635,.int .u32 1541459225,.slice none 0 0,.int .u64 0]
theorem QS (w:World):Calls Tryz.prog 112 #[] w λe w'=>e=.returned (.pointer (some ⟨w.heap.size,0,none⟩))/\w'=w.alloc (.cells st0 255):=by
 go_enter Tryz.func112,Tryz.ntmps112
 go_wp2
 go_ret
 exact⟨rfl,rfl⟩
theorem SQ (w:World)(t:TypeId):IsSt w.heap.size (w.alloc (.cells st0 t)) w.heap.size []:=by have hg:=heap_alloc_new w (.cells st0 t);refine⟨.slice none 0 0,λj u hu=>?_,λj _=>frozen_of_row _ _ _ _ _ hg,iB.nil _ _ _,by simp[Value.ownBlock],by simp,Nat.le_refl _,by simp⟩;rw[Nat.zero_add,cell_of_row _ _ _ _ _ _ hg];rw[show st0=((cK V0 0 []).cells++[Value.slice none 0 0,.int .u64 (n64 0:Int)]).toArray from rfl,List.getElem?_toArray];exact hu
theorem Pz {ls:List (List UInt8)}{k:Nat}(h:k<ls.length):(ls.take (k+1)).flatten=(ls.take k).flatten++ls.getD k []:=by rw[Ms h,List.flatten_append];simp[List.getD_eq_getElem?_getD,h]
theorem BZ (B:Nat)(lv:Value)(ls:List (List UInt8))(w:World)(h:VN B w lv ls)(hB:B<=w.heap.size)(hlen:∀k,k<ls.length->(ls.getD k []).length<=140737488355264):
  Calls Tryz.prog 61 #[lv] w (ahk w.heap.size (sha ls.flatten) w):=by
 obtain⟨vs,h1,h2,h3⟩:=h;have hl:∃a n cap,lv=.slice a n cap/\n=ls.length/\n<=9223372036854775807/\(0<n->∃b off,a=some ⟨b,off,none⟩/\b<B/\∀k,k<n->w.cell? ⟨b,off+k,none⟩=some (vs.getD k undef)):=by
  rcases h1 with⟨a,cap,rfl,rfl⟩|⟨b,off,n,cap,rfl,hb,hn,hm,hc,hr⟩
  ·exact⟨a,0,cap,rfl,by simpa using h2,by omega,by omega⟩
  ·refine⟨_,n,cap,rfl,by omega,by unfold maxLen at hm;omega,λ_=>⟨b,off,rfl,hb,λk hk=>hr k _ ?_⟩⟩;have:k<vs.length:=by omega
   simp[List.getD_eq_getElem?_getD,this]
 obtain⟨a,n,cap,rfl,hn,hm,ha⟩:=hl;have HN:=Lib.hid hn;have H3:=Lib.hid h3;have HL:=Lib.hid hlen;have HA:=Lib.hid ha;clear h1 h2 h3 hlen hn ha
 go_enter Tryz.func61,Tryz.ntmps61
 go_wp2_with (go_at_call 112;refine(QS _).mono ?_;rintro e w1 ⟨rfl,rfl⟩)
 go_loopw [9] (λi wr=>∃k:Nat,k<=n/\i=.int .i64 k/\IsSt w.heap.size wr w.heap.size (ls.take k).flatten/\Below w.heap.size w wr) (λi _=>n-(intOf i).toNat)
 case atStart=>exact⟨0,by omega,rfl,SQ _ _,(Below.refl _ _).alloc (Nat.le_refl _) _⟩
 case round =>
  obtain⟨k,hk,rfl,hst,hb⟩:=hrel;have HST:=Lib.hid hst;have HB:=Lib.hid hb;have hsz:=hb.size;by_cases hlt:k<n
  ·obtain⟨b,off,rfl,hbB,hc⟩:=HA.out (by omega);have hck:wr.cell? ⟨b,off+k,none⟩=some (vs.getD k undef):=(hb.cell (p:=⟨b,off+k,none⟩) (by show b<w.heap.size;omega)).trans (hc k hlt);have hkl:k<ls.length:=by have:=HN.out;omega
   have hbv:IsB B wr (vs.getD k undef) (ls.getD k []):=(H3.out k hkl).below hb hB;have hlk:=HL.out k hkl;generalize vs.getD k undef=bv at*;have HBV:=Lib.hid hbv;have HNE:Hid (ls.getD k []=[]\/∀j,bv.ownBlock=some j->j≠w.heap.size):=hbv.block.imp id λh j hj=>by have:=h j hj;omega
   have HFT:=Lib.hid (Pz hkl);clear hc hst hb hbv;generalize ls.getD k []=bl at*
   go_wp2_with (go_at_call 113;refine(Bj w.heap.size B w.heap.size _ bl _ _ HST.out HBV.out HNE.out hsz hlk).mono ?_)
   rintro e w2 ⟨rfl,hst2,hb2⟩;have HST2:=Lib.hid hst2;have HB2:=Lib.hid (HB.out.trans hb2);clear hst2 hb2
   go_wp2
   go_roundw
   case rel=>exact⟨k+1,by omega,by go_num,by rw[HFT.out];exact HST2.out,HB2.out⟩
   case measure=>simp[intOf];omega
  ·have HKN:=Lib.hid (show k=ls.length by have:=HN.out;omega);have hkn:¬(k:Int)<(n:Int):=by omega
   clear hst hb
   go_wp2_with (go_at_call 114;refine(aaw w.heap.size _ _ _ HST.out hsz).mono ?_)
   rintro e w2 ⟨v,rfl,ho,hb2⟩
   go_wp2
   go_ret
   exact⟨_,rfl,by rw[HKN.out,List.take_length]at ho;exact ho,HB.out.trans hb2⟩
theorem YW (B:Nat)(bv:Value)(b:List UInt8)(w:World)(h:IsB B w bv b)(hB:B<=w.heap.size)(hlen:b.length<=140737488355264):
  Calls Tryz.prog 15 #[bv] w (ahk w.heap.size (sha b) w):=by
 have HH:=Lib.hid h;obtain⟨a,n,cap,rfl⟩:∃a n cap,bv=.slice a n cap:=by rcases h with⟨_,_,rfl,_⟩|⟨b,off,n,cap,rfl,_⟩<;>exact⟨_,_,_,rfl⟩
 clear h;have hbb:VN (w.heap.size+1) (w.alloc (.cells #[.slice a n cap] 29)) (.slice (some ⟨w.heap.size,0,none⟩) 1 1) [b]:=by
  refine⟨[.slice a n cap],.inr ⟨_,0,1,1,rfl,by omega,by omega,by simp[maxLen],rfl,λj u hu=>?_⟩,rfl,λk hk=>?_⟩
  ·rw[Nat.zero_add,cell_of_row _ _ _ _ _ _ (heap_alloc_new w _)];exact List.getElem?_toArray.trans hu
  ·have hk0:k=0:=by simpa using hk
   subst hk0;exact((HH.out.below ((Below.refl w.heap.size w).alloc (Nat.le_refl _) _) hB).mono (by omega))
 have HBB:=Lib.hid hbb;clear hbb
 go_enter Tryz.func15,Tryz.ntmps15
 go_wp2_with (go_at_call 61;refine(BZ _ _ _ _ HBB.out (by simp) ?hl).mono ?_)
 case hl=>intro k hk;have hk0:k=0:=by simpa using hk
          subst hk0;exact hlen
 rintro e w2 ⟨v,rfl,ho,hb2⟩
 go_wp2
 go_ret
 refine⟨_,rfl,?_,((Below.refl w.heap.size w).alloc (Nat.le_refl _) _).trans (hb2.mono (by simp))⟩;have:=ho.mono (B':=w.heap.size) (by simp);simpa using this
open Go Go.Abs
theorem rZ (b:List UInt8):(b.map aH).flatten=b.map λc=>I.s (.int .u8 (c.toNat:Int)):=by
 induction b with
 |nil=>rfl
 |cons a t ih=>simp only[List.map_cons,List.flatten_cons,ih,aH];rfl
theorem QH:∀(b:List UInt8),∀e∈b.map aH,e.length=1:=by intro b e he;obtain⟨c,_,rfl⟩:=List.mem_map.1 he;rfl
theorem ahX {w:World}{S:Nat->Prop}{v u:Value}(h:VI w S v (.s u)):v=u:=by cases h;rfl
theorem Xh {w:World}{S:Nat->Prop}(hS:∀b,S b->b<w.heap.size){v:Value}{b:List UInt8}(h:VI w S v (bI b))(hb:b.length<=maxLen):IsB w.heap.size w v b:=by
 unfold bI at h;generalize he:b.map aH=es at h;cases h with
 |e a cap =>have:b=[]:=List.map_eq_nil_iff.1 he;subst this;exact .inl ⟨a,cap,rfl,rfl⟩
 |sl blk off cap sz es f h1 h2 h3 h4 h5 h6 =>
  subst he;refine .inr ⟨blk,off,_,cap,rfl,hS blk h1,h2,by simpa using hb,by simp[bcs],λj u hu=>?_⟩;rw[rZ]at h5 h6;simp only[bcs,List.getElem?_map,Option.map_eq_some_iff]at hu;obtain⟨c,hc,rfl⟩:=hu;have hx:(b.map λc=>I.s (.int .u8 (c.toNat:Int)))[j]?=some (.s (.int .u8 (c.toNat:Int))):=by simp[hc]
  have hv:=ahX (h6 j _ hx);rw[h5 j _ hx,hv];rfl
def bbI (ls:List (List UInt8)):I:=.sl (ls.map λb=>[bI b])
theorem aad {w:World}{S:Nat->Prop}(hS:∀b,S b->b<w.heap.size){v:Value}{ls:List (List UInt8)}(h:VI w S v (bbI ls))(hb:ls.length<=maxLen)(hb2:∀b∈ls,b.length<=maxLen):VN w.heap.size w v ls:=by
 unfold bbI at h;generalize he:(ls.map λb=>[bI b])=es at h;cases h with
 |e a cap =>have:ls=[]:=List.map_eq_nil_iff.1 he;subst this;exact⟨[],.inl ⟨a,cap,rfl,rfl⟩,rfl,λk hk=>by simp at hk⟩
 |sl blk off cap sz es f h1 h2 h3 h4 h5 h6 =>
  subst he;have hfl:∀k,k<ls.length->(ls.map λb=>[bI b]).flatten[k]?=some (bI (ls.getD k [])):=by
   intro k hk;have h0:∀e∈ls.map (λb=>[bI b]),e.length=1:=by intro e he;obtain⟨c,_,rfl⟩:=List.mem_map.1 he;rfl
   have:=bN h0 (i:=k) (c:=0) (e:=[bI (ls.getD k [])]) (x:=bI (ls.getD k [])) (by simp[hk,List.getD_eq_getElem?_getD]) (by simp);simpa using this
  refine⟨(List.range ls.length).map f,.inr ⟨blk,off,_,cap,rfl,hS blk h1,h2,by simpa using hb,by simp,λj u hu=>?_⟩,by simp,λk hk=>?_⟩
  ·have hj:j<ls.length:=by have:=(List.getElem?_eq_some_iff.1 hu).1;simpa using this
   simp[hj]at hu;subst hu;exact h5 j _ (hfl j hj)
  ·have hv:=h6 k _ (hfl k hk);have e:((List.range ls.length).map f).getD k undef=f k:=by simp[List.getD_eq_getElem?_getD,hk]
   rw[e];refine Xh hS hv (hb2 _ ?_);simp[List.getD_eq_getElem?_getD,hk]
theorem Wx {K0:Ctx}{T:Nat->Prop}{K:Ctx}(hr:HR K0 T K noH){f:FuncId}{vs:Array Value}{bs:List UInt8}(h:Calls Tryz.prog f vs K.w (ahk K.w.heap.size bs K.w)):
  Calls Tryz.prog f vs K.w λe w'=>∃v K',e=.returned v/\K'.w=w'/\Ext K K'/\HR K0 T K' noH/\VD K' v (.i (bI bs)):=by
 refine h.mono ?_;rintro e w' ⟨v,rfl,ho,hb⟩;have hμ:∀o,K.μ o=none:=λo=>hr.get (o:=o) (x:=.fresh) rfl;refine⟨v,⟨w',λb=>K.S b\/(K.w.heap.size<=b/\b<w'.heap.size),K.μ⟩,rfl,rfl,⟨λb hb=>.inl hb,λb hb' j=>World.cell?_of_block (w:=K.w) (hb.block b (hr.sB b hb')),λ_ _ h=>h,λo b h=>(by rw[hμ]at h;cases h)⟩,?_,?_⟩
 ·refine⟨hr.g0,hb.os.trans hr.os,hb.tape.trans hr.tape,hb.output.trans hr.output,Nat.le_trans hr.size hb.size,λk hk hT=>(hb.block k (Nat.lt_of_lt_of_le hk hr.size)).trans (hr.block k hk hT),λb hb'=>?_,λb hb'=>?_,λo b h=>(by rw[hμ]at h;cases h),λo=>hμ o,λo o' b h=>(by exact h.elim)⟩
  ·rcases hb' with h|h
   ·exact Nat.lt_of_lt_of_le (hr.sB b h) hb.size
   ·exact h.2
  ·rcases hb' with h|h
   ·exact hr.sN b h
   ·exact .inr (.inl (Nat.le_trans hr.size h.1))
 ·refine .i ?_;unfold bI;rcases ho with⟨rfl,h0⟩|⟨g,off,n,cap,rfl,h1,h2,h3,h4,h5,h6,h7⟩
  ·have:bs=[]:=by cases bs<;>simp_all[bcs]
   subst this;exact .e _ _
  ·have hn:n=(bs.map aH).length:=by simp[bcs]at h5;simp;omega
   subst hn;refine .sl g off cap 1 _ (λj=>uy (bs.getD j 0)) (.inr ⟨h1,h2⟩) h3 (by decide) (QH bs) (λj x hx=>?_) (λj x hx=>?_)
   ·rw[rZ]at hx;simp only[List.getElem?_map,Option.map_eq_some_iff]at hx;obtain⟨c,hc,rfl⟩:=hx;exact h6 j _ (by simp[bcs,hc,List.getD_eq_getElem?_getD])
   ·rw[rZ]at hx;simp only[List.getElem?_map,Option.map_eq_some_iff]at hx;obtain⟨c,hc,rfl⟩:=hx;simp only[List.getD_eq_getElem?_getD,hc,Option.getD_some,uy];exact .s _ rfl
theorem Kq (b:List UInt8)(hb:b.length<=140737488355264):PureD Tryz.prog 15 [.i (bI b)] (.i (bI (sha b))):=by refine⟨⟨_,Tryz.func15,rfl,rfl⟩,λK0 T K vs hr hrd=>?_⟩;obtain⟨v,rfl⟩:∃v,vs=#[v]:=Array.size_eq_one_iff.1 hrd.1;have hv:VD K v (.i (bI b)):=hrd.2 0 _ rfl;exact Wx hr (YW _ v b K.w (Xh hr.sB hv.inv_i (by simp[maxLen];omega)) (Nat.le_refl _) hb)
theorem zI (ls:List (List UInt8))(hl:ls.length<=140737488355264)(hb:∀b∈ls,b.length<=140737488355264):PureD Tryz.prog 61 [.i (bbI ls)] (.i (bI (sha ls.flatten))):=by refine⟨⟨_,Tryz.func61,rfl,rfl⟩,λK0 T K vs hr hrd=>?_⟩;obtain⟨v,rfl⟩:∃v,vs=#[v]:=Array.size_eq_one_iff.1 hrd.1;have hv:VD K v (.i (bbI ls)):=hrd.2 0 _ rfl;refine Wx hr (BZ _ v ls K.w (aad hr.sB hv.inv_i (by simp[maxLen];omega) (λb h=>by have:=hb b h;simp[maxLen];omega)) (Nat.le_refl _) (λk hk=>hb _ ?_));simp[List.getD_eq_getElem?_getD,hk]
end Go.Proofs.YtdmeldhlbpdeeaaGreatDoor
