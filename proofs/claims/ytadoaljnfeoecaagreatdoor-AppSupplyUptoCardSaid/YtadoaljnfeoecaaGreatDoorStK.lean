/- state.ConnKey, ChanKey, NextKey, MarkKey, ConnBytes, ChanBytes, NextBytes: by value. -/
import Derived.Test.YtadoaljnfeoecaaGreatDoorGSt
import Derived.Test.YtadoaljnfeoecaaGreatDoorIto
import Derived.Test.YtadoaljnfeoecaaGreatDoorStKs
import Derived.Test.YtadoaljnfeoecaaGreatDoorGWire
set_option linter.all false
namespace Go.Proofs.YtadoaljnfeoecaaGreatDoor
open Go Go.Abs Go.RowKit Go.Proofs.YtadoaljnfeoecaaGreatDoor.Ty
theorem strI_mk (l:List UInt8):strI ⟨l.toArray⟩=bI l:=rfl
def keyC (i:Int):List UInt8:=[99,111,110,110,47]++Lib.itoa i
def keyH (i:Int):List UInt8:=[99,104,97,110,47]++Lib.itoa i
def keyN (i:Int):List UInt8:=[110,101,120,116,47]++Lib.itoa i
def keyM (w:List UInt8) (ch seq:Int):List UInt8:=w++[47]++Lib.itoa ch++[47]++Lib.itoa seq
set_option maxHeartbeats 4000000
theorem ckey_A (i:Int) (h:Num6 i):PureD Tryz.prog 121 [intD i] (.i (bI (keyC i))):=by
 refine hide_r fun R hR=>?_
 have c1:=itoa_A i h.1 h.2
 have hl:=ito_len h
 unfold keyC at hR
 generalize Lib.itoa i=L at *
 have s1:=fun P t x y=>@add_strB P t x y [99,111,110,110,47] L (by simp; omega)
 have s2:([99,111,110,110,47]++L).length≤140737488355328:=by simp; omega
 have s3:=strI_mk ([99,111,110,110,47]++L)
 generalize [99,111,110,110,47]++L=K at *
 refine callD_W 7 Tryz.func121 rfl rfl rfl (fun _ _=>rfl) ?_
 exact wkl trivial
theorem hkey_A (i:Int) (h:Num6 i):PureD Tryz.prog 123 [intD i] (.i (bI (keyH i))):=by
 refine hide_r fun R hR=>?_
 have c1:=itoa_A i h.1 h.2
 have hl:=ito_len h
 unfold keyH at hR
 generalize Lib.itoa i=L at *
 have s1:=fun P t x y=>@add_strB P t x y [99,104,97,110,47] L (by simp; omega)
 have s2:([99,104,97,110,47]++L).length≤140737488355328:=by simp; omega
 have s3:=strI_mk ([99,104,97,110,47]++L)
 generalize [99,104,97,110,47]++L=K at *
 refine callD_W 7 Tryz.func123 rfl rfl rfl (fun _ _=>rfl) ?_
 exact wkl trivial
theorem nkey_A (i:Int) (h:Num6 i):PureD Tryz.prog 107 [intD i] (.i (bI (keyN i))):=by
 refine hide_r fun R hR=>?_
 have c1:=itoa_A i h.1 h.2
 have hl:=ito_len h
 unfold keyN at hR
 generalize Lib.itoa i=L at *
 have s1:=fun P t x y=>@add_strB P t x y [110,101,120,116,47] L (by simp; omega)
 have s2:([110,101,120,116,47]++L).length≤140737488355328:=by simp; omega
 have s3:=strI_mk ([110,101,120,116,47]++L)
 generalize [110,101,120,116,47]++L=K at *
 refine callD_W 7 Tryz.func107 rfl rfl rfl (fun _ _=>rfl) ?_
 exact wkl trivial
theorem mkey_A (w:List UInt8) (ch seq:Int) (hw:w.length≤10) (h1:Num6 ch) (h2:Num6 seq):PureD Tryz.prog 103 [.i (.s (.string ⟨w.toArray⟩)),intD ch,intD seq] (.i (bI (keyM w ch seq))):=by
 refine hide_r fun R hR=>?_
 have c1:=itoa_A ch h1.1 h1.2
 have c2:=itoa_A seq h2.1 h2.2
 have hl:=ito_len h1
 have hl2:=ito_len h2
 unfold keyM at hR
 generalize Lib.itoa ch=L at *
 generalize Lib.itoa seq=M at *
 have s1:=fun P t x y=>@add_strB P t x y w [47] (by simp; omega)
 have s2:=fun P t x y=>@add_strB P t x y (w++[47]) L (by simp; omega)
 have s3:=fun P t x y=>@add_strB P t x y (w++[47]++L) [47] (by simp; omega)
 have s4:=fun P t x y=>@add_strB P t x y (w++[47]++L++[47]) M (by simp; omega)
 have s5:(w++[47]++L++[47]++M).length≤140737488355328:=by simp; omega
 have s6:=strI_mk (w++[47]++L++[47]++M)
 generalize w++[47]++L++[47]++M=K4 at *
 generalize w++[47]++L++[47]=K3 at *
 generalize w++[47]++L=K2 at *
 generalize w++[47]=K1 at *
 refine callD_W 17 Tryz.func103 rfl rfl rfl (fun _ _=>rfl) ?_
 exact wkl trivial
theorem sn_A (x:Int):PureD Tryz.prog 143 [intD x] (.agg [.i (.s (.int .i64 1)),.i (.s (.int .u64 (u64 x))),.i (.sl [])]):=by
 refine hide_r fun R hR=>?_
 have w1:=wrap_u x
 refine callD_W 6 Tryz.func143 rfl rfl rfl (fun _ _=>rfl) ?_
 exact wkl trivial
theorem spieces_A (l:List PieceD) (hl:l.length≤1048576) (hb:∀ p∈l,p.b.length≤1048576) (hn:n64s l):PureD Tryz.prog 142 [.i (.sl (l.map encP))] (.i (bI (writeF l).1)):=by
 refine hide_r fun R hR=>?_
 have c1:=write_A l hl hb hn
 simp only [faultD] at c1
 generalize writeF l=W at *
 refine callD_W 11 Tryz.func142 rfl rfl rfl (fun _ _=>rfl) ?_
 exact wkl trivial
def valCn (c:ConnD):List UInt8:=(writeF [numP (u64 c.st),numP (u64 c.cl),numP (u64 c.oc),numP (u64 (c.on+1))]).1
def valCh (c:ChanD):List UInt8:=(writeF [numP (u64 c.st),numP (u64 (if c.ord=true then 1 else 0)),numP (u64 c.cn),numP (u64 (c.oc+1))]).1
def valN (x:Int):List UInt8:=(writeF [numP (u64 x)]).1
theorem nums_64 {l:List Nat} (h:∀ n∈l,n < 18446744073709551616):n64s (l.map numP):=fun p hp=>by
 obtain ⟨n,hn,rfl⟩:=List.mem_map.1 hp
 exact h n hn
theorem nums_b (l:List Nat):∀ p∈l.map numP,p.b.length≤1048576:=fun p hp=>by
 obtain ⟨n,hn,rfl⟩:=List.mem_map.1 hp
 simp [numP]
theorem connb_A (c:ConnD) (h:-1≤c.on∧c.on≤1000000000000):PureD Tryz.prog 122 [connD c] (.i (bI (valCn c))):=by
 refine hide_r fun R hR=>?_
 have c1:=sn_A c.st
 have c2:=sn_A c.cl
 have c3:=sn_A c.oc
 have c4:=sn_A (c.on+1)
 have w1:IntKind.i64.wrap (c.on+1)=c.on+1:=wrap64 (by omega) (by omega)
 have c5:=spieces_A ([u64 c.st,u64 c.cl,u64 c.oc,u64 (c.on+1)].map numP) (by simp) (nums_b _) (nums_64 (by simp [u64_lt]))
 unfold valCn at hR
 simp only [List.map_cons,List.map_nil] at c5
 generalize writeF [numP (u64 c.st),numP (u64 c.cl),numP (u64 c.oc),numP (u64 (c.on+1))]=W at *
 generalize u64 c.st=a1 at *
 generalize u64 c.cl=a2 at *
 generalize u64 c.oc=a3 at *
 generalize u64 (c.on+1)=a4 at *
 simp only [encP,numP,bI,List.map_nil] at c5
 refine callD_W 18 Tryz.func122 rfl rfl rfl (fun _ _=>rfl) ?_
 exact wkl trivial
theorem chanb_A (c:ChanD) (h:-1≤c.oc∧c.oc≤1000000000000):PureD Tryz.prog 124 [chanD c] (.i (bI (valCh c))):=by
 refine hide_r fun R hR=>?_
 unfold valCh at hR
 have c1:=sn_A c.st
 have c2:=sn_A (if c.ord=true then 1 else 0)
 have c3:=sn_A c.cn
 have c4:=sn_A (c.oc+1)
 have w1:IntKind.i64.wrap (c.oc+1)=c.oc+1:=wrap64 (by omega) (by omega)
 have c5:=spieces_A ([u64 c.st,u64 (if c.ord=true then 1 else 0),u64 c.cn,u64 (c.oc+1)].map numP) (by simp) (nums_b _) (nums_64 (by simp [u64_lt]))
 simp only [List.map_cons,List.map_nil] at c5
 generalize writeF [numP (u64 c.st),numP (u64 (if c.ord=true then 1 else 0)),numP (u64 c.cn),numP (u64 (c.oc+1))]=W at *
 generalize u64 c.st=a1 at *
 generalize u64 c.cn=a2 at *
 generalize u64 (if c.ord=true then 1 else 0)=a3 at *
 generalize u64 (c.oc+1)=a4 at *
 simp only [encP,numP,bI,List.map_nil] at c5
 cases ho:c.ord
 all_goals
  simp only [ho,Bool.false_eq_true,if_true,if_false] at c2
  refine callD_W 20 Tryz.func124 rfl rfl rfl (fun _ _=>rfl) ?_
  exact wkl trivial
theorem nextb_A (x:Int):PureD Tryz.prog 108 [intD x] (.i (bI (valN x))):=by
 refine hide_r fun R hR=>?_
 have c1:=sn_A x
 have c5:=spieces_A ([u64 x].map numP) (by simp) (nums_b _) (nums_64 (by simp [u64_lt]))
 unfold valN at hR
 simp only [List.map_cons,List.map_nil] at c5
 generalize writeF [numP (u64 x)]=W at *
 generalize u64 x=a1 at *
 simp only [encP,numP,bI,List.map_nil] at c5
 refine callD_W 7 Tryz.func108 rfl rfl rfl (fun _ _=>rfl) ?_
 exact wkl trivial
end Go.Proofs.YtadoaljnfeoecaaGreatDoor
