/- state.ConnKey, ChanKey, NextKey, MarkKey, ConnBytes, ChanBytes, NextBytes: by value. -/
import Derived.Test.YtfenipelcpmkpaaGreatDoorGSt
import Derived.Test.YtfenipelcpmkpaaGreatDoorIto
import Derived.Test.YtfenipelcpmkpaaGreatDoorStKs
set_option linter.all false
set_option maxHeartbeats 4000000
namespace Go.Proofs.YtfenipelcpmkpaaGreatDoor
open Go Go.Abs Go.RowKit Go.Proofs.YtfenipelcpmkpaaGreatDoor.Ty
theorem xL (l:List UInt8):Ug ⟨l.toArray⟩=bI l:=rfl
def keyC (i:Int):List UInt8:=[99,111,110,110,47]++Lib.itoa i
def keyH (i:Int):List UInt8:=[99,104,97,110,47]++Lib.itoa i
def keyN (i:Int):List UInt8:=[110,101,120,116,47]++Lib.itoa i
def keyM (w:List UInt8) (ch seq:Int):List UInt8:=w++[47]++Lib.itoa ch++[47]++Lib.itoa seq
theorem BA (i:Int) (h:iG i):PureD Tryz.prog 37 [intD i] (.i (bI (keyC i))):=by
 refine ak fun R hR=>?_
 have c1:=rH i h.1 h.2
 have hl:=jl h
 unfold keyC at hR
 generalize Lib.itoa i=L at *
 have s1:=fun P t x y=>@iY P t x y [99,111,110,110,47] L (by simp; omega)
 have s2:([99,111,110,110,47]++L).length<=140737488355328:=by simp; omega
 have s3:=xL ([99,111,110,110,47]++L)
 generalize [99,111,110,110,47]++L=K at *
 refine aa 7 Tryz.func37 rfl rfl rfl (fun _ _=>rfl) ?_
 exact wkl trivial
theorem Bn (i:Int) (h:iG i):PureD Tryz.prog 39 [intD i] (.i (bI (keyH i))):=by
 refine ak fun R hR=>?_
 have c1:=rH i h.1 h.2
 have hl:=jl h
 unfold keyH at hR
 generalize Lib.itoa i=L at *
 have s1:=fun P t x y=>@iY P t x y [99,104,97,110,47] L (by simp; omega)
 have s2:([99,104,97,110,47]++L).length<=140737488355328:=by simp; omega
 have s3:=xL ([99,104,97,110,47]++L)
 generalize [99,104,97,110,47]++L=K at *
 refine aa 7 Tryz.func39 rfl rfl rfl (fun _ _=>rfl) ?_
 exact wkl trivial
theorem Lg (i:Int) (h:iG i):PureD Tryz.prog 41 [intD i] (.i (bI (keyN i))):=by
 refine ak fun R hR=>?_
 have c1:=rH i h.1 h.2
 have hl:=jl h
 unfold keyN at hR
 generalize Lib.itoa i=L at *
 have s1:=fun P t x y=>@iY P t x y [110,101,120,116,47] L (by simp; omega)
 have s2:([110,101,120,116,47]++L).length<=140737488355328:=by simp; omega
 have s3:=xL ([110,101,120,116,47]++L)
 generalize [110,101,120,116,47]++L=K at *
 refine aa 7 Tryz.func41 rfl rfl rfl (fun _ _=>rfl) ?_
 exact wkl trivial
theorem oU (w:List UInt8) (ch seq:Int) (hw:w.length<=10) (h1:iG ch) (h2:iG seq):PureD Tryz.prog 43 [.i (.s (.string ⟨w.toArray⟩)),intD ch,intD seq] (.i (bI (keyM w ch seq))):=by
 refine ak fun R hR=>?_
 have c1:=rH ch h1.1 h1.2
 have c2:=rH seq h2.1 h2.2
 have hl:=jl h1
 have hl2:=jl h2
 unfold keyM at hR
 generalize Lib.itoa ch=L at *
 generalize Lib.itoa seq=M at *
 have s1:=fun P t x y=>@iY P t x y w [47] (by simp; omega)
 have s2:=fun P t x y=>@iY P t x y (w++[47]) L (by simp; omega)
 have s3:=fun P t x y=>@iY P t x y (w++[47]++L) [47] (by simp; omega)
 have s4:=fun P t x y=>@iY P t x y (w++[47]++L++[47]) M (by simp; omega)
 have s5:(w++[47]++L++[47]++M).length<=140737488355328:=by simp; omega
 have s6:=xL (w++[47]++L++[47]++M)
 generalize w++[47]++L++[47]++M=K4 at *
 generalize w++[47]++L++[47]=K3 at *
 generalize w++[47]++L=K2 at *
 generalize w++[47]=K1 at *
 refine aa 17 Tryz.func43 rfl rfl rfl (fun _ _=>rfl) ?_
 exact wkl trivial
theorem PT (x:Int):PureD Tryz.prog 87 [intD x] (.agg [.i (.s (.int .i64 1)),.i (.s (.int .u64 (u64 x))),.i (.sl [])]):=by
 refine ak fun R hR=>?_
 have w1:=Jr x
 refine aa 6 Tryz.func87 rfl rfl rfl (fun _ _=>rfl) ?_
 exact wkl trivial
theorem ug (l:List dw) (hl:l.length<=1048576) (hb:∀ p∈l,p.b.length<=1048576) (hn:Qs l):PureD Tryz.prog 86 [.i (.sl (l.map vC))] (.i (bI (cu l).1)):=by
 refine ak fun R hR=>?_
 have c1:=xh l hl hb hn
 simp only [nE] at c1
 generalize cu l=W at *
 refine aa 11 Tryz.func86 rfl rfl rfl (fun _ _=>rfl) ?_
 exact wkl trivial
def jK (c:ConnD):List UInt8:=(cu [jh (u64 c.st),jh (u64 c.cl),jh (u64 c.oc),jh (u64 (c.on+1))]).1
def jL (c:ChanD):List UInt8:=(cu [jh (u64 c.st),jh (u64 (if c.ord=true then 1 else 0)),jh (u64 c.cn),jh (u64 (c.oc+1))]).1
def BP (x:Int):List UInt8:=(cu [jh (u64 x)]).1
theorem De {l:List Nat} (h:∀ n∈l,n < 18446744073709551616):Qs (l.map jh):=fun p hp=>by
 obtain ⟨n,hn,rfl⟩:=List.mem_map.1 hp
 exact h n hn
theorem La (l:List Nat):∀ p∈l.map jh,p.b.length<=1048576:=fun p hp=>by
 obtain ⟨n,hn,rfl⟩:=List.mem_map.1 hp
 simp [jh]
theorem MW (c:ConnD) (h:-1<=c.on/\c.on<=1000000000000):PureD Tryz.prog 38 [connD c] (.i (bI (jK c))):=by
 refine ak fun R hR=>?_
 have c1:=PT c.st
 have c2:=PT c.cl
 have c3:=PT c.oc
 have c4:=PT (c.on+1)
 have w1:IntKind.i64.wrap (c.on+1)=c.on+1:=aD (by omega) (by omega)
 have c5:=ug ([u64 c.st,u64 c.cl,u64 c.oc,u64 (c.on+1)].map jh) (by simp) (La _) (De (by simp [u64_lt]))
 unfold jK at hR
 simp only [List.map_cons,List.map_nil] at c5
 generalize cu [jh (u64 c.st),jh (u64 c.cl),jh (u64 c.oc),jh (u64 (c.on+1))]=W at *
 generalize u64 c.st=a1 at *
 generalize u64 c.cl=a2 at *
 generalize u64 c.oc=a3 at *
 generalize u64 (c.on+1)=a4 at *
 simp only [vC,jh,bI,List.map_nil] at c5
 refine aa 18 Tryz.func38 rfl rfl rfl (fun _ _=>rfl) ?_
 exact wkl trivial
theorem Nl (c:ChanD) (h:-1<=c.oc/\c.oc<=1000000000000):PureD Tryz.prog 40 [chanD c] (.i (bI (jL c))):=by
 refine ak fun R hR=>?_
 unfold jL at hR
 have c1:=PT c.st
 have c2:=PT (if c.ord=true then 1 else 0)
 have c3:=PT c.cn
 have c4:=PT (c.oc+1)
 have w1:IntKind.i64.wrap (c.oc+1)=c.oc+1:=aD (by omega) (by omega)
 have c5:=ug ([u64 c.st,u64 (if c.ord=true then 1 else 0),u64 c.cn,u64 (c.oc+1)].map jh) (by simp) (La _) (De (by simp [u64_lt]))
 simp only [List.map_cons,List.map_nil] at c5
 generalize cu [jh (u64 c.st),jh (u64 (if c.ord=true then 1 else 0)),jh (u64 c.cn),jh (u64 (c.oc+1))]=W at *
 generalize u64 c.st=a1 at *
 generalize u64 c.cn=a2 at *
 generalize u64 (if c.ord=true then 1 else 0)=a3 at *
 generalize u64 (c.oc+1)=a4 at *
 simp only [vC,jh,bI,List.map_nil] at c5
 cases ho:c.ord
 all_goals
  simp only [ho,Bool.false_eq_true,if_true,if_false] at c2
  refine aa 20 Tryz.func40 rfl rfl rfl (fun _ _=>rfl) ?_
  exact wkl trivial
theorem Ll (x:Int):PureD Tryz.prog 42 [intD x] (.i (bI (BP x))):=by
 refine ak fun R hR=>?_
 have c1:=PT x
 have c5:=ug ([u64 x].map jh) (by simp) (La _) (De (by simp [u64_lt]))
 unfold BP at hR
 simp only [List.map_cons,List.map_nil] at c5
 generalize cu [jh (u64 x)]=W at *
 generalize u64 x=a1 at *
 simp only [vC,jh,bI,List.map_nil] at c5
 refine aa 7 Tryz.func42 rfl rfl rfl (fun _ _=>rfl) ?_
 exact wkl trivial
end Go.Proofs.YtfenipelcpmkpaaGreatDoor
