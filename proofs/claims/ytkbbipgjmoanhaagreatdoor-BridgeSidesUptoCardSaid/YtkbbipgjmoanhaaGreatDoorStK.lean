/- state.ConnKey, ChanKey, NextKey, MarkKey, ConnBytes, ChanBytes, NextBytes: by value. -/
import Derived.Test.YtkbbipgjmoanhaaGreatDoorGSt
import Derived.Test.YtkbbipgjmoanhaaGreatDoorIto
import Derived.Test.YtkbbipgjmoanhaaGreatDoorStKs
set_option linter.all false
set_option maxHeartbeats 4000000
namespace Go.Proofs.YtkbbipgjmoanhaaGreatDoor
open Go Go.Abs Go.RowKit Go.Proofs.YtkbbipgjmoanhaaGreatDoor.Ty
theorem wE (l:List UInt8):Ry ⟨l.toArray⟩=bI l:=rfl
def keyC (i:Int):List UInt8:=[99,111,110,110,47]++Lib.itoa i
def keyH (i:Int):List UInt8:=[99,104,97,110,47]++Lib.itoa i
def keyN (i:Int):List UInt8:=[110,101,120,116,47]++Lib.itoa i
def keyM (w:List UInt8) (ch seq:Int):List UInt8:=w++[47]++Lib.itoa ch++[47]++Lib.itoa seq
theorem Ak (i:Int) (h:gK i):PureD Tryz.prog 73 [intD i] (.i (bI (keyC i))):=by
 refine aj fun R hR=>?_
 have c1:=ql i h.1 h.2
 have hl:=kS h
 unfold keyC at hR
 generalize Lib.itoa i=L at *
 have s1:=fun P t x y=>@iC P t x y [99,111,110,110,47] L (by simp; omega)
 have s2:([99,111,110,110,47]++L).length<=140737488355328:=by simp; omega
 have s3:=wE ([99,111,110,110,47]++L)
 generalize [99,111,110,110,47]++L=K at *
 refine aa 7 Tryz.func73 rfl rfl rfl (fun _ _=>rfl) ?_
 exact wkl trivial
theorem zZ (i:Int) (h:gK i):PureD Tryz.prog 75 [intD i] (.i (bI (keyH i))):=by
 refine aj fun R hR=>?_
 have c1:=ql i h.1 h.2
 have hl:=kS h
 unfold keyH at hR
 generalize Lib.itoa i=L at *
 have s1:=fun P t x y=>@iC P t x y [99,104,97,110,47] L (by simp; omega)
 have s2:([99,104,97,110,47]++L).length<=140737488355328:=by simp; omega
 have s3:=wE ([99,104,97,110,47]++L)
 generalize [99,104,97,110,47]++L=K at *
 refine aa 7 Tryz.func75 rfl rfl rfl (fun _ _=>rfl) ?_
 exact wkl trivial
theorem Jv (i:Int) (h:gK i):PureD Tryz.prog 78 [intD i] (.i (bI (keyN i))):=by
 refine aj fun R hR=>?_
 have c1:=ql i h.1 h.2
 have hl:=kS h
 unfold keyN at hR
 generalize Lib.itoa i=L at *
 have s1:=fun P t x y=>@iC P t x y [110,101,120,116,47] L (by simp; omega)
 have s2:([110,101,120,116,47]++L).length<=140737488355328:=by simp; omega
 have s3:=wE ([110,101,120,116,47]++L)
 generalize [110,101,120,116,47]++L=K at *
 refine aa 7 Tryz.func78 rfl rfl rfl (fun _ _=>rfl) ?_
 exact wkl trivial
theorem nP (w:List UInt8) (ch seq:Int) (hw:w.length<=10) (h1:gK ch) (h2:gK seq):PureD Tryz.prog 77 [.i (.s (.string ⟨w.toArray⟩)),intD ch,intD seq] (.i (bI (keyM w ch seq))):=by
 refine aj fun R hR=>?_
 have c1:=ql ch h1.1 h1.2
 have c2:=ql seq h2.1 h2.2
 have hl:=kS h1
 have hl2:=kS h2
 unfold keyM at hR
 generalize Lib.itoa ch=L at *
 generalize Lib.itoa seq=M at *
 have s1:=fun P t x y=>@iC P t x y w [47] (by simp; omega)
 have s2:=fun P t x y=>@iC P t x y (w++[47]) L (by simp; omega)
 have s3:=fun P t x y=>@iC P t x y (w++[47]++L) [47] (by simp; omega)
 have s4:=fun P t x y=>@iC P t x y (w++[47]++L++[47]) M (by simp; omega)
 have s5:(w++[47]++L++[47]++M).length<=140737488355328:=by simp; omega
 have s6:=wE (w++[47]++L++[47]++M)
 generalize w++[47]++L++[47]++M=K4 at *
 generalize w++[47]++L++[47]=K3 at *
 generalize w++[47]++L=K2 at *
 generalize w++[47]=K1 at *
 refine aa 17 Tryz.func77 rfl rfl rfl (fun _ _=>rfl) ?_
 exact wkl trivial
theorem NM (x:Int):PureD Tryz.prog 141 [intD x] (.agg [.i (.s (.int .i64 1)),.i (.s (.int .u64 (u64 x))),.i (.sl [])]):=by
 refine aj fun R hR=>?_
 have w1:=wrap_u x
 refine aa 6 Tryz.func141 rfl rfl rfl (fun _ _=>rfl) ?_
 exact wkl trivial
theorem rO (l:List bU) (hl:l.length<=1048576) (hb:∀ p∈l,p.b.length<=1048576) (hn:Oq l):PureD Tryz.prog 140 [.i (.sl (l.map encP))] (.i (bI (bZ l).1)):=by
 refine aj fun R hR=>?_
 have c1:=vK l hl hb hn
 simp only [faultD] at c1
 generalize bZ l=W at *
 refine aa 11 Tryz.func140 rfl rfl rfl (fun _ _=>rfl) ?_
 exact wkl trivial
def rH (c:ConnD):List UInt8:=(bZ [numP (u64 c.st),numP (u64 c.cl),numP (u64 c.oc),numP (u64 (c.on+1))]).1
def qw (c:ChanD):List UInt8:=(bZ [numP (u64 c.st),numP (u64 (if c.ord=true then 1 else 0)),numP (u64 c.cn),numP (u64 (c.oc+1))]).1
def FT (x:Int):List UInt8:=(bZ [numP (u64 x)]).1
theorem BS {l:List Nat} (h:∀ n∈l,n < 18446744073709551616):Oq (l.map numP):=fun p hp=>by
 obtain ⟨n,hn,rfl⟩:=List.mem_map.1 hp
 exact h n hn
theorem Jp (l:List Nat):∀ p∈l.map numP,p.b.length<=1048576:=fun p hp=>by
 obtain ⟨n,hn,rfl⟩:=List.mem_map.1 hp
 simp [numP]
theorem KV (c:ConnD) (h:-1<=c.on/\c.on<=1000000000000):PureD Tryz.prog 80 [connD c] (.i (bI (rH c))):=by
 refine aj fun R hR=>?_
 have c1:=NM c.st
 have c2:=NM c.cl
 have c3:=NM c.oc
 have c4:=NM (c.on+1)
 have w1:IntKind.i64.wrap (c.on+1)=c.on+1:=ay (by omega) (by omega)
 have c5:=rO ([u64 c.st,u64 c.cl,u64 c.oc,u64 (c.on+1)].map numP) (by simp) (Jp _) (BS (by simp [u64_lt]))
 unfold rH at hR
 simp only [List.map_cons,List.map_nil] at c5
 generalize bZ [numP (u64 c.st),numP (u64 c.cl),numP (u64 c.oc),numP (u64 (c.on+1))]=W at *
 generalize u64 c.st=a1 at *
 generalize u64 c.cl=a2 at *
 generalize u64 c.oc=a3 at *
 generalize u64 (c.on+1)=a4 at *
 simp only [encP,numP,bI,List.map_nil] at c5
 refine aa 18 Tryz.func80 rfl rfl rfl (fun _ _=>rfl) ?_
 exact wkl trivial
theorem Lh (c:ChanD) (h:-1<=c.oc/\c.oc<=1000000000000):PureD Tryz.prog 81 [chanD c] (.i (bI (qw c))):=by
 refine aj fun R hR=>?_
 unfold qw at hR
 have c1:=NM c.st
 have c2:=NM (if c.ord=true then 1 else 0)
 have c3:=NM c.cn
 have c4:=NM (c.oc+1)
 have w1:IntKind.i64.wrap (c.oc+1)=c.oc+1:=ay (by omega) (by omega)
 have c5:=rO ([u64 c.st,u64 (if c.ord=true then 1 else 0),u64 c.cn,u64 (c.oc+1)].map numP) (by simp) (Jp _) (BS (by simp [u64_lt]))
 simp only [List.map_cons,List.map_nil] at c5
 generalize bZ [numP (u64 c.st),numP (u64 (if c.ord=true then 1 else 0)),numP (u64 c.cn),numP (u64 (c.oc+1))]=W at *
 generalize u64 c.st=a1 at *
 generalize u64 c.cn=a2 at *
 generalize u64 (if c.ord=true then 1 else 0)=a3 at *
 generalize u64 (c.oc+1)=a4 at *
 simp only [encP,numP,bI,List.map_nil] at c5
 cases ho:c.ord
 all_goals
  simp only [ho,Bool.false_eq_true,if_true,if_false] at c2
  refine aa 20 Tryz.func81 rfl rfl rfl (fun _ _=>rfl) ?_
  exact wkl trivial
theorem JA (x:Int):PureD Tryz.prog 82 [intD x] (.i (bI (FT x))):=by
 refine aj fun R hR=>?_
 have c1:=NM x
 have c5:=rO ([u64 x].map numP) (by simp) (Jp _) (BS (by simp [u64_lt]))
 unfold FT at hR
 simp only [List.map_cons,List.map_nil] at c5
 generalize bZ [numP (u64 x)]=W at *
 generalize u64 x=a1 at *
 simp only [encP,numP,bI,List.map_nil] at c5
 refine aa 7 Tryz.func82 rfl rfl rfl (fun _ _=>rfl) ?_
 exact wkl trivial
end Go.Proofs.YtkbbipgjmoanhaaGreatDoor
