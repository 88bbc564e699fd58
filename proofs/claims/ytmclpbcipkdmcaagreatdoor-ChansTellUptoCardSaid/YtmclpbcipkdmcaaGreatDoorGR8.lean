/- Merged texts: R8A, R8B. -/
import Derived.Test.YtmclpbcipkdmcaaGreatDoorRFrom
import Derived.Test.YtmclpbcipkdmcaaGreatDoorStK
import Derived.Test.YtmclpbcipkdmcaaGreatDoorGMk
import Derived.Test.YtmclpbcipkdmcaaGreatDoorR3Write
import Derived.Test.YtmclpbcipkdmcaaGreatDoorR3B
set_option linter.all false
namespace Go.Proofs.YtmclpbcipkdmcaaGreatDoor
open Go Go.Abs Go.RowKit Go.Proofs.YtmclpbcipkdmcaaGreatDoor.Ty
set_option maxHeartbeats 8000000
set_option maxRecDepth 20000
theorem inB_nm (least n:Int):inB least n=nm n least:=by unfold inB nm; by_cases h1:least≤n <;> by_cases h2:n≤1000000000000 <;> simp [h1,h2]
theorem from1_A (least a:Int):PureD Tryz.prog 48 [intD least,.i (.sl [[.s (.int .i64 a)]])] (boolD (nm a least)):=by
 have h:=from_A least [a] (by simp)
 simp only [ints,List.map_cons,List.map_nil,List.all_cons,List.all_nil,Bool.and_true,inB_nm] at h
 exact h
theorem from2_A (least a b:Int):PureD Tryz.prog 48 [intD least,.i (.sl [[.s (.int .i64 a)],[.s (.int .i64 b)]])] (boolD (nm a least && nm b least)):=by
 have h:=from_A least [a,b] (by simp)
 simp only [ints,List.map_cons,List.map_nil,List.all_cons,List.all_nil,Bool.and_true,inB_nm] at h
 exact h
theorem from3_A (least a b c:Int):PureD Tryz.prog 48 [intD least,.i (.sl [[.s (.int .i64 a)],[.s (.int .i64 b)],[.s (.int .i64 c)]])] (boolD (nm a least && (nm b least && nm c least))):=by
 have h:=from_A least [a,b,c] (by simp)
 simp only [ints,List.map_cons,List.map_nil,List.all_cons,List.all_nil,Bool.and_true,inB_nm] at h
 exact h
theorem itoa_dec (n:Nat):Lib.itoa (n:Int)=Lib.decDigits n:=by unfold Lib.itoa; rw [if_neg (by omega)]; simp
theorem byteOf_b (b:UInt8):byteOfI [.s (.int .u8 (b.toNat:Int))]=some b:=by
 have h:=mapM_bytes [b]
 simp only [List.map_cons,List.map_nil,byteI,List.mapM_cons,List.mapM_nil] at h
 cases e:byteOfI [.s (.int .u8 (b.toNat:Int))] with
 | none=>rw [e] at h; simp at h
 | some x=>rw [e] at h; simp at h; rw [h]
theorem rdig_A:∀ (k n:Nat),n < 10 ^ k→n < 9223372036854775808→PureD Tryz.prog 61 [intD n] (.i (.s (.string ⟨(Lib.decDigits n).toArray⟩)))
 | k,n,hk,hn=>by
  refine hide_r fun R hR=>?_
  by_cases h:n < 10
  ·rw [Lib.decDigits,dif_pos h] at hR
   have w1:IntKind.i64.wrap (48+(n:Int))=((48+n:Nat):Int):=by rw [wrap64 (by omega) (by omega)]; omega
   have w2:IntKind.u8.wrap ((48+n:Nat):Int)=((UInt8.ofNat (48+n)).toNat:Int):=by
    rw [UInt8.toNat_ofNat',IntKind.wrap_u8]; omega
   generalize UInt8.ofNat (48+n)=b at *
   have hbo:=byteOf_b b
   refine callD_W 17 Tryz.func61 rfl rfl rfl (fun _ _=>rfl) ?_
   exact wkl trivial
  ·match k,hk with
   | 0,hk=>simp at hk; omega
   | k+1,hk =>
    rw [Lib.decDigits,dif_neg h] at hR
    have c1:=rdig_A k (n / 10) (by rw [Nat.pow_succ] at hk; omega) (by omega)
    have hk1:10≤10 ^ k:=by
     cases k with
     | zero=>simp at hk; omega
     | succ k=>rw [Nat.pow_succ]; have:=Nat.pow_pos (n:=k) (show 0 < 10 by decide); omega
    have c2:=rdig_A k (n % 10) (by omega) (by omega)
    have e2:Lib.decDigits (n % 10)=[UInt8.ofNat (48+n % 10)]:=by rw [Lib.decDigits,dif_pos (by omega)]
    rw [e2] at c2
    have hl:(Lib.decDigits (n / 10)).length≤100:=by
     have:=ito_len (n:=((n / 10:Nat):Int)) ⟨by omega,by omega⟩
     rw [itoa_dec] at this; omega
    have s1:=fun P t x y=>@add_strB P t x y (Lib.decDigits (n / 10)) [UInt8.ofNat (48+n % 10)] ⟨hl,by simp⟩
    have w1:(n:Int).tdiv 10=((n / 10:Nat):Int):=by rw [Int.tdiv_eq_ediv_of_nonneg (by omega)]; omega
    have w2:(n:Int).tmod 10=((n % 10:Nat):Int):=by rw [Int.tmod_eq_emod_of_nonneg (by omega)]; omega
    generalize Lib.decDigits (n / 10)++[UInt8.ofNat (48+n % 10)]=L at *
    generalize Lib.decDigits (n / 10)=M at *
    generalize UInt8.ofNat (48+n % 10)=b at *
    refine callD_W 17 Tryz.func61 rfl rfl rfl (fun _ _=>rfl) ?_
    exact wkl trivial
def encZ (w:Int):List I:=[.s (.int .i64 w)]
attribute [simp,go_sem] encZ
def keyR (w:List UInt8) (l:List Int):List UInt8:=l.foldl (fun acc n=>acc++[47]++Lib.itoa n) w
theorem keyR_take {w:List UInt8} {l:List Int} {i:Nat} (h:i < l.length):keyR w (l.take (i+1))=keyR w (l.take i)++[47]++Lib.itoa l[i]:=by
 unfold keyR; rw [List.take_succ_eq_append_getElem h,List.foldl_append]; rfl
theorem rkey_A (w:List UInt8) (l:List Int) (hw:w.length≤10) (hl:l.length≤2) (hn:∀ n∈l,0≤n∧n < 9223372036854775808):PureD Tryz.prog 16 [.i (.s (.string ⟨w.toArray⟩)),.i (.sl (l.map encZ))] (.i (bI (keyR w l))):=by
 refine hide_r fun R hR=>?_
 have hlen:∀ i,i≤l.length→(keyR w (l.take i)).length≤10+22 * i:=by
  intro i
  induction i with
  | zero=>intro _; simpa [keyR] using hw
  | succ i ih =>
   intro hi
   rw [keyR_take hi]
   have h2:=hn _ (List.getElem_mem (show i < l.length from hi))
   have:=ito_len (n:=l[i]) ⟨by omega,by omega⟩
   have:=ih (by omega)
   simp only [List.length_append,List.length_cons,List.length_nil]; omega
 refine callD_W 21 Tryz.func16 rfl rfl rfl (fun _ _=>rfl) ?_
 refine wkl ?_
 clear hR; intro hR
 refine W_loopR (ι:=Nat) (fun i=>i≤l.length) (fun i=>stOf [(0,.i (.s (.string ⟨(keyR w (l.take i)).toArray⟩))),(7,.i (.sl (l.map encZ))),(8,intD l.length),(9,intD i)] []) (fun i=>l.length - i) 0 (Nat.zero_le _) ?_ ?_
 ·have e0:keyR w []=w:=rfl
  exact le_ok [] []
 ·rintro i hi RL hL
  rw [stOf_eq]
  have hli:=hlen i hi
  by_cases h:i < l.length
  ·have s0:=get_lt (f:=encZ) h
   have hlj:=hlen (i+1) h
   have h2:=hn _ (List.getElem_mem h)
   have c1:=rdig_A 64 l[i].toNat (by have:(9223372036854775808:Nat)≤10 ^ 64:=by decide
                                     omega) (by omega)
   rw [← itoa_dec,show ((l[i].toNat:Nat):Int)=l[i] by omega] at c1
   have hi2:=ito_len (n:=l[i]) ⟨by omega,by omega⟩
   have s1:=fun P t x y=>@add_strB P t x y (keyR w (l.take i)) [47] ⟨by omega,by simp⟩
   have s2:=fun P t x y=>@add_strB P t x y (keyR w (l.take i)++[47]) (Lib.itoa l[i]) ⟨by simp only [List.length_append,List.length_cons,List.length_nil]; omega,by omega⟩
   have b1:=fun σ'=>bk [] [] (hL (i+1) σ' h)
   rw [keyR_take h] at b1
   clear hL hlen hn
   generalize keyR w (l.take i)++[47]++Lib.itoa l[i]=K2 at *
   generalize keyR w (l.take i)++[47]=K1 at *
   generalize keyR w (l.take i)=K0 at *
   generalize Lib.itoa l[i]=D at *
   generalize l[i]=v at *
   exact wkl trivial
  ·have ht:l.take i=l:=List.take_of_length_le (by omega)
   rw [ht] at hli ⊢
   have s1:=strI_mk (keyR w l)
   have s2:(keyR w l).length≤140737488355328:=by omega
   clear hL hlen hn ht
   generalize keyR w l=K at *
   exact wkl trivial
end Go.Proofs.YtmclpbcipkdmcaaGreatDoor
set_option linter.all false
namespace Go.Proofs.YtmclpbcipkdmcaaGreatDoor
open Go Go.Abs Go.RowKit Go.Proofs.YtmclpbcipkdmcaaGreatDoor.Ty
set_option maxHeartbeats 8000000
set_option maxRecDepth 20000
theorem rconnb_A (c:ConnD) (h:-1≤c.on∧c.on≤1000000000000):PureD Tryz.prog 17 [connD c] (.i (bI (valCn c))):=by
 refine hide_r fun R hR=>?_
 have c1:=rN_A c.st
 have c2:=rN_A c.cl
 have c3:=rN_A c.oc
 have c4:=rN_A (c.on+1)
 have w1:IntKind.i64.wrap (c.on+1)=c.on+1:=wrap64 (by omega) (by omega)
 have c5:=rbytes3_A ([u64 c.st,u64 c.cl,u64 c.oc,u64 (c.on+1)].map numP) (by simp) (nums_b _) (nums_64 (by simp [u64_lt]))
 unfold valCn at hR
 simp only [List.map_cons,List.map_nil] at c5
 generalize writeF [numP (u64 c.st),numP (u64 c.cl),numP (u64 c.oc),numP (u64 (c.on+1))]=W at *
 generalize u64 c.st=a1 at *
 generalize u64 c.cl=a2 at *
 generalize u64 c.oc=a3 at *
 generalize u64 (c.on+1)=a4 at *
 simp only [encP,numP,bI,List.map_nil] at c5
 refine callD_W 18 Tryz.func17 rfl rfl rfl (fun _ _=>rfl) ?_
 exact wkl trivial
theorem rchanb_A (c:ChanD) (h:-1≤c.oc∧c.oc≤1000000000000):PureD Tryz.prog 68 [chanD c] (.i (bI (valCh c))):=by
 refine hide_r fun R hR=>?_
 unfold valCh at hR
 have c1:=rN_A c.st
 have c2:=rN_A (if c.ord=true then 1 else 0)
 have c3:=rN_A c.cn
 have c4:=rN_A (c.oc+1)
 have w1:IntKind.i64.wrap (c.oc+1)=c.oc+1:=wrap64 (by omega) (by omega)
 have c5:=rbytes3_A ([u64 c.st,u64 (if c.ord=true then 1 else 0),u64 c.cn,u64 (c.oc+1)].map numP) (by simp) (nums_b _) (nums_64 (by simp [u64_lt]))
 simp only [List.map_cons,List.map_nil] at c5
 generalize writeF [numP (u64 c.st),numP (u64 (if c.ord=true then 1 else 0)),numP (u64 c.cn),numP (u64 (c.oc+1))]=W at *
 generalize u64 c.st=a1 at *
 generalize u64 c.cn=a2 at *
 generalize u64 (if c.ord=true then 1 else 0)=a3 at *
 generalize u64 (c.oc+1)=a4 at *
 simp only [encP,numP,bI,List.map_nil] at c5
 cases ho:c.ord
 all_goals
  simp only [ho,Bool.false_eq_true,if_true,if_false] at c2
  refine callD_W 20 Tryz.func68 rfl rfl rfl (fun _ _=>rfl) ?_
  exact wkl trivial
theorem rkeyC_A (i:Int) (h:N12 0 i):PureD Tryz.prog 16 [.i (.s (.string ⟨#[99,111,110,110]⟩)),.i (.sl [[.s (.int .i64 i)]])] (.i (bI (keyC i))) :=
 rkey_A [99,111,110,110] [i] (by decide) (by simp) (by intro n hn; simp at hn; subst hn; unfold N12 at h; omega)
theorem rkeyH_A (i:Int) (h:N12 0 i):PureD Tryz.prog 16 [.i (.s (.string ⟨#[99,104,97,110]⟩)),.i (.sl [[.s (.int .i64 i)]])] (.i (bI (keyH i))) :=
 rkey_A [99,104,97,110] [i] (by decide) (by simp) (by intro n hn; simp at hn; subst hn; unfold N12 at h; omega)
theorem rkeyN_A (i:Int) (h:N12 0 i):PureD Tryz.prog 16 [.i (.s (.string ⟨#[110,101,120,116]⟩)),.i (.sl [[.s (.int .i64 i)]])] (.i (bI (keyN i))) :=
 rkey_A [110,101,120,116] [i] (by decide) (by simp) (by intro n hn; simp at hn; subst hn; unfold N12 at h; omega)
theorem rkeyM_A (w:List UInt8) (hw:w.length≤10) (i j:Int) (h:N12 0 i) (h':N12 0 j):PureD Tryz.prog 16 [.i (.s (.string ⟨w.toArray⟩)),.i (.sl [[.s (.int .i64 i)],[.s (.int .i64 j)]])] (.i (bI (keyM w i j))) :=
 rkey_A w [i,j] hw (by simp) (by intro n hn; simp at hn; unfold N12 at *; omega)
end Go.Proofs.YtmclpbcipkdmcaaGreatDoor
