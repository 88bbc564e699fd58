/- A part of the proof. -/
import Derived.Test.YtdmeldhlbpdeeaaGreatDoorGR1
import Derived.Lib.MakeNoZero
import Derived.Test.YtdmeldhlbpdeeaaGreatDoorClashP
set_option linter.all false
set_option maxHeartbeats 8000000
/- landref4.Less, Wrong, Half: by value. -/
namespace Go.Proofs.YtdmeldhlbpdeeaaGreatDoor
open Go Go.Abs Go.RowKit Go.Proofs.YtdmeldhlbpdeeaaGreatDoor.Ty
end Go.Proofs.YtdmeldhlbpdeeaaGreatDoor
/- landref4.Four, Join, Leaf, Node, Top, Tree: by value. -/
namespace Go.Proofs.YtdmeldhlbpdeeaaGreatDoor
open Go Go.Abs Go.RowKit Go.Proofs.YtdmeldhlbpdeeaaGreatDoor.Ty
def jk (ls:List (List UInt8))(j:Nat):List UInt8:=(ls.take j).flatten
theorem OO (ls:List (List UInt8)):jk ls 0=[]:=rfl
theorem aac {ls:List (List UInt8)}{j:Nat}(h:j<ls.length):jk ls (j+1)=jk ls j++ls[j]:=by unfold jk;rw[List.take_succ_eq_append_getElem h,List.flatten_append];simp only[List.flatten_cons,List.flatten_nil,List.append_nil]
theorem adM (ls:List (List UInt8)):jk ls ls.length=ls.flatten:=by unfold jk;rw[List.take_length]
theorem agH (ls:List (List UInt8))(j:Nat):(jk ls j).length<=ls.flatten.length:=by
 have h:ls.flatten=jk ls j++(ls.drop j).flatten:=by unfold jk;rw[<- List.flatten_append,List.take_append_drop]
 rw[h,List.length_append];omega
end Go.Proofs.YtdmeldhlbpdeeaaGreatDoor
/- bytes.Join, without a separator; proof.four, leafBytes, nodeBytes, topBytes, clash: by value. -/
namespace Go.Proofs.YtdmeldhlbpdeeaaGreatDoor
open Go Go.Abs Go.RowKit Go.Proofs.YtdmeldhlbpdeeaaGreatDoor.Ty
def rA:=an5 @Ty.T0 @Ty.T3 @Ty.T5 @Ty.T29 @Ty.T42
theorem Cm (n o:Nat)(hn:n<=281474976710656){G:Nat->Ob}(hf:G o=.fresh):
  Sg Tryz.prog 154 [intD n] G (.os o 1 0 n) (upd G o (.arr 1 [])):=by
 intro K0 T K vs hr hrd;obtain⟨hs,hg⟩:=hrd;have e:vs=#[vs.getD 0 undef]:=by
  apply Array.ext
  ·simpa using hs
  ·intro i h1 h2;simp at hs;have:i=0:=by omega
   subst this;simp[Array.getD,hs]
 have hv:=conc_ok (hg 0 _ rfl) (v':=.int .i64 (n:Int)) rfl;rw[hv]at e;rw[e];obtain⟨cs,hrun,hcs,_⟩:=Lib.run_makeNoZero (P:=Tryz.prog) K.w #[3] 29 5 Tryz.underlying29 n hn;have hr':HR K0 T (K.world K.w.drew.drew) G:=hr.world rfl rfl rfl rfl;have he':Ext K (K.world K.w.drew.drew):=Ext.world rfl;obtain⟨a1,a2,a3⟩:=newArr (K:=K.world K.w.drew.drew) hr' (id:=o) hf 5 (row:=cs) (sz:=1) (es:=[]) (Nat.succ_pos _) (by simp) (by simp) (by simp) n cs.size hcs (by omega);refine⟨_,_,?_,he'.trans a1,a2,a3⟩;rw[run_callFunc_extern Tryz.func154 (by kernel_rfl) (by kernel_rfl) (by kernel_rfl) (e:=Extern.BytealgMakeNoZero.makeNoZero #[3] #[29]) (by kernel_rfl),hrun];rfl
theorem TF {es E:List (List I)}{off:Nat}(h:off=es.length):over es off E=es++E:=by subst h;unfold over;rw[List.take_length,List.drop_eq_nil_of_le (by omega),List.append_nil]
theorem EL (ls:List (List UInt8)) (h1:ls.flatten.length<=1099511627776) (h2:ls.length<=1048576) (h3:2<=ls.length):PureD Tryz.prog 110 [.i (bbI ls),.i (bI [])] (.i (bI ls.flatten)):=by
 have hl:(ls.map fun b=>[bI b]).length=ls.length:=by simp
 have e0:∀ j (h:j < ls.length),(ls.map fun b=>[bI b])[j]?=some [bI ls[j]]:=fun j h=>by rw [List.getElem?_map,List.getElem?_eq_getElem h]; rfl
 have hbb:bbI ls=.sl (ls.map fun b=>[bI b]):=rfl
 have hun:uni 1 (ls.map fun b=>[bI b])=true:=by simp [uni]
 rw [hbb]
 generalize (ls.map fun b=>[bI b])=L at *
 have hall:=adM ls
 have hle:=agH ls
 have hjs:∀ j (h:j < ls.length),jk ls (j+1)=jk ls j++ls[j]:=fun j h=>aac h
 generalize ls.flatten=Z at *
 have g0:decide ((ls.length:Int)=0)=false:=decide_eq_false (by omega)
 have g1:decide ((ls.length:Int)=1)=false:=decide_eq_false (by omega)
 refine aa 92 Tryz.func110 ?_
 refine gx (an6 rA @hl g0 g1 @bI.eq_1 @List.map_nil.{0,0}) ?_
 refine bO (ι:=Nat) (fun j=>j<=ls.length)
  (fun j=>dP [(0,.i (.sl L)),(1,.i (.sl [])),(5,intD (jk ls j).length),(42,.i (.sl L)),(43,intD ls.length),(44,intD j)] []) (fun j=>ls.length - j) 0 (Nat.zero_le _) ?_ ?_
 ·refine aj _ _ [] [] ?_ ?_ rfl rfl
  ·simp [cv,cvL,cv1,cv0,upd,lk,az,intD,OO]
  ·simp
 ·rintro j hj
  rw [ag]
  by_cases hlt:j < ls.length
  ·have g2:decide ((j:Int) < (ls.length:Int))=true:=decide_eq_true (by omega)
   have e1:=e0 j hlt
   have w1:IntKind.i64.wrap ((j:Int)+1)=((j+1:Nat):Int):=by rw [au (by omega) (by omega)]; omega
   have hj2:=hjs j hlt
   have hl1:=hle (j+1)
   rw [hj2,List.length_append] at hl1
   have hl2:(jk ls (j+1)).length=(jk ls j).length+ls[j].length:=by rw [hj2,List.length_append]
   have w2:IntKind.i64.wrap (9223372036854775807 - ((jk ls j).length:Int))=9223372036854775807 - ((jk ls j).length:Int):=au (by omega) (by omega)
   have g3:decide (9223372036854775807 - ((jk ls j).length:Int) < (ls[j].length:Int))=false:=decide_eq_false (by omega)
   have w3:IntKind.i64.wrap (((jk ls j).length:Int)+(ls[j].length:Int))=((jk ls (j+1)).length:Int):=by rw [hl2,au (by omega) (by omega)]; omega
   simp only [bI] at e1
   generalize ls[j]=b at *
   refine gx (an9 rA @intD.eq_1 g2 e1 w1 w2 w3 g3 @List.length_map.{0,0}) ?_
   refine ⟨j+1,hlt,aj _ _ [] [] ?_ ?_ rfl rfl,by simp; omega⟩
   ·simp [cv,cvL,cv1,cv0,upd,lk,az,intD]
   ·simp
  ·have g2:decide ((j:Int) < (ls.length:Int))=false:=decide_eq_false (by omega)
   have hj':j=ls.length:=by omega
   subst hj'
   have e1:=e0 0 (by omega)
   simp only [bI] at e1
   have hj1:=hjs 0 (by omega)
   rw [OO,List.nil_append] at hj1
   have hl1:=hle 1
   rw [hj1] at hl1
   have hz1:jk ls (0+1)=ls[0]:=hj1
   rw [hall]
   generalize hb0:ls[0]=b0 at *
   have m1:min b0.length Z.length=b0.length:=by omega
   have c1:(1<=(ls.length:Int))=True:=eq_true (by omega)
   have hlen1:(L.drop 1).length=ls.length - 1:=by rw [List.length_drop,hl]
   refine gx (an3 rA @intD.eq_1 g2) ?_
   refine ⟨_,_,.inr (Cm Z.length 5353 (by omega) (by simp [hO,lk])),?_⟩
   refine gx2 (an9 rA @intD.eq_1 @hl e1 @m1 @Nat.sub_zero @Nat.zero_le @Nat.le_refl (an7 @List.length_map.{0,0} @c1 @hun @or_true @true_or @Int.le_refl @Option.map_some.{0,0})) ?_
   refine bO (ι:=Nat) (fun k=>k+1<=ls.length)
    (fun k=>dP [(1,.i (.sl [])),(8,.os 100 1 0 Z.length),(9,intD (jk ls (k+1)).length),(70,.i (.sl (L.drop 1))),(71,intD ((ls.length - 1:Nat):Int)),(72,intD k)] [(100,.arr 1 ((jk ls (k+1)).map aH))]) (fun k=>ls.length - k) 0 (by omega) ?_ ?_
   ·refine aj _ _ [] [(100,5353)] ?_ ?_ rfl rfl
    ·simp [cv,cvL,cv1,cv0,upd,lk,az,intD,hl,hj1]
    ·simp [aX,az,lk,cvO,frz,hO,hj1,over,upd]
   ·rintro k hk
    rw [ag]
    by_cases hlt:k < ls.length - 1
    ·have g3:decide ((k:Int) < ((ls.length - 1:Nat):Int))=true:=decide_eq_true (by omega)
     have e2:(L.drop 1)[k]?=some [bI ls[k+1]]:=by rw [List.getElem?_drop,Nat.add_comm]; exact e0 (k+1) (by omega)
     have hj2:=hjs (k+1) (by omega)
     have hl2:=hle (k+1+1)
     simp only [bI] at e2
     have w1:IntKind.i64.wrap ((k:Int)+1)=((k+1:Nat):Int):=by rw [au (by omega) (by omega)]; omega
     have hl3:=hl2
     rw [hj2,List.length_append] at hl3
     have hl4:(jk ls (k+1+1)).length=(jk ls (k+1)).length+ls[k+1].length:=by rw [hj2,List.length_append]
     generalize ls[k+1]=b at *
     generalize hX:jk ls (k+1)=X at *
     generalize hY:jk ls (k+1+1)=Y at *
     have w2:IntKind.i64.wrap ((X.length:Int)+0)=(X.length:Int):=by rw [au (by omega) (by omega)]; omega
     have w3:IntKind.i64.wrap ((X.length:Int)+(b.length:Int))=(Y.length:Int):=by rw [hl4,au (by omega) (by omega)]; omega
     have m1:min b.length (Z.length - X.length)=b.length:=by omega
     have m0:min 0 (Z.length - X.length)=0:=by omega
     have m2:min (Z.length - X.length) 0=0:=by omega
     have c2:((X.length:Int)<=(Z.length:Int))=True:=eq_true (by omega)
     have c3:(X.length<=Z.length)=True:=eq_true (by omega)
     have ov:over (X.map aH) X.length (b.map aH)=Y.map aH:=by rw [TF (by simp),hj2,List.map_append]
     refine gx2 (an9 rA @intD.eq_1 g3 e2 w1 w2 w3 @m0 (an9 @m1 @m2 @c2 @c3 @Nat.zero_le @Nat.le_refl @List.length_nil.{0} @List.length_map.{0,0} (an6 @or_true @true_or @GR @List.take_nil.{0} @Option.map_some.{0,0} @ov))) ?_
     refine ⟨k+1,by omega,aj _ _ [] [(100,100)] ?_ ?_ rfl rfl,by simp; omega⟩
     ·simp [cv,cvL,cv1,cv0,upd,lk,az,intD,hY]
     ·simp [aX,az,lk,cvO,frz,hO,hY,upd]
    ·have hk':k=ls.length - 1:=by omega
     subst hk'
     have g3:decide (((ls.length - 1:Nat):Int) < ((ls.length - 1:Nat):Int))=false:=decide_eq_false (by omega)
     have hq:ls.length - 1+1=ls.length:=by omega
     rw [hq,hall]
     refine gx (an3 rA @intD.eq_1 g3) ?_
     refine aA [100] rfl ?_
     simp [cv,cv1,cv0,upd,hO,lk,aO,fQ]
end Go.Proofs.YtdmeldhlbpdeeaaGreatDoor
/- proof.Clash: by value. -/
namespace Go.Proofs.YtdmeldhlbpdeeaaGreatDoor
open Go Go.Abs Go.RowKit Go.Proofs.YtdmeldhlbpdeeaaGreatDoor.Ty
def vI:=an6 @Ty.T1 @Ty.T3 @Ty.T4 @Ty.T5 @Ty.T29 @Ty.T42
def Bq:=an5 @Ty.T1 @Ty.T3 @Ty.T5 @Ty.T29 @Ty.T42
def vH:=an5 @Ty.T1 @Ty.T3 @Ty.T5 @Ty.T29 @Ty.T42
def Bp:=an3 @Ty.T4 @Ty.T5 @Ty.T29
def af:=an9 @Ty.T3 @Ty.T4 @Ty.T5 @Ty.T29 @Ty.T31 @Ty.T32 @Ty.T41 @Ty.T42 (an @Ty.T44 @Ty.ahO)
def Ml:=an4 @Ty.T3 @Ty.T4 @Ty.T5 @Ty.T29
def ax:=an5 @bbI.eq_1 @bu.eq_1 @psI.eq_1 @bR.eq_1 @lQ.eq_1
theorem Am {P:Program}{fn:Func}{sl:Nat->D}{H:Nat->Ob}{i j k:Tmp}{r:D}(F:List Nat)(h:fn.results=#[.tmp i,.tmp j,.tmp k])(hv:cv H F (λ_=>none) (.tup [sl i,sl j,sl k]) r):Fin P fn noH r noH .ret ⟨sl,H⟩ :=
 ⟨.tup [sl i,sl j,sl k],by simp[BN,h,iC],kJ F hv⟩
theorem Nl (n:Nat):PureD Tryz.prog 111 [intD n] (.i (bI (four n))):=by have b1:=ym n 16777216 24 (by decide) (by decide);have b2:=ym n 65536 16 (by decide) (by decide);have b3:=ym n 256 8 (by decide) (by decide);have b4:=ae_ n;simp only[four];generalize aQ n 16777216=c1 at*;generalize aQ n 65536=c2 at*;generalize aQ n 256=c3 at*;generalize aQ n 1=c4 at*;refine aa 15 Tryz.func111 ?_;refine gx (an6 Ml @intD.eq_1 @b1 @b2 @b3 @b4) ?_;refine aA [1267] rfl ?_;simp[cv,cv1,cv0,upd,aO,bI,aH]
theorem OC (k v:List UInt8)(hk:k.length<=1048576)(hv:v.length<=1048576):PureD Tryz.prog 60 [.i (bI k),.i (bI v)] (.i (bI (l_ k v))):=by
 have hf:[[0],four k.length,k,v].flatten=l_ k v:=by simp[l_]
 have hfl:(four k.length).length=4:=rfl;have hp:=EL [[0],four k.length,k,v] (by rw[hf];simp[l_];omega) (by simp) (by simp);rw[hf]at hp;generalize l_ k v=J at*;refine aa 13 Tryz.func60 ?_
 (refine gy (an vI @bI.eq_1) ?_;try intro ops hops)
 (refine fqz ax (Nl k.length) ?_)
 (refine gy (an vI @bI.eq_1) ?_;try intro ops hops)
 (first|refine kP [1262] (hp) (by simp[bbI,bu,psI,bR,lQ,frz,bbI]) ?_|refine jb [1262] [1262] (hp) (λG hG=>by(have hG1262:=hG 1262 (by simp);simp[bbI,bu,psI,bR,lQ,frz,bbI,hG1262])) (by simp) ?_)
 refine gx (an vI @bI.eq_1) ?_;refine aA [] rfl ?_;simp[cv,cv1,cv0,upd]
theorem EB (a b:List UInt8)(ha:a.length<=1048576)(hb:b.length<=1048576):PureD Tryz.prog 59 [.i (bI a),.i (bI b)] (.i (bI (fH a b))):=by
 have hf:[[1],a,b].flatten=fH a b:=by simp[fH]
 have hp:=EL [[1],a,b] (by rw[hf];simp[fH];omega) (by simp) (by simp);rw[hf]at hp;generalize fH a b=J at*;refine aa 10 Tryz.func59 ?_
 (refine gy (an Bq @bI.eq_1) ?_;try intro ops hops)
 (first|refine kP [1259] (hp) (by simp[bbI,bu,psI,bR,lQ,frz,bbI]) ?_|refine jb [1259] [1259] (hp) (λG hG=>by(have hG1259:=hG 1259 (by simp);simp[bbI,bu,psI,bR,lQ,frz,bbI,hG1259])) (by simp) ?_)
 refine gx (an Bq @bI.eq_1) ?_;refine aA [] rfl ?_;simp[cv,cv1,cv0,upd]
theorem Wj (n:Nat)(t:List UInt8)(ht:t.length<=1048576):PureD Tryz.prog 57 [intD n,.i (bI t)] (.i (bI (qf n t))):=by
 have hf:[[2],four n,t].flatten=qf n t:=by simp[qf]
 have hfl:(four n).length=4:=rfl;have hp:=EL [[2],four n,t] (by rw[hf];simp[qf];omega) (by simp) (by simp);rw[hf]at hp;generalize qf n t=J at*;refine aa 11 Tryz.func57 ?_
 (refine gy (an3 vH @bI.eq_1 @intD.eq_1) ?_;try intro ops hops)
 (refine fqz ax (Nl n) ?_)
 (refine gy (an vH @bI.eq_1) ?_;try intro ops hops)
 (first|refine kP [1260] (hp) (by simp[bbI,bu,psI,bR,lQ,frz,bbI]) ?_|refine jb [1260] [1260] (hp) (λG hG=>by(have hG1260:=hG 1260 (by simp);simp[bbI,bu,psI,bR,lQ,frz,bbI,hG1260])) (by simp) ?_)
 refine gx (an vH @bI.eq_1) ?_;refine aA [] rfl ?_;simp[cv,cv1,cv0,upd]
theorem AB (a b:List UInt8):PureD Tryz.prog 56 [.i (bI a),.i (bI b)] (.tup [.i (bI a),.i (bI b),boolD (!decide (a=b))]):=by
 refine aa 13 Tryz.func56 ?_
 (refine gy Bp ?_;try intro ops hops)
 (refine fq ax (iq a b) ?_)
 refine gx Bp ?_;refine Am [] rfl ?_;simp[cv,cvT,cv1,cv0,upd,boolD]
def crD (r:CR):D:=.tup [.i (bI r.1),.i (bI r.2.1),boolD r.2.2]
structure afN (p:b_) (R:CR) (l:List aN) (i:Nat) (rev:List (List UInt8)):Prop where
 lt:i<l.length
 len:l.length<=200
 big:∀q∈l,q.k.length<=60/\q.v.length<=200
 ok:(bV (dU p.k p.v) i l.length rev).2=true
 dig:∀d∈rev,d.length=32
 path:rev.length<=40
 go:iw p l i rev=R
theorem abo (l:List aN)(p:b_)(hl:l.length<=1048576):PureD Tryz.prog 14 [.i (psI l),bR p] (crD (jr l p)):=by
 have hrt:=Wv l hl;by_cases h0:(dQ l).1=0;case neg =>
  rw[Db (λh=>h0 h.1)];generalize dQ l=W at*;generalize zA l=R0 at*;have g1:decide ((W.1:Int)=0)=false:=by simp;omega
  refine aa 196 Tryz.func14 ?_
  (refine gy (an4 af @psI.eq_1 @bR.eq_1 @intD.eq_1) ?_;try intro ops hops)
  (refine fqz ax (hrt) ?_)
  refine gx (an4 af @lQ.eq_1 @intD.eq_1 g1) ?_;refine Am [] rfl ?_;simp[cv,cvT,cv1,cv0,upd,crD,boolD,bI]
 have hr:=nZ h0;have hz:=nP h0;rw[show zA l=h_ l by rw[zA,if_pos h0],hz]at hrt;have hsh:=zu (h_ l) p;by_cases hs:dV (h_ l) p=true;case neg =>
  rw[Db (λh=>hs h.2)];rw[show dV (h_ l) p=false by simpa using hs]at hsh;generalize h_ l=R0 at*;simp only[bR]at hsh;refine aa 196 Tryz.func14 ?_
  (refine gy (an4 af @psI.eq_1 @bR.eq_1 @intD.eq_1) ?_;try intro ops hops)
  (refine fqz ax (hrt) ?_)
  (refine gy (an4 af @lQ.eq_1 @intD.eq_1 @bI.eq_1) ?_;try intro ops hops)
  (refine fq ax (hsh) ?_)
  refine gx (an af @boolD.eq_1) ?_;refine Am [] rfl ?_;simp[cv,cvT,cv1,cv0,upd,crD,boolD,bI]
 rw[hs]at hsh;obtain⟨hf,htok,htop⟩:=shownF_all hs;obtain⟨a1,a2,a3,a4,a5,a6,a7,a8⟩:=formF_yes hf;have hll:=hr.len;have hcf:jr l p=if qf l.length (aZ l)=qf p.n.toNat (eZ p).1 then iw p l p.i.toNat p.path.reverse else(qf l.length (aZ l),qf p.n.toNat (eZ p).1,true):=by unfold jr;rw[if_pos h0,if_pos hs]
 have hlf:=OA p.k p.v (by omega) (by omega);have hlen:(dU p.k p.v).length=32:=bg _;have ht:=zF (dU p.k p.v) (by omega) p.path.reverse p.i.toNat p.n.toNat (λd hd=>a8 d (by simpa using hd)) (by simp;omega) (by omega) (by omega) (by omega);have hT:=lH (dU p.k p.v) (by omega) p.path.reverse p.i.toNat p.n.toNat;rw[List.reverse_reverse,Int.toNat_of_nonneg a3,Int.toNat_of_nonneg (by omega:0<=p.n)]at ht;rw[show bV (dU p.k p.v) p.i.toNat p.n.toNat p.path.reverse=eZ p from rfl]at ht hT;have htp:=Wj p.n.toNat (eZ p).1 (by omega);rw[Int.toNat_of_nonneg (by omega:0<=p.n)]at htp;have htl:(aZ l).length<=32:=by
  by_cases hn:l=[]
  ·subst hn;simp[aZ]
  ·exact Nat.le_of_eq (fP l hn)
 have htm:=Wj l.length (aZ l) (by omega);have hcl:=AB (qf l.length (aZ l)) (qf p.n.toNat (eZ p).1);have hsame:=λh=>top_same (l:=l) (p:=p) (by omega) (by omega) h;rw[hcf];by_cases hne:l=[]
 case pos =>
  subst hne;have hx:¬qf ([]:List aN).length (aZ [])=qf p.n.toNat (eZ p).1:=λh=>by have:=(hsame h).1;simp at this;omega
  rw[if_neg hx];rw[decide_eq_false hx]at hcl;have htn:aZ []=[]:=by rw[aZ]
  rw[htn]at htm hcl⊢;clear hcf hsame hx hz hr h0;simp only[List.length_nil]at*;generalize qf 0 []=X at*;generalize qf p.n.toNat (eZ p).1=Y at*;generalize h_ []=R0 at*;generalize eZ p=T at*;generalize dU p.k p.v=LF at*;obtain⟨pi,pn,pk,pv,pq⟩:=p;obtain⟨tt,tk⟩:=T;simp only[bR]at*;subst htok;refine aa 196 Tryz.func14 ?_
  (refine gy (an4 af @psI.eq_1 @intD.eq_1 @List.map_nil.{0,0}) ?_;try intro ops hops)
  (refine fqz ax (hrt) ?_)
  (refine gy (an4 af @lQ.eq_1 @intD.eq_1 @bI.eq_1) ?_;try intro ops hops)
  (refine fq ax (hsh) ?_)
  (refine gy (an3 af @boolD.eq_1 @intD.eq_1) ?_;try intro ops hops)
  (refine fqz ax (hlf) ?_)
  (refine gy (an af @intD.eq_1) ?_;try intro ops hops)
  (refine fqz ax (ht) ?_)
  (refine gy (an3 af @boolD.eq_1 @intD.eq_1) ?_;try intro ops hops)
  (refine fqz ax (htm) ?_)
  (refine gy (an3 af @boolD.eq_1 @intD.eq_1) ?_;try intro ops hops)
  (refine fqz ax (htp) ?_)
  (refine gy (an3 af @boolD.eq_1 @intD.eq_1) ?_;try intro ops hops)
  (refine fqz ax (hcl) ?_)
  refine gx (an3 af @boolD.eq_1 @intD.eq_1) ?_;refine Am [] rfl ?_;simp[cv,cvT,cv1,cv0,upd,crD,boolD,bI]
 have hlpos:0<l.length:=List.length_pos_iff.2 hne;have gl:decide ((0:Int)<(l.length:Int))=true:=decide_eq_true (by omega);have htr:=xI _ l rfl hne (by omega) (λq hq=>by have:=hr.big q hq;omega);by_cases hx:qf l.length (aZ l)=qf p.n.toNat (eZ p).1;case neg =>
  rw[if_neg hx];rw[decide_eq_false hx]at hcl;clear hcf hsame hx;generalize qf l.length (aZ l)=X at*;generalize qf p.n.toNat (eZ p).1=Y at*;generalize h_ l=R0 at*;generalize aZ l=TL at*;generalize eZ p=T at*;generalize dU p.k p.v=LF at*;obtain⟨pi,pn,pk,pv,pq⟩:=p;obtain⟨tt,tk⟩:=T;simp only[bR]at*;subst htok;refine aa 196 Tryz.func14 ?_
  (refine gy (an3 af @psI.eq_1 @intD.eq_1) ?_;try intro ops hops)
  (refine fqz ax (hrt) ?_)
  (refine gy (an4 af @lQ.eq_1 @intD.eq_1 @bI.eq_1) ?_;try intro ops hops)
  (refine fq ax (hsh) ?_)
  (refine gy (an5 af @boolD.eq_1 @intD.eq_1 @psI.eq_1 @gl) ?_;try intro ops hops)
  (refine fqz ax (htr) ?_)
  (refine gy (an3 af @boolD.eq_1 @intD.eq_1) ?_;try intro ops hops)
  (refine fqz ax (hlf) ?_)
  (refine gy (an af @intD.eq_1) ?_;try intro ops hops)
  (refine fqz ax (ht) ?_)
  (refine gy (an4 af @boolD.eq_1 @intD.eq_1 @psI.eq_1) ?_;try intro ops hops)
  (refine fqz ax (htm) ?_)
  (refine gy (an3 af @boolD.eq_1 @intD.eq_1) ?_;try intro ops hops)
  (refine fqz ax (htp) ?_)
  (refine gy (an3 af @boolD.eq_1 @intD.eq_1) ?_;try intro ops hops)
  (refine fqz ax (hcl) ?_)
  refine gx (an3 af @boolD.eq_1 @intD.eq_1) ?_;refine Am [] rfl ?_;simp[cv,cvT,cv1,cv0,upd,crD,boolD,bI]
 rw[if_pos hx];obtain⟨hn1,hn2⟩:=hsame hx;have inv0:afN p (iw p l p.i.toNat p.path.reverse) l p.i.toNat p.path.reverse :=
  ⟨by omega,hll,hr.big,by rw[hn1];exact htok,λd hd=>a8 d (by simpa using hd),by simp;omega,rfl⟩
 rw[decide_eq_true hx]at hcl;generalize iw p l p.i.toNat p.path.reverse=R at*;have hpi:((p.i.toNat:Nat):Int)=p.i:=Int.toNat_of_nonneg a3;have hpk:p.k.length<=1048576/\p.v.length<=1048576:=⟨by omega,by omega⟩
 clear hcf hsame hx hn1 hn2 a1 a2 a4 a5 a6 a7 a8 hf htop hs hz h0 hr;generalize qf l.length (aZ l)=X at*;generalize qf p.n.toNat (eZ p).1=Y at*;generalize h_ l=R0 at*;generalize aZ l=TL at*;generalize eZ p=T at*;obtain⟨pi,pn,pk,pv,pq⟩:=p;obtain⟨tt,tk⟩:=T;simp only[bR]at*;subst htok;refine aa 196 Tryz.func14 ?_
 (refine gy (an3 af @psI.eq_1 @intD.eq_1) ?_;try intro ops hops)
 (refine fqz ax (hrt) ?_)
 (refine gy (an4 af @lQ.eq_1 @intD.eq_1 @bI.eq_1) ?_;try intro ops hops)
 (refine fq ax (hsh) ?_)
 (refine gy (an5 af @boolD.eq_1 @intD.eq_1 @psI.eq_1 @gl) ?_;try intro ops hops)
 (refine fqz ax (htr) ?_)
 (refine gy (an3 af @boolD.eq_1 @intD.eq_1) ?_;try intro ops hops)
 (refine fqz ax (hlf) ?_)
 (refine gy (an af @intD.eq_1) ?_;try intro ops hops)
 (refine fqz ax (ht) ?_)
 (refine gy (an4 af @boolD.eq_1 @intD.eq_1 @psI.eq_1) ?_;try intro ops hops)
 (refine fqz ax (htm) ?_)
 (refine gy (an3 af @boolD.eq_1 @intD.eq_1) ?_;try intro ops hops)
 (refine fqz ax (htp) ?_)
 (refine gy (an3 af @boolD.eq_1 @intD.eq_1) ?_;try intro ops hops)
 (refine fqz ax (hcl) ?_)
 refine gx (an3 af @boolD.eq_1 @intD.eq_1) ?_;refine bO (ι:=List aN×Nat×List (List UInt8)) (λs=>afN ⟨pi,pn,pk,pv,pq⟩ R s.1 s.2.1 s.2.2)
  (λs=>dP [(0,.i (psI s.1)),(3,.pt 100 0 0 0),(15,intD s.2.1),(16,.i (bbI s.2.2.reverse))] [(100,.box [intD pi,intD pn,.i (bI pk),.i (bI pv),.i (bbI pq)])]) (λs=>s.2.2.length) (l,pi.toNat,pq.reverse) inv0 ?_ ?_
 ·refine aj _ _ [] [(100,1000)] ?_ ?_ rfl rfl
  ·simp[cv,cvL,cv1,cv0,upd,lk,az,intD,psI,hpi]
  ·simp[aX,az,lk,cvO,cvL,cv0,frz,upd,D.one,intD,hO,bI]
 clear inv0 hrt hsh htr ht htm htp hcl htl hl hll hne hlpos gl hpi hT a3;clear hlen;rintro⟨l,i,rev⟩ hinv;simp only at hinv;rw[ag];obtain⟨hi,hll,hbig,hok,hdig,hpl,hgo⟩:=hinv;simp only at hok;by_cases h2:2<=l.length;case neg =>
  have h1:l.length=1:=by omega
  obtain⟨q,rfl⟩:=List.length_eq_one_iff.1 h1;have hlast:iw ⟨pi,pn,pk,pv,pq⟩ [q] i rev=zX ⟨pi,pn,pk,pv,pq⟩ [q]:=by
   cases rev with
   |nil=>rfl
   |cons d r=>simp[iw]
  rw[hlast]at hgo;have hq:=hbig q (by simp);have c1:=OC q.k q.v (by omega) (by omega);have c2:=OC pk pv (by omega) (by omega);have c3:=AB (l_ q.k q.v) (l_ pk pv);simp only[zX]at hgo;generalize l_ q.k q.v=X at*;generalize l_ pk pv=Y at*;by_cases hx:X=Y
  ·rw[if_pos hx]at hgo;rw[decide_eq_true hx]at c3;subst hgo
   (refine gy (an6 af @psI.eq_1 @intD.eq_1 @List.map_cons.{0,0} @List.map_nil.{0,0} @bu.eq_1) ?_;try intro ops hops)
   (refine fqz ax (c1) ?_)
   (refine gy (an6 af @psI.eq_1 @intD.eq_1 @List.map_cons.{0,0} @List.map_nil.{0,0} @bu.eq_1) ?_;try intro ops hops)
   (refine fqz ax (c2) ?_)
   (refine gy (an3 af @boolD.eq_1 @intD.eq_1) ?_;try intro ops hops)
   (refine fqz ax (c3) ?_)
   refine gx (an3 af @boolD.eq_1 @intD.eq_1) ?_;refine Am [] rfl ?_;simp[cv,cvT,cv1,cv0,upd,crD,boolD,bI]
  ·rw[if_neg hx]at hgo;rw[decide_eq_false hx]at c3;subst hgo
   (refine gy (an6 af @psI.eq_1 @intD.eq_1 @List.map_cons.{0,0} @List.map_nil.{0,0} @bu.eq_1) ?_;try intro ops hops)
   (refine fqz ax (c1) ?_)
   (refine gy (an6 af @psI.eq_1 @intD.eq_1 @List.map_cons.{0,0} @List.map_nil.{0,0} @bu.eq_1) ?_;try intro ops hops)
   (refine fqz ax (c2) ?_)
   (refine gy (an3 af @boolD.eq_1 @intD.eq_1) ?_;try intro ops hops)
   (refine fqz ax (c3) ?_)
   refine gx (an3 af @boolD.eq_1 @intD.eq_1) ?_;refine Am [] rfl ?_;simp[cv,cvT,cv1,cv0,upd,crD,boolD,bI]
 cases rev with
 |nil=>simp[bV,show ¬l.length=1 by omega]at hok
 |cons d r =>
  have g0:decide ((1:Int)<(l.length:Int))=true:=decide_eq_true (by omega);have hs:=fT h2;have hsp:=zq l.length (by omega) (by omega);have hd0:=hdig d (by simp);have hdr:∀x∈r,x.length=32:=λx hx=>hdig x (by simp[hx]);simp only[List.length_cons]at hpl;have n1:l.take (ae l.length)≠[]:=by intro hc;have:=congrArg List.length hc;simp only[List.length_take,List.length_drop,List.length_nil]at this;omega
  have n2:l.drop (ae l.length)≠[]:=by intro hc;have:=congrArg List.length hc;simp only[List.length_take,List.length_drop,List.length_nil]at this;omega
  have l1:=fP _ n1;have l2:=fP _ n2;have t1:=xI _ (l.take (ae l.length)) rfl n1 (by simp;omega) (λq hq=>by have:=hbig q (List.mem_of_mem_take hq);omega);have t2:=xI _ (l.drop (ae l.length)) rfl n2 (by simp;omega) (λq hq=>by have:=hbig q (List.mem_of_mem_drop hq);omega);have hk1:(l.take (ae l.length)).length=ae l.length:=by simp;omega
  have hk2:(l.drop (ae l.length)).length=l.length-ae l.length:=by simp
  have hb1:∀q∈l.take (ae l.length),q.k.length<=60/\q.v.length<=200:=λq hq=>hbig q (List.mem_of_mem_take hq);have hb2:∀q∈l.drop (ae l.length),q.k.length<=60/\q.v.length<=200:=λq hq=>hbig q (List.mem_of_mem_drop hq);have hlen:(dU pk pv).length=32:=bg _;have p1:=zF (dU pk pv) (by omega) r i (ae l.length) hdr (by omega) (by omega) (by omega) (by omega);have p2:=zF (dU pk pv) (by omega) r (i-ae l.length) (l.length-ae l.length) hdr (by omega) (by omega) (by omega) (by omega);have q1:=lH (dU pk pv) (by omega) r i (ae l.length);have q2:=lH (dU pk pv) (by omega) r (i-ae l.length) (l.length-ae l.length);have L1:((d::r).reverse.map λb=>[bI b]).length=r.length+1:=by simp
  have L2:((d::r).reverse.map λb=>[bI b])[r.length]?=some [bI d]:=by simp
  have L3:((d::r).reverse.map λb=>[bI b]).take r.length=r.reverse.map λb=>[bI b]:=by simp
  have L4:uni 1 ((d::r).reverse.map λb=>[bI b])=true:=by simp[uni]
  have hq:bbI (d::r).reverse=.sl ((d::r).reverse.map λb=>[bI b]):=rfl;have hqr:bbI r.reverse=.sl (r.reverse.map λb=>[bI b]):=rfl;rw[hq];simp only[bV,if_neg (show ¬l.length=1 by omega)]at hok;simp only[iw,if_pos h2]at hgo;simp only[hqr]at p1 p2;rw[<- L3]at p1 p2 hqr;have g2:((ae l.length:Int)<=(l.length:Int))=True:=eq_true (by omega);have u1:uni 2 (l.map bu)=true:=by simp[uni,bu]
  have g4:((r.length:Int)<=((r.length+1:Nat):Int))=True:=eq_true (by omega);have w1:IntKind.i64.wrap (((r.length+1:Nat):Int)-1)=(r.length:Int):=by rw[au (by omega) (by omega)];omega
  have w2:IntKind.i64.wrap ((i:Int)-(ae l.length:Int))=((i-ae l.length:Nat):Int)\/i<ae l.length:=by
   by_cases h:i<ae l.length
   ·exact .inr h
   ·left;rw[au (by omega) (by omega)];omega
  have w3:IntKind.i64.wrap ((l.length:Int)-(ae l.length:Int))=((l.length-ae l.length:Nat):Int):=by rw[au (by omega) (by omega)];omega
  have hnb1:=EB (aZ (l.take (ae l.length))) (aZ (l.drop (ae l.length))) (by omega) (by omega);simp only[psI]at t1 t2;generalize((d::r).reverse.map λb=>[bI b])=L at*;clear hq hdig;by_cases hc:i<ae l.length
  ·rw[if_pos hc]at hok hgo;have g3:decide ((i:Int)<(ae l.length:Int))=true:=decide_eq_true (by omega);have hnb2:=EB (bV (dU pk pv) i (ae l.length) r).1 d (by omega) (by omega);have hcl:=AB (fH (aZ (l.take (ae l.length))) (aZ (l.drop (ae l.length)))) (fH (bV (dU pk pv) i (ae l.length) r).1 d);have hinv2:fH (aZ (l.take (ae l.length))) (aZ (l.drop (ae l.length)))=fH (bV (dU pk pv) i (ae l.length) r).1 d->afN ⟨pi,pn,pk,pv,pq⟩ R (l.take (ae l.length)) i r:=λhe=>by
    rw[if_pos he]at hgo;exact⟨by omega,by omega,hb1,by rw[hk1];exact hok,hdr,by omega,hgo⟩
   have hres:¬fH (aZ (l.take (ae l.length))) (aZ (l.drop (ae l.length)))=fH (bV (dU pk pv) i (ae l.length) r).1 d->(fH (aZ (l.take (ae l.length))) (aZ (l.drop (ae l.length))),fH (bV (dU pk pv) i (ae l.length) r).1 d,true)=R:=λhe=>by rw[if_neg he]at hgo;exact hgo
   clear hgo p2 q2 w2 w3;generalize fH (aZ (l.take (ae l.length))) (aZ (l.drop (ae l.length)))=X at*;generalize fH (bV (dU pk pv) i (ae l.length) r).1 d=Y at*;generalize bV (dU pk pv) i (ae l.length) r=FR at*;generalize dU pk pv=LF at*;generalize aZ (l.take (ae l.length))=TA at*;generalize aZ (l.drop (ae l.length))=TB at*;generalize ae l.length=k at*;obtain⟨ft,fk⟩:=FR;simp only at*;by_cases hx:X=Y
   ·have hin:=hinv2 hx;rw[decide_eq_true hx]at hcl
    (refine gy (an4 af @intD.eq_1 @psI.eq_1 g0) ?_;try intro ops hops)
    (refine fq ax (hsp) ?_)
    (refine gy (an9 af @intD.eq_1 @psI.eq_1 @boolD.eq_1 @mtk @mdr g2 u1 (an6 @L1 @L2 @L4 g4 w1 g3)) ?_;try intro ops hops)
    (refine fqz ax (t1) ?_)
    (refine gy (an9 af @intD.eq_1 @psI.eq_1 @boolD.eq_1 @mtk @mdr g2 u1 (an6 @L1 @L2 @L4 g4 w1 g3)) ?_;try intro ops hops)
    (refine fqz ax (t2) ?_)
    (refine gy (an9 af @intD.eq_1 @psI.eq_1 @boolD.eq_1 @mtk @mdr g2 u1 (an6 @L1 @L2 @L4 g4 w1 g3)) ?_;try intro ops hops)
    (refine fqz ax (hlf) ?_)
    (refine gy (an9 af @intD.eq_1 @psI.eq_1 @boolD.eq_1 @mtk @mdr g2 u1 (an6 @L1 @L2 @L4 g4 w1 g3)) ?_;try intro ops hops)
    (refine fqz ax (p1) ?_)
    (refine gy (an9 af @intD.eq_1 @psI.eq_1 @boolD.eq_1 @mtk @mdr g2 u1 (an6 @L1 @L2 @L4 g4 w1 g3)) ?_;try intro ops hops)
    (refine fqz ax (hnb1) ?_)
    (refine gy (an9 af @intD.eq_1 @psI.eq_1 @boolD.eq_1 @mtk @mdr g2 u1 (an6 @L1 @L2 @L4 g4 w1 g3)) ?_;try intro ops hops)
    (refine fqz ax (hnb2) ?_)
    (refine gy (an9 af @intD.eq_1 @psI.eq_1 @boolD.eq_1 @mtk @mdr g2 u1 (an6 @L1 @L2 @L4 g4 w1 g3)) ?_;try intro ops hops)
    (refine fqz ax (hcl) ?_)
    refine gx (an6 af @boolD.eq_1 @intD.eq_1 @L1 @L4 g4) ?_;refine⟨(l.take k,i,r),hin,aj _ _ [] [(100,100)] ?_ ?_ rfl rfl,by simp⟩
    ·simp[cv,cvL,cv1,cv0,upd,lk,az,intD,psI,bbI,L3]
    ·simp[aX,az,lk,cvO,cvL,cv0,frz,upd,D.one,intD,hO]
   ·have hre:=hres hx;rw[decide_eq_false hx]at hcl;subst hre
    (refine gy (an4 af @intD.eq_1 @psI.eq_1 g0) ?_;try intro ops hops)
    (refine fq ax (hsp) ?_)
    (refine gy (an9 af @intD.eq_1 @psI.eq_1 @boolD.eq_1 @mtk @mdr g2 u1 (an6 @L1 @L2 @L4 g4 w1 g3)) ?_;try intro ops hops)
    (refine fqz ax (t1) ?_)
    (refine gy (an9 af @intD.eq_1 @psI.eq_1 @boolD.eq_1 @mtk @mdr g2 u1 (an6 @L1 @L2 @L4 g4 w1 g3)) ?_;try intro ops hops)
    (refine fqz ax (t2) ?_)
    (refine gy (an9 af @intD.eq_1 @psI.eq_1 @boolD.eq_1 @mtk @mdr g2 u1 (an6 @L1 @L2 @L4 g4 w1 g3)) ?_;try intro ops hops)
    (refine fqz ax (hlf) ?_)
    (refine gy (an9 af @intD.eq_1 @psI.eq_1 @boolD.eq_1 @mtk @mdr g2 u1 (an6 @L1 @L2 @L4 g4 w1 g3)) ?_;try intro ops hops)
    (refine fqz ax (p1) ?_)
    (refine gy (an9 af @intD.eq_1 @psI.eq_1 @boolD.eq_1 @mtk @mdr g2 u1 (an6 @L1 @L2 @L4 g4 w1 g3)) ?_;try intro ops hops)
    (refine fqz ax (hnb1) ?_)
    (refine gy (an9 af @intD.eq_1 @psI.eq_1 @boolD.eq_1 @mtk @mdr g2 u1 (an6 @L1 @L2 @L4 g4 w1 g3)) ?_;try intro ops hops)
    (refine fqz ax (hnb2) ?_)
    (refine gy (an9 af @intD.eq_1 @psI.eq_1 @boolD.eq_1 @mtk @mdr g2 u1 (an6 @L1 @L2 @L4 g4 w1 g3)) ?_;try intro ops hops)
    (refine fqz ax (hcl) ?_)
    refine gx (an6 af @boolD.eq_1 @intD.eq_1 @L1 @L4 g4) ?_;refine Am [] rfl ?_;simp[cv,cvT,cv1,cv0,upd,crD,boolD,bI]
  ·rw[if_neg hc]at hok hgo;have g3:decide ((i:Int)<(ae l.length:Int))=false:=decide_eq_false (by omega);have w2:=w2.resolve_right hc;have hnb2:=EB d (bV (dU pk pv) (i-ae l.length) (l.length-ae l.length) r).1 (by omega) (by omega);have hcl:=AB (fH (aZ (l.take (ae l.length))) (aZ (l.drop (ae l.length)))) (fH d (bV (dU pk pv) (i-ae l.length) (l.length-ae l.length) r).1);have hinv2:fH (aZ (l.take (ae l.length))) (aZ (l.drop (ae l.length)))=fH d (bV (dU pk pv) (i-ae l.length) (l.length-ae l.length) r).1->afN ⟨pi,pn,pk,pv,pq⟩ R (l.drop (ae l.length)) (i-ae l.length) r:=λhe=>by
    rw[if_pos he]at hgo;exact⟨by omega,by omega,hb2,by rw[hk2];exact hok,hdr,by omega,hgo⟩
   have hres:¬fH (aZ (l.take (ae l.length))) (aZ (l.drop (ae l.length)))=fH d (bV (dU pk pv) (i-ae l.length) (l.length-ae l.length) r).1->(fH (aZ (l.take (ae l.length))) (aZ (l.drop (ae l.length))),fH d (bV (dU pk pv) (i-ae l.length) (l.length-ae l.length) r).1,true)=R:=λhe=>by rw[if_neg he]at hgo;exact hgo
   clear hgo p1 q1;generalize fH (aZ (l.take (ae l.length))) (aZ (l.drop (ae l.length)))=X at*;generalize fH d (bV (dU pk pv) (i-ae l.length) (l.length-ae l.length) r).1=Y at*;generalize bV (dU pk pv) (i-ae l.length) (l.length-ae l.length) r=FR at*;generalize dU pk pv=LF at*;generalize aZ (l.take (ae l.length))=TA at*;generalize aZ (l.drop (ae l.length))=TB at*;generalize ae l.length=k at*;obtain⟨ft,fk⟩:=FR;simp only at*;by_cases hx:X=Y
   ·have hin:=hinv2 hx;rw[decide_eq_true hx]at hcl
    (refine gy (an4 af @intD.eq_1 @psI.eq_1 g0) ?_;try intro ops hops)
    (refine fq ax (hsp) ?_)
    (refine gy (an9 af @intD.eq_1 @psI.eq_1 @boolD.eq_1 @mtk @mdr g2 u1 (an8 @L1 @L2 @L4 g4 w1 g3 w2 w3)) ?_;try intro ops hops)
    (refine fqz ax (t1) ?_)
    (refine gy (an9 af @intD.eq_1 @psI.eq_1 @boolD.eq_1 @mtk @mdr g2 u1 (an8 @L1 @L2 @L4 g4 w1 g3 w2 w3)) ?_;try intro ops hops)
    (refine fqz ax (t2) ?_)
    (refine gy (an9 af @intD.eq_1 @psI.eq_1 @boolD.eq_1 @mtk @mdr g2 u1 (an8 @L1 @L2 @L4 g4 w1 g3 w2 w3)) ?_;try intro ops hops)
    (refine fqz ax (hlf) ?_)
    (refine gy (an9 af @intD.eq_1 @psI.eq_1 @boolD.eq_1 @mtk @mdr g2 u1 (an8 @L1 @L2 @L4 g4 w1 g3 w2 w3)) ?_;try intro ops hops)
    (refine fqz ax (p2) ?_)
    (refine gy (an9 af @intD.eq_1 @psI.eq_1 @boolD.eq_1 @mtk @mdr g2 u1 (an8 @L1 @L2 @L4 g4 w1 g3 w2 w3)) ?_;try intro ops hops)
    (refine fqz ax (hnb1) ?_)
    (refine gy (an9 af @intD.eq_1 @psI.eq_1 @boolD.eq_1 @mtk @mdr g2 u1 (an8 @L1 @L2 @L4 g4 w1 g3 w2 w3)) ?_;try intro ops hops)
    (refine fqz ax (hnb2) ?_)
    (refine gy (an9 af @intD.eq_1 @psI.eq_1 @boolD.eq_1 @mtk @mdr g2 u1 (an8 @L1 @L2 @L4 g4 w1 g3 w2 w3)) ?_;try intro ops hops)
    (refine fqz ax (hcl) ?_)
    refine gx (an6 af @boolD.eq_1 @intD.eq_1 @L1 @L4 g4) ?_;refine⟨(l.drop k,i-k,r),hin,aj _ _ [] [(100,100)] ?_ ?_ rfl rfl,by simp⟩
    ·simp[cv,cvL,cv1,cv0,upd,lk,az,intD,psI,bbI,L3]
    ·simp[aX,az,lk,cvO,cvL,cv0,frz,upd,D.one,intD,hO]
   ·have hre:=hres hx;rw[decide_eq_false hx]at hcl;subst hre
    (refine gy (an4 af @intD.eq_1 @psI.eq_1 g0) ?_;try intro ops hops)
    (refine fq ax (hsp) ?_)
    (refine gy (an9 af @intD.eq_1 @psI.eq_1 @boolD.eq_1 @mtk @mdr g2 u1 (an8 @L1 @L2 @L4 g4 w1 g3 w2 w3)) ?_;try intro ops hops)
    (refine fqz ax (t1) ?_)
    (refine gy (an9 af @intD.eq_1 @psI.eq_1 @boolD.eq_1 @mtk @mdr g2 u1 (an8 @L1 @L2 @L4 g4 w1 g3 w2 w3)) ?_;try intro ops hops)
    (refine fqz ax (t2) ?_)
    (refine gy (an9 af @intD.eq_1 @psI.eq_1 @boolD.eq_1 @mtk @mdr g2 u1 (an8 @L1 @L2 @L4 g4 w1 g3 w2 w3)) ?_;try intro ops hops)
    (refine fqz ax (hlf) ?_)
    (refine gy (an9 af @intD.eq_1 @psI.eq_1 @boolD.eq_1 @mtk @mdr g2 u1 (an8 @L1 @L2 @L4 g4 w1 g3 w2 w3)) ?_;try intro ops hops)
    (refine fqz ax (p2) ?_)
    (refine gy (an9 af @intD.eq_1 @psI.eq_1 @boolD.eq_1 @mtk @mdr g2 u1 (an8 @L1 @L2 @L4 g4 w1 g3 w2 w3)) ?_;try intro ops hops)
    (refine fqz ax (hnb1) ?_)
    (refine gy (an9 af @intD.eq_1 @psI.eq_1 @boolD.eq_1 @mtk @mdr g2 u1 (an8 @L1 @L2 @L4 g4 w1 g3 w2 w3)) ?_;try intro ops hops)
    (refine fqz ax (hnb2) ?_)
    (refine gy (an9 af @intD.eq_1 @psI.eq_1 @boolD.eq_1 @mtk @mdr g2 u1 (an8 @L1 @L2 @L4 g4 w1 g3 w2 w3)) ?_;try intro ops hops)
    (refine fqz ax (hcl) ?_)
    refine gx (an6 af @boolD.eq_1 @intD.eq_1 @L1 @L4 g4) ?_;refine Am [] rfl ?_;simp[cv,cvT,cv1,cv0,upd,crD,boolD,bI]
end Go.Proofs.YtdmeldhlbpdeeaaGreatDoor
