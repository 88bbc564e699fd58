/- Merged texts: Lnk, TpA, Law14L, TpB. -/
import Derived.Test.YtdmeldhlbpdeeaaGreatDoorCap
import Derived.Test.YtdmeldhlbpdeeaaGreatDoorGLt
import Derived.Test.YtdmeldhlbpdeeaaGreatDoorGLn
set_option linter.all false
set_option maxHeartbeats 16000000
set_option maxRecDepth 20000
namespace Go.Proofs.YtdmeldhlbpdeeaaGreatDoor
open Go Go.Abs Go.RowKit Go.Proofs.YtdmeldhlbpdeeaaGreatDoor.Ty
attribute [local go_sem] List.map_cons List.map_nil
theorem abz (k s:Int):PureD Tryz.prog 79 [intD k,intD s] (.agg ((encEv ⟨k,s,1,0,0,zeroMsg⟩).map .i)):=by refine ai λR hR=>?_;refine aa 8 Tryz.func79 ?_;exact wkl trivial
theorem agA (s:Int)(m:MsgD):PureD Tryz.prog 81 [intD s,ZH m] (.agg ((encEv ⟨5,s,0,0,0,m⟩).map .i)):=by refine ai λR hR=>?_;refine aa 8 Tryz.func81 ?_;exact wkl trivial
theorem YV (es:List (List I))(he:es=[evB 0,evB 1].map encEv):aL Tryz.prog 78 [.pt 0 0 0 0] (hF [(0,.box [.i (.s (.slice none 0 0))])]) (.tup []) (hOf (hF [(0,.box [.i (.s (.slice none 0 0))])]) [(0,.box [.os 2 67 0 2]),(2,.arr 67 es)]):=by
 refine ik λR R' hR hR'=>?_;have d1:iY [] [(2,1004)]:=⟨trivial⟩
 have c1:=abz 1 0;have c2:=abz 1 1;subst he;simp only[evB,List.map_cons,List.map_nil]at hR';obtain⟨rfl⟩:=hR;obtain⟨rfl⟩:=hR';refine aP 6 Tryz.func78 rfl rfl rfl (λo ho=>by simp[hF,lk,show o≠0 by omega,show o≠1 by omega,show o≠2 by omega,show o≠3 by omega,show o≠4 by omega,show o≠5 by omega]) ?_;exact wkl trivial
theorem abZ (es:List (List I))(n:Nat)(hn:es.length=n)(hl:n<=100):aL Tryz.prog 78 [.pt 0 0 0 0] (hF [(0,.box [.os 1 67 0 n]),(1,.arr 67 es)]) (.tup []) (hOf (hF [(0,.box [.os 1 67 0 n]),(1,.arr 67 es)]) [(0,.box [.os 2 67 0 (n+2)]),(1,.dead),(2,.arr 67 (es++[encEv (evB 0),encEv (evB 1)]))]):=by
 subst hn;refine ik λR R' hR hR'=>?_;have d1:iY [] [(2,1004)]:=⟨trivial⟩
 have c1:=abz 1 0;have c2:=abz 1 1;simp only[evB]at hR';obtain⟨rfl⟩:=hR;obtain⟨rfl⟩:=hR';refine aP 6 Tryz.func78 rfl rfl rfl (λo ho=>by simp[hF,lk,show o≠0 by omega,show o≠1 by omega,show o≠2 by omega,show o≠3 by omega,show o≠4 by omega,show o≠5 by omega]) ?_;exact wkl trivial
theorem sU (L:List EvD)(es es':List (List I))(n:Nat)(s:Int)(m:MsgD)(he:es=L.map encEv)(he':es'=(L++turnL s m).map encEv)(hn:n=L.length)(hl:n<=90):
  aL Tryz.prog 80 [.i (.s (.int .i64 s)),.agg ((encMsg m).map .i),.pt 0 0 0 0,.pt 3 0 0 0] (hF [(0,.box [.os 1 67 0 n]),(1,.arr 67 es),(3,.box [.fn 78 [.pt 0 0 0 0]])]) (.tup [])
   (hOf (hF [(0,.box [.os 1 67 0 n]),(1,.arr 67 es),(3,.box [.fn 78 [.pt 0 0 0 0]])]) [(0,.box [.os 2 67 0 (n+5)]),(1,.dead),(2,.arr 67 es'),(3,.box [.fn 78 [.pt 0 0 0 0]])]):=by
 refine ik λR R' hR hR'=>?_;have d1:iY [] [(2,1772)]:=⟨trivial⟩
 have c1:=agA s m;have c2:=abz 3 0;have c3:=abz 3 1;have hen:es.length=n:=by rw[he,List.length_map,hn]
 have e2:es'=es++[encEv (evS s m)]++[encEv (evB 0),encEv (evB 1)]++[encEv (evF 0),encEv (evF 1)]:=by rw[he',he];simp[turnL,List.map_append]
 have p1:=abZ (es++[encEv (evS s m)]) (n+1) (by simp[hen]) (by omega);rw[e2]at hR';clear e2 he' he hn;subst hen;simp only[evS,evB,evF]at hR' p1;obtain⟨rfl⟩:=hR;obtain⟨rfl⟩:=hR';refine aP 19 Tryz.func80 rfl rfl rfl (λo ho=>by simp[hF,lk,show o≠0 by omega,show o≠1 by omega,show o≠2 by omega,show o≠3 by omega,show o≠4 by omega,show o≠5 by omega]) ?_;refine wkl ?_;intros;refine Ry p1 (by simp) (by simp) (by simp) ?_;exact wkl trivial
theorem Xf (r:Bool)(trust:Int):PureD Tryz.prog 26 [boolD r,intD trust] (.i (.sl ((jl r trust).map encEv))):=by
 refine ai λR hR=>?_;obtain⟨e0,h0⟩:∃x,x=[evB 0,evB 1].map encEv:=⟨_,rfl⟩
 obtain⟨e1,h1⟩:∃x,x=[evB 0,evB 1,evC 0 trust].map encEv:=⟨_,rfl⟩
 obtain⟨e2,h2⟩:∃x,x=[evB 0,evB 1,evC 0 trust,evC 1 trust].map encEv:=⟨_,rfl⟩
 have p0:=YV e0 h0;have a1:e0++[encEv (evC 0 trust)]=e1:=by rw[h0,h1];rfl
 have a2:e1++[encEv (evC 1 trust)]=e2:=by rw[h1,h2];rfl
 have l0:e0.length=2:=by rw[h0];rfl
 have l1:e1.length=3:=by rw[h1];rfl
 simp only[evC,encEv,encMsg,zeroMsg,LK,zSh,bI,bbI,valsI,votesI,List.map_nil,Int.natCast_zero]at a1 a2;obtain⟨L2,hL2⟩:∃x,x=[evB 0,evB 1,evC 0 trust,evC 1 trust]:=⟨_,rfl⟩
 have m2:L2.length=4:=by rw[hL2];rfl
 rw[<- hL2]at h2;have mT:∀s m,(turnL s m).length=5:=λs m=>rfl;have ml:∀(L:List EvD) s m,(L++turnL s m).length=L.length+5:=λL s m=>by rw[List.length_append,mT]
 have hend:jl r trust=L2++turnL 0 {zeroMsg with kind:=4}++turnL 1 {zeroMsg with kind:=5}++turnL 0 {zeroMsg with kind:=6}++turnL 1 {zeroMsg with kind:=7}++turnL 0 {zeroMsg with kind:=8,ord:=r}++turnL 1 {zeroMsg with kind:=9,ord:=r}++turnL 0 {zeroMsg with kind:=10}++turnL 1 {zeroMsg with kind:=11}:=by rw[hL2];simp only[jl,List.append_assoc]
 rw[hend]at hR;obtain⟨e3,h3⟩:∃x,x=(L2++turnL 0 {zeroMsg with kind:=4}).map encEv:=⟨_,rfl⟩
 have p1:=sU L2 e2 e3 4 0 {zeroMsg with kind:=4} h2 h3 m2.symm (by decide);generalize hL3:L2++turnL 0 {zeroMsg with kind:=4}=L3 at*;have m3:L3.length=9:=by rw[<- hL3,ml,m2]
 obtain⟨e4,h4⟩:∃x,x=(L3++turnL 1 {zeroMsg with kind:=5}).map encEv:=⟨_,rfl⟩
 have p2:=sU L3 e3 e4 9 1 {zeroMsg with kind:=5} h3 h4 m3.symm (by decide);generalize hL4:L3++turnL 1 {zeroMsg with kind:=5}=L4 at*;have m4:L4.length=14:=by rw[<- hL4,ml,m3]
 obtain⟨e5,h5⟩:∃x,x=(L4++turnL 0 {zeroMsg with kind:=6}).map encEv:=⟨_,rfl⟩
 have p3:=sU L4 e4 e5 14 0 {zeroMsg with kind:=6} h4 h5 m4.symm (by decide);generalize hL5:L4++turnL 0 {zeroMsg with kind:=6}=L5 at*;have m5:L5.length=19:=by rw[<- hL5,ml,m4]
 obtain⟨e6,h6⟩:∃x,x=(L5++turnL 1 {zeroMsg with kind:=7}).map encEv:=⟨_,rfl⟩
 have p4:=sU L5 e5 e6 19 1 {zeroMsg with kind:=7} h5 h6 m5.symm (by decide);generalize hL6:L5++turnL 1 {zeroMsg with kind:=7}=L6 at*;have m6:L6.length=24:=by rw[<- hL6,ml,m5]
 obtain⟨e7,h7⟩:∃x,x=(L6++turnL 0 {zeroMsg with kind:=8,ord:=r}).map encEv:=⟨_,rfl⟩
 have p5:=sU L6 e6 e7 24 0 {zeroMsg with kind:=8,ord:=r} h6 h7 m6.symm (by decide);generalize hL7:L6++turnL 0 {zeroMsg with kind:=8,ord:=r}=L7 at*;have m7:L7.length=29:=by rw[<- hL7,ml,m6]
 obtain⟨e8,h8⟩:∃x,x=(L7++turnL 1 {zeroMsg with kind:=9,ord:=r}).map encEv:=⟨_,rfl⟩
 have p6:=sU L7 e7 e8 29 1 {zeroMsg with kind:=9,ord:=r} h7 h8 m7.symm (by decide);generalize hL8:L7++turnL 1 {zeroMsg with kind:=9,ord:=r}=L8 at*;have m8:L8.length=34:=by rw[<- hL8,ml,m7]
 obtain⟨e9,h9⟩:∃x,x=(L8++turnL 0 {zeroMsg with kind:=10}).map encEv:=⟨_,rfl⟩
 have p7:=sU L8 e8 e9 34 0 {zeroMsg with kind:=10} h8 h9 m8.symm (by decide);generalize hL9:L8++turnL 0 {zeroMsg with kind:=10}=L9 at*;have m9:L9.length=39:=by rw[<- hL9,ml,m8]
 obtain⟨e10,h10⟩:∃x,x=(L9++turnL 1 {zeroMsg with kind:=11}).map encEv:=⟨_,rfl⟩
 have p8:=sU L9 e9 e10 39 1 {zeroMsg with kind:=11} h9 h10 m9.symm (by decide);rw[<- h10]at hR;have l10:e10.length=44:=by rw[h10,List.length_map,ml,m9]
 have t10:e10.take 44=e10:=List.take_of_length_le (by omega);clear hend h0 h1 h2 h3 h4 h5 h6 h7 h8 h9 h10 m2 m3 m4 m5 m6 m7 m8 m9 hL2 hL3 hL4 hL5 hL6 hL7 hL8 hL9 mT ml;refine aa 50 Tryz.func26 ?_;refine wkl ?_;clear hR;intro hR;intros;refine Lj p0 (by simp) (by simp) ?_;refine wkl ?_;clear hR;intro hR;intros;refine aS (ι:=Nat) (λk=>k<=2) (λk=>dP [(0,boolD r),(1,intD trust),(5,.pt 100 0 0 0),(6,.pt 101 0 0 0),(12,intD k)]
  [(100,.box [.os 102 67 0 (2+k)]),(101,.box [.fn 78 [.pt 100 0 0 0]]),(102,.arr 67 (if k=0 then e0 else if k=1 then e1 else e2))]) (λk=>2-k) 0 (Nat.zero_le _) ?_ ?_
 ·exact dB [] [(100,1256),(101,1513),(102,901)]
 ·rintro k hk RL hL;rw[ag]
  match k,hk with
  |0,_ =>have b1:=λσ'=>bk [] [(100,100),(101,101),(102,2797)] (hL 1 σ' (by omega));simp only[if_true,Nat.reduceAdd,show ¬(1:Nat)=0 by decide,if_false]at b1⊢;clear hL;exact wkl trivial
  |1,_ =>have b1:=λσ'=>bk [] [(100,100),(101,101),(102,2797)] (hL 2 σ' (by omega));simp only[if_true,Nat.reduceAdd,show ¬(1:Nat)=0 by decide,show ¬(2:Nat)=0 by decide,show ¬(2:Nat)=1 by decide,if_false]at b1⊢;clear hL;exact wkl trivial
  |2,_ =>clear hL;simp only[Nat.reduceAdd,show ¬(2:Nat)=0 by decide,show ¬(2:Nat)=1 by decide,if_false];refine wkl ?_;clear hR;intro hR;intros;refine iZ (c:=100) (t:=101) p1 rfl (λs=>by simp[cvL,cv0]) (by simp) (by simp) (by simp) (by simp) ?_;refine wkl ?_;clear hR;intro hR;intros;refine iZ (c:=100) (t:=101) p2 rfl (λs=>by simp[cvL,cv0]) (by simp) (by simp) (by simp) (by simp) ?_;refine wkl ?_;clear hR;intro hR;intros;refine iZ (c:=100) (t:=101) p3 rfl (λs=>by simp[cvL,cv0]) (by simp) (by simp) (by simp) (by simp) ?_;refine wkl ?_;clear hR;intro hR;intros;refine iZ (c:=100) (t:=101) p4 rfl (λs=>by simp[cvL,cv0]) (by simp) (by simp) (by simp) (by simp) ?_;refine wkl ?_;clear hR;intro hR;intros;refine iZ (c:=100) (t:=101) p5 rfl (λs=>by simp[cvL,cv0]) (by simp) (by simp) (by simp) (by simp) ?_;refine wkl ?_;clear hR;intro hR;intros;refine iZ (c:=100) (t:=101) p6 rfl (λs=>by simp[cvL,cv0]) (by simp) (by simp) (by simp) (by simp) ?_;refine wkl ?_;clear hR;intro hR;intros;refine iZ (c:=100) (t:=101) p7 rfl (λs=>by simp[cvL,cv0]) (by simp) (by simp) (by simp) (by simp) ?_;refine wkl ?_;clear hR;intro hR;intros;refine iZ (c:=100) (t:=101) p8 rfl (λs=>by simp[cvL,cv0]) (by simp) (by simp) (by simp) (by simp) ?_;exact wkl trivial
end Go.Proofs.YtdmeldhlbpdeeaaGreatDoor
namespace Go.Proofs.YtdmeldhlbpdeeaaGreatDoor
open Go Go.Abs Go.RowKit Go.Proofs.YtdmeldhlbpdeeaaGreatDoor.Ty
attribute [local go_sem] List.map_cons List.map_nil
theorem Ii (k s:Int)(m:MsgD):PureD Tryz.prog 25 [intD k,intD s,ZH m] (.i (.sl ([oneL k s m].map encEv))):=by refine ai λR hR=>?_;simp only[oneL,List.map_cons,List.map_nil]at hR;refine aa 12 Tryz.func25 ?_;exact wkl trivial
theorem ZO:PureD Tryz.prog 19 [] (.i (.sl (tickL.map encEv))):=by refine ai λR hR=>?_;simp only[tickL,List.map_cons,List.map_nil]at hR;refine aa 6 Tryz.func19 ?_;exact wkl trivial
theorem ZQ (n:Nat)(tw:ByteArray):PureD Tryz.prog 17 [dI n,sD tw] (trD (goldT n tw)):=by refine ai λR hR=>?_;simp only[goldT,trD,il,xn]at hR;refine aa 8 Tryz.func17 ?_;exact wkl trivial
theorem aeC {l:List (List EvD)}{k:Nat}(h:k<l.length):(l.take (k+1)).flatten=(l.take k).flatten++l[k]:=by rw[List.take_succ_eq_append_getElem h,List.flatten_append];simp
theorem agQ (l:List (List EvD))(k:Nat):(l.take k).flatten.length<=l.flatten.length:=by have h:=congrArg (λx=>x.flatten.length) (List.take_append_drop k l);simp only[List.flatten_append,List.length_append]at h;omega
theorem EI (l:List (List EvD))(hl:l.length<=100)(hf:l.flatten.length<=1000):PureD Tryz.prog 18 [.i (.sl (l.map λx=>[.sl (x.map encEv)]))] (.i (.sl (l.flatten.map encEv))):=by
 refine ai λR hR=>?_;refine aa 17 Tryz.func18 ?_;refine wkl ?_;clear hR;intro hR
 repeat' (intro _)
 refine aS (ι:=Nat) (λk=>k<=l.length) (λk=>dP [(3,.os 100 67 0 (l.take k).flatten.length),(6,.i (.sl (l.map λx=>[.sl (x.map encEv)]))),(7,intD l.length),(8,intD k)] [(100,.arr 67 ((l.take k).flatten.map encEv))]) (λk=>l.length-k) 0 (Nat.zero_le _) ?_ ?_
 ·exact dB [] []
 ·rintro k hk RL hL;rw[ag];by_cases h:k<l.length
  ·have s0:=aI (f:=λx:List EvD=>[I.sl (x.map encEv)]) h;have b1:=λσ'=>bk [] [(100,2282)] (hL (k+1) σ' h);have hle:=agQ l (k+1);rw[aeC h,List.map_append,List.length_append]at b1;rw[aeC h,List.length_append]at hle;have l1:((l.take k).flatten.map encEv).length=(l.take k).flatten.length:=List.length_map ..;have l2:(l[k].map encEv).length=l[k].length:=List.length_map ..;have un:uni 67 (l[k].map encEv)=true:=by simp[uni,encEv]
   clear hL;generalize l[k].map encEv=eb at*;generalize(l.take k).flatten.map encEv=ef at*;generalize(l.take k).flatten.length=nf at*;generalize l[k].length=nb at*;subst l1;subst l2;exact wkl trivial
  ·have hk2:k=l.length:=by omega
   subst hk2;rw[List.take_length];have t1:(l.flatten.map encEv).take l.flatten.length=l.flatten.map encEv:=List.take_of_length_le (by rw[List.length_map];exact Nat.le_refl _);have lF:(l.flatten.map encEv).length=l.flatten.length:=List.length_map ..;clear hL;generalize l.flatten.map encEv=F at*;generalize l.flatten.length=nF at*;exact wkl trivial
theorem Y_ {t:eX}{T:Int}(hn:t.n<18446744073709551616)(h1:t.d.size<=1048576)(h2:t.s.size<=1048576)(h3:t.r.size<=1048576){k s:Int}:JZ (oneL k s (sendM t T)):=by
 have n0:gT 0:=by unfold gT;decide
 exact⟨⟨zeroMsg_sm.kn,zeroMsg_sm.up,zeroMsg_sm.up2,hn,h1,h2,h3,zeroMsg_sm.fr,zeroMsg_sm.de,zeroMsg_sm.data,zeroMsg_sm.ack⟩,⟨n0,n0,n0,n0⟩⟩
end Go.Proofs.YtdmeldhlbpdeeaaGreatDoor
namespace Go.Proofs.YtdmeldhlbpdeeaaGreatDoor
open Go Go.Abs Go.RowKit Go.Proofs.YtdmeldhlbpdeeaaGreatDoor.Ty
attribute [local simp,local go_sem] List.map_cons List.map_nil
theorem nC (r:Bool)(trust:Int):(jl r trust).length=44:=rfl
theorem mem_turn {s:Int}{m:MsgD}{e:EvD}(h:e∈turnL s m):e.m=m\/e.m=zeroMsg:=by
 simp only[turnL,List.mem_cons,List.not_mem_nil,or_false]at h;rcases h with rfl|rfl|rfl|rfl|rfl
 ·exact .inl rfl
 all_goals exact .inr rfl
theorem Ij (r:Bool)(trust:Int):∀e∈jl r trust,JZ e:=by
 intro e he;have n0:gT 0:=by unfold gT;decide
 have hz:∀k (o:Bool),JZ ⟨0,0,0,0,0,{zeroMsg with kind:=k,ord:=o}⟩:=λk o=>⟨⟨zeroMsg_sm.kn,zeroMsg_sm.up,zeroMsg_sm.up2,zeroMsg_sm.tn,zeroMsg_sm.td,zeroMsg_sm.ts,zeroMsg_sm.tr,zeroMsg_sm.fr,zeroMsg_sm.de,zeroMsg_sm.data,zeroMsg_sm.ack⟩,⟨n0,n0,n0,n0⟩⟩
 have z:∃k o,zeroMsg={zeroMsg with kind:=k,ord:=o}:=⟨0,false,rfl⟩
 have t:∀{s k o},e∈turnL s {zeroMsg with kind:=k,ord:=o}->∃k o,e.m={zeroMsg with kind:=k,ord:=o}:=λh=>by
  rcases mem_turn h with q|q
  ·exact⟨_,_,q⟩
  ·rw[q];exact z
 have key:∃k o,e.m={zeroMsg with kind:=k,ord:=o}:=by
  unfold jl at he;rcases List.mem_append.1 he with he|he
  ·simp only[List.mem_cons,List.not_mem_nil,or_false]at he;rcases he with rfl|rfl|rfl|rfl<;>exact z
  ·iterate 7 (rcases List.mem_append.1 he with he|he;(· exact t he))
   exact t he
 obtain⟨k,o,q⟩:=key;have:=hz k o;unfold JZ at this⊢;rw[q];exact this
end Go.Proofs.YtdmeldhlbpdeeaaGreatDoor
namespace Go.Proofs.YtdmeldhlbpdeeaaGreatDoor
open Go Go.Abs Go.RowKit Go.Proofs.YtdmeldhlbpdeeaaGreatDoor.Ty
attribute [local go_sem] List.map_cons List.map_nil
attribute [local simp,local go_sem] sendM
def rF (r:Bool)(t:eX)(T:Int):List EvD:=jl r 100++[oneL 4 0 (sendM t T)]
theorem Gl {r:Bool}{t:eX}{T:Int}(hn:t.n<18446744073709551616)(h1:t.d.size<=1048576)(h2:t.s.size<=1048576)(h3:t.r.size<=1048576):∀e∈rF r t T,JZ e:=λe he=>by
 rcases List.mem_append.1 he with he|he
 ·exact Ij r 100 e he
 ·rw[List.mem_singleton.1 he];exact Y_ hn h1 h2 h3
theorem vN (r:Bool)(t:eX)(T:Int):(rF r t T).length=45:=rfl
theorem ZP (r:Bool)(t:eX)(T:Int){W:kY}{ds:List jE}{d:jE}(hp:nu (rF r t T)=(W,ds))(hl:ds.length=45)(hd:ds[44]?=some d)(hn:t.n<18446744073709551616)(h1:t.d.size<=1048576)(h2:t.s.size<=1048576)(h3:t.r.size<=1048576):
  PureD Tryz.prog 16 [boolD r,trD t,intD T] (if d.err=0 then .tup [.i (.sl ((rF r t T).map encEv)),xw d.pk,boolD true]else .tup [.i (.sl []),xw zeroPk,boolD false]):=by
 refine ai λR hR=>?_;have c1:=Xf r 100;have c2:=Ii 4 0 (sendM t T);have c3:=EI [jl r 100,[oneL 4 0 (sendM t T)]] (by simp) (by simp[nC]);have c4:=GL (rF r t T) (by rw[vN];decide) (Gl hn h1 h2 h3);rw[if_neg (by rw[vN];decide),hp]at c4;have hf:[jl r 100,[oneL 4 0 (sendM t T)]].flatten=rF r t T:=by simp[rF]
 rw[hf]at c3;simp only[List.map_cons,List.map_nil]at c3;have s0:(ds.map fZ)[44]?=some (fZ d):=by rw[List.getElem?_map,hd];rfl
 have hm:(ds.map fZ).length=45:=by rw[List.length_map,hl]
 have w9:(45:Int)-1=44:=by decide
 clear hp hf hd hl;generalize(rF r t T).map encEv=LE at*;generalize(jl r 100).map encEv=LL at*;simp only[List.map_cons,List.map_nil]at c2;generalize encEv (oneL 4 0 (sendM t T))=E1 at*;generalize ds.map fZ=dd at*;by_cases he:d.err=0
 ·rw[if_pos he]at hR;refine aa 48 Tryz.func16 ?_;exact wkl trivial
 ·rw[if_neg he]at hR;refine aa 48 Tryz.func16 ?_;exact wkl trivial
end Go.Proofs.YtdmeldhlbpdeeaaGreatDoor
