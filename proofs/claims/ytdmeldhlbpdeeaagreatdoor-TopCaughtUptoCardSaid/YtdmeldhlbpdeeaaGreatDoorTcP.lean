/- landtop.TopCaught, plain: who is shown two headers of one height is frozen. -/
import Derived.Test.YtdmeldhlbpdeeaaGreatDoorGLt
import Derived.Test.YtdmeldhlbpdeeaaGreatDoorHdU
set_option linter.all false
namespace Go.Proofs.YtdmeldhlbpdeeaaGreatDoor
open Go Go.Abs
def hdC (r:List UInt8):kv:=⟨nmA,10,10,r,digestV (eY nmA),digestV (eY nmA)⟩
def sgC (r:List UInt8):gG:=⟨hdC r,eY nmA,(eY nmA).map (eO (hdC r) (gQ nmA))⟩
def upC (r:List UInt8):yI:=⟨9,sgC r,eY nmA⟩
theorem uV {r:List UInt8}(hr:r.length=32):yJ (hdC r) (eY nmA):=by refine⟨?_,names_A.vals,rfl⟩;unfold fA;refine(if_pos (show ic nmA=true by decide)).trans ((if_neg (show ¬((10:Int)<1\/¬lw 10=true\/¬lw 10=true) by decide)).trans (if_neg ?_));rw[show(hdC r).root.length=32 from hr,show(hdC r).vals.length=32 from oI _,show(hdC r).next.length=32 from oI _];decide
theorem Tc {r:List UInt8}(hr:r.length=32):kU (hdC r) (eY nmA) (gQ nmA)=(sgC r,0):=Ef (uV hr) (gQ nmA)
theorem MM {r:List UInt8}(hr:r.length=32):j_ (sgC r)=0:=(pI (uV hr) (gQ nmA)).2 (by rw[names_A.sum,names_A.voted];decide)
theorem Pg {r r':List UInt8}(hr:r.length=32)(hr':r'.length=32):a_ (hdC r)=a_ (hdC r')↔r=r':=by
 have h:=FB (Bh (uV hr).w) (Bh (uV hr').w);constructor
 ·intro e;rw[decide_eq_true e]at h;exact congrArg kv.root (BI.1 h.symm)
 ·rintro rfl;rfl
theorem ahI {o:ay}{n:Nat}(ho:nN nmA o n)(h:o.past.length=10){r:List UInt8}(hr:r.length=32):beE (clK nmA 100 o 10) (upC r) 11=0:=by have ha:=at_knl (onm:=nmA) (trust:=100) ho (k:=10) (by omega) (i:=8) (by omega);obtain⟨_,k2,k3⟩:=knl_get ho (k:=10) (by omega) (i:=8) (by omega);unfold beE;rw[show(upC r).sg=sgC r from rfl,if_pos (MM hr),show(upC r).fr=((8:Nat):Int)+1 from rfl,ha];simp only;have t0:(clK nmA 100 o 10).trust=100:=rfl;unfold abD afg;rw[if_pos (show(upC r).sg.hdr.c=(clK nmA 100 o 10).c from rfl),if_neg (by rw[t0,k3];decide),if_neg (by rw[k2];show ¬((10:Int)<=((8:Nat):Int)+1);decide),if_neg (by rw[k3];show ¬((10:Int)<=((8:Nat):Int)+1\/(11:Int)+10<10);decide),if_pos (by rw[k2];show(10:Int)=((8:Nat):Int)+1+1;decide)];exact if_pos rfl
theorem ahe {c o:ay}{n:Nat}(hs:nN nmB c n)(hn:n=11)(hc:c.s.cls=[clK nmA 100 o 10]):dJ (clK nmA 100 o 10) c.s.t=0:=by have okc:=hs.ok.cls _ (show clK nmA 100 o 10∈c.s.cls by rw[hc];exact List.mem_singleton.2 rfl);have oot:=hs.ok.t;unfold N12 at oot;unfold dJ;rw[if_pos (cu.2 okc),if_pos (show lw c.s.t=true by unfold lw;exact decide_eq_true oot)];rfl
def catM (r r':List UInt8):MsgD:={zeroMsg with kind:=3,up:=upC r,up2:=upC r'}
def frzC (c o:ay):ay:={c with s:={c.s with cls:=[{clK nmA 100 o 10 with frozen:=true}]}}
theorem aaH {s:StateD}{x:aD}(h:s.cls=[x]):gU s 0=x:=kM h
theorem m_catch {c o:ay}{a b:EndsD}(v:View 100 nmB nmA c o 11 9 a b){r r':List UInt8}(hr:r.length=32)(hr':r'.length=32){e:EvD}(he:aae e (catM r r')):
  (¬r=r'->(oneB c o e).2.err=0/\(oneB c o e).1=frzC c o)/\(r=r'->Rs c o e 8):=by
 have hl:o.past.length=10:=by have:=v.len;omega
 have hcl:c.s.cls=[clK nmA 100 o 10]:=v.cl;have ht:c.s.t=11:=v.sd.t;have hask:=ahe v.sd rfl hcl;have k0:gU c.s 0=clK nmA 100 o 10:=aaH hcl;have hcat:kg (gU c.s 0) (upC r) (upC r') c.s.t=if ¬a_ (hdC r)=a_ (hdC r')then({clK nmA 100 o 10 with frozen:=true},0)else(kw,8):=by
  unfold kg;rw[k0,if_pos hask,ht,if_pos (ahI v.so hl hr),if_pos (ahI v.so hl hr')];by_cases q:a_ (hdC r)=a_ (hdC r')
  ·rw[if_neg (λx=>x.2 q),if_neg (λx=>x q)]
  ·rw[if_pos ⟨rfl,q⟩,if_pos q]
 have hcs:Jt c.s (catM r r')=(if(kg (gU c.s 0) (upC r) (upC r') c.s.t).2=0 then({c.s with cls:=c.s.cls.set 0 (kg (gU c.s 0) (upC r) (upC r') c.s.t).1},dE 0)else(c.s,dE (kg (gU c.s 0) (upC r) (upC r') c.s.t).2)):=by
  unfold Jt;have g1:¬(catM r r').kind=1:=show ¬(3:Int)=1 by decide
  have g2:¬((catM r r').cl<0\/(c.s.cls.length:Int)<=(catM r r').cl):=by rw[hcl];show ¬((0:Int)<0\/(1:Int)<=0);decide
  have g3:¬(catM r r').kind=2:=show ¬(3:Int)=2 by decide
  rw[if_neg g1,if_neg g2];simp only;rw[if_neg g3];rfl
 have h0:mg c.s (catM r r')=if ¬a_ (hdC r)=a_ (hdC r')then((frzC c o).s,dE 0)else(c.s,dE 8):=by
  unfold mg;have g1:¬((catM r r').kind<1\/18<(catM r r').kind):=show ¬((3:Int)<1\/(18:Int)<3) by decide
  have g2:(catM r r').kind<=3:=show(3:Int)<=3 by decide
  rw[if_neg g1,if_pos g2,hcs,hcat];by_cases q:a_ (hdC r)=a_ (hdC r')
  ·simp only[q,not_true_eq_false,if_false];exact if_neg (show ¬(8:Int)=0 by decide)
  ·rw[if_pos q,if_pos q,if_pos rfl,hcl];rfl
 constructor
 ·intro hne;have q:¬a_ (hdC r)=a_ (hdC r'):=λx=>hne ((Pg hr hr').1 x);rw[if_pos q]at h0;have hd:doS c.s (catM r r')=((frzC c o).s,dE 0):=by
   unfold doS;rw[if_pos (aC.2 v.sd.ok),h0,if_pos (show(dE 0).err=0 from rfl)]
  rw[Ey he];unfold kX;rw[hd,if_pos (show(dE 0).err=0 from rfl)];exact⟨rfl,rfl⟩
 ·intro heq;have q:=(Pg hr hr').2 heq;rw[if_neg (λx=>x q)]at h0;obtain⟨p1,p2⟩:=act_no v.sd (m:=catM r r') (x:=8) (by rw[h0];rfl) (by decide);rw[<- Ey (o:=o) he]at p1 p2;exact⟨p1,p2⟩
theorem Xo {c o:ay}{a b:EndsD}(v:View 100 nmB nmA c o 11 9 a b):StOk (frzC c o).s:=by
 have ok:=v.sd.ok;have hcl:c.s.cls=[clK nmA 100 o 10]:=v.cl;have okc:=ok.cls _ (show clK nmA 100 o 10∈c.s.cls by rw[hcl];exact List.mem_singleton.2 rfl);have ok2:xD {clK nmA 100 o 10 with frozen:=true}:=⟨okc.name,okc.trust,okc.len,okc.k,okc.rise⟩
 exact⟨ok.name,ok.h,ok.t,by show([_]:List aD).length<=4;simp,ok.lcn,ok.lch,ok.lsent,ok.lgot,ok.lacks,ok.lpus,λx hx=>by rw[List.mem_singleton.1 hx];exact ok2,ok.cns,ok.chs,ok.sent,ok.got,ok.acks,ok.pus⟩
theorem act_ref {c:ay}(ok:StOk c.s){m:MsgD}{x:Int}(h:(mg c.s m).2.err=x)(hx:¬x=0):(kX c m).2.err=x/\(kX c m).1=c:=by
 have e:doS c.s m=(c.s,dE x):=by unfold doS;rw[if_pos (aC.2 ok),if_neg (by rw[h];exact hx),h]
 unfold kX;rw[e];exact⟨rfl,if_neg hx⟩
theorem Uz {c o:ay}{a b:EndsD}(v:View 100 nmB nmA c o 11 9 a b){r:Bool}{S R K q T:Int}{dat:List UInt8}(h:a.cns=[⟨3,0,0,0⟩])(h':a.chs=[⟨3,r,0,0,S,R,K⟩])(hk:Yu ⟨0,0,q,dat,T⟩){e:EvD}(he:lD e (qx ⟨0,0,q,dat,T⟩)):Rs (frzC c o) o e 12:=by
 have ok:=Xo v;have oc:(frzC c o).s.cns=[⟨3,0,0,0⟩]:=(bS v).1.trans h;have oh:(frzC c o).s.chs=[⟨3,r,0,0,S,R,K⟩]:=(bS v).2.trans h';have ol:(frzC c o).s.cls=[{clK nmA 100 o 10 with frozen:=true}]:=rfl;have hov:overCh (frzC c o).s 0=(zeroCn,12):=by unfold overCh;rw[eD oc];simp only;rw[if_neg (show ¬((0:Int)<0\/((frzC c o).s.cns.length:Int)<=0) by rw[oc];show ¬((0:Int)<0\/(1:Int)<=0);decide),if_pos trivial,if_neg (show ¬(0:Int)<0 by decide),if_neg (show ¬((frzC c o).s.cls.length:Int)<=0 by rw[ol];show ¬(1:Int)<=0;decide),if_neg];rw[kM ol];unfold gp;simp
 have hend:(endPk (frzC c o).s 0 [3]).2.2=12:=by unfold endPk;rw[if_pos (aC.2 ok),if_neg (by rw[oh];simp),chAt_one oh,if_pos (show stIn 3 [3]=true by decide)];show(overCh (frzC c o).s 0).2=12;rw[hov]
 have key:∀ack w,(kG (frzC c o).s ⟨0,0,q,dat,T⟩ ack w).2=12:=λack w=>by unfold kG;rw[if_pos (bP.2 hk),if_neg (show ¬(endPk (frzC c o).s 0 [3]).2.2=0 by rw[hend];decide)];exact hend
 have hki:(showB (frzC c o) o (qx ⟨0,0,q,dat,T⟩)).kind=15:=by rw[BC];rfl
 have hpk:(showB (frzC c o) o (qx ⟨0,0,q,dat,T⟩)).pk=⟨0,0,q,dat,T⟩:=(MI _ o _).1;have h0:(mg (frzC c o).s (showB (frzC c o) o (qx ⟨0,0,q,dat,T⟩))).2.err=12:=by unfold mg;rw[hki,if_neg (by decide),if_neg (by decide),if_neg (by decide),if_neg (by decide),if_pos rfl];show(Gu _ _).2=12;unfold Gu;simp only;rw[hpk,if_neg (by rw[key];decide)];exact key _ _
 obtain⟨p,q⟩:=act_ref ok h0 (by decide);rw[<- zM (o:=o) he]at p q;exact⟨p,q⟩
theorem KQ {c o:ay}{a b:EndsD}(v:View 100 nmB nmA c o 11 9 a b){e:EvD}(he:Ab e 1):Rs (frzC c o) o e 12:=by
 have ok:=Xo v;have ol:(frzC c o).s.cls=[{clK nmA 100 o 10 with frozen:=true}]:=rfl;have hl:o.past.length=10:=by have:=v.len;omega
 have ht:(frzC c o).s.t=11:=v.sd.t;have hask:dJ {clK nmA 100 o 10 with frozen:=true} 11=12:=by unfold dJ;rw[if_pos (cu.2 (ok.cls _ (by rw[ol];exact List.mem_singleton.2 rfl))),if_pos (show lw 11=true by decide)];rfl
 have h0:(mg (frzC c o).s (folMsg (frzC c o) o 0)).2.err=12:=by
  unfold mg;rw[if_neg (show ¬((folMsg (frzC c o) o 0).kind<1\/18<(folMsg (frzC c o) o 0).kind) by show ¬((2:Int)<1\/(18:Int)<2);decide),if_pos (show(folMsg (frzC c o) o 0).kind<=3 by show(2:Int)<=3;decide)];unfold Jt;rw[if_neg (show ¬(folMsg (frzC c o) o 0).kind=1 by show ¬(2:Int)=1;decide),if_neg (show ¬((folMsg (frzC c o) o 0).cl<0\/((frzC c o).s.cls.length:Int)<=(folMsg (frzC c o) o 0).cl) by rw[ol];show ¬((0:Int)<0\/(1:Int)<=0);decide)];have hf:fw (gU (frzC c o).s (folMsg (frzC c o) o 0).cl) (folMsg (frzC c o) o 0).up (frzC c o).s.t=(kw,12):=by show fw (gU (frzC c o).s 0) _ _=_;unfold fw;rw[kM ol,ht,hask];rfl
  simp only;rw[if_pos (show(folMsg (frzC c o) o 0).kind=2 from rfl),hf];rfl
 obtain⟨p,q⟩:=act_ref ok h0 (by decide);have e1:oneB (frzC c o) o e=kX (frzC c o) (folMsg (frzC c o) o 0):=by rw[Ew he];unfold dw;rw[if_neg];rw[ol,hl];show ¬((10:Nat)=0\/(0:Int)<0\/(1:Int)<=0);decide
 rw[<- e1]at p q;exact⟨p,q⟩
def rtC (w:kY):List UInt8:=(dW (w.1.past.getD 9 YB).st).1
theorem kn_C {w:kY}{a b x y:EndsD}(l:Lk 100 w 11 a b x y):w.2.s.cls=[⟨nmA,100,false,knl w.1 10⟩]/\(knl w.1 10).length=10/\(rtC w).length=32 /\
  (∃k,(knl w.1 10)[8]?=some k/\k.h=9)/\(∃k,(knl w.1 10)[9]?=some k/\k.h=10/\k.t=10/\k.root=rtC w):=by
 have v:=YI l (by decide) (by decide);have hl:w.1.past.length=10:=by have:=v.len;omega
 have e9:w.1.past.getD 9 YB=w.1.past[9]'(by omega):=by rw[List.getD_eq_getElem?_getD,List.getElem?_eq_getElem (by omega)];rfl
 obtain⟨a1,a2,_⟩:=knl_get v.so (k:=10) (by omega) (i:=8) (by omega);obtain⟨b1,b2,b3⟩:=knl_get v.so (k:=10) (by omega) (i:=9) (by omega);refine⟨v.cl,zZ (by omega),?_,⟨_,a1,a2⟩,⟨_,b1,b2,b3,?_⟩⟩
 ·unfold rtC;rw[e9];exact(lY (v.so.past 9 (by omega)).2.2.1).2.2
 ·unfold rtC;rw[e9];rfl
theorem MR {w:kY}{n:Nat}{root:List UInt8}{x y:EndsD}(hn:1<=n/\n<=1000)(l:Lk 100 w 11 (A1 false n eveA 900) (ends4 false puB) x y)(hx:x=A1 false n eveA 900)(hr:root.length=32):
  (¬rtC w=root->∃w',Out w ([oneL 4 1 (catM (rtC w) root)]++([oneL 5 1 (qx (pkOf 1 (goldT n eveA) 900))]++[oneL 3 1 zeroMsg])) w' ([0]++([12]++[12]))) /\
  (rtC w=root->∃w' z,Out w ([oneL 4 1 (catM (rtC w) root)]++([oneL 5 1 (qx (pkOf 1 (goldT n eveA) 900))]++[oneL 3 1 zeroMsg])) w' ([8]++([0]++[z]))):=by
 have wt:wordOk eveA=true:=by decide
 have v:=YI l (by decide) (by decide);have r0:=(kn_C l).2.2.1;obtain⟨c1,c2⟩:=m_catch v r0 hr (e:=oneL 4 1 (catM (rtC w) root)) ⟨rfl,rfl⟩;constructor
 ·intro hne;obtain⟨p1,p2⟩:=c1 hne;have o1:Out w [oneL 4 1 (catM (rtC w) root)] (w.1,frzC w.2 w.1) [0]:=zL (by rw[ql rfl];exact⟨p1,by rw[p2]⟩);have hk:=Eo (q:=1) (T:=900) (n:=n) wt (by omega) (by omega);have m2:=Uz v (e:=oneL 5 1 (qx (pkOf 1 (goldT n eveA) 900))) rfl rfl hk ⟨rfl,rfl⟩;have o2:Out (w.1,frzC w.2 w.1) [oneL 5 1 (qx (pkOf 1 (goldT n eveA) 900))] (w.1,frzC w.2 w.1) [12]:=Zr rfl m2;have m3:=KQ v (e:=oneL 3 1 zeroMsg) ⟨rfl,rfl,rfl⟩;have o3:Out (w.1,frzC w.2 w.1) [oneL 3 1 zeroMsg] (w.1,frzC w.2 w.1) [12]:=Zr rfl m3;exact⟨_,o1.app (o2.app o3)⟩
 ·intro heq;have o1:Out w [oneL 4 1 (catM (rtC w) root)] w [8]:=Zr rfl (c2 heq);obtain⟨w'',o2,_⟩:=sc_recv hn wt eve_no (by decide) l hx;exact⟨_,_,o1.app (o2.app (zL ⟨rfl,rfl⟩))⟩
end Go.Proofs.YtdmeldhlbpdeeaaGreatDoor
