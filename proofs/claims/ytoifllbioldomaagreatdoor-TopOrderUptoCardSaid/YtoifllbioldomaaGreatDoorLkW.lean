/- Landtop, plain: more scripts. No program is in sight. -/
import Derived.Test.YtoifllbioldomaaGreatDoorGLt
set_option linter.all false
namespace Go.Proofs.YtoifllbioldomaaGreatDoor
open Go Go.Abs
def closeM:MsgD:={zeroMsg with kind:=12}
def closedM:MsgD:={zeroMsg with kind:=13}
theorem sc_closed (r:Bool){w:jw}{n:Nat}(hn:1<=n/\n<=1000)(l1:Lk 100 w 10 (A1 r n eveA 12) (ends4 r puB) (ends4 r puA) (ends4 r puB)):
  ∃w',Out w ([oneL 4 1 closeM]++(tickL++([oneL 5 0 closedM]++([oneL 4 0 (sendM (goldT 1 eveA) 900)]++([oneL 5 1 (recvM (pkOf 1 (goldT n eveA) 12))]++(tickL++(tickL++[oneL 5 0 (lateM (pkOf 1 (goldT n eveA) 12))]))))))) w'
   ([0]++([0,0,0,0]++([0]++([12]++([12]++([0,0,0,0]++([0,0,0,0]++[0]))))))) /\
   (∃c,w'.1.s.chs=[c]/\c.st=4)/\(∃c,w'.2.s.chs=[c]/\c.st=4)/\amtP w'.1.s.pus ownA goldA=1000/\aS w'.1.s.pus:=by
 have wt:wordOk eveA=true:=by decide
 have hp:=gD (n:=n) (tw:=eveA) ⟨hn.1,by omega⟩ wt
 have hk:=kY (q:=1) (T:=12) (n:=n) wt (by omega) (by omega)
 obtain⟨w2,o2,l2⟩:=o_ok1 (e:=oneL 4 1 closeM) l1 rfl (m_close (r:=r) (S:=1) (R:=1) (K:=1) (view1 l1 (by decide) (by decide)) ⟨rfl,rfl⟩ rfl rfl)
 obtain⟨w3,o3,l3⟩:=o_tick l2 (by decide) (by decide) (by decide)
 obtain⟨w4,o4,l4⟩:=o_ok0 (e:=oneL 5 0 closedM) l3 rfl (m_closed (r:=r) (S:=2) (R:=1) (K:=1) (view0 l3 (by decide) (by decide)) ⟨rfl,rfl⟩ rfl rfl (S':=1) (R':=1) (K':=1) rfl)
 have o5:=abW (w:=w4) (e:=oneL 4 0 (sendM (goldT 1 eveA) 900)) rfl (wF (x:=12) (r:=r) (st:=4) (S:=2) (R:=1) (K:=1) (t:=goldT 1 eveA) (T:=900) (view0 l4 (by decide) (by decide)) ⟨rfl,rfl⟩ (by decide) (.inr ⟨gD ⟨by decide,by decide⟩ wt,ann_no,.inl ⟨rfl,rfl,rfl⟩⟩))
 have o6:=Ng (w:=w4) (e:=oneL 5 1 (recvM (pkOf 1 (goldT n eveA) 12))) rfl (nL (x:=12) (r:=r) (st:=4) (S:=1) (R:=1) (K:=1) (q:=1) (T:=12) (view1 l4 (by decide) (by decide)) ⟨rfl,rfl⟩ rfl rfl hk (.inl ⟨rfl,rfl⟩))
 obtain⟨w7,o7,l7⟩:=o_tick l4 (by decide) (by decide) (by decide)
 obtain⟨w8,o8,l8⟩:=o_tick l7 (by decide) (by decide) (by decide)
 have hm:(moveP (puS n) safeA ownA goldA n).2=0:=oK (dD n) (by decide) (by decide) (by decide) (by omega) (by rw[jU hn,if_neg (λq=>ne1 q.1),if_pos ⟨rfl,rfl⟩];omega) (by rw[pV hn,if_pos rfl];decide) (by have:=pW n;omega)
 obtain⟨w9,o9,l9⟩:=o_ok0 (e:=oneL 5 0 (lateM (pkOf 1 (goldT n eveA) 12))) l8 rfl (m_late (r:=r) (t:=goldT n eveA) (st:=4) (S:=2) (R:=1) (K:=1) (q:=1) (T:=12) (pu:=(moveP (puS n) safeA ownA goldA n).1) (view0 l8 (by decide) (by decide)) ⟨rfl,rfl⟩ rfl rfl rfl hk sent_A1 (by decide) (st':=4) (S':=1) (R':=1) (K':=1) rfl (by decide) rfl rfl rfl hp
  (Dc (l:=puS n) (dD n) (by omega) (by rw[jU hn,if_neg (λq=>ne1 q.1),if_pos ⟨rfl,rfl⟩];omega) (by rw[pV hn,if_pos rfl];decide) (by have:=pW n;omega)))
 have e1:=l9.a.ends
 have e2:=l9.b.ends
 have p1:w9.1.s.pus=(moveP (puS n) safeA ownA goldA n).1:=congrArg EndsD.pus e1
 refine⟨w9,o2.app (o3.app (o4.app (o5.app (o6.app (o7.app (o8.app o9)))))),⟨_,congrArg EndsD.chs e1,by show(if r=true then(4:Int)else 4)=4;split<;>rfl⟩,⟨_,congrArg EndsD.chs e2,rfl⟩,?_,by rw[p1];exact gF (dD n) ..⟩
 rw[p1,(lg (dD n) hm).2.1,if_neg (λq=>ne2 q.1),if_pos ⟨rfl,rfl⟩,jU hn,if_pos ⟨rfl,rfl⟩,if_neg (λq=>ne2 q.1)]
 omega
def C1 (r:Bool)(n m:Nat)(tw:ByteArray):EndsD:=Mh (B1 r n eveA 900) r 1 (if r=true then 1+1 else 1) 1 (pkOf 1 (vouT m tw) 900) (burnP (mintP puB eveA vouA n).1 eveA vouA m).1
theorem sc_back (r:Bool){w:jw}{n m:Nat}{tw:ByteArray}(hn:1<=n/\n<=1000)(hm:1<=m/\m<=n)(wt:wordOk tw=true)(l1:Lk 100 w 10 (A1 r n eveA 900) (ends4 r puB) (ends4 r puA) (ends4 r puB)):
  ∃w0 w' d,Out w (tickL++[oneL 5 1 (recvM (pkOf 1 (goldT n eveA) 900))]) w0 ([0,0,0,0]++[0])/\fK w0 (oneL 4 1 (sendM (vouT m tw) 900))=(w',d)/\d.err=0/\d.pk=pkOf 1 (vouT m tw) 900/\Lk 100 w' 11 (A1 r n eveA 900) (C1 r n m tw) (A1 r n eveA 900) (ends4 r puB):=by
 have wt':wordOk eveA=true:=by decide
 have hp:=BV (n:=m) (tw:=tw) ⟨hm.1,by omega⟩ wt;have hk:=VG (q:=1) (T:=900) (n:=m) wt (by omega) (by omega);obtain⟨w2,o2,l2⟩:=o_tick l1 (by decide) (by decide) (by decide);obtain⟨w3,o3,l3⟩:=sc_recv hn wt' eve_no (by decide) l2 rfl;obtain⟨ms,mp⟩:=m_send (r:=r) (e:=oneL 4 1 (sendM (vouT m tw) 900)) (t:=vouT m tw) (T:=900) (S:=1) (R:=if r=true then 1+1 else 1) (K:=1) (view1 l3 (by decide) (by decide)) ⟨rfl,rfl⟩ rfl rfl hp eve_no hk (by decide) l50 (by decide)
  (NU (l:=(mintP puB eveA vouA n).1) (by rw[qV hn wt',if_pos rfl];omega))
 obtain⟨o4,l4⟩:=lk1 l3 rfl ms;refine⟨w3,_,_,o2.app o3,rfl,o4,?_,l4⟩;exact mp
theorem sc_home (r:Bool){w:jw}{n m:Nat}{tw:ByteArray}(hn:1<=n/\n<=1000)(hm:1<=m/\m<=n)(wt:wordOk tw=true)(hs:eY tw=false)(h1:¬tw=ownA)(h2:¬tw=safeA)(l1:Lk 100 w 11 (A1 r n eveA 900) (C1 r n m tw) (A1 r n eveA 900) (ends4 r puB)):
  ∃w',Out w (tickL++[oneL 5 0 (recvM (pkOf 1 (vouT m tw) 900))]) w' ([0,0,0,0]++[0])/\amtP w'.1.s.pus tw goldA=m/\amtP w'.1.s.pus safeA goldA=n-m/\amtP w'.2.s.pus eveA vouA=n-m/\aS w'.1.s.pus/\aS w'.2.s.pus:=by
 have wt':wordOk eveA=true:=by decide
 have hp:=BV (n:=m) (tw:=tw) ⟨hm.1,by omega⟩ wt;have hk:=VG (q:=1) (T:=900) (n:=m) wt (by omega) (by omega);have ha:amtP (puS n) safeA goldA=n:=by rw[jU hn,if_neg (λq=>ne1 q.1),if_pos ⟨rfl,rfl⟩];omega
 have hmv:(moveP (puS n) safeA tw goldA m).2=0:=oK (dD n) (by decide) wt (by decide) (by omega) (by rw[ha];omega) (by rw[pV hn,if_pos rfl];decide) (by have:=pW n;omega);obtain⟨w2,o2,l2⟩:=o_tick l1 (by decide) (by decide) (by decide);obtain⟨w3,o3,l3⟩:=o_ok0 (e:=oneL 5 0 (recvM (pkOf 1 (vouT m tw) 900))) l2 rfl (m_recv (r:=r) (t:=vouT m tw) (S:=2) (R:=1) (K:=1) (q:=1) (T:=900) (view0 l2 (by decide) (by decide)) ⟨rfl,rfl⟩ rfl rfl hp hs hk (by decide) l50 l50 (by decide) ⟨λ_=>rfl,λ_=>rfl⟩ ((KL.mem_put cmpM_ok).2 (.inr rfl))
  (Um (l:=puS n) (dD n) (by omega) wt (by rw[ha];omega) (by rw[pV hn,if_pos rfl];decide) (by have:=pW n;omega)))
 have e1:=l3.a.ends;have e2:=l3.b.ends;have p1:w3.1.s.pus=(moveP (puS n) safeA tw goldA m).1:=congrArg EndsD.pus e1;have p2:w3.2.s.pus=(burnP (mintP puB eveA vouA n).1 eveA vouA m).1:=congrArg EndsD.pus e2;have hr:=iD JY eveA vouA n;have hmb:=qV hn wt' eveA;rw[if_pos rfl]at hmb;have hb:(burnP (mintP puB eveA vouA n).1 eveA vouA m).2=0:=AB (by decide) (by decide) (by rw[hmb];omega);refine⟨w3,o2.app o3,?_,?_,?_,by rw[p1];exact gF (dD n) ..,by rw[p2];exact jM hr ..⟩
 ·rw[p1,(lg (dD n) hmv).2.1,if_neg (λq=>h2 q.1),if_pos ⟨rfl,rfl⟩,jU hn,if_neg (λq=>h1 q.1),if_neg (λq=>h2 q.1)];omega
 ·rw[p1,(lg (dD n) hmv).2.1,if_pos ⟨rfl,rfl⟩,if_neg (λq=>h2 q.1.symm),ha];omega
 ·rw[p2,(burn_ok hr hb).2.1,if_pos ⟨rfl,rfl⟩,hmb]
def A2 (r:Bool)(a b:Nat):EndsD:=Mh (A1 r a eveA 900) r 2 1 1 (pkOf 2 (goldT b eveA) 900) (moveP (puS a) ownA safeA goldA b).1
theorem sc_two (r:Bool){w:jw}{a b:Nat}(ha:1<=a/\a<=500)(hb:1<=b/\b<=500)(l1:Lk 100 w 10 (A1 r a eveA 900) (ends4 r puB) (ends4 r puA) (ends4 r puB)):
  ∃w' d,fK w (oneL 4 0 (sendM (goldT b eveA) 900))=(w',d)/\d.err=0/\d.pk=pkOf 2 (goldT b eveA) 900/\Lk 100 w' 10 (A2 r a b) (ends4 r puB) (ends4 r puA) (ends4 r puB):=by
 have wt:wordOk eveA=true:=by decide
 have hp:=gD (n:=b) (tw:=eveA) ⟨hb.1,by omega⟩ wt;have hk:=kY (q:=2) (T:=900) (n:=b) wt (by omega) (by omega);have ha':1<=a/\a<=1000:=by omega
 obtain⟨ms,mp⟩:=m_send (r:=r) (e:=oneL 4 0 (sendM (goldT b eveA) 900)) (t:=goldT b eveA) (T:=900) (S:=2) (R:=1) (K:=1) (view0 l1 (by decide) (by decide)) ⟨rfl,rfl⟩ rfl rfl hp ann_no hk (by decide) (by show(putM [] _).length<50;simp[KL.put]) (by decide)
  (xZ (l:=puS a) (dD a) (by omega) (by rw[jU ha',if_pos ⟨rfl,rfl⟩];omega) (by rw[pV ha',if_pos rfl];decide) (by have:=pW a;omega))
 obtain⟨o1,l2⟩:=lk0 l1 rfl ms;refine⟨_,_,rfl,o1,?_,l2⟩;exact mp
theorem YQ {m:MarkD}(h:KM m):kF [m]:=⟨by simpa using h,List.pairwise_singleton ..⟩
theorem sc_order (r:Bool){w:jw}{a b:Nat}(ha:1<=a/\a<=500)(hb:1<=b/\b<=500)(l1:Lk 100 w 10 (A2 r a b) (ends4 r puB) (ends4 r puA) (ends4 r puB)):
  ∃w',Out w (tickL++([oneL 5 1 (recvM (pkOf 2 (goldT b eveA) 900))]++([oneL 5 1 (recvM (pkOf 1 (goldT a eveA) 900))]++[oneL 5 1 (recvM (pkOf 2 (goldT b eveA) 900))]))) w'
   ([0,0,0,0]++([if r=true then 12 else 0]++([0]++[if r=true then 0 else 12])))/\amtP w'.2.s.pus eveA vouA=a+b/\aS w'.2.s.pus:=by
 have wt:wordOk eveA=true:=by decide
 have pa:=gD (n:=a) (tw:=eveA) ⟨ha.1,by omega⟩ wt;have pb:=gD (n:=b) (tw:=eveA) ⟨hb.1,by omega⟩ wt;have ka:=kY (q:=1) (T:=900) (n:=a) wt (by omega) (by omega);have kb:=kY (q:=2) (T:=900) (n:=b) wt (by omega) (by omega);have m2:(⟨0,2,digPk (pkOf 2 (goldT b eveA) 900)⟩:MarkD)∈(A2 r a b).sent:=(KL.mem_put cmpM_ok).2 (.inr rfl);have m1:(⟨0,1,digPk (pkOf 1 (goldT a eveA) 900)⟩:MarkD)∈(A2 r a b).sent:=(KL.mem_put cmpM_ok).2 (.inl ⟨(KL.mem_put cmpM_ok).2 (.inr rfl),by simp[mk]⟩);obtain⟨w2,o2,l2⟩:=o_tick l1 (by decide) (by decide) (by decide);have amt:∀{x y:Nat},(1<=x/\x<=500)->(1<=y/\y<=500)->nT puB 0 0 (goldT x eveA)=((mintP puB eveA vouA x).1,0)/\nT (mintP puB eveA vouA x).1 0 0 (goldT y eveA)=((mintP (mintP puB eveA vouA x).1 eveA vouA y).1,0)/\amtP (mintP (mintP puB eveA vouA x).1 eveA vouA y).1 eveA vouA=x+y/\aS (mintP (mintP puB eveA vouA x).1 eveA vouA y).1:=λ{x y} hx hy=>by
  have h1:=acx (n:=x) (tw:=eveA) (by omega) wt;have hr:=iD JY eveA vouA x;have hs:=(mint_ok JY h1).2.1 vouA;rw[if_pos rfl,sup_B,if_neg ne4]at hs;have hl:=He JY (o:=eveA) (d:=vouA) (n:=x);have hl':(mintP puB eveA vouA x).1.length<60:=by have:puB.length=1:=rfl;omega
  have h2:(mintP (mintP puB eveA vouA x).1 eveA vouA y).2=0:=zY (by omega) wt (by rw[hs];omega) hl';refine⟨wV (by omega) wt (by rw[sup_B,if_neg ne4];omega) l60,wV (by omega) wt (by rw[hs];omega) hl',?_,iD hr ..⟩;rw[(mint_ok hr h2).1,if_pos ⟨rfl,rfl⟩,qV (by omega) wt,if_pos rfl]
 cases r
 ·obtain⟨c1,c2,c3,c4⟩:=amt hb ha;obtain⟨w3,o3,l3⟩:=o_ok1 (e:=oneL 5 1 (recvM (pkOf 2 (goldT b eveA) 900))) l2 rfl (m_recv (r:=false) (t:=goldT b eveA) (S:=1) (R:=1) (K:=1) (q:=2) (T:=900) (view1 l2 (by decide) (by decide)) ⟨rfl,rfl⟩ rfl rfl pb eve_no kb (by decide) l50 l50 (by decide) ⟨λh=>(nomatch h),λ_=>rfl⟩ m2 c1);have g2:KM ⟨0,2,digPk (pkOf 2 (goldT b eveA) 900)⟩:=⟨(show N12 0 0 by unfold N12;decide),(show N12 1 2 by unfold N12;decide),wT _⟩
  have k2:KM ⟨0,2,sha [49]⟩:=⟨(show N12 0 0 by unfold N12;decide),(show N12 1 2 by unfold N12;decide),bX _⟩
  obtain⟨w4,o4,l4⟩:=o_ok1 (e:=oneL 5 1 (recvM (pkOf 1 (goldT a eveA) 900))) l3 rfl (m_recv (r:=false) (t:=goldT a eveA) (S:=1) (R:=1) (K:=1) (q:=1) (T:=900) (view1 l3 (by decide) (by decide)) ⟨rfl,rfl⟩ rfl rfl pa eve_no ka (by decide) (by show(putM [] _).length<50;simp[KL.put]) (by show(putM [] _).length<50;simp[KL.put]) (by decide)
   ⟨λh=>(nomatch h),λ_=>by show getM (putM [] ⟨0,2,digPk (pkOf 2 (goldT b eveA) 900)⟩) 0 1=none;rw[oN pX];rfl⟩ m1 c2)
  have o5:=Ng (w:=w4) (e:=oneL 5 1 (recvM (pkOf 2 (goldT b eveA) 900))) rfl (nL (x:=12) (r:=false) (st:=3) (S:=1) (R:=1) (K:=1) (q:=2) (T:=900) (view1 l4 (by decide) (by decide)) ⟨rfl,rfl⟩ rfl rfl kb (.inr (.inr ⟨rfl,by decide,.inr ⟨rfl,by show(getM (putM (putM [] ⟨0,2,digPk (pkOf 2 (goldT b eveA) 900)⟩) ⟨0,1,digPk (pkOf 1 (goldT a eveA) 900)⟩) 0 2).isSome=true;rw[oN (show kF (putM [] ⟨0,2,digPk (pkOf 2 (goldT b eveA) 900)⟩)from YQ g2),oN pX];rfl⟩,rfl⟩)))
  have p2:w4.2.s.pus=(mintP (mintP puB eveA vouA b).1 eveA vouA a).1:=congrArg EndsD.pus l4.b.ends;exact⟨w4,o2.app (o3.app (o4.app o5)),by rw[p2,c3];omega,by rw[p2];exact c4⟩
 ·obtain⟨c1,c2,c3,c4⟩:=amt ha hb;have o3:=Ng (w:=w2) (e:=oneL 5 1 (recvM (pkOf 2 (goldT b eveA) 900))) rfl (nL (x:=12) (r:=true) (st:=3) (S:=1) (R:=1) (K:=1) (q:=2) (T:=900) (view1 l2 (by decide) (by decide)) ⟨rfl,rfl⟩ rfl rfl kb (.inr (.inr ⟨rfl,by decide,.inl ⟨rfl,by decide⟩,rfl⟩)));obtain⟨w4,o4,l4⟩:=o_ok1 (e:=oneL 5 1 (recvM (pkOf 1 (goldT a eveA) 900))) l2 rfl (m_recv (r:=true) (t:=goldT a eveA) (S:=1) (R:=1) (K:=1) (q:=1) (T:=900) (view1 l2 (by decide) (by decide)) ⟨rfl,rfl⟩ rfl rfl pa eve_no ka (by decide) l50 l50 (by decide) ⟨λ_=>rfl,λh=>(nomatch h)⟩ m1 c1);obtain⟨w5,o5,l5⟩:=o_ok1 (e:=oneL 5 1 (recvM (pkOf 2 (goldT b eveA) 900))) l4 rfl (m_recv (r:=true) (t:=goldT b eveA) (S:=1) (R:=2) (K:=1) (q:=2) (T:=900) (view1 l4 (by decide) (by decide)) ⟨rfl,rfl⟩ rfl rfl pb eve_no kb (by decide) l50 (by show(putM [] _).length<50;simp[KL.put]) (by decide) ⟨λ_=>rfl,λh=>(nomatch h)⟩ m2 c2);have p2:w5.2.s.pus=(mintP (mintP puB eveA vouA a).1 eveA vouA b).1:=congrArg EndsD.pus l5.b.ends;exact⟨w5,o2.app (o3.app (o4.app o5)),by rw[p2,c3],by rw[p2];exact c4⟩
end Go.Proofs.YtoifllbioldomaaGreatDoor
