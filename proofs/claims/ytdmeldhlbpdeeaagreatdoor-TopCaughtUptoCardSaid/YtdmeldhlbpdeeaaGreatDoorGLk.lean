/- Merged texts: LkP, LkS, LkM, LkR, TldP. -/
import Derived.Test.YtdmeldhlbpdeeaaGreatDoorGLw
import Derived.Test.YtdmeldhlbpdeeaaGreatDoorGLaw5
import Derived.Test.YtdmeldhlbpdeeaaGreatDoorBrF
set_option linter.all false
namespace Go.Proofs.YtdmeldhlbpdeeaaGreatDoor
open Go Go.Abs
structure EndsD where
 cns:List ConnD
 chs:List ChanD
 sent:List MarkD
 got:List MarkD
 acks:List MarkD
 pus:List PurseD
def endsOf (s:StateD):EndsD:=⟨s.cns,s.chs,s.sent,s.got,s.acks,s.pus⟩
def gQ (nm:ByteArray):List (List UInt8):=[seedB nm 0,seedB nm 1,seedB nm 2]
structure uz (nm:ByteArray):Prop where
 ok:ic nm=true
 vals:nM (eY nm)
 sum:sumP (eY nm)=3
 voted:votedP (gQ nm) (eY nm)=3
theorem Ia {nm:ByteArray}{a b c:Nat}(h0:ic nm=true)(h1:keyF (seedB nm 0)=a)(h2:keyF (seedB nm 1)=b)(h3:keyF (seedB nm 2)=c)(h4:a<b)(h5:b<c):uz nm:=by
 have hv:eY nm=[⟨a,1⟩,⟨b,1⟩,⟨c,1⟩]:=by rw[vE (by rw[h1,h2];exact h4) (by rw[h2,h3];exact h5)];simp[List.range_succ,h1,h2,h3]
 refine⟨h0,?_,by rw[hv];rfl,?_⟩
 ·rw[hv];refine⟨by simp,λv hv=>?_,?_⟩
  ·simp only[List.mem_cons,List.not_mem_nil,or_false]at hv;rcases hv with rfl|rfl|rfl<;>simp
  ·simp only[List.pairwise_cons,List.mem_cons,List.not_mem_nil,or_false];refine⟨λx hx=>?_,λx hx=>?_,λx hx=>hx.elim,List.Pairwise.nil⟩
   ·rcases hx with rfl|rfl<;>(simp only;omega)
   ·subst hx;exact h5
 ·rw[hv];simp[votedP,DX,aal,gQ,h1,h2,h3]
theorem names_A:uz nmA:=Ia (by decide) OL EK OJ (by decide) (by decide)
theorem names_B:uz nmB:=Ia (by decide) adK aab adJ (by decide) (by decide)
theorem QO {s:StateD}(ok:StOk s):fM s=(sortP (rawS s),0):=by unfold fM;rw[if_pos (aC.2 ok)]
theorem lY {s:StateD}(ok:StOk s):(dW s).2=0/\(dW s).1=h_ (sortP (rawS s))/\(dW s).1.length=32:=by
 have hw:=gN (book_right ok);have e:(dW s).1=h_ (sortP (rawS s))/\(dW s).2=0:=by unfold dW;rw[QO ok];simp only[if_true];unfold zA;rw[hw];exact⟨rfl,rfl⟩
 exact⟨e.2,e.1,by rw[e.1];unfold h_ Gc;exact bg _⟩
def lG (nm:ByteArray)(s:StateD):kv:=⟨s.name,s.h,s.t,(dW s).1,digestV (eY nm),digestV (eY nm)⟩
def Gj (nm:ByteArray)(s:StateD):gG:=⟨lG nm s,eY nm,(eY nm).map (eO (lG nm s) (gQ nm))⟩
structure nN (nm:ByteArray) (c:ay) (n:Nat):Prop where
 ok:StOk c.s
 p64:P64 c.s.pus
 name:c.s.name=nm
 h:c.s.h=n
 t:c.s.t=n
 vals:c.vals=eY nm
 seeds:c.seeds=gQ nm
 len:c.past.length+1=n
 past:∀i (hi:i<c.past.length),c.past[i].sg=Gj nm c.past[i].st/\(c.past[i].st.h=(i:Int)+1/\c.past[i].st.t=(i:Int)+1)/\StOk c.past[i].st/\c.past[i].st.name=nm
theorem oI (l:List dA):(digestV l).length=32:=bg _
theorem Iy {nm:ByteArray}(nn:uz nm){s:StateD}(ok:StOk s)(h1:s.name=nm)(h2:1<=s.h):yJ (lG nm s) (eY nm):=by
 have hr:=(lY ok).2.2;have a:=ok.h;have b:=ok.t;unfold N12 at a b;refine⟨?_,nn.vals,rfl⟩;unfold fA;have e1:ic (lG nm s).c=true:=by show ic s.name=true;rw[h1];exact nn.ok
 have n1:lw s.h=true:=by unfold lw;exact decide_eq_true a
 have n2:lw s.t=true:=by unfold lw;exact decide_eq_true b
 rw[if_pos e1,if_neg (show ¬((lG nm s).h<1\/¬lw (lG nm s).h=true\/¬lw (lG nm s).t=true) by show ¬(s.h<1\/¬lw s.h=true\/¬lw s.t=true);rw[n1,n2];simp;omega)]
 have e2:(lG nm s).root.length=32:=hr;have e3:(lG nm s).vals.length=32:=oI _;have e4:(lG nm s).next.length=32:=oI _
 rw[if_neg (by rw[e2,e3,e4];decide)]
theorem Pe {nm:ByteArray}(nn:uz nm){s:StateD}(ok:StOk s)(h1:s.name=nm)(h2:1<=s.h):j_ (Gj nm s)=0 :=
 (pI (Iy nn ok h1 h2) (gQ nm)).2 (by rw[nn.sum,nn.voted];decide)
theorem blk_side {nm:ByteArray}{c:ay}{n:Nat}(nn:uz nm)(hs:nN nm c n)(hn:n<1000):
  aV c 1=({c with s:={c.s with h:=c.s.h+1,t:=c.s.t+1},past:=c.past++[⟨Gj nm c.s,c.s⟩]},⟨0,((c.past.length+1:Nat):Int),zeroPk⟩)/\nN nm (aV c 1).1 (n+1):=by
 have h0:=hs.h;have t0:=hs.t;have l0:=hs.len;have h1:kV c.s 1=({c.s with h:=c.s.h+1,t:=c.s.t+1},0):=by unfold kV;rw[if_pos (aC.2 hs.ok),if_neg (by omega)]
 have hh:Ag c=lG nm c.s:=by unfold Ag lG;rw[hs.vals]
 have h3:kU (Ag c) c.vals c.seeds=(Gj nm c.s,0):=by rw[hh,hs.vals,hs.seeds];exact Ef (Iy nn hs.ok hs.name (by omega)) (gQ nm)
 have e:aV c 1=({c with s:={c.s with h:=c.s.h+1,t:=c.s.t+1},past:=c.past++[⟨Gj nm c.s,c.s⟩]},⟨0,((c.past.length+1:Nat):Int),zeroPk⟩):=by unfold aV;rw[if_pos (by rw[h1]),if_pos (lY hs.ok).1,if_pos (by rw[h3]),h1,h3]
 refine⟨e,?_⟩;rw[e];have ok:=hs.ok;refine⟨⟨ok.name,by unfold N12;simp only;omega,by unfold N12;simp only;omega,ok.lcl,ok.lcn,ok.lch,ok.lsent,ok.lgot,ok.lacks,ok.lpus,ok.cls,ok.cns,ok.chs,ok.sent,ok.got,ok.acks,ok.pus⟩,hs.p64,hs.name,by simp only;omega,by simp only;omega,hs.vals,hs.seeds,by simp;omega,λi hi=>?_⟩;by_cases h:i<c.past.length
 ·simp only[List.getElem_append_left h];exact hs.past i h
 ·have:i=c.past.length:=by simp at hi;omega
  subst this;simp only[List.getElem_append_right (Nat.le_refl _),Nat.sub_self,List.getElem_cons_zero];exact⟨trivial,⟨by omega,by omega⟩,hs.ok,hs.name⟩
def knl (o:ay)(k:Nat):List aT:=(o.past.take k).map λe=>ofH e.sg.hdr
def clK (onm:ByteArray)(trust:Int)(o:ay)(k:Nat):aD:=⟨onm,trust,false,knl o k⟩
theorem zZ {o:ay}{k:Nat}(h:k<=o.past.length):(knl o k).length=k:=by unfold knl;simp;omega
theorem knl_get {nm:ByteArray}{o:ay}{m k:Nat}(hs:nN nm o m)(hk:k<=o.past.length){i:Nat}(hi:i<k):
  (knl o k)[i]?=some (ofH (lG nm (o.past[i]'(by omega)).st))/\(ofH (lG nm (o.past[i]'(by omega)).st)).h=(i:Int)+1/\(ofH (lG nm (o.past[i]'(by omega)).st)).t=(i:Int)+1:=by
 obtain⟨a,b,_⟩:=hs.past i (by omega);refine⟨?_,b.1,b.2⟩;unfold knl;rw[List.getElem?_map,List.getElem?_take_of_lt hi,List.getElem?_eq_getElem (by omega),Option.map_some,a];rfl
theorem OG {nm:ByteArray}{o:ay}{m k:Nat}(hs:nN nm o m)(hk:k<=o.past.length){x:aT}(hx:x∈knl o k):x.h<=k/\x.t<=k:=by
 obtain⟨i,e⟩:=List.mem_iff_getElem?.1 hx;have hi:=(List.getElem?_eq_some_iff.1 e).1;rw[zZ hk]at hi;obtain⟨a,b,c⟩:=knl_get hs hk hi;rw[a]at e;injection e with e
 subst e;omega
theorem at_knl {nm onm:ByteArray}{o:ay}{m k:Nat}{trust:Int}(hs:nN nm o m)(hk:k<=o.past.length){i:Nat}(hi:i<k):atC (clK onm trust o k) ((i:Int)+1)=some (ofH (lG nm (o.past[i]'(by omega)).st)):=by obtain⟨a,b,c⟩:=knl_get hs hk hi;obtain⟨hl,e⟩:=List.getElem?_eq_some_iff.1 a;unfold atC;show(knl o k).find? _=_;rw[List.find?_eq_some_iff_getElem];refine⟨by rw[b];simp,i,hl,e,λj hj=>?_⟩;obtain⟨a',b',_⟩:=knl_get hs hk (i:=j) (by omega);obtain⟨hl',e'⟩:=List.getElem?_eq_some_iff.1 a';rw[e',b'];simp;omega
theorem Vy {nm onm:ByteArray}{o:ay}{m k:Nat}{trust:Int}(hs:nN nm o m)(hk:k<=o.past.length):atC (clK onm trust o k) ((k:Int)+1)=none:=by unfold atC;rw[List.find?_eq_none];intro x hx;have:=(OG hs hk hx).1;simp;omega
theorem Im {nm onm:ByteArray}{o:ay}{m k:Nat}{trust:Int}(hs:nN nm o m)(hk:k<=o.past.length)(h1:1<=k):ky (clK onm trust o k)=ofH (lG nm (o.past[k-1]'(by omega)).st):=by obtain⟨a,_⟩:=knl_get hs hk (i:=k-1) (by omega);have hl:=zZ hk;unfold ky;show(knl o k).getLastD Bg=_;rw[List.getLastD_eq_getLast?,List.getLast?_eq_getElem?,hl,a];rfl
theorem Wi {α:Type}{p:α->Bool}:∀{l:List α},(∀x∈l,p x=true)->l.takeWhile p=l
 |[],_=>rfl
 |x::t,h=>by rw[List.takeWhile_cons,if_pos (h x (List.mem_cons_self ..)),Wi λy hy=>h y (List.mem_cons_of_mem _ hy)]
theorem Io {o:ay}{k:Nat}(h:k<o.past.length):knl o (k+1)=knl o k++[ofH o.past[k].sg.hdr]:=by unfold knl;rw[List.take_succ_eq_append_getElem h,List.map_append];rfl
theorem Zh {nm onm:ByteArray}{o:ay}{m k:Nat}{trust:Int}(hs:nN nm o m)(hk:k<o.past.length)(h30:k<30):Bc (clK onm trust o k) (ofH o.past[k].sg.hdr)=clK onm trust o (k+1):=by
 obtain⟨a,b,_,_⟩:=hs.past k hk;have hh:(ofH o.past[k].sg.hdr).h=(k:Int)+1/\(ofH o.past[k].sg.hdr).t=(k:Int)+1:=by rw[a];exact b
 have hl:=zZ (o:=o) (k:=k) (by omega);have hlow:jI (knl o k) ((k:Int)+1)=k:=by unfold jI;rw[Wi λx hx=>?_,hl];have:=(OG hs (by omega) hx).1;simp;omega
 unfold Bc;rw[hh.1,Vy hs (by omega)];simp only;have hb:aaX (clK onm trust o k).known (jI (clK onm trust o k).known ((k:Int)+1)) (ofH o.past[k].sg.hdr)=false:=by
  show aaX (knl o k) (jI (knl o k) ((k:Int)+1)) _=false;rw[hlow];unfold aaX;rw[Bool.or_eq_false_iff];refine⟨?_,by rw[List.getElem?_eq_none (by omega)];rfl⟩;rw[Bool.and_eq_false_iff];by_cases h0:0<k
  ·right;obtain⟨x,y,z⟩:=knl_get hs (k:=k) (by omega) (i:=k-1) (by omega);rw[x,Option.any_some,hh.2];simp only[decide_eq_false_iff_not];omega
  ·left;simpa using h0
 rw[hb];simp only[Bool.false_eq_true,if_false];show({clK onm trust o k with known:=KV ((knl o k).take (jI (knl o k) ((k:Int)+1))++_::(knl o k).drop (jI (knl o k) ((k:Int)+1)))}:aD)=_;rw[hlow,List.take_of_length_le (by omega),List.drop_of_length_le (by omega)];have hc:KV (knl o k++[ofH o.past[k].sg.hdr])=knl o k++[ofH o.past[k].sg.hdr]:=by unfold KV;rw[if_neg (by simp;omega)]
 rw[hc,<- Io hk];rfl
theorem Ju {onm:ByteArray}{trust:Int}{o o':ay}{k:Nat}(hk:k<=o.past.length){e:List EndD}(h:o'.past=o.past++e):clK onm trust o' k=clK onm trust o k:=by unfold clK knl;rw[h,List.take_append_of_le_length hk]
theorem aeN {s:StateD}{m:MsgD}(ok:StOk s)(h:(mg s m).2.err=0):doS s m=mg s m:=by unfold doS;rw[if_pos (aC.2 ok),if_pos h]
theorem act_eq {nm:ByteArray}{c:ay}{n:Nat}(hs:nN nm c n){m:MsgD}(h:(mg c.s m).2.err=0):kX c m=({c with s:=(mg c.s m).1},(mg c.s m).2)/\nN nm (kX c m).1 n:=by
 have e:=aeN hs.ok h;have hd:(doS c.s m).2.err=0:=by rw[e];exact h
 have st:=Ja hs.p64 hd;rw[e]at st;have e2:kX c m=({c with s:=(mg c.s m).1},(mg c.s m).2):=by unfold kX;rw[if_pos hd,e]
 refine⟨e2,?_⟩;rw[e2];exact⟨st.ok,st.p64,st.nm.trans hs.name,st.hh.trans hs.h,st.tt.trans hs.t,hs.vals,hs.seeds,hs.len,hs.past⟩
theorem fol_side {nm onm:ByteArray}{c o:ay}{n m k:Nat}{trust:Int}(nn:uz onm)(hs:nN nm c n)(ho:nN onm o m)(hc:c.s.cls=[clK onm trust o k])(hk:k+1=o.past.length)(h1:1<=k)(h30:k<30)(ht:(n:Int)-k<trust)(hn:k<=n):
  dw c o 0=({c with s:={c.s with cls:=[clK onm trust o (k+1)]}},dE 0)/\nN nm (dw c o 0).1 n:=by
 have hcl:gU c.s 0=clK onm trust o k:=by unfold gU;rw[hc];rfl
 have hlast:lastB o=o.past[k]'(by omega):=by obtain⟨hi,e⟩:=last_pastB (o:=o) (by omega);rw[e];congr 1;omega
 obtain⟨a,b,okb,nb⟩:=ho.past k (by omega);obtain⟨a',b',okb',nb'⟩:=ho.past (k-1) (by omega);have hX:=Im (onm:=onm) (trust:=trust) ho (k:=k) (by omega) h1;have okc:=hs.ok.cls _ (show clK onm trust o k∈c.s.cls by rw[hc];exact List.mem_singleton.2 rfl);have tt:=hs.t;have oot:=hs.ok.t;unfold N12 at oot;have hask:dJ (clK onm trust o k) c.s.t=0:=by unfold dJ;rw[if_pos (cu.2 okc),if_pos (show lw c.s.t=true by unfold lw;exact decide_eq_true oot)];rfl
 have hfr:(folMsg c o 0).up.fr=((k-1:Nat):Int)+1:=by show(ky (gU c.s 0)).h=_;rw[hcl,hX];exact b'.1
 have hsg:(folMsg c o 0).up.sg=Gj onm (o.past[k]'(by omega)).st:=by show(lastB o).sg=_;rw[hlast,a]
 have hbe:beE (clK onm trust o k) (folMsg c o 0).up c.s.t=0:=by unfold beE;rw[hsg,if_pos (Pe nn okb nb (by omega)),hfr,at_knl ho (by omega) (by omega)];simp only;unfold abD afg;rw[hsg];have q1:(Gj onm (o.past[k]'(by omega)).st).hdr.c=(clK onm trust o k).c:=nb;have q2:(Gj onm (o.past[k]'(by omega)).st).hdr.h=(k:Int)+1:=b.1;have q3:(Gj onm (o.past[k]'(by omega)).st).hdr.t=(k:Int)+1:=b.2;have q4:(ofH (lG onm (o.past[k-1]'(by omega)).st)).h=((k-1:Nat):Int)+1:=b'.1;have q5:(ofH (lG onm (o.past[k-1]'(by omega)).st)).t=((k-1:Nat):Int)+1:=b'.2;have q6:(clK onm trust o k).trust=trust:=rfl;rw[if_pos q1,q2,q3,q4,q5,q6,if_neg (by omega),if_neg (by omega),if_neg (by omega),if_pos (by omega),if_pos (show(Gj onm (o.past[k]'(by omega)).st).hdr.vals=(ofH (lG onm (o.past[k-1]'(by omega)).st)).next from rfl)]
 have hfo:fw (clK onm trust o k) (folMsg c o 0).up c.s.t=(clK onm trust o (k+1),0):=by
  unfold fw;rw[if_pos hask,if_pos hbe];have e:ofH (folMsg c o 0).up.sg.hdr=ofH (o.past[k]'(by omega)).sg.hdr:=by rw[hsg,a]
  rw[e,Zh ho (by omega) h30]
 have h0:mg c.s (folMsg c o 0)=({c.s with cls:=[clK onm trust o (k+1)]},dE 0):=by unfold mg;rw[if_neg (by simp[folMsg]),if_pos (by simp[folMsg])];unfold Jt;rw[if_neg (by simp[folMsg]),if_neg (show ¬((folMsg c o 0).cl<0\/(c.s.cls.length:Int)<=(folMsg c o 0).cl) by rw[hc];simp[folMsg])];simp only[show(folMsg c o 0).kind=2 from rfl,show(folMsg c o 0).cl=0 from rfl,if_true];rw[hcl,hfo];simp only[if_true];rw[hc];rfl
 obtain⟨e,f⟩:=act_eq hs (m:=folMsg c o 0) (by rw[h0];rfl);have e2:dw c o 0=kX c (folMsg c o 0):=by
  unfold dw;rw[if_neg];rintro(q|q|q)
  ·omega
  ·omega
  ·rw[hc]at q;simp at q
 rw[e2];refine⟨?_,f⟩;rw[e,h0]
theorem show_has {l:List aN}(hr:xC l){K v:List UInt8}(hm:(⟨K,v⟩:aN)∈l):(iQ l K).1.k=K/\(iQ l K).1.v=v/\dV (h_ l) (iQ l K).1=true:=by
 obtain⟨a,ha,e⟩:=List.getElem_of_mem hm;have hk:l[a].k=K:=by rw[e]
 have hv:l[a].v=v:=by rw[e]
 have h0:Lib.compareBytes l[a].k K=0:=(qU _ _).2 hk;have h1:¬a<placeF l K:=λq=>by have:=(ll hr K a ha).2 q;omega
 have h2:placeF l K=a:=by
  rcases Nat.lt_or_ge (placeF l K) a with q|q
  ·have:=hr.ord (placeF l K) a (by omega) ha q;rw[hk]at this;have:=(ll hr K (placeF l K) (by omega)).1 this;omega
  ·omega
 subst h2;have hs:iQ l K=(atF l (placeF l K) ha,0):=by unfold iQ;rw[gN hr];simp only[if_true,dif_pos ha,if_pos hk]
 rw[hs];exact⟨hk,hv,uJ hr _ ha⟩
theorem zH {nm:ByteArray}{o:ay}{m k:Nat}(ho:nN nm o m)(hk:k+1=o.past.length):atB o ((k:Int)+1)=some (o.past[k]'(by omega))/\lastB o=o.past[k]'(by omega):=by
 constructor
 ·unfold atB;rw[List.find?_eq_some_iff_getElem];obtain⟨a,b,_⟩:=ho.past k (by omega);have hh:(o.past[k]'(by omega)).sg.hdr.h=(k:Int)+1:=by rw[a];exact b.1
  refine⟨by rw[hh];simp,k,by omega,rfl,λj hj=>?_⟩;obtain⟨a',b',_⟩:=ho.past j (by omega);have hh':(o.past[j]'(by omega)).sg.hdr.h=(j:Int)+1:=by rw[a'];exact b'.1
  rw[hh'];simp;omega
 ·obtain⟨hi,e⟩:=last_pastB (o:=o) (by omega);rw[e];congr 1;omega
theorem JP {nm onm:ByteArray}{o:ay}{m k:Nat}{trust now:Int}(ho:nN onm o m)(hk:k+1=o.past.length)(ht:now-((k:Int)+1)<trust):gp (clK onm trust o (k+1)) now=true/\(ky (clK onm trust o (k+1))).h=(k:Int)+1:=by have hX:=Im (onm:=onm) (trust:=trust) ho (k:=k+1) (by omega) (by omega);obtain⟨_,b,_⟩:=ho.past k (by omega);simp only[Nat.add_sub_cancel]at hX;unfold gp;rw[hX];refine⟨?_,b.1⟩;show(!false&&decide (now-(o.past[k]'(by omega)).st.t<trust))=true;rw[b.2];simp;omega
theorem aiv {nm onm:ByteArray}{c o:ay}{n m k:Nat}{trust:Int}{K v:List UInt8}(hs:nN nm c n)(ho:nN onm o m)(hc:c.s.cls=[clK onm trust o (k+1)])(hk:k+1=o.past.length)(ht:(n:Int)-((k:Int)+1)<trust)(hm:(⟨K,v⟩:aN)∈rawS (o.past[k]'(by omega)).st):
  bF (clK onm trust o (k+1)) c.s.t ((k:Int)+1) K v (iQ (fM (o.past[k]'(by omega)).st).1 K).1=0:=by
 obtain⟨_,_,oke,_⟩:=ho.past k (by omega);have okc:=hs.ok.cls _ (show clK onm trust o (k+1)∈c.s.cls by rw[hc];exact List.mem_singleton.2 rfl);have oot:=hs.ok.t;unfold N12 at oot;have hask:dJ (clK onm trust o (k+1)) c.s.t=0:=by unfold dJ;rw[if_pos (cu.2 okc),if_pos (show lw c.s.t=true by unfold lw;exact decide_eq_true oot)];rfl
 have hb:=QO oke;have hm':(⟨K,v⟩:aN)∈sortP (rawS (o.past[k]'(by omega)).st):=(nV _).mem_iff.2 hm;obtain⟨s1,s2,s3⟩:=show_has (book_right oke) hm';unfold bF;rw[if_pos hask,at_knl ho (by omega) (by omega)];simp only;rw[if_pos (JP (nm:=nm) ho hk (by rw[hs.t];exact ht)).1,hb];simp only;rw[if_pos];refine⟨s1,s2,?_⟩;show dV (dW (o.past[k]'(by omega)).st).1 _=true;rw[(lY oke).2.1];exact s3
theorem kM {s:StateD}{x:aD}(h:s.cls=[x]):gU s 0=x:=by unfold gU;rw[h];rfl
theorem o_ {nm onm:ByteArray} {c o:ay} {n m k:Nat} {trust:Int} {msg:MsgD} {K:List UInt8} (hs:nN nm c n) (ho:nN onm o m) (hc:c.s.cls=[clK onm trust o (k+1)]) (hk:k+1=o.past.length) (ht:(n:Int) - ((k:Int)+1) < trust) (ha:iA c { msg with sh:=zSh }=(0,K,false,true)) :
  showB c o msg={ msg with sh:={ zSh with h:=(k:Int)+1,p:=(iQ (fM (o.past[k]'(by omega)).st).1 K).1 },next:=ZA { msg with sh:=zSh } (o.past[k]'(by omega)).st }:=by
 have hl:=(JP (nm:=nm) (trust:=trust) ho hk (now:=c.s.t) (by rw [hs.t]; exact ht)).2
 unfold showB vM
 rw [ha]
 simp only
 rw [if_neg (by rw [hc]; simp),kM hc,hl,(zH ho hk).1]
 simp only [Bool.false_eq_true,if_false]
theorem MJ {c o:ay}{msg:MsgD}{x:Int}{K:List UInt8}{g:Bool}(ha:iA c {msg with sh:=zSh}=(x,K,g,false)):showB c o msg={msg with sh:=zSh}:=by unfold showB vM;rw[ha];simp only[if_true,true_or]
structure JY (trust:Int) (nm onm:ByteArray) (c o:ay) (n:Nat) (a l:EndsD):Prop where
 sd:nN nm c n
 cl:c.s.cls=[clK onm trust o (n-1)]
 ends:endsOf c.s=a
 last:endsOf (lastB c).st=l
theorem ou {c:ay}{p:List EndD}{e:EndD}(h:c.past=p++[e]):lastB c=e:=by unfold lastB;rw[h,List.getLastD_eq_getLast?,List.getLast?_concat];rfl
theorem u_ {onm:ByteArray}{trust:Int}{o o':ay}{k:Nat}(h:o'.past=o.past):clK onm trust o' k=clK onm trust o k:=by unfold clK knl;rw[h]
theorem tick {trust:Int}{c o:ay}{n:Nat}{a b x y:EndsD}{nm onm:ByteArray}(nn:uz nm)(mm:uz onm)(hA:JY trust nm onm c o n a x)(hB:JY trust onm nm o c n b y)(h2:2<=n)(h30:n<=30)(ht:2<trust){c1 o1 c2 o2:ay}(e1:c1=(aV c 1).1)(e2:o1=(aV o 1).1)(e3:c2=(dw c1 o1 0).1)(e4:o2=(dw o1 c2 0).1):
  ((aV c 1).2.err=0/\(aV o 1).2.err=0/\(dw c1 o1 0).2.err=0/\(dw o1 c2 0).2.err=0)/\JY trust nm onm c2 o2 (n+1) a a/\JY trust onm nm o2 c2 (n+1) b b:=by
 obtain⟨q1,s1⟩:=blk_side nn hA.sd (by omega);obtain⟨q2,s2⟩:=blk_side mm hB.sd (by omega);rw[<- e1]at s1;rw[<- e2]at s2;have lc:=hA.sd.len;have lo:=hB.sd.len;have pc:c1.past=c.past++[⟨Gj nm c.s,c.s⟩]:=by rw[e1,q1]
 have po:o1.past=o.past++[⟨Gj onm o.s,o.s⟩]:=by rw[e2,q2]
 have cc:c1.s.cls=[clK onm trust o1 (n-1)]:=by
  have:c1.s.cls=c.s.cls:=by rw[e1,q1]
  rw[this,hA.cl,Ju (by omega) po]
 obtain⟨q3,s3⟩:=fol_side mm s1 s2 cc (k:=n-1) (by rw[po];simp;omega) (by omega) (by omega) (by omega) (by omega);rw[<- e3]at s3;have pc2:c2.past=c1.past:=by rw[e3,q3]
 have oc:o1.s.cls=[clK nm trust c2 (n-1)]:=by
  have:o1.s.cls=o.s.cls:=by rw[e2,q2]
  rw[this,hB.cl,u_ pc2,Ju (by omega) pc]
 obtain⟨q4,s4⟩:=fol_side nn s2 s3 oc (k:=n-1) (by rw[pc2,pc];simp;omega) (by omega) (by omega) (by omega) (by omega);rw[<- e4]at s4;have po2:o2.past=o1.past:=by rw[e4,q4]
 refine⟨⟨by rw[q1],by rw[q2],by rw[q3];rfl,by rw[q4];rfl⟩,⟨s3,?_,?_,?_⟩,⟨s4,?_,?_,?_⟩⟩
 ·rw[e3,q3,u_ po2];simp only[Nat.add_sub_cancel,show n-1+1=n by omega]
 ·rw[e3,q3];show endsOf c1.s=a;rw[e1,q1];exact hA.ends
 ·rw[ou (pc2.trans pc)];exact hA.ends
 ·rw[e4,q4];simp only[Nat.add_sub_cancel,show n-1+1=n by omega]
 ·rw[e4,q4];show endsOf o1.s=b;rw[e2,q2];exact hB.ends
 ·rw[ou (po2.trans po)];exact hB.ends
structure Lk (trust:Int) (w:kY) (n:Nat) (a b x y:EndsD):Prop where
 a:JY trust nmA nmB w.1 w.2 n a x
 b:JY trust nmB nmA w.2 w.1 n b y
def Cv (e:EvD)(k:Int):Prop:=e.kind=1/\e.side=k/\e.later=1
def Ab (e:EvD)(k:Int):Prop:=e.kind=3/\e.side=k/\e.cl=0
theorem NE {c o:ay}{e:EvD}{k:Int}(h:Cv e k):oneB c o e=aV c 1:=by unfold oneB;rw[if_pos h.1,h.2.2]
theorem Ew {c o:ay}{e:EvD}{k:Int}(h:Ab e k):oneB c o e=dw c o 0:=by unfold oneB;rw[if_neg (by rw[h.1];decide),if_neg (by rw[h.1];decide),if_pos h.1,h.2.2]
def xB (l:List jE):Prop:=∀d∈l,d.err=0
theorem run_tick {trust:Int}{w:kY}{n:Nat}{a b x y:EndsD}(h:Lk trust w n a b x y)(h2:2<=n)(h30:n<=30)(ht:2<trust){e1 e2 e3 e4:EvD}(k1:Cv e1 0)(k2:Cv e2 1)(k3:Ab e3 0)(k4:Ab e4 1):
  xB (gJ w [e1,e2,e3,e4]).2/\Lk trust (gJ w [e1,e2,e3,e4]).1 (n+1) a b a b:=by
 obtain⟨c,o⟩:=w;obtain⟨⟨d1,d2,d3,d4⟩,hA,hB⟩:=tick names_A names_B h.a h.b h2 h30 ht rfl rfl rfl rfl;have r:gJ (c,o) [e1,e2,e3,e4]=(((dw (aV c 1).1 (aV o 1).1 0).1,(dw (aV o 1).1 (dw (aV c 1).1 (aV o 1).1 0).1 0).1),[(aV c 1).2,(aV o 1).2,(dw (aV c 1).1 (aV o 1).1 0).2,(dw (aV o 1).1 (dw (aV c 1).1 (aV o 1).1 0).1 0).2]):=by simp only[gJ];rw[ug k1.2.1,NE k1,ql k2.2.1,NE k2,ug k3.2.1,Ew k3,ql k4.2.1,Ew k4]
 rw[r];refine⟨λd hd=>?_,⟨hA,hB⟩⟩;simp only[List.mem_cons,List.not_mem_nil,or_false]at hd;rcases hd with rfl|rfl|rfl|rfl<;>assumption
structure MsgOk (nm:ByteArray) (c o:ay) (n:Nat) (e:EvD) (a:EndsD):Prop where
 err:(oneB c o e).2.err=0
 sd:nN nm (oneB c o e).1 n
 cls:(oneB c o e).1.s.cls=c.s.cls
 ends:endsOf (oneB c o e).1.s=a
 past:(oneB c o e).1.past=c.past
theorem uX {trust:Int}{nm onm:ByteArray}{c o:ay}{n:Nat}{a x a':EndsD}{e:EvD}(h:JY trust nm onm c o n a x)(m:MsgOk nm c o n e a'):JY trust nm onm (oneB c o e).1 o n a' x :=
 ⟨m.sd,m.cls.trans h.cl,m.ends,by have:lastB (oneB c o e).1=lastB c:=by unfold lastB;rw[m.past]
                                  rw[this];exact h.last⟩
theorem uY {trust:Int}{nm onm:ByteArray}{c c' o:ay}{n:Nat}{b y:EndsD}(h:JY trust onm nm o c n b y)(hp:c'.past=c.past):JY trust onm nm o c' n b y :=
 ⟨h.sd,by rw[u_ hp];exact h.cl,h.ends,h.last⟩
theorem turn0 {trust:Int}{w:kY}{n:Nat}{a b x y a':EndsD}(h:Lk trust w n a b x y)(h2:2<=n)(h30:n<=30)(ht:2<trust){e e1 e2 e3 e4:EvD}(k:e.side=0)(m:MsgOk nmA w.1 w.2 n e a')(k1:Cv e1 0)(k2:Cv e2 1)(k3:Ab e3 0)(k4:Ab e4 1):
  xB (gJ w [e,e1,e2,e3,e4]).2/\Lk trust (gJ w [e,e1,e2,e3,e4]).1 (n+1) a' b a' b:=by
 have hs:=ug (w:=w) k;have hl:Lk trust (iF w e).1 n a' b x y:=by rw[hs];exact⟨uX h.a m,uY h.b m.past⟩
 obtain⟨p,q⟩:=run_tick hl h2 h30 ht k1 k2 k3 k4;refine⟨λd hd=>?_,q⟩;rcases List.mem_cons.1 hd with rfl|hd
 ·rw[hs];exact m.err
 ·exact p d hd
theorem turn1 {trust:Int}{w:kY}{n:Nat}{a b x y b':EndsD}(h:Lk trust w n a b x y)(h2:2<=n)(h30:n<=30)(ht:2<trust){e e1 e2 e3 e4:EvD}(k:e.side=1)(m:MsgOk nmB w.2 w.1 n e b')(k1:Cv e1 0)(k2:Cv e2 1)(k3:Ab e3 0)(k4:Ab e4 1):
  xB (gJ w [e,e1,e2,e3,e4]).2/\Lk trust (gJ w [e,e1,e2,e3,e4]).1 (n+1) a b' a b':=by
 have hs:=ql (w:=w) k;have hl:Lk trust (iF w e).1 n a b' x y:=by rw[hs];exact⟨uY h.a m.past,uX h.b m⟩
 obtain⟨p,q⟩:=run_tick hl h2 h30 ht k1 k2 k3 k4;refine⟨λd hd=>?_,q⟩;rcases List.mem_cons.1 hd with rfl|hd
 ·rw[hs];exact m.err
 ·exact p d hd
def lD (e:EvD)(m:MsgD):Prop:=e.kind=5/\e.m=m
theorem zM {c o:ay}{e:EvD}{m:MsgD}(h:lD e m):oneB c o e=kX c (showB c o m):=by unfold oneB;rw[if_neg (by rw[h.1];decide),if_neg (by rw[h.1];decide),if_neg (by rw[h.1];decide),if_neg (by rw[h.1];decide),if_pos h.1,h.2]
theorem nA {nm:ByteArray}{c o:ay}{n:Nat}{e:EvD}{m:MsgD}{a:EndsD}(hs:nN nm c n)(he:lD e m)(k:4<=(showB c o m).kind/\(showB c o m).kind<=13){t:StateD}{x:Int}(ha:endA c.s (showB c o m)=(t,x,0))(hc:t.cls=c.s.cls)(hd:endsOf t=a):MsgOk nm c o n e a:=by
 have h0:mg c.s (showB c o m)=(t,⟨0,x,zeroPk⟩):=by unfold mg;rw[if_neg (by omega),if_neg (by omega),if_pos (by omega),ha]
 obtain⟨e1,e2⟩:=act_eq hs (m:=showB c o m) (by rw[h0]);have eo:=zM (c:=c) (o:=o) he;rw[<- eo]at e1 e2;rw[h0]at e1;exact⟨by rw[e1],e2,by rw[e1];exact hc,by rw[e1];exact hd,by rw[e1]⟩
theorem acp {s:StateD}{x:ConnD}(h:s.cns=[x]):(⟨keyC 0,kQ x⟩:aN)∈rawS s:=by have:=XN (i:=0) (l:=s.cns) (j:=0) (by rw[h];simp);simp only[rawS,List.mem_append];refine .inl (.inl (.inl (.inl ?_)));simpa[h]using this
theorem acr {s:StateD}{x:ChanD}(h:s.chs=[x]):(⟨keyH 0,kR x⟩:aN)∈rawS s:=by have:=(XO (i:=0) (l:=s.chs) (j:=0) (by rw[h];simp)).1;simp only[rawS,List.mem_append];refine .inl (.inl (.inl (.inr ?_)));simpa[h]using this
theorem eD {s:StateD}{x:ConnD}(h:s.cns=[x]):cnAt s 0=x:=by unfold cnAt;rw[h];rfl
theorem chAt_one {s:StateD}{x:ChanD}(h:s.chs=[x]):chAt s 0=x:=by unfold chAt;rw[h];rfl
section
variable {trust:Int}{nm onm:ByteArray}{c o:ay}{n:Nat}{a b x:EndsD}{e:EvD}
structure View (trust:Int) (nm onm:ByteArray) (c o:ay) (n k:Nat) (a b:EndsD):Prop where
 sd:nN nm c n
 so:nN onm o n
 cl:c.s.cls=[clK onm trust o (k+1)]
 len:k+1=o.past.length
 tr:(n:Int)-((k:Int)+1)<trust
 ends:endsOf c.s=a
 last:∀h:k<o.past.length,endsOf (o.past[k]).st=b
theorem view_of (hA:JY trust nm onm c o n a x){y':EndsD}(hB:JY trust onm nm o c n y' b)(h2:2<=n)(ht:2<trust):View trust nm onm c o n (n-2) a b:=by have l:=hB.sd.len;refine⟨hA.sd,hB.sd,by rw[hA.cl,show n-2+1=n-1 by omega],by omega,by omega,hA.ends,λh=>?_⟩;rw[<- (zH hB.sd (k:=n-2) (by omega)).2];exact hB.last
variable {k:Nat}
theorem Ns (v:View trust nm onm c o n k a b):overE c.s 0=0 :=
 jH.2 ⟨⟨Int.le_refl _,by rw[v.cl];simp⟩,by rw[kM v.cl];exact(JP (nm:=nm) v.so v.len (by rw[v.sd.t];exact v.tr)).1⟩
theorem lT (v:View trust nm onm c o n k a b){K w:List UInt8}(hm:(⟨K,w⟩:aN)∈rawS (o.past[k]'(by have:=v.len;omega)).st):bF (gU c.s 0) c.s.t ((k:Int)+1) K w (iQ (fM (o.past[k]'(by have:=v.len;omega)).st).1 K).1=0:=by rw[kM v.cl];exact aiv v.sd v.so v.cl v.len v.tr hm
theorem DY (v:View trust nm onm c o n k a b){q:ConnD}(h:b.cns=[q]):(⟨keyC 0,kQ q⟩:aN)∈rawS (o.past[k]'(by have:=v.len;omega)).st :=
 acp ((congrArg EndsD.cns (v.last (by have:=v.len;omega))).trans h)
theorem DZ (v:View trust nm onm c o n k a b){q:ChanD}(h:b.chs=[q]):(⟨keyH 0,kR q⟩:aN)∈rawS (o.past[k]'(by have:=v.len;omega)).st :=
 acr ((congrArg EndsD.chs (v.last (by have:=v.len;omega))).trans h)
theorem bS (v:View trust nm onm c o n k a b):c.s.cns=a.cns/\c.s.chs=a.chs:=by rw[<- v.ends];exact⟨rfl,rfl⟩
theorem Ao (v:View trust nm onm c o n k a b)(l:List ConnD):endsOf {c.s with cns:=l}={a with cns:=l}:=by rw[<- v.ends];rfl
theorem Ap (v:View trust nm onm c o n k a b)(l:List ChanD):endsOf {c.s with chs:=l}={a with chs:=l}:=by rw[<- v.ends];rfl
theorem aeA {s:StateD}(ok:StOk s)(h0:overE s 0=0)(h:s.cns=[]):mH s 0 0=({s with cns:=[⟨1,0,0,-1⟩]},0,0):=by unfold mH pO;rw[if_pos (aC.2 ok),if_pos h0,if_neg (by omega),if_neg (by rw[h];simp),h];rfl
theorem agO {s:StateD}{w:bH}(ok:StOk s)(h0:overE s 0=0)(h:s.cns=[])(hm:bF (gU s 0) s.t w.h (keyC 0) (kQ ⟨1,0,0,-1⟩) w.p=0):t_ s 0 0 0 w=({s with cns:=[⟨2,0,0,0⟩]},0,0):=by unfold t_ pO shownE;rw[if_pos (aC.2 ok),if_pos h0,if_neg (by omega),if_pos hm,if_neg (by rw[h];simp),h];rfl
theorem agP {s:StateD}{w:bH}(ok:StOk s)(h0:overE s 0=0)(h:s.cns=[⟨1,0,0,-1⟩])(hm:bF (gU s 0) s.t w.h (keyC 0) (kQ ⟨2,0,0,0⟩) w.p=0):ackCn s 0 0 w=({s with cns:=[⟨3,0,0,0⟩]},0):=by have hc:=eD h;have hen:(endCn s 0 1).2=0:=endCn_zero.2 ⟨ok,by rw[h];simp,by rw[hc],by rw[hc];exact h0⟩;unfold ackCn shownE openCn;rw[if_pos hen,if_neg (by omega),hc];simp only;rw[if_pos hm,h];rfl
theorem aeB {s:StateD}{w:bH}(ok:StOk s)(h0:overE s 0=0)(h:s.cns=[⟨2,0,0,0⟩])(hm:bF (gU s 0) s.t w.h (keyC 0) (kQ ⟨3,0,0,0⟩) w.p=0):confCn s 0 w=({s with cns:=[⟨3,0,0,0⟩]},0):=by have hc:=eD h;have hen:(endCn s 0 2).2=0:=endCn_zero.2 ⟨ok,by rw[h];simp,by rw[hc],by rw[hc];exact h0⟩;unfold confCn shownE openCn;rw[if_pos hen,hc];simp only;rw[if_neg (by omega),if_pos hm,h];rfl
theorem UE {s:StateD}{r:Bool}(ok:StOk s)(h0:(overCh s 0).2=0)(h:s.chs=[]):mI s 0 r=({s with chs:=[⟨1,r,0,-1,1,1,1⟩]},0,0):=by unfold mI qZ;rw[if_pos (aC.2 ok),if_pos h0,if_neg (by rw[h];simp),h];rfl
theorem aat {s:StateD}{r:Bool}{w:bH}(ok:StOk s)(h0:(overCh s 0).2=0)(hc:s.cns=[⟨3,0,0,0⟩])(h:s.chs=[])(hm:bF (gU s 0) s.t w.h (keyH 0) (kR ⟨1,r,0,-1,0,0,0⟩) w.p=0):uf s 0 r 0 w=({s with chs:=[⟨2,r,0,0,1,1,1⟩]},0,0):=by have hc:=eD hc;unfold uf qZ shownHE;rw[if_pos (aC.2 ok),if_pos h0,if_neg (by omega),hc];simp only;rw[if_pos hm,if_neg (by rw[h];simp),h];rfl
theorem aau {s:StateD}{r:Bool}{w:bH}(ok:StOk s)(h0:(overCh s 0).2=0)(hc:s.cns=[⟨3,0,0,0⟩])(h:s.chs=[⟨1,r,0,-1,1,1,1⟩])(hm:bF (gU s 0) s.t w.h (keyH 0) (kR ⟨2,r,0,0,0,0,0⟩) w.p=0):xe s 0 0 w=({s with chs:=[⟨3,r,0,0,1,1,1⟩]},0):=by have hc:=eD hc;have hh:=chAt_one h;have hen:(endCh s 0 1).2.2=0:=endCh_zero.2 ⟨ok,by rw[h];simp,by rw[hh],by rw[hh];exact h0⟩;have hf:=lI hen;rw[hh,hc]at hf;unfold xe shownHE nowCh;rw[hf,hh];simp only;rw[if_pos trivial,if_neg (by omega),if_pos hm,h];rfl
theorem UF {s:StateD}{r:Bool}{w:bH}(ok:StOk s)(h0:(overCh s 0).2=0)(hc:s.cns=[⟨3,0,0,0⟩])(h:s.chs=[⟨2,r,0,0,1,1,1⟩])(hm:bF (gU s 0) s.t w.h (keyH 0) (kR ⟨3,r,0,0,0,0,0⟩) w.p=0):iX 2 3 s 0 w=({s with chs:=[⟨3,r,0,0,1,1,1⟩]},0):=by have hc:=eD hc;have hh:=chAt_one h;have hen:(endCh s 0 2).2.2=0:=endCh_zero.2 ⟨ok,by rw[h];simp,by rw[hh],by rw[hh];exact h0⟩;have hf:=lI hen;rw[hh,hc]at hf;unfold iX shownHE nowCh;rw[hf,hh];simp only;rw[if_pos trivial,if_neg (by omega),if_pos hm,h];rfl
theorem m_init (v:View trust nm onm c o n k a b)(he:lD e {zeroMsg with kind:=4})(h:a.cns=[]):MsgOk nm c o n e {a with cns:=[⟨1,0,0,-1⟩]}:=by
 have oc:=(bS v).1.trans h;have hq:=MJ (c:=c) (o:=o) (msg:={zeroMsg with kind:=4}) (x:=0) (K:=[]) (g:=false) (by unfold iA;simp);have h1:endA c.s (showB c o {zeroMsg with kind:=4})=({c.s with cns:=[⟨1,0,0,-1⟩]},0,0):=by rw[hq];unfold endA;simp only[zeroMsg,if_false,if_true];exact aeA v.sd.ok (Ns v) oc
 exact nA v.sd he (by rw[hq];simp) h1 rfl (Ao v _)
theorem m_try (v:View trust nm onm c o n k a b)(he:lD e {zeroMsg with kind:=5})(h:a.cns=[])(hb:b.cns=[⟨1,0,0,-1⟩]):MsgOk nm c o n e {a with cns:=[⟨2,0,0,0⟩]}:=by
 have oc:=(bS v).1.trans h;have hq:=o_ (msg:={zeroMsg with kind:=5}) (K:=keyC 0) v.sd v.so v.cl v.len v.tr (by unfold iA f_ jg;simp[oc]);have hm:=lT v (DY v hb);have h1:endA c.s (showB c o {zeroMsg with kind:=5})=({c.s with cns:=[⟨2,0,0,0⟩]},0,0):=by rw[hq];unfold endA;simp only[zeroMsg,show ¬(5:Int)=4 by decide,if_false,if_true];exact agO v.sd.ok (Ns v) oc hm
 exact nA v.sd he (by rw[hq];simp) h1 rfl (Ao v _)
theorem m_ack (v:View trust nm onm c o n k a b)(he:lD e {zeroMsg with kind:=6})(h:a.cns=[⟨1,0,0,-1⟩])(hb:b.cns=[⟨2,0,0,0⟩]):MsgOk nm c o n e {a with cns:=[⟨3,0,0,0⟩]}:=by
 have oc:=(bS v).1.trans h;have hq:=o_ (msg:={zeroMsg with kind:=6}) (K:=keyC 0) v.sd v.so v.cl v.len v.tr (by unfold iA f_ jg;simp[oc,eD oc]);have hm:=lT v (DY v hb);have h1:endA c.s (showB c o {zeroMsg with kind:=6})=({c.s with cns:=[⟨3,0,0,0⟩]},0,0):=by rw[hq];have e:=agP (w:={zSh with h:=(k:Int)+1,p:=(iQ (fM (o.past[k]'(by have:=v.len;omega)).st).1 (keyC 0)).1}) v.sd.ok (Ns v) oc hm;unfold endA;simp only[zeroMsg,show ¬(6:Int)=4 by decide,if_false,if_true,show ¬(6:Int)=5 by decide];exact(congrArg (λq=>((q.1,0,q.2):StR)) e)
 exact nA v.sd he (by rw[hq];simp) h1 rfl (Ao v _)
theorem m_done (v:View trust nm onm c o n k a b)(he:lD e {zeroMsg with kind:=7})(h:a.cns=[⟨2,0,0,0⟩])(hb:b.cns=[⟨3,0,0,0⟩]):MsgOk nm c o n e {a with cns:=[⟨3,0,0,0⟩]}:=by
 have oc:=(bS v).1.trans h;have hq:=o_ (msg:={zeroMsg with kind:=7}) (K:=keyC 0) v.sd v.so v.cl v.len v.tr (by unfold iA f_ jg;simp[oc,eD oc]);have hm:=lT v (DY v hb);have h1:endA c.s (showB c o {zeroMsg with kind:=7})=({c.s with cns:=[⟨3,0,0,0⟩]},0,0):=by rw[hq];have e:=aeB (w:={zSh with h:=(k:Int)+1,p:=(iQ (fM (o.past[k]'(by have:=v.len;omega)).st).1 (keyC 0)).1}) v.sd.ok (Ns v) oc hm;unfold endA;simp only[zeroMsg,show ¬(7:Int)=4 by decide,if_false,if_true,show ¬(7:Int)=5 by decide,show ¬(7:Int)=6 by decide];exact(congrArg (λq=>((q.1,0,q.2):StR)) e)
 exact nA v.sd he (by rw[hq];simp) h1 rfl (Ao v _)
theorem Nr (v:View trust nm onm c o n k a b)(h:a.cns=[⟨3,0,0,0⟩]):(overCh c.s 0).2=0:=by have oc:=(bS v).1.trans h;exact overCh_zero.2 ⟨by rw[oc];simp,by rw[eD oc],by rw[eD oc];simp,by rw[eD oc,v.cl];simp,by rw[eD oc];exact(jH.1 (Ns v)).2⟩
theorem m_chinit (v:View trust nm onm c o n k a b){r:Bool}(he:lD e {zeroMsg with kind:=8,ord:=r})(h:a.cns=[⟨3,0,0,0⟩])(h':a.chs=[]):MsgOk nm c o n e {a with chs:=[⟨1,r,0,-1,1,1,1⟩]}:=by
 have oc:=(bS v).1.trans h;have oh:=(bS v).2.trans h';have hq:=MJ (c:=c) (o:=o) (msg:={zeroMsg with kind:=8,ord:=r}) (x:=0) (K:=[]) (g:=false) (by unfold iA;simp);have h1:endA c.s (showB c o {zeroMsg with kind:=8,ord:=r})=({c.s with chs:=[⟨1,r,0,-1,1,1,1⟩]},0,0):=by rw[hq];unfold endA;simp only[zeroMsg,show ¬(8:Int)=4 by decide,show ¬(8:Int)=5 by decide,show ¬(8:Int)=6 by decide,show ¬(8:Int)=7 by decide,if_false,if_true];exact UE v.sd.ok (Nr v h) oh
 exact nA v.sd he (by rw[hq];simp) h1 rfl (Ap v _)
theorem m_chtry (v:View trust nm onm c o n k a b){r:Bool}(he:lD e {zeroMsg with kind:=9,ord:=r})(h:a.cns=[⟨3,0,0,0⟩])(h':a.chs=[])(hb:b.chs=[⟨1,r,0,-1,1,1,1⟩]):MsgOk nm c o n e {a with chs:=[⟨2,r,0,0,1,1,1⟩]}:=by
 have oc:=(bS v).1.trans h;have oh:=(bS v).2.trans h';have hq:=o_ (msg:={zeroMsg with kind:=9,ord:=r}) (K:=keyH 0) v.sd v.so v.cl v.len v.tr (by unfold iA f_ jg;simp[oc,eD oc]);have hm:=lT v (DZ v hb);have h1:endA c.s (showB c o {zeroMsg with kind:=9,ord:=r})=({c.s with chs:=[⟨2,r,0,0,1,1,1⟩]},0,0):=by rw[hq];unfold endA;simp only[zeroMsg,show ¬(9:Int)=4 by decide,show ¬(9:Int)=5 by decide,show ¬(9:Int)=6 by decide,show ¬(9:Int)=7 by decide,show ¬(9:Int)=8 by decide,if_false,if_true];exact aat v.sd.ok (Nr v h) oc oh hm
 exact nA v.sd he (by rw[hq];simp) h1 rfl (Ap v _)
theorem m_chack (v:View trust nm onm c o n k a b){r:Bool}(he:lD e {zeroMsg with kind:=10})(h:a.cns=[⟨3,0,0,0⟩])(h':a.chs=[⟨1,r,0,-1,1,1,1⟩])(hb:b.chs=[⟨2,r,0,0,1,1,1⟩]):MsgOk nm c o n e {a with chs:=[⟨3,r,0,0,1,1,1⟩]}:=by
 have oc:=(bS v).1.trans h;have oh:=(bS v).2.trans h';have hq:=o_ (msg:={zeroMsg with kind:=10}) (K:=keyH 0) v.sd v.so v.cl v.len v.tr (by unfold iA f_ jg;simp[oc,oh,eD oc,chAt_one oh]);have hm:=lT v (DZ v hb);have h1:endA c.s (showB c o {zeroMsg with kind:=10})=({c.s with chs:=[⟨3,r,0,0,1,1,1⟩]},0,0):=by rw[hq];have e:=aau (w:={zSh with h:=(k:Int)+1,p:=(iQ (fM (o.past[k]'(by have:=v.len;omega)).st).1 (keyH 0)).1}) v.sd.ok (Nr v h) oc oh hm;unfold endA;simp only[zeroMsg,show ¬(10:Int)=4 by decide,if_false,if_true,show ¬(10:Int)=5 by decide,show ¬(10:Int)=6 by decide,show ¬(10:Int)=7 by decide,show ¬(10:Int)=8 by decide,show ¬(10:Int)=9 by decide];exact(congrArg (λq=>((q.1,0,q.2):StR)) e)
 exact nA v.sd he (by rw[hq];simp) h1 rfl (Ap v _)
theorem m_chdone (v:View trust nm onm c o n k a b){r:Bool}(he:lD e {zeroMsg with kind:=11})(h:a.cns=[⟨3,0,0,0⟩])(h':a.chs=[⟨2,r,0,0,1,1,1⟩])(hb:b.chs=[⟨3,r,0,0,1,1,1⟩]):MsgOk nm c o n e {a with chs:=[⟨3,r,0,0,1,1,1⟩]}:=by
 have oc:=(bS v).1.trans h;have oh:=(bS v).2.trans h';have hq:=o_ (msg:={zeroMsg with kind:=11}) (K:=keyH 0) v.sd v.so v.cl v.len v.tr (by unfold iA f_ jg;simp[oc,oh,eD oc,chAt_one oh]);have hm:=lT v (DZ v hb);have h1:endA c.s (showB c o {zeroMsg with kind:=11})=({c.s with chs:=[⟨3,r,0,0,1,1,1⟩]},0,0):=by rw[hq];have e:=UF (w:={zSh with h:=(k:Int)+1,p:=(iQ (fM (o.past[k]'(by have:=v.len;omega)).st).1 (keyH 0)).1}) v.sd.ok (Nr v h) oc oh hm;unfold endA;simp only[zeroMsg,show ¬(11:Int)=4 by decide,if_false,if_true,show ¬(11:Int)=5 by decide,show ¬(11:Int)=6 by decide,show ¬(11:Int)=7 by decide,show ¬(11:Int)=8 by decide,show ¬(11:Int)=9 by decide,show ¬(11:Int)=10 by decide];exact(congrArg (λq=>((q.1,0,q.2):StR)) e)
 exact nA v.sd he (by rw[hq];simp) h1 rfl (Ap v _)
end
def evB (k:Int):EvD:=⟨1,k,1,0,0,zeroMsg⟩
def evF (k:Int):EvD:=⟨3,k,1,0,0,zeroMsg⟩
def evC (k t:Int):EvD:=⟨2,k,0,t,0,zeroMsg⟩
def evS (k:Int)(m:MsgD):EvD:=⟨5,k,0,0,0,m⟩
def turnL (k:Int)(m:MsgD):List EvD:=[evS k m,evB 0,evB 1,evF 0,evF 1]
def jl (r:Bool)(trust:Int):List EvD:=[evB 0,evB 1,evC 0 trust,evC 1 trust]++(turnL 0 {zeroMsg with kind:=4}++(turnL 1 {zeroMsg with kind:=5}++(turnL 0 {zeroMsg with kind:=6}++(turnL 1 {zeroMsg with kind:=7} ++
 (turnL 0 {zeroMsg with kind:=8,ord:=r}++(turnL 1 {zeroMsg with kind:=9,ord:=r}++(turnL 0 {zeroMsg with kind:=10}++turnL 1 {zeroMsg with kind:=11})))))))
def puA:List PurseD:=[⟨xn,il,1000⟩]
def puB:List PurseD:=[⟨B_,uh,1000⟩]
theorem yD {nm ow dn:ByteArray}(h:nO (bZ nm ow dn)):nN nm (bZ nm ow dn) 1:=⟨h.ok,h.p64,rfl,rfl,rfl,rfl,rfl,rfl,λi hi=>by simp[bZ]at hi⟩
theorem cli_side {nm onm:ByteArray}{c o:ay}{trust:Int}(mm:uz onm)(hs:nN nm c 2)(ho:nN onm o 2)(hc:c.s.cls=[])(ht:1<=trust/\trust<=1000000000000):
  dH c o trust=({c with s:={c.s with cls:=[clK onm trust o 1]}},⟨0,0,zeroPk⟩)/\nN nm (dH c o trust).1 2:=by
 have lo:=ho.len;have hl:=(zH ho (k:=0) (by omega)).2;obtain⟨a,b,okb,nb⟩:=ho.past 0 (by omega);have hk1:knl o 1=[ofH (o.past[0]'(by omega)).sg.hdr]:=by rw[show(1:Nat)=0+1 from rfl,Io (by omega)];rfl
 have hX:(⟨(cliMsg o trust).chain,(cliMsg o trust).trust,false,[(cliMsg o trust).kn]⟩:aD)=clK onm trust o 1:=by
  unfold clK;rw[hk1];have e1:(cliMsg o trust).chain=onm:=by show(lastB o).sg.hdr.c=onm;rw[hl,a];exact nb
  have e2:(cliMsg o trust).kn=ofH (o.past[0]'(by omega)).sg.hdr:=by show ofH (lastB o).sg.hdr=_;rw[hl]
  rw[e1,e2];rfl
 have hr:=(lY okb).2.2;have hcl:xD (clK onm trust o 1):=by
  refine⟨mm.ok,ht,?_,?_,?_⟩
  ·show 1<=(knl o 1).length/\_;rw[hk1];simp[clK,hk1]
  ·intro k hk;have hk:k∈knl o 1:=hk;rw[hk1,List.mem_singleton,a]at hk;subst hk;refine⟨?_,?_,hr,oI _⟩
   ·show 1<=(o.past[0]'(by omega)).st.h/\(o.past[0]'(by omega)).st.h<=1000000000000;omega
   ·show 0<=(o.past[0]'(by omega)).st.t/\(o.past[0]'(by omega)).st.t<=1000000000000;omega
  ·show(knl o 1).Pairwise _;rw[hk1];exact List.pairwise_singleton ..
 have hn:Dy (cliMsg o trust).chain (cliMsg o trust).trust (cliMsg o trust).kn=(clK onm trust o 1,0):=by unfold Dy;rw[hX,if_pos (cu.2 hcl)]
 have h0:mg c.s (cliMsg o trust)=({c.s with cls:=[clK onm trust o 1]},⟨0,0,zeroPk⟩):=by unfold mg;rw[if_neg (by simp[cliMsg]),if_pos (by simp[cliMsg])];unfold Jt;rw[if_pos (by simp[cliMsg]),if_neg (by rw[hc];simp),hn];simp only[if_true];rw[hc];rfl
 obtain⟨e,f⟩:=act_eq hs (m:=cliMsg o trust) (by rw[h0]);have e2:dH c o trust=kX c (cliMsg o trust):=by unfold dH;rw[if_neg (by omega)]
 rw[e2];exact⟨by rw[e,h0],f⟩
theorem start {trust:Int}{nm onm:ByteArray}{A B A1 B1 A2 B2:ay}{a b:EndsD}(nn:uz nm)(mm:uz onm)(ht:1<=trust/\trust<=1000000000000)(hA:nN nm A 1)(hB:nN onm B 1)(cA:A.s.cls=[])(cB:B.s.cls=[])(eA:endsOf A.s=a)(eB:endsOf B.s=b)
  (e1:A1=(aV A 1).1) (e2:B1=(aV B 1).1) (e3:A2=(dH A1 B1 trust).1) (e4:B2=(dH B1 A2 trust).1):
  ((aV A 1).2.err=0/\(aV B 1).2.err=0/\(dH A1 B1 trust).2.err=0/\(dH B1 A2 trust).2.err=0)/\JY trust nm onm A2 B2 2 a a/\JY trust onm nm B2 A2 2 b b:=by
 obtain⟨q1,s1⟩:=blk_side nn hA (by decide);obtain⟨q2,s2⟩:=blk_side mm hB (by decide);rw[<- e1]at s1;rw[<- e2]at s2;have pA:A1.past=A.past++[⟨Gj nm A.s,A.s⟩]:=by rw[e1,q1]
 have pB:B1.past=B.past++[⟨Gj onm B.s,B.s⟩]:=by rw[e2,q2]
 obtain⟨q3,s3⟩:=cli_side (trust:=trust) mm s1 s2 (by rw[e1,q1];exact cA) ht;rw[<- e3]at s3;have pA2:A2.past=A1.past:=by rw[e3,q3]
 obtain⟨q4,s4⟩:=cli_side (trust:=trust) nn s2 s3 (by rw[e2,q2];exact cB) ht;rw[<- e4]at s4;have pB2:B2.past=B1.past:=by rw[e4,q4]
 refine⟨⟨by rw[q1],by rw[q2],by rw[q3],by rw[q4]⟩,⟨s3,?_,?_,?_⟩,⟨s4,?_,?_,?_⟩⟩
 ·rw[e3,q3,u_ pB2]
 ·rw[e3,q3];show endsOf A1.s=a;rw[e1,q1];exact eA
 ·rw[ou (pA2.trans pA)];exact eA
 ·rw[e4,q4]
 ·rw[e4,q4];show endsOf B1.s=b;rw[e2,q2];exact eB
 ·rw[ou (pB2.trans pB)];exact eB
theorem link_begin {trust:Int}(ht:2<trust/\trust<=1000000000000):xB (gJ kr [evB 0,evB 1,evC 0 trust,evC 1 trust]).2/\Lk trust (gJ kr [evB 0,evB 1,evC 0 trust,evC 1 trust]).1 2 ⟨[],[],[],[],[],puA⟩ ⟨[],[],[],[],[],puB⟩ ⟨[],[],[],[],[],puA⟩ ⟨[],[],[],[],[],puB⟩:=by
 have key:∀{A B:ay},nN nmA A 1->nN nmB B 1->A.s.cls=[]->B.s.cls=[]->endsOf A.s=⟨[],[],[],[],[],puA⟩->endsOf B.s=⟨[],[],[],[],[],puB⟩ ->
   xB (gJ (A,B) [evB 0,evB 1,evC 0 trust,evC 1 trust]).2/\Lk trust (gJ (A,B) [evB 0,evB 1,evC 0 trust,evC 1 trust]).1 2 ⟨[],[],[],[],[],puA⟩ ⟨[],[],[],[],[],puB⟩ ⟨[],[],[],[],[],puA⟩ ⟨[],[],[],[],[],puB⟩:=by
  intro A B hA hB cA cB eA eB;obtain⟨⟨d1,d2,d3,d4⟩,x,y⟩:=start (trust:=trust) names_A names_B (by omega) hA hB cA cB eA eB rfl rfl rfl rfl;have r:gJ (A,B) [evB 0,evB 1,evC 0 trust,evC 1 trust]=(((dH (aV A 1).1 (aV B 1).1 trust).1,(dH (aV B 1).1 (dH (aV A 1).1 (aV B 1).1 trust).1 trust).1),[(aV A 1).2,(aV B 1).2,(dH (aV A 1).1 (aV B 1).1 trust).2,(dH (aV B 1).1 (dH (aV A 1).1 (aV B 1).1 trust).1 trust).2]):=by
   simp only[gJ];have oc:∀(c o:ay) (k:Int),oneB c o (evC k trust)=dH c o trust:=λc o k=>by unfold oneB evC;simp
   have ob:∀(c o:ay) (k:Int),oneB c o (evB k)=aV c 1:=λc o k=>by unfold oneB evB;simp
   rw[ug (e:=evB 0) rfl,ob,ql (e:=evB 1) rfl,ob,ug (e:=evC 0 trust) rfl,oc,ql (e:=evC 1 trust) rfl,oc]
  rw[r];refine⟨λd hd=>?_,⟨x,y⟩⟩;simp only[List.mem_cons,List.not_mem_nil,or_false]at hd;rcases hd with rfl|rfl|rfl|rfl<;>assumption
 exact key (A:=bZ nmA xn il) (B:=bZ nmB B_ uh) (yD lL.a) (yD lL.b) rfl rfl rfl rfl
theorem m_ {w:kY}{l m:List EvD}(h:xB (gJ w l).2)(h':xB (gJ (gJ w l).1 m).2):xB (gJ w (l++m)).2/\(gJ w (l++m)).1=(gJ (gJ w l).1 m).1:=by
 rw[jN m l w];refine⟨λd hd=>?_,rfl⟩;rcases List.mem_append.1 hd with hd|hd
 ·exact h d hd
 ·exact h' d hd
def ends4 (r:Bool)(pu:List PurseD):EndsD:=⟨[⟨3,0,0,0⟩],[⟨3,r,0,0,1,1,1⟩],[],[],[],pu⟩
theorem link_run {trust:Int}(r:Bool)(ht:2<trust/\trust<=1000000000000):xB (nu (jl r trust)).2/\Lk trust (nu (jl r trust)).1 10 (ends4 r puA) (ends4 r puB) (ends4 r puA) (ends4 r puB):=by
 have isB:∀k:Int,Cv (evB k) k:=λk=>⟨rfl,rfl,rfl⟩
 have isF:∀k:Int,Ab (evF k) k:=λk=>⟨rfl,rfl,rfl⟩
 have isS:∀(k:Int) (m:MsgD),lD (evS k m) m:=λk m=>⟨rfl,rfl⟩
 unfold nu jl;obtain⟨o0,l0⟩:=link_begin ht;generalize hw0:(gJ kr [evB 0,evB 1,evC 0 trust,evC 1 trust]).1=w0 at*;have tt:=ht.1;obtain⟨o1,l1⟩:=turn0 l0 (by decide) (by decide) tt (e:=evS 0 {zeroMsg with kind:=4}) rfl (m_init (view_of l0.a l0.b (by decide) tt) (isS _ _) rfl) (isB 0) (isB 1) (isF 0) (isF 1);obtain⟨o2,l2⟩:=turn1 l1 (by decide) (by decide) tt (e:=evS 1 {zeroMsg with kind:=5}) rfl (m_try (view_of l1.b l1.a (by decide) tt) (isS _ _) rfl rfl) (isB 0) (isB 1) (isF 0) (isF 1);obtain⟨o3,l3⟩:=turn0 l2 (by decide) (by decide) tt (e:=evS 0 {zeroMsg with kind:=6}) rfl (m_ack (view_of l2.a l2.b (by decide) tt) (isS _ _) rfl rfl) (isB 0) (isB 1) (isF 0) (isF 1);obtain⟨o4,l4⟩:=turn1 l3 (by decide) (by decide) tt (e:=evS 1 {zeroMsg with kind:=7}) rfl (m_done (view_of l3.b l3.a (by decide) tt) (isS _ _) rfl rfl) (isB 0) (isB 1) (isF 0) (isF 1);obtain⟨o5,l5⟩:=turn0 l4 (by decide) (by decide) tt (e:=evS 0 {zeroMsg with kind:=8,ord:=r}) rfl (m_chinit (view_of l4.a l4.b (by decide) tt) (isS _ _) rfl rfl) (isB 0) (isB 1) (isF 0) (isF 1);obtain⟨o6,l6⟩:=turn1 l5 (by decide) (by decide) tt (e:=evS 1 {zeroMsg with kind:=9,ord:=r}) rfl (m_chtry (view_of l5.b l5.a (by decide) tt) (isS _ _) rfl rfl rfl) (isB 0) (isB 1) (isF 0) (isF 1);obtain⟨o7,l7⟩:=turn0 l6 (by decide) (by decide) tt (e:=evS 0 {zeroMsg with kind:=10}) rfl (m_chack (view_of l6.a l6.b (by decide) tt) (isS _ _) rfl rfl rfl) (isB 0) (isB 1) (isF 0) (isF 1);obtain⟨o8,l8⟩:=turn1 l7 (by decide) (by decide) tt (e:=evS 1 {zeroMsg with kind:=11}) rfl (m_chdone (view_of l7.b l7.a (by decide) tt) (isS _ _) rfl rfl rfl) (isB 0) (isB 1) (isF 0) (isF 1);have p8:=o8;have p7:=m_ (w:=_) o7 p8;rw[<- p7.2]at l8;have p6:=m_ o6 p7.1;rw[<- p6.2]at l8;have p5:=m_ o5 p6.1;rw[<- p5.2]at l8;have p4:=m_ o4 p5.1;rw[<- p4.2]at l8;have p3:=m_ o3 p4.1;rw[<- p3.2]at l8;have p2:=m_ o2 p3.1;rw[<- p2.2]at l8;have p1:=m_ o1 p2.1;rw[<- p1.2]at l8;rw[<- hw0]at p1 l8;have p0:=m_ o0 p1.1;rw[<- p0.2]at l8;exact⟨p0.1,l8⟩
theorem adI:keyF [118,0]=793780602667230372:=by rw[ma];kernel_rfl
theorem adH:keyF [118,1]=121976488748964836:=by rw[ma];kernel_rfl
theorem adG:keyF [118,2]=275679471111030274:=by rw[ma];kernel_rfl
def valT:List dA:=[⟨121976488748964836,1⟩,⟨275679471111030274,1⟩,⟨793780602667230372,1⟩]
def seedsT:List (List UInt8):=[[118,0],[118,1],[118,2]]
theorem YL:nM valT:=by
 refine⟨by simp[valT],λv hv=>?_,?_⟩
 ·simp only[valT,List.mem_cons,List.not_mem_nil,or_false]at hv;rcases hv with rfl|rfl|rfl<;>simp
 ·unfold valT;simp
theorem Sy:sumP valT=3:=rfl
theorem Kk:votedP seedsT valT=3:=by simp[votedP,DX,aal,seedsT,valT,adI,adH,adG]
def kT:aT:=⟨1,1,digestV valT,digestV valT⟩
def hdT (r:List UInt8):kv:=⟨nmB,2,2,r,digestV valT,digestV valT⟩
def sgT (r:List UInt8):gG:=⟨hdT r,valT,valT.map (eO (hdT r) seedsT)⟩
def cT (r:List UInt8):aD:=⟨nmB,50,false,[kT,⟨2,2,r,digestV valT⟩]⟩
theorem Iz {r:List UInt8}(hr:r.length=32):yJ (hdT r) valT:=by refine⟨?_,YL,rfl⟩;unfold fA;refine(if_pos (show ic nmB=true by decide)).trans ((if_neg (show ¬((2:Int)<1\/¬lw 2=true\/¬lw 2=true) by decide)).trans (if_neg ?_));rw[show(hdT r).root.length=32 from hr,show(hdT r).vals.length=32 from oI _,show(hdT r).next.length=32 from oI _];decide
theorem Mm {r:List UInt8}(hr:r.length=32):kU (hdT r) valT seedsT=(sgT r,0):=Ef (Iz hr) seedsT
theorem Un:VM kT:=⟨(show(1:Int)<=1/\(1:Int)<=1000000000000 by decide),(show(0:Int)<=1/\(1:Int)<=1000000000000 by decide),oI _,oI _⟩
def c0T:aD:=⟨nmB,50,false,[kT]⟩
theorem XP:xD c0T:=⟨(show ic nmB=true by decide),(show(1:Int)<=50/\(50:Int)<=1000000000000 by decide),(show 1<=[kT].length/\[kT].length<=30 by simp),λk hk=>by rw[List.mem_singleton.1 hk];exact Un,List.pairwise_singleton ..⟩
theorem SE:Dy nmB 50 kT=(c0T,0):=by unfold Dy;rw[if_pos (cu.2 (show xD ⟨nmB,50,false,[kT]⟩from XP))];rfl
theorem Eb {r:List UInt8}(hr:r.length=32):fw c0T ⟨1,sgT r,[]⟩ 3=(cT r,0):=by
 have hask:dJ c0T 3=0:=by unfold dJ;rw[if_pos (cu.2 XP),if_pos (show lw 3=true by decide)];rfl
 have hck:j_ (sgT r)=0:=(pI (Iz hr) seedsT).2 (by rw[Sy,Kk];decide);have hat:atC c0T 1=some kT:=rfl;have hbe:beE c0T ⟨1,sgT r,[]⟩ 3=0:=by unfold beE;rw[if_pos hck,hat];simp only;unfold abD afg;exact(if_pos (show(sgT r).hdr.c=c0T.c from rfl)).trans ((if_neg (show ¬((50:Int)<=3-1) by decide)).trans ((if_neg (show ¬((2:Int)<=1) by decide)).trans ((if_neg (show ¬((2:Int)<=1\/(3:Int)+10<2) by decide)).trans ((if_pos (show(2:Int)=1+1 by decide)).trans (if_pos (show(sgT r).hdr.vals=kT.next from rfl))))))
 unfold fw;rw[if_pos hask,if_pos hbe];rfl
end Go.Proofs.YtdmeldhlbpdeeaaGreatDoor
