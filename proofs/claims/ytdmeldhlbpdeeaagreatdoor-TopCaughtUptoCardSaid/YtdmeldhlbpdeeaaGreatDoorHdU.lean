/- Headers: what is unlike has unlike bytes, plain (out of Law6U and RHdS). -/
import Derived.Test.YtdmeldhlbpdeeaaGreatDoorGHs
set_option linter.all false
namespace Go.Proofs.YtdmeldhlbpdeeaaGreatDoor
open Go Go.Abs Go.RowKit
def Zc (a b:kv):Bool:=decide (a.c=b.c/\a.h=b.h/\a.t=b.t/\a.root=b.root/\a.vals=b.vals/\a.next=b.next)
theorem BI {a b:kv}:Zc a b=true↔a=b:=by
 unfold Zc;rw[decide_eq_true_eq];constructor
 ·rintro⟨h1,h2,h3,h4,h5,h6⟩;cases a;cases b;simp_all
 ·rintro rfl;simp
theorem wpiece_len {p:bC}(h:p.kind=1\/p.kind=2):∃x,fJ p=some x/\x.length<=21+p.b.length:=by
 unfold fJ;rcases h with h|h
 ·have:=dG p.n;exact⟨0::jG p.n,by rw[if_pos h],by simp;omega⟩
 ·have:=dG p.b.length;exact⟨1::(jG p.b.length++p.b),by rw[if_neg (by omega),if_pos h],by simp;omega⟩
theorem xE:∀(l:List bC)(acc:List UInt8)(i:Nat),(∀p∈l,p.kind=1\/p.kind=2)->acc.length+(l.map λp=>21+p.b.length).sum<=20000->(cO acc i l).2.1=0
 |[],_,_,_,_=>rfl
 |p::r,acc,i,hk,hs=>by obtain⟨x,hx,hl⟩:=wpiece_len (hk p (List.mem_cons_self ..));simp only[List.map_cons,List.sum_cons]at hs;simp only[cO,hx];rw[if_neg (by rw[List.length_append];omega)];exact xE r _ _ (λq hq=>hk q (List.mem_cons_of_mem _ hq)) (by rw[List.length_append];omega)
theorem LQ {l:List bC}(hl:l.length<=200)(hk:∀p∈l,p.kind=1\/p.kind=2)(hs:(l.map λp=>21+p.b.length).sum<=19990):(bD l).2.1=0:=by unfold bD;rw[if_neg (by omega)];exact xE l _ _ hk (by have:=dG l.length;omega)
structure VO (x:kv):Prop where
 c:x.c.size<=20
 h:1<=x.h/\x.h<=1000000000000
 t:0<=x.t/\x.t<=1000000000000
 root:x.root.length=32
 vals:x.vals.length=32
 next:x.next.length=32
theorem Bh {h:kv}(e:fA h=0):VO h:=by
 unfold fA lw at e;split at e
 ·rename_i h1;split at e
  ·cases e
  ·rename_i h2;split at e
   ·cases e
   ·rename_i h3;simp only[decide_eq_true_eq]at h2;have hn:h.c.size<=20:=by
     unfold ic at h1;simp only[Bool.and_eq_true,decide_eq_true_eq]at h1;exact h1.1.2
    exact⟨hn,by omega,by omega,by omega,by omega,by omega⟩
 ·cases e
theorem Np (h:kv):KM (Dx h):=by intro p hp;simp only[Dx,El,jh,List.mem_cons,List.not_mem_nil,or_false]at hp;rcases hp with rfl|rfl|rfl|rfl|rfl|rfl<;>first|exact u64_lt _|(simp only;omega)
theorem bytesH_ok {h:kv}(r:VO h):∃a,bD (Dx h)=(a_ h,0,a):=by
 have h0:(bD (Dx h)).2.1=0:=LQ (by simp[Dx]) (λp hp=>by
   simp only[Dx,El,jh,List.mem_cons,List.not_mem_nil,or_false]at hp;rcases hp with rfl|rfl|rfl|rfl|rfl|rfl<;>simp) (by
   have:=r.c;have:=r.root;have:=r.vals;have:=r.next
   simp only[Dx,El,jh,List.map_cons,List.map_nil,List.sum_cons,List.sum_nil,unB_len,List.length_nil];omega)
 exact⟨(bD (Dx h)).2.2,by unfold a_;rw[<- h0]⟩
theorem YO {a b:ByteArray}(h:unB a=unB b):a=b:=by rw[<- Ed a,<- Ed b,h]
theorem FB {a b:kv}(ra:VO a)(rb:VO b):decide (a_ a=a_ b)=Zc a b:=by
 obtain⟨i,hi⟩:=bytesH_ok ra;obtain⟨j,hj⟩:=bytesH_ok rb;rw[Bi hi hj (Np a) (Np b),Bool.eq_iff_iff,BI];have a1:=ra.h;have a2:=ra.t;have b1:=rb.h;have b2:=rb.t;simp only[Dx,El,jh,aM,dS];constructor
 ·intro h;simp at h;obtain⟨h1,h2,h3,h4,h5,h6⟩:=h;unfold u64 at h2 h3;have e1:=YO (of_decide_eq_true (by simpa using h1));have e2:a.h=b.h:=by omega
  have e3:a.t=b.t:=by omega
  obtain⟨ac,ah,at',ar,av,an⟩:=a;obtain⟨bc,bh,bt,br,bv,bn⟩:=b;simp only at*;subst e1;subst e2;subst e3;have e4:ar=br:=by simpa using h4
  have e5:av=bv:=by simpa using h5
  have e6:an=bn:=by simpa using h6
  rw[e4,e5,e6]
 ·rintro rfl;simp
end Go.Proofs.YtdmeldhlbpdeeaaGreatDoor
