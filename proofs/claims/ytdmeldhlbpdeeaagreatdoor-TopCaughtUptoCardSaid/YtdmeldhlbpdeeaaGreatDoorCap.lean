/- Closures without arguments, and closures that call one, that append to a captured slice. -/
import Derived.Test.YtdmeldhlbpdeeaaGreatDoorGWk
set_option linter.all false
namespace Go.Abs
open Go Go.RowKit
section
variable {P:Program}{n:Nat}{σ:St}{ks:List Fr}{Q:Ex->St->Prop}{rid:Nat}{rest:List It}{H:Nat->Ob}{g g2:FuncId}{sz len len' c o f t:Nat}{es es':List (List I)}{dst:Option Nat}{xs:List I}{x:I}
theorem La (hL:aL P g [.pt 0 0 0 0] (hF [(0,.box [.i (.s (.slice none 0 0))])]) (.tup []) (hOf (hF [(0,.box [.i (.s (.slice none 0 0))])]) [(0,.box [.os 2 sz 0 len']),(2,.arr sz es')]))
  (hb:H c=.box [.i (.s (.slice none 0 0))]) (hf:H f=.fresh):
  aL P g [.pt c 0 0 0] H (.tup []) (upd (upd H f (.arr sz es')) c (.box [.os f sz 0 len'])):=by
 have n2:c≠f:=λe=>by subst e;rw[hb]at hf;cases hf
 have h:=dF (H:=H) (gs:=[.pt c 0 0 0]) (L2:=λa=>if a=f then .arr sz es' else if a=c then .box [.os f sz 0 len']else .dead) (r':=.tup []) [] (λl=>if l=0 then some c else none) (λa=>if a=c then some 0 else if a=f then some 2 else none) hL
  ⟨by simp[cv1,cv0],trivial⟩
  (λa=>by
   by_cases h0:a=0
   ·subst h0;right;right;right;exact⟨c,by simp,by simp[hF,lk,cvO,cvL,cv0,frz,hb,D.one]⟩
   ·left;simp[hF,lk,h0])
  (λa b d h1 h2 h3 h4=>by simp at h3 h4;omega)
  (λa=>by
   by_cases h1:a=f
   ·subst h1;right;right;right;exact⟨2,by simp[n2.symm],by simp[hOf,lk,cvO,frz]⟩
   ·by_cases h2:a=c
    ·subst h2;right;right;right;exact⟨0,by simp,by simp[hOf,lk,cvO,cvL,cv0,frz,n2,n2.symm,D.one]⟩
    ·right;left;simp[h1,h2])
  (λa b d h1 h2 h3 h4=>by
   have key:∀{z:Nat},Ob.own (if z=f then .arr sz es' else if z=c then .box [.os f sz 0 len']else .dead)->z=f\/z=c:=λ{z} hz=>by
    by_cases e1:z=f
    ·exact .inl e1
    ·by_cases e2:z=c
     ·exact .inr e2
     ·simp[e1,e2,Ob.own]at hz
   rcases key h1 with rfl|rfl<;>rcases key h2 with rfl|rfl
   ·rfl
   ·simp[n2.symm]at h3 h4;omega
   ·simp[n2.symm]at h3 h4;omega
   ·rfl)
  (by simp[cv,cvT])
  (λl a h=>by
   by_cases h0:l=0
   ·subst h0;simp at h;subst h;simp
   ·simp[h0]at h)
  (λa l h=>by
   by_cases h0:a=c
   ·subst h0;simp at h;subst h;left;simp
   ·simp[h0]at h;right;rw[h.1];exact⟨hf,by simp⟩)
 have e:(λa=>if((if a=c then some 0 else if a=f then some 2 else none:Option Nat)).isSome then(if a=f then Ob.arr sz es' else if a=c then .box [.os f sz 0 len']else .dead)else frz [] H a)=upd (upd H f (.arr sz es')) c (.box [.os f sz 0 len']):=by
  funext a
  by_cases h1:a=c
  ·subst h1;simp[upd,n2]
  ·by_cases h2:a=f
   ·subst h2;simp[upd,h1]
   ·simp[upd,h1,h2,frz]
 rw[e]at h
 exact h
theorem QA (hL:aL P g [.pt 0 0 0 0] (hF [(0,.box [.os 1 sz 0 len]),(1,.arr sz es)]) (.tup []) (hOf (hF [(0,.box [.os 1 sz 0 len]),(1,.arr sz es)]) [(0,.box [.os 2 sz 0 len']),(1,.dead),(2,.arr sz es')]))
  (hb:H c=.box [.os o sz 0 len]) (ho:H o=.arr sz es) (hf:H f=.fresh):
  aL P g [.pt c 0 0 0] H (.tup []) (upd (upd (upd H o .dead) f (.arr sz es')) c (.box [.os f sz 0 len'])):=by
 have n1:c≠o:=λe=>by subst e;rw[hb]at ho;cases ho
 have n2:c≠f:=λe=>by subst e;rw[hb]at hf;cases hf
 have n3:o≠f:=λe=>by subst e;rw[ho]at hf;cases hf
 have h:=dF (H:=H) (gs:=[.pt c 0 0 0]) (L2:=λa=>if a=f then .arr sz es' else if a=c then .box [.os f sz 0 len']else .dead) (r':=.tup []) [] (λl=>if l=0 then some c else if l=1 then some o else none) (λa=>if a=c then some 0 else if a=o then some 1 else if a=f then some 2 else none) hL
  ⟨by simp[cv1,cv0],trivial⟩
  (λa=>by
   by_cases h0:a=0
   ·subst h0;right;right;right;exact⟨c,by simp,by simp[hF,lk,cvO,cvL,cv0,frz,hb,D.one]⟩
   ·by_cases h1:a=1
    ·subst h1;right;right;right;exact⟨o,by simp,by simp[hF,lk,cvO,frz,ho]⟩
    ·left;simp[hF,lk,h0,h1])
  (λa b d h1 h2 h3 h4=>by
   by_cases a0:a=0<;>by_cases b0:b=0
   ·rw[a0,b0]
   ·simp[a0,b0]at h3 h4;exact absurd (h3.trans h4.2.symm) n1
   ·simp[a0,b0]at h3 h4;exact absurd (h4.trans h3.2.symm) n1
   ·simp[a0,b0]at h3 h4;rw[h3.1,h4.1])
  (λa=>by
   by_cases h1:a=f
   ·subst h1;right;right;right;exact⟨2,by simp[n2.symm,n3.symm],by simp[hOf,lk,cvO,frz]⟩
   ·by_cases h2:a=c
    ·subst h2;right;right;right;exact⟨0,by simp,by simp[hOf,lk,cvO,cvL,cv0,frz,n2,n2.symm,n3.symm,D.one]⟩
    ·right;left;simp[h1,h2])
  (λa b d h1 h2 h3 h4=>by
   have key:∀{z:Nat},Ob.own (if z=f then .arr sz es' else if z=c then .box [.os f sz 0 len']else .dead)->z=f\/z=c:=λ{z} hz=>by
    by_cases e1:z=f
    ·exact .inl e1
    ·by_cases e2:z=c
     ·exact .inr e2
     ·simp[e1,e2,Ob.own]at hz
   rcases key h1 with rfl|rfl<;>rcases key h2 with rfl|rfl
   ·rfl
   ·simp[n2.symm,n3.symm]at h3 h4;omega
   ·simp[n2.symm,n3.symm]at h3 h4;omega
   ·rfl)
  (by simp[cv,cvT])
  (λl a h=>by
   by_cases h0:l=0
   ·subst h0;simp at h;subst h;simp
   ·by_cases h1:l=1
    ·subst h1;simp at h;subst h;simp[n1.symm]
    ·simp[h0,h1]at h)
  (λa l h=>by
   by_cases h0:a=c
   ·subst h0;simp at h;subst h;left;simp
   ·by_cases h1:a=o
    ·subst h1;simp[h0]at h;subst h;left;simp
    ·simp[h0,h1]at h;right;rw[h.1];exact⟨hf,by simp⟩)
 have e:(λa=>if((if a=c then some 0 else if a=o then some 1 else if a=f then some 2 else none:Option Nat)).isSome then(if a=f then Ob.arr sz es' else if a=c then .box [.os f sz 0 len']else .dead)else frz [] H a)=upd (upd (upd H o .dead) f (.arr sz es')) c (.box [.os f sz 0 len']):=by
  funext a;by_cases h1:a=c
  ·subst h1;simp[upd,n2]
  ·by_cases h2:a=f
   ·subst h2;simp[upd,h1,n3.symm]
   ·by_cases h3:a=o
    ·subst h3;simp[upd,h1,h2]
    ·simp[upd,h1,h2,h3,frz]
 rw[e]at h;exact h
theorem QB (hL:aL P g [.i x,.agg (xs.map .i),.pt 0 0 0 0,.pt 3 0 0 0] (hF [(0,.box [.os 1 sz 0 len]),(1,.arr sz es),(3,.box [.fn g2 [.pt 0 0 0 0]])]) (.tup []) (hOf (hF [(0,.box [.os 1 sz 0 len]),(1,.arr sz es),(3,.box [.fn g2 [.pt 0 0 0 0]])]) [(0,.box [.os 2 sz 0 len']),(1,.dead),(2,.arr sz es'),(3,.box [.fn g2 [.pt 0 0 0 0]])]))
  {cs:List D}(hcs:∀s,cvL H [] s cs (xs.map .i)) (hb:H c=.box [.os o sz 0 len]) (ho:H o=.arr sz es) (ht:H t=.box [.fn g2 [.pt c 0 0 0]]) (hf:H f=.fresh):
  aL P g [.i x,.agg cs,.pt c 0 0 0,.pt t 0 0 0] H (.tup []) (upd (upd (upd H o .dead) f (.arr sz es')) c (.box [.os f sz 0 len'])):=by
 have n1:c≠o:=λe=>by subst e;rw[hb]at ho;cases ho
 have n2:c≠f:=λe=>by subst e;rw[hb]at hf;cases hf
 have n3:o≠f:=λe=>by subst e;rw[ho]at hf;cases hf
 have n4:t≠f:=λe=>by subst e;rw[ht]at hf;cases hf
 have n5:t≠o:=λe=>by subst e;rw[ht]at ho;cases ho
 have n6:t≠c:=λe=>by subst e;rw[ht]at hb;cases hb
 have h:=dF (H:=H) (gs:=[.i x,.agg cs,.pt c 0 0 0,.pt t 0 0 0]) (L2:=λa=>if a=f then .arr sz es' else if a=c then .box [.os f sz 0 len']else if a=t then .box [.fn g2 [.pt c 0 0 0]]else .dead) (r':=.tup []) [] (λl=>if l=0 then some c else if l=1 then some o else if l=3 then some t else none) (λa=>if a=c then some 0 else if a=o then some 1 else if a=f then some 2 else if a=t then some 3 else none) hL
  ⟨by simp[cv1,cv0],by simp only[cv1];exact⟨_,rfl,hcs _⟩,by simp[cv1,cv0],by simp[cv1,cv0],trivial⟩
  (λa=>by
   by_cases h0:a=0
   ·subst h0;right;right;right;exact⟨c,by simp,by simp[hF,lk,cvO,cvL,cv0,frz,hb,D.one]⟩
   ·by_cases h1:a=1
    ·subst h1;right;right;right;exact⟨o,by simp,by simp[hF,lk,cvO,frz,ho]⟩
    ·by_cases h3:a=3
     ·subst h3;right;right;right;exact⟨t,by simp,by simp[hF,lk,cvO,cvT,cv1,cvL,cv0,frz,ht,D.one]⟩
     ·left;simp[hF,lk,h0,h1,h3])
  (λa b d h1 h2 h3 h4=>by
   have key:∀{z:Nat},(if z=0 then some c else if z=1 then some o else if z=3 then some t else none)=some d->(z=0/\d=c)\/(z=1/\d=o)\/(z=3/\d=t):=λ{z} hz=>by
    by_cases e0:z=0
    ·rw[if_pos e0]at hz;injection hz with hz;exact .inl ⟨e0,hz.symm⟩
    ·rw[if_neg e0]at hz;by_cases e1:z=1
     ·rw[if_pos e1]at hz;injection hz with hz;exact .inr (.inl ⟨e1,hz.symm⟩)
     ·rw[if_neg e1]at hz;by_cases e2:z=3
      ·rw[if_pos e2]at hz;injection hz with hz;exact .inr (.inr ⟨e2,hz.symm⟩)
      ·rw[if_neg e2]at hz;cases hz
   rcases key h3 with⟨p1,p2⟩|⟨p1,p2⟩|⟨p1,p2⟩<;>rcases key h4 with⟨q1,q2⟩|⟨q1,q2⟩|⟨q1,q2⟩<;>first|exact p1.trans q1.symm|exact absurd (p2.symm.trans q2) n1|exact absurd (q2.symm.trans p2) n1|exact absurd (p2.symm.trans q2) n5|exact absurd (q2.symm.trans p2) n5|exact absurd (p2.symm.trans q2) n6|exact absurd (q2.symm.trans p2) n6)
  (λa=>by
   by_cases h1:a=f
   ·subst h1;right;right;right;exact⟨2,by simp[n2.symm,n3.symm],by simp[hOf,lk,cvO,frz]⟩
   ·by_cases h2:a=c
    ·subst h2;right;right;right;exact⟨0,by simp,by simp[hOf,lk,cvO,cvL,cv0,frz,n2,n2.symm,n3.symm,D.one]⟩
    ·by_cases h3:a=t
     ·subst h3;right;right;right;exact⟨3,by simp[n4,n5,n6],by simp[hOf,hF,lk,cvO,cvT,cv1,cvL,cv0,frz,n4,n6,D.one]⟩
     ·right;left;simp[h1,h2,h3])
  (λa b d h1 h2 h3 h4=>by
   have key:∀{z:Nat},Ob.own (if z=f then .arr sz es' else if z=c then .box [.os f sz 0 len']else if z=t then .box [.fn g2 [.pt c 0 0 0]]else .dead)->z=f\/z=c\/z=t:=λ{z} hz=>by
    by_cases e1:z=f
    ·exact .inl e1
    ·by_cases e2:z=c
     ·exact .inr (.inl e2)
     ·by_cases e3:z=t
      ·exact .inr (.inr e3)
      ·simp[e1,e2,e3,Ob.own]at hz
   rcases key h1 with rfl|rfl|rfl<;>rcases key h2 with rfl|rfl|rfl<;>first|rfl|(simp[n2.symm,n3.symm,n4,n5,n6]at h3 h4;omega))
  (by simp[cv,cvT])
  (λl a h=>by
   by_cases h0:l=0
   ·subst h0;simp at h;subst h;simp
   ·by_cases h1:l=1
    ·subst h1;simp at h;subst h;simp[n1.symm]
    ·by_cases h3:l=3
     ·subst h3;simp at h;subst h;simp[n4,n5,n6]
     ·simp[h0,h1,h3]at h)
  (λa l h=>by
   by_cases h0:a=c
   ·subst h0;simp at h;subst h;left;simp
   ·by_cases h1:a=o
    ·subst h1;simp[h0]at h;subst h;left;simp
    ·by_cases h2:a=f
     ·subst h2;right;exact⟨hf,by simp⟩
     ·by_cases h3:a=t
      ·subst h3;simp[h0,h1,h2]at h;subst h;left;simp
      ·simp[h0,h1,h2,h3]at h)
 have e:(λa=>if((if a=c then some 0 else if a=o then some 1 else if a=f then some 2 else if a=t then some 3 else none:Option Nat)).isSome then(if a=f then Ob.arr sz es' else if a=c then .box [.os f sz 0 len']else if a=t then .box [.fn g2 [.pt c 0 0 0]]else .dead)else frz [] H a)=upd (upd (upd H o .dead) f (.arr sz es')) c (.box [.os f sz 0 len']):=by
  funext a;by_cases h1:a=c
  ·subst h1;simp[upd,n2]
  ·by_cases h2:a=f
   ·subst h2;simp[upd,h1,n3.symm]
   ·by_cases h3:a=o
    ·subst h3;simp[upd,h1,h2,n5.symm]
    ·by_cases h4:a=t
     ·subst h4;simp[upd,h1,h2,h3,ht]
     ·simp[upd,h1,h2,h3,h4,frz]
 rw[e]at h;exact h
def Zn:Ob->Nat
 | .box [.os o _ _ _]=>o
 |_=>0
@[simp,go_sem] theorem ahu {o a b d:Nat}:Zn (.box [.os o a b d])=o:=rfl
theorem Lj (hL:aL P g [.pt 0 0 0 0] (hF [(0,.box [.i (.s (.slice none 0 0))])]) (.tup []) (hOf (hF [(0,.box [.i (.s (.slice none 0 0))])]) [(0,.box [.os 2 sz 0 len']),(2,.arr sz es')]))
  (hb:σ.H c=.box [.i (.s (.slice none 0 0))]) (hf:rY (σ.H (frs σ.H))=true)
  (h:Ro P n rid rest (St.put ⟨σ.sl,upd (upd σ.H (frs σ.H) (.arr sz es')) c (.box [.os (frs σ.H) sz 0 len'])⟩ dst (.tup [])) ks Q):Call P n rid g [.pt c 0 0 0] dst rest σ ks Q :=
 ⟨_,_,.inl (La hL hb (jV hf)),h⟩
theorem Ry (hL:aL P g [.pt 0 0 0 0] (hF [(0,.box [.os 1 sz 0 len]),(1,.arr sz es)]) (.tup []) (hOf (hF [(0,.box [.os 1 sz 0 len]),(1,.arr sz es)]) [(0,.box [.os 2 sz 0 len']),(1,.dead),(2,.arr sz es')]))
  (hb:σ.H c=.box [.os (Zn (σ.H c)) sz 0 len]) (ho:σ.H (Zn (σ.H c))=.arr sz es) (hf:rY (σ.H (frs σ.H))=true)
  (h:Ro P n rid rest (St.put ⟨σ.sl,upd (upd (upd σ.H (Zn (σ.H c)) .dead) (frs σ.H) (.arr sz es')) c (.box [.os (frs σ.H) sz 0 len'])⟩ dst (.tup [])) ks Q):Call P n rid g [.pt c 0 0 0] dst rest σ ks Q :=
 ⟨_,_,.inl (QA hL hb ho (jV hf)),h⟩
theorem iZ {gs:List D}(hL:aL P g [.i x,.agg (xs.map .i),.pt 0 0 0 0,.pt 3 0 0 0] (hF [(0,.box [.os 1 sz 0 len]),(1,.arr sz es),(3,.box [.fn g2 [.pt 0 0 0 0]])]) (.tup []) (hOf (hF [(0,.box [.os 1 sz 0 len]),(1,.arr sz es),(3,.box [.fn g2 [.pt 0 0 0 0]])]) [(0,.box [.os 2 sz 0 len']),(1,.dead),(2,.arr sz es'),(3,.box [.fn g2 [.pt 0 0 0 0]])]))
  {cs:List D}(hg:gs=[.i x,.agg cs,.pt c 0 0 0,.pt t 0 0 0]) (hcs:∀s,cvL σ.H [] s cs (xs.map .i)) (hb:σ.H c=.box [.os (Zn (σ.H c)) sz 0 len]) (ho:σ.H (Zn (σ.H c))=.arr sz es) (ht:σ.H t=.box [.fn g2 [.pt c 0 0 0]]) (hf:rY (σ.H (frs σ.H))=true)
  (h:Ro P n rid rest (St.put ⟨σ.sl,upd (upd (upd σ.H (Zn (σ.H c)) .dead) (frs σ.H) (.arr sz es')) c (.box [.os (frs σ.H) sz 0 len'])⟩ dst (.tup [])) ks Q):Call P n rid g gs dst rest σ ks Q:=by
 subst hg;exact⟨_,_,.inl (QB hL hcs hb ho ht (jV hf)),h⟩
end
end Go.Abs
