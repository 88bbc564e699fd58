/- Two states with one book: plain. -/
import Derived.Test.YtfenipelcpmkpaaGreatDoorGSo
set_option linter.all false
namespace Go.Proofs.YtfenipelcpmkpaaGreatDoor
open Go Go.Abs
theorem kS {a b:Int} (ha:0<=a/\a<=9223372036854775807) (hb:0<=b/\b<=9223372036854775807) (h:u64 a=u64 b):a=b:=by unfold u64 at h; omega
theorem zX:∀ {a b:List Nat},aN (a.map g_) (b.map g_)=true->a=b
 | [],[],_=>rfl
 | [],_ :: _,h=>by simp [aN] at h
 | _ :: _,[],h=>by simp [aN] at h
 | x :: a,y :: b,h=>by
  simp only [List.map_cons,aN,Bool.and_eq_true] at h
  obtain ⟨h1,h2⟩:=h
  simp [fE,g_] at h1
  rw [h1,zX h2]
theorem Fp {a b:List Nat} (ha:a.length<=10) (hb:b.length<=10) (na:∀ n∈a,n < 18446744073709551616) (nb:∀ n∈b,n < 18446744073709551616) (h:(bH (a.map g_)).1=(bH (b.map g_)).1):a=b:=by
 have key:∀ (l:List Nat),l.length<=10->bH (l.map g_)=((bH (l.map g_)).1,0,0):=fun l hl=>by
  have h0:=fO l.length
  rw [bH,if_neg (by simp; omega),qE _ _ _ (by simp only [List.length_map]; omega)]
 have hw:=zH (key a ha) (key b hb) (tT na) (tT nb)
 rw [decide_eq_true h] at hw
 exact zX hw.symm
theorem IV {c d:ConnD} (hc:We c) (hd:We d) (h:kR c=kR d):c=d:=by
 have:=Fp (a:=[u64 c.st,u64 c.cl,u64 c.oc,u64 (c.on+1)]) (b:=[u64 d.st,u64 d.cl,u64 d.oc,u64 (d.on+1)]) (by simp) (by simp) (by simp [u64_lt]) (by simp [u64_lt]) h
 simp only [List.cons.injEq,and_true] at this
 obtain ⟨a1,a2,a3,a4⟩:=this
 have x1:=hc.st; have x2:=hc.cl; have x3:=hc.oc; have x4:=hc.on
 have y1:=hd.st; have y2:=hd.cl; have y3:=hd.oc; have y4:=hd.on
 unfold N12 at *
 have b1:=kS (by omega) (by omega) a1
 have b2:=kS (by omega) (by omega) a2
 have b3:=kS (by omega) (by omega) a3
 have b4:=kS (by omega) (by omega) a4
 cases c; cases d
 simp only [ConnD.mk.injEq] at *
 exact ⟨b1,b2,b3,by omega⟩
theorem cnB_in:∀ {i:Nat} {l:List ConnD} {p:aY},p∈cnB i l->∃ (j:Nat) (h:j < l.length),p=⟨keyC ((i+j:Nat):Int),kR l[j]⟩
 | i,c :: t,p,h=>by
  simp only [cnB,List.mem_cons] at h
  rcases h with rfl | h
  ·exact ⟨0,by simp,rfl⟩
  ·obtain ⟨j,hj,rfl⟩:=cnB_in h
   exact ⟨j+1,by simpa using hj,by simp only [List.getElem_cons_succ]; rw [show i+1+j=i+(j+1) by omega]⟩
theorem chB_in:∀ {i:Nat} {l:List ChanD} {p:aY},p∈chB i l->∃ (j:Nat) (h:j < l.length),p=⟨keyH ((i+j:Nat):Int),jG l[j]⟩\/p=⟨keyN ((i+j:Nat):Int),EB l[j].rcv⟩
 | i,c :: t,p,h=>by
  simp only [chB,List.mem_cons] at h
  rcases h with rfl | rfl | h
  ·exact ⟨0,by simp,.inl rfl⟩
  ·exact ⟨0,by simp,.inr rfl⟩
  ·obtain ⟨j,hj,h⟩:=chB_in h
   refine ⟨j+1,by simpa using hj,?_⟩
   simp only [List.getElem_cons_succ]; rw [show i+(j+1)=i+1+j by omega]; exact h
theorem raw_C {s:StateD} {j:Nat} {v:List UInt8} (h:(⟨keyC j,v⟩:aY)∈Ht s):∃ hj:j < s.cns.length,v=kR s.cns[j]:=by
 unfold Ht at h
 simp only [List.mem_append] at h
 rcases h with (((h | h) | h) | h) | h
 ·obtain ⟨i,hi,e⟩:=cnB_in h
  simp only [aY.mk.injEq,Nat.zero_add] at e
  have:=FB (by omega) (by omega) e.1
  have:j=i:=by omega
  subst this; exact ⟨hi,e.2⟩
 ·obtain ⟨i,hi,e | e⟩:=chB_in h <;> simp [keyC,keyH,keyN] at e
 ·obtain ⟨m,_,e⟩:=mkB_mem h; simp [keyC,keyM,wSnt] at e
 ·obtain ⟨m,_,e⟩:=mkB_mem h; simp [keyC,keyM,wGt] at e
 ·obtain ⟨m,_,e⟩:=mkB_mem h; simp [keyC,keyM,wAk] at e
theorem raw_H {s:StateD} {j:Nat} {v:List UInt8} (h:(⟨keyH j,v⟩:aY)∈Ht s):∃ hj:j < s.chs.length,v=jG s.chs[j]:=by
 unfold Ht at h
 simp only [List.mem_append] at h
 rcases h with (((h | h) | h) | h) | h
 ·obtain ⟨i,hi,e⟩:=cnB_in h; simp [keyC,keyH] at e
 ·obtain ⟨i,hi,e | e⟩:=chB_in h
  ·simp only [aY.mk.injEq,Nat.zero_add] at e
   have:=Fz (by omega) (by omega) e.1
   have:j=i:=by omega
   subst this; exact ⟨hi,e.2⟩
  ·simp [keyH,keyN] at e
 ·obtain ⟨m,_,e⟩:=mkB_mem h; simp [keyH,keyM,wSnt] at e
 ·obtain ⟨m,_,e⟩:=mkB_mem h; simp [keyH,keyM,wGt] at e
 ·obtain ⟨m,_,e⟩:=mkB_mem h; simp [keyH,keyM,wAk] at e
end Go.Proofs.YtfenipelcpmkpaaGreatDoor
