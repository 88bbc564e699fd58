/- What the rows hand in: states, what is shown, packets. -/
import Derived.Test.YtadoaljnfeoecaaGreatDoorGPk
import Derived.Test.YtadoaljnfeoecaaGreatDoorGDec
set_option linter.all false
namespace Go.Proofs.YtadoaljnfeoecaaGreatDoor
open Go Go.Abs Go.RowKit Go.Proofs.YtadoaljnfeoecaaGreatDoor.Ty
theorem dec_Cl' {e:List I} (h:HasCs [.str,.int .i64,.bool,.sl [.int .i64,.int .i64,.sl [.int .u8],.sl [.int .u8]]] e):∃ c:ClientD,e=encC c∧True:=by
 obtain ⟨c,h⟩:=dec_Client h
 exact ⟨c,h,trivial⟩
theorem dec_Cn {e:List I} (h:HasCs [.int .i64,.int .i64,.int .i64,.int .i64] e):∃ c:ConnD,e=encCn c∧True:=by
 obtain ⟨x1,_,rfl,h1,h⟩:=hasCs_cons h
 obtain ⟨x2,_,rfl,h2,h⟩:=hasCs_cons h
 obtain ⟨x3,_,rfl,h3,h⟩:=hasCs_cons h
 obtain ⟨x4,_,rfl,h4,h⟩:=hasCs_cons h
 obtain rfl:=hasCs_nil h
 obtain ⟨a,rfl,_⟩:=dec_int h1
 obtain ⟨b,rfl,_⟩:=dec_int h2
 obtain ⟨c,rfl,_⟩:=dec_int h3
 obtain ⟨d,rfl,_⟩:=dec_int h4
 exact ⟨⟨a,b,c,d⟩,rfl,trivial⟩
theorem dec_Ch {e:List I} (h:HasCs [.int .i64,.bool,.int .i64,.int .i64,.int .i64,.int .i64,.int .i64] e):∃ c:ChanD,e=encCh c∧True:=by
 obtain ⟨x1,_,rfl,h1,h⟩:=hasCs_cons h
 obtain ⟨x2,_,rfl,h2,h⟩:=hasCs_cons h
 obtain ⟨x3,_,rfl,h3,h⟩:=hasCs_cons h
 obtain ⟨x4,_,rfl,h4,h⟩:=hasCs_cons h
 obtain ⟨x5,_,rfl,h5,h⟩:=hasCs_cons h
 obtain ⟨x6,_,rfl,h6,h⟩:=hasCs_cons h
 obtain ⟨x7,_,rfl,h7,h⟩:=hasCs_cons h
 obtain rfl:=hasCs_nil h
 obtain ⟨a,rfl,_⟩:=dec_int h1
 obtain ⟨b,rfl⟩:=dec_bool h2
 obtain ⟨c,rfl,_⟩:=dec_int h3
 obtain ⟨d,rfl,_⟩:=dec_int h4
 obtain ⟨f,rfl,_⟩:=dec_int h5
 obtain ⟨g,rfl,_⟩:=dec_int h6
 obtain ⟨k,rfl,_⟩:=dec_int h7
 exact ⟨⟨a,b,c,d,f,g,k⟩,rfl,trivial⟩
theorem dec_Mk {e:List I} (h:HasCs [.int .i64,.int .i64,.sl [.int .u8]] e):∃ c:MarkD,e=encM c∧True:=by
 obtain ⟨x1,_,rfl,h1,h⟩:=hasCs_cons h
 obtain ⟨x2,_,rfl,h2,h⟩:=hasCs_cons h
 obtain ⟨x3,_,rfl,h3,h⟩:=hasCs_cons h
 obtain rfl:=hasCs_nil h
 obtain ⟨a,rfl,_⟩:=dec_int h1
 obtain ⟨b,rfl,_⟩:=dec_int h2
 obtain ⟨c,rfl⟩:=dec_B h3
 exact ⟨⟨a,b,c⟩,rfl,trivial⟩
theorem dec_Pu' {e:List I} (h:HasCs [.str,.str,.int .u64] e):∃ p:PurseD,e=encPu p∧p.n < 18446744073709551616:=by
 obtain ⟨x,_,rfl,hx,h⟩:=hasCs_cons h
 obtain ⟨y,_,rfl,hy,h⟩:=hasCs_cons h
 obtain ⟨z,_,rfl,hz,h⟩:=hasCs_cons h
 obtain rfl:=hasCs_nil h
 obtain ⟨a,rfl,_⟩:=dec_str hx
 obtain ⟨b,rfl,_⟩:=dec_str hy
 obtain ⟨c,rfl,hc⟩:=dec_u64 hz
 exact ⟨⟨a,b,c⟩,rfl,hc⟩
theorem dec_State {e:List I} (h:HasCs [.str,.int .i64,.int .i64,.sl [.str,.int .i64,.bool,.sl [.int .i64,.int .i64,.sl [.int .u8],.sl [.int .u8]]],.sl [.int .i64,.int .i64,.int .i64,.int .i64],.sl [.int .i64,.bool,.int .i64,.int .i64,.int .i64,.int .i64,.int .i64],
  .sl [.int .i64,.int .i64,.sl [.int .u8]],.sl [.int .i64,.int .i64,.sl [.int .u8]],.sl [.int .i64,.int .i64,.sl [.int .u8]],.sl [.str,.str,.int .u64]] e):∃ s:StateD,e=encSt s∧∀ p∈s.pus,p.n < 18446744073709551616:=by
 obtain ⟨x0,_,rfl,h0,h⟩:=hasCs_cons h
 obtain ⟨x1,_,rfl,h1,h⟩:=hasCs_cons h
 obtain ⟨x2,_,rfl,h2,h⟩:=hasCs_cons h
 obtain ⟨x3,_,rfl,h3,h⟩:=hasCs_cons h
 obtain ⟨x4,_,rfl,h4,h⟩:=hasCs_cons h
 obtain ⟨x5,_,rfl,h5,h⟩:=hasCs_cons h
 obtain ⟨x6,_,rfl,h6,h⟩:=hasCs_cons h
 obtain ⟨x7,_,rfl,h7,h⟩:=hasCs_cons h
 obtain ⟨x8,_,rfl,h8,h⟩:=hasCs_cons h
 obtain ⟨x9,_,rfl,h9,h⟩:=hasCs_cons h
 obtain rfl:=hasCs_nil h
 obtain ⟨a,rfl,_⟩:=dec_str h0
 obtain ⟨b,rfl,_⟩:=dec_int h1
 obtain ⟨c,rfl,_⟩:=dec_int h2
 obtain ⟨l3,rfl,_⟩:=dec_list (fun _ he=>dec_Cl' he) h3
 obtain ⟨l4,rfl,_⟩:=dec_list (fun _ he=>dec_Cn he) h4
 obtain ⟨l5,rfl,_⟩:=dec_list (fun _ he=>dec_Ch he) h5
 obtain ⟨l6,rfl,_⟩:=dec_list (fun _ he=>dec_Mk he) h6
 obtain ⟨l7,rfl,_⟩:=dec_list (fun _ he=>dec_Mk he) h7
 obtain ⟨l8,rfl,_⟩:=dec_list (fun _ he=>dec_Mk he) h8
 obtain ⟨l9,rfl,hn⟩:=dec_list (fun _ he=>dec_Pu' he) h9
 exact ⟨⟨a,b,c,l3,l4,l5,l6,l7,l8,l9⟩,rfl,hn⟩
theorem st_agg (s:StateD):D.agg ((encSt s).map .i)=stateD s:=rfl
theorem st_sm {s:StateD} {n:Nat} (hb:bkL (encSt s)≤n) (hn:n≤1048576):StSm s:=by
 have h1:=bk_len encC s.cls
 have h2:=fun c (hc:c∈s.cls)=>bk_mem encC hc
 have h3:=bk_len encCn s.cns
 have h4:=bk_len encCh s.chs
 have h5:=bk_len encM s.sent
 have h6:=bk_len encM s.got
 have h7:=bk_len encM s.acks
 have h8:=fun m (hm:m∈s.sent)=>bk_mem encM hm
 have h9:=fun m (hm:m∈s.got)=>bk_mem encM hm
 have h10:=fun m (hm:m∈s.acks)=>bk_mem encM hm
 have h11:=bk_len encPu s.pus
 have e:bkL (encSt s)=s.name.size+(bkI (.sl (s.cls.map encC))+(bkI (.sl (s.cns.map encCn))+(bkI (.sl (s.chs.map encCh))+(bkI (.sl (s.sent.map encM))+(bkI (.sl (s.got.map encM))+(bkI (.sl (s.acks.map encM))+bkI (.sl (s.pus.map encPu)))))))):=by
  simp only [encSt,bkL,bkI]; omega
 rw [e] at hb
 have hm:∀ m:MarkD,m.dg.length≤bkL (encM m):=fun m=>by have:=bk_B m.dg; simp only [encM,bkL]; omega
 refine ⟨by omega,fun c hc=>(cl_sm (c:=c) (n:=n) (by have:=h2 c hc; omega) hn).1,by omega,by omega,by omega,by omega,by omega,fun m hmm=>?_,by omega⟩
 have hk:=hm m
 rcases hmm with hmm | hmm | hmm
 ·have:=h8 m hmm; omega
 ·have:=h9 m hmm; omega
 ·have:=h10 m hmm; omega
end Go.Proofs.YtadoaljnfeoecaaGreatDoor
