/- Merged texts: DecB, Dec5, DecC0. -/
import Derived.Test.YtadoaljnfeoecaaGreatDoorGSha
import Derived.Test.YtadoaljnfeoecaaGreatDoorAbs4
import Derived.Test.YtadoaljnfeoecaaGreatDoorGProof
import Derived.Test.YtadoaljnfeoecaaGreatDoorGCl
set_option linter.all false
namespace Go.Proofs.YtadoaljnfeoecaaGreatDoor
open Go Go.Abs Go.RowKit
theorem dec_bb {e:List I} (h:HasCs [.sl [.int .u8]] e):∃ b:List UInt8,e=[bI b]∧True:=by
 obtain ⟨x,_,rfl,hx,h⟩:=hasCs_cons h
 obtain rfl:=hasCs_nil h
 obtain ⟨a,rfl⟩:=dec_B hx
 exact ⟨a,rfl,trivial⟩
theorem dec_BB {x:I} (h:HasC (.sl [.sl [.int .u8]]) x):∃ l:List (List UInt8),x=bbI l:=by
 obtain ⟨l,h1,_⟩:=dec_list (fun _ he=>dec_bb he) h
 exact ⟨l,h1⟩
end Go.Proofs.YtadoaljnfeoecaaGreatDoor
set_option linter.all false
namespace Go.Proofs.YtadoaljnfeoecaaGreatDoor
open Go Go.Abs Go.RowKit Go.Proofs.YtadoaljnfeoecaaGreatDoor.Ty
end Go.Proofs.YtadoaljnfeoecaaGreatDoor
set_option linter.all false
namespace Go.Proofs.YtadoaljnfeoecaaGreatDoor
open Go Go.Abs Go.RowKit Go.Proofs.YtadoaljnfeoecaaGreatDoor.Ty
theorem dec_Kn {e:List I} (h:HasCs [.int .i64,.int .i64,.sl [.int .u8],.sl [.int .u8]] e):∃ k:KnownD,e=encK k∧True:=by
 obtain ⟨x1,_,rfl,h1,h⟩:=hasCs_cons h
 obtain ⟨x2,_,rfl,h2,h⟩:=hasCs_cons h
 obtain ⟨x3,_,rfl,h3,h⟩:=hasCs_cons h
 obtain ⟨x4,_,rfl,h4,h⟩:=hasCs_cons h
 obtain rfl:=hasCs_nil h
 obtain ⟨a,rfl,_⟩:=dec_int h1
 obtain ⟨b,rfl,_⟩:=dec_int h2
 obtain ⟨u,rfl⟩:=dec_B h3
 obtain ⟨v,rfl⟩:=dec_B h4
 exact ⟨⟨a,b,u,v⟩,rfl,trivial⟩
theorem dec_Client {e:List I} (h:HasCs [.str,.int .i64,.bool,.sl [.int .i64,.int .i64,.sl [.int .u8],.sl [.int .u8]]] e):∃ c:ClientD,e=encC c:=by
 obtain ⟨x1,_,rfl,h1,h⟩:=hasCs_cons h
 obtain ⟨x2,_,rfl,h2,h⟩:=hasCs_cons h
 obtain ⟨x3,_,rfl,h3,h⟩:=hasCs_cons h
 obtain ⟨x4,_,rfl,h4,h⟩:=hasCs_cons h
 obtain rfl:=hasCs_nil h
 obtain ⟨a,rfl,_⟩:=dec_str h1
 obtain ⟨b,rfl,_⟩:=dec_int h2
 obtain ⟨f,rfl⟩:=dec_bool h3
 obtain ⟨l,rfl,_⟩:=dec_list (fun _ he=>dec_Kn he) h4
 exact ⟨⟨a,b,f,l⟩,rfl⟩
theorem kn_bk (k:KnownD):bkL (encK k)=k.root.length+k.next.length:=by
 have h1:=bk_B k.root
 have h2:=bk_B k.next
 simp only [bkL,encK,bkI,h1,h2]; omega
theorem cl_sm {c:ClientD} {n:Nat} (hb:bkL (encC c)≤n) (hn:n≤1048576):ClSm c∧c.c.size≤1048576:=by
 have h1:=bk_len encK c.known
 have h2:=fun k (hk:k∈c.known)=>bk_mem encK hk
 simp only [bkL,encC,bkI,knownI] at hb h1 h2
 refine ⟨⟨by omega,fun k hk=>?_⟩,by omega⟩
 have h3:=h2 k hk
 rw [kn_bk] at h3
 exact ⟨by omega,by omega⟩
end Go.Proofs.YtadoaljnfeoecaaGreatDoor
