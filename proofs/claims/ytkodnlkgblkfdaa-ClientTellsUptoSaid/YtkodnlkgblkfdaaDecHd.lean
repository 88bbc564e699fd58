/- What the rows hand in: validators, headers, what is signed. -/
import Derived.Test.YtkodnlkgblkfdaaHdD
import Derived.Test.YtkodnlkgblkfdaaGDec
set_option linter.all false
namespace Go.Proofs.Ytkodnlkgblkfdaa
open Go Go.Abs Go.RowKit Go.Proofs.Ytkodnlkgblkfdaa.Ty
def Val64 (v:ValD):Prop:=v.k < 18446744073709551616∧v.p < 18446744073709551616
theorem dec_Val {e:List I} (h:HasCs [.int .u64,.int .u64] e):∃ v:ValD,e=encV v∧Val64 v:=by
 obtain ⟨x,_,rfl,hx,h⟩:=hasCs_cons h
 obtain ⟨y,_,rfl,hy,h⟩:=hasCs_cons h
 obtain rfl:=hasCs_nil h
 obtain ⟨a,rfl,ha⟩:=dec_u64 hx
 obtain ⟨b,rfl,hb⟩:=dec_u64 hy
 exact ⟨⟨a,b⟩,rfl,ha,hb⟩
theorem dec_Vals {x:I} (h:HasC (.sl [.int .u64,.int .u64]) x):∃ l:List ValD,x=valsI l∧∀ v∈l,Val64 v:=dec_list (fun _ he=>dec_Val he) h
def Vote64 (x:VoteD):Prop:=x.r < 18446744073709551616∧x.s < 18446744073709551616
theorem dec_Vote {e:List I} (h:HasCs [.bool,.int .u64,.int .u64] e):∃ v:VoteD,e=encX v∧Vote64 v:=by
 obtain ⟨x,_,rfl,hx,h⟩:=hasCs_cons h
 obtain ⟨y,_,rfl,hy,h⟩:=hasCs_cons h
 obtain ⟨z,_,rfl,hz,h⟩:=hasCs_cons h
 obtain rfl:=hasCs_nil h
 obtain ⟨a,rfl⟩:=dec_bool hx
 obtain ⟨b,rfl,hb⟩:=dec_u64 hy
 obtain ⟨c,rfl,hc⟩:=dec_u64 hz
 exact ⟨⟨a,b,c⟩,rfl,hb,hc⟩
theorem dec_Votes {x:I} (h:HasC (.sl [.bool,.int .u64,.int .u64]) x):∃ l:List VoteD,x=votesI l∧∀ v∈l,Vote64 v:=dec_list (fun _ he=>dec_Vote he) h
theorem dec_Hdr {e:List I} (h:HasCs [.str,.int .i64,.int .i64,.sl [.int .u8],.sl [.int .u8],.sl [.int .u8]] e):∃ a:HdrD,e=encH a:=by
 obtain ⟨x1,_,rfl,h1,h⟩:=hasCs_cons h
 obtain ⟨x2,_,rfl,h2,h⟩:=hasCs_cons h
 obtain ⟨x3,_,rfl,h3,h⟩:=hasCs_cons h
 obtain ⟨x4,_,rfl,h4,h⟩:=hasCs_cons h
 obtain ⟨x5,_,rfl,h5,h⟩:=hasCs_cons h
 obtain ⟨x6,_,rfl,h6,h⟩:=hasCs_cons h
 obtain rfl:=hasCs_nil h
 obtain ⟨c,rfl,_⟩:=dec_str h1
 obtain ⟨a,rfl,_⟩:=dec_int h2
 obtain ⟨b,rfl,_⟩:=dec_int h3
 obtain ⟨u,rfl⟩:=dec_B h4
 obtain ⟨v,rfl⟩:=dec_B h5
 obtain ⟨w,rfl⟩:=dec_B h6
 exact ⟨⟨c,a,b,u,v,w⟩,rfl⟩
theorem dec_Signed {e:List I} (h:HasCs [.str,.int .i64,.int .i64,.sl [.int .u8],.sl [.int .u8],.sl [.int .u8],.sl [.int .u64,.int .u64],.sl [.bool,.int .u64,.int .u64]] e):∃ s:SignedD,e=encS s∧(∀ v∈s.vals,Val64 v)∧∀ x∈s.votes,Vote64 x:=by
 obtain ⟨x1,_,rfl,h1,h⟩:=hasCs_cons h
 obtain ⟨x2,_,rfl,h2,h⟩:=hasCs_cons h
 obtain ⟨x3,_,rfl,h3,h⟩:=hasCs_cons h
 obtain ⟨x4,_,rfl,h4,h⟩:=hasCs_cons h
 obtain ⟨x5,_,rfl,h5,h⟩:=hasCs_cons h
 obtain ⟨x6,_,rfl,h6,h⟩:=hasCs_cons h
 obtain ⟨x7,_,rfl,h7,h⟩:=hasCs_cons h
 obtain ⟨x8,_,rfl,h8,h⟩:=hasCs_cons h
 obtain rfl:=hasCs_nil h
 obtain ⟨c,rfl,_⟩:=dec_str h1
 obtain ⟨a,rfl,_⟩:=dec_int h2
 obtain ⟨b,rfl,_⟩:=dec_int h3
 obtain ⟨u,rfl⟩:=dec_B h4
 obtain ⟨v,rfl⟩:=dec_B h5
 obtain ⟨w,rfl⟩:=dec_B h6
 obtain ⟨l,rfl,hl⟩:=dec_Vals h7
 obtain ⟨m,rfl,hm⟩:=dec_Votes h8
 exact ⟨⟨⟨c,a,b,u,v,w⟩,l,m⟩,rfl,hl,hm⟩
theorem hdr_agg (h:HdrD):D.agg ((encH h).map .i)=hdrD h:=rfl
theorem sgn_agg (s:SignedD):D.agg ((encS s).map .i)=signedD s:=rfl
theorem hdr_sm {h:HdrD} {n:Nat} (hb:bkL (encH h)≤n) (hn:n≤1048576):HdrSm h:=by
 have h1:=bk_B h.root
 have h2:=bk_B h.vals
 have h3:=bk_B h.next
 simp only [bkL,encH,bkI] at hb
 exact ⟨by omega,by omega,by omega,by omega⟩
theorem bkLL_two {α:Type} {enc:α→List I} {k:Nat} (hk:∀ a,bkL (enc a)=k) (l:List α):bkI (.sl (l.map enc))=l.length * (1+k):=by
 rw [bk_map]
 induction l with
 | nil=>simp
 | cons a t ih=>rw [List.map_cons,List.sum_cons,ih,hk,List.length_cons,Nat.add_mul]; omega
theorem seeds_of {l:List (List UInt8)} {n:Nat} (h:bkI (bbI l)≤n) (hn:n≤1048576):SeedsSm l:=by
 have:=bb_small h
 exact ⟨by omega,fun s hs=>by have:=this.2 s hs; omega⟩
theorem vals_len {l:List ValD} {n:Nat} (h:bkI (valsI l)≤n) (hn:n≤1048576):l.length≤1048576:=by
 have:=bk_len encV l
 unfold valsI at h; omega
end Go.Proofs.Ytkodnlkgblkfdaa
