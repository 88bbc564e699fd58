/- Events, as rows hand them in. -/
import Derived.Test.YtfenipelcpmkpaaGreatDoorGBc
import Derived.Test.YtfenipelcpmkpaaGreatDoorDecMsg
set_option linter.all false
namespace Go.Proofs.YtfenipelcpmkpaaGreatDoor
open Go Go.Abs Go.RowKit Go.Proofs.YtfenipelcpmkpaaGreatDoor.Ty
def encEv (e:EvD):List I:=.s (.int .i64 e.kind) :: .s (.int .i64 e.side) :: .s (.int .i64 e.later) :: .s (.int .i64 e.trust) :: .s (.int .i64 e.cl) :: [.s (.int .i64 e.m.kind),.s (.string e.m.chain),.s (.int .i64 e.m.trust),.s (.int .i64 e.m.kn.h),.s (.int .i64 e.m.kn.t),bI e.m.kn.root,bI e.m.kn.next,.s (.int .i64 e.m.cl),.s (.int .i64 e.m.up.fr),.s (.string e.m.up.sg.hdr.c),.s (.int .i64 e.m.up.sg.hdr.h),.s (.int .i64 e.m.up.sg.hdr.t),bI e.m.up.sg.hdr.root,bI e.m.up.sg.hdr.vals,bI e.m.up.sg.hdr.next,valsI e.m.up.sg.vals,votesI e.m.up.sg.votes,valsI e.m.up.tr,.s (.int .i64 e.m.up2.fr),.s (.string e.m.up2.sg.hdr.c),.s (.int .i64 e.m.up2.sg.hdr.h),.s (.int .i64 e.m.up2.sg.hdr.t),bI e.m.up2.sg.hdr.root,bI e.m.up2.sg.hdr.vals,bI e.m.up2.sg.hdr.next,valsI e.m.up2.sg.vals,votesI e.m.up2.sg.votes,valsI e.m.up2.tr,.s (.int .i64 e.m.other),.s (.int .i64 e.m.oend),.s (.int .i64 e.m.ed),.s (.bool e.m.ord),.s (.int .i64 e.m.sh.h),.s (.int .i64 e.m.sh.p.i),.s (.int .i64 e.m.sh.p.n),bI e.m.sh.p.k,bI e.m.sh.p.v,bbI e.m.sh.p.path,.s (.bool e.m.sh.g.hl),.s (.bool e.m.sh.g.hr),.s (.int .i64 e.m.sh.g.left.i),.s (.int .i64 e.m.sh.g.left.n),bI e.m.sh.g.left.k,bI e.m.sh.g.left.v,bbI e.m.sh.g.left.path,.s (.int .i64 e.m.sh.g.right.i),.s (.int .i64 e.m.sh.g.right.n),bI e.m.sh.g.right.k,bI e.m.sh.g.right.v,bbI e.m.sh.g.right.path,.s (.string e.m.tr.d),.s (.int .u64 e.m.tr.n),.s (.string e.m.tr.s),.s (.string e.m.tr.r),.s (.int .i64 e.m.tout),.s (.int .i64 e.m.next),.s (.int .i64 e.m.pk.fr),.s (.int .i64 e.m.pk.de),.s (.int .i64 e.m.pk.seq),bI e.m.pk.data,.s (.int .i64 e.m.pk.tout),bI e.m.ack]
attribute [simp,go_sem] encEv
def Zz (e:EvD):Prop:=oD e.m/\NA e.m
theorem YG {e:List I} (h:fP (.int .i64 :: .int .i64 :: .int .i64 :: .int .i64 :: .int .i64 :: [.int .i64,.str,.int .i64,.int .i64,.int .i64,.sl [.int .u8],.sl [.int .u8],.int .i64,.int .i64,.str,.int .i64,.int .i64,.sl [.int .u8],.sl [.int .u8],.sl [.int .u8],.sl [.int .u64,.int .u64],.sl [.bool,.int .u64,.int .u64],.sl [.int .u64,.int .u64],.int .i64,.str,.int .i64,.int .i64,.sl [.int .u8],.sl [.int .u8],.sl [.int .u8],.sl [.int .u64,.int .u64],.sl [.bool,.int .u64,.int .u64],.sl [.int .u64,.int .u64],.int .i64,.int .i64,.int .i64,.bool,.int .i64,.int .i64,.int .i64,.sl [.int .u8],.sl [.int .u8],.sl [.sl [.int .u8]],.bool,.bool,.int .i64,.int .i64,.sl [.int .u8],.sl [.int .u8],.sl [.sl [.int .u8]],.int .i64,.int .i64,.sl [.int .u8],.sl [.int .u8],.sl [.sl [.int .u8]],.str,.int .u64,.str,.str,.int .i64,.int .i64,.int .i64,.int .i64,.int .i64,.sl [.int .u8],.int .i64,.sl [.int .u8]]) e):∃ x:EvD,e=encEv x/\uT x.m:=by
 obtain ⟨x_kind,_,rfl,h_kind,h⟩:=hasCs_cons h
 obtain ⟨x_side,_,rfl,h_side,h⟩:=hasCs_cons h
 obtain ⟨x_later,_,rfl,h_later,h⟩:=hasCs_cons h
 obtain ⟨x_trust,_,rfl,h_trust,h⟩:=hasCs_cons h
 obtain ⟨x_cl,_,rfl,h_cl,h⟩:=hasCs_cons h
 obtain ⟨m,rfl,hm⟩:=dec_Msg h
 obtain ⟨ykind,rfl,_⟩:=dec_int h_kind
 obtain ⟨yside,rfl,_⟩:=dec_int h_side
 obtain ⟨ylater,rfl,_⟩:=dec_int h_later
 obtain ⟨ytrust,rfl,_⟩:=dec_int h_trust
 obtain ⟨ycl,rfl,_⟩:=dec_int h_cl
 exact ⟨⟨ykind,yside,ylater,ytrust,ycl,m⟩,rfl,hm⟩
def Zq (l:List EvD):I:=.sl (l.map encEv)
theorem dec_Evs {x:I} (h:HasC (.sl (.int .i64 :: .int .i64 :: .int .i64 :: .int .i64 :: .int .i64 :: [.int .i64,.str,.int .i64,.int .i64,.int .i64,.sl [.int .u8],.sl [.int .u8],.int .i64,.int .i64,.str,.int .i64,.int .i64,.sl [.int .u8],.sl [.int .u8],.sl [.int .u8],.sl [.int .u64,.int .u64],.sl [.bool,.int .u64,.int .u64],.sl [.int .u64,.int .u64],.int .i64,.str,.int .i64,.int .i64,.sl [.int .u8],.sl [.int .u8],.sl [.int .u8],.sl [.int .u64,.int .u64],.sl [.bool,.int .u64,.int .u64],.sl [.int .u64,.int .u64],.int .i64,.int .i64,.int .i64,.bool,.int .i64,.int .i64,.int .i64,.sl [.int .u8],.sl [.int .u8],.sl [.sl [.int .u8]],.bool,.bool,.int .i64,.int .i64,.sl [.int .u8],.sl [.int .u8],.sl [.sl [.int .u8]],.int .i64,.int .i64,.sl [.int .u8],.sl [.int .u8],.sl [.sl [.int .u8]],.str,.int .u64,.str,.str,.int .i64,.int .i64,.int .i64,.int .i64,.int .i64,.sl [.int .u8],.int .i64,.sl [.int .u8]])) x):∃ l:List EvD,x=Zq l/\∀ e∈l,uT e.m:=dec_list (fun _ he=>YG he) h
theorem UZ (e:EvD):bkL (encMsg e.m)<=bkL (encEv e):=by
 have:encEv e=.s (.int .i64 e.kind) :: .s (.int .i64 e.side) :: .s (.int .i64 e.later) :: .s (.int .i64 e.trust) :: .s (.int .i64 e.cl) :: encMsg e.m:=rfl
 rw [this]; simp only [bkL]; omega
theorem aas {e:EvD} {n:Nat} (hb:bkL (encEv e)<=n) (hn:n<=1048576) (h:uT e.m):Zz e:=by
 have:=UZ e
 exact ⟨XK (n:=n) (by omega) hn h,⟨h.2.2.2.2.2.1,h.2.2.2.1,h.2.2.2.2.1,h.2.2.2.2.2.2⟩⟩
theorem evs_gen {α:Type} (enc:α->List I) {l:List α} {n:Nat} (hb:bkI (.sl (l.map enc))<=n):(∀ a∈l,bkL (enc a)<=n)/\l.length<=n :=
 ⟨fun _ h=>Nat.le_trans (Nat.le_trans (Nat.le_add_left _ 1) (YY enc h)) hb,Nat.le_trans (AY enc l) hb⟩
theorem evs_sm {l:List EvD} {n:Nat} (hb:bkI (Zq l)<=n) (hn:n<=1048576) (h:∀ e∈l,uT e.m):(∀ e∈l,Zz e)/\l.length<=1048576:=by
 obtain ⟨h1,h2⟩:=evs_gen encEv (l:=l) hb
 exact ⟨fun e he=>aas (h1 e he) hn (h e he),Nat.le_trans h2 hn⟩
end Go.Proofs.YtfenipelcpmkpaaGreatDoor
