/- What the rows hand in: messages. -/
import Derived.Test.YtfenipelcpmkpaaGreatDoorGAp
import Derived.Test.YtfenipelcpmkpaaGreatDoorDecSt
import Derived.Test.YtfenipelcpmkpaaGreatDoorDecCl
set_option linter.all false
namespace Go.Proofs.YtfenipelcpmkpaaGreatDoor
open Go Go.Abs Go.RowKit Go.Proofs.YtfenipelcpmkpaaGreatDoor.Ty
def uT (m:MsgD):Prop:=((∀ v∈m.up.sg.vals,Ic v)/\(∀ x∈m.up.sg.votes,Gn x)/\(∀ v∈m.up.tr,Ic v))/\((∀ v∈m.up2.sg.vals,Ic v)/\(∀ x∈m.up2.sg.votes,Gn x)/\(∀ v∈m.up2.tr,Ic v))/\m.tr.n < 18446744073709551616/\gZ m.pk.fr/\gZ m.pk.de/\gZ m.oend/\gZ m.pk.seq
theorem xP {n:Int} (h:(Lit.int .i64 n).wf=true):gZ n:=by
 have hmin:IntKind.i64.min=-9223372036854775808:=by decide
 have hmax:IntKind.i64.max=9223372036854775807:=by decide
 simp [Lit.wf,hmin,hmax] at h; unfold gZ; omega
theorem dec_Msg {e:List I} (h:fP [.int .i64,.str,.int .i64,.int .i64,.int .i64,.sl [.int .u8],.sl [.int .u8],.int .i64,.int .i64,.str,.int .i64,.int .i64,.sl [.int .u8],.sl [.int .u8],.sl [.int .u8],.sl [.int .u64,.int .u64],.sl [.bool,.int .u64,.int .u64],.sl [.int .u64,.int .u64],.int .i64,.str,.int .i64,.int .i64,.sl [.int .u8],.sl [.int .u8],.sl [.int .u8],.sl [.int .u64,.int .u64],.sl [.bool,.int .u64,.int .u64],.sl [.int .u64,.int .u64],.int .i64,.int .i64,.int .i64,.bool,.int .i64,.int .i64,.int .i64,.sl [.int .u8],.sl [.int .u8],.sl [.sl [.int .u8]],.bool,.bool,.int .i64,.int .i64,.sl [.int .u8],.sl [.int .u8],.sl [.sl [.int .u8]],.int .i64,.int .i64,.sl [.int .u8],.sl [.int .u8],.sl [.sl [.int .u8]],.str,.int .u64,.str,.str,.int .i64,.int .i64,.int .i64,.int .i64,.int .i64,.sl [.int .u8],.int .i64,.sl [.int .u8]] e):∃ m:MsgD,e=encMsg m/\uT m:=by
 obtain ⟨x_kind,_,rfl,h_kind,h⟩:=hasCs_cons h
 obtain ⟨x_chain,_,rfl,h_chain,h⟩:=hasCs_cons h
 obtain ⟨x_trust,_,rfl,h_trust,h⟩:=hasCs_cons h
 obtain ⟨x_kh,_,rfl,h_kh,h⟩:=hasCs_cons h
 obtain ⟨x_kt,_,rfl,h_kt,h⟩:=hasCs_cons h
 obtain ⟨x_kr,_,rfl,h_kr,h⟩:=hasCs_cons h
 obtain ⟨x_kx,_,rfl,h_kx,h⟩:=hasCs_cons h
 obtain ⟨x_cl,_,rfl,h_cl,h⟩:=hasCs_cons h
 obtain ⟨x_afr,_,rfl,h_afr,h⟩:=hasCs_cons h
 obtain ⟨x_ac,_,rfl,h_ac,h⟩:=hasCs_cons h
 obtain ⟨x_ah,_,rfl,h_ah,h⟩:=hasCs_cons h
 obtain ⟨x_at,_,rfl,h_at,h⟩:=hasCs_cons h
 obtain ⟨x_aroot,_,rfl,h_aroot,h⟩:=hasCs_cons h
 obtain ⟨x_avals,_,rfl,h_avals,h⟩:=hasCs_cons h
 obtain ⟨x_anext,_,rfl,h_anext,h⟩:=hasCs_cons h
 obtain ⟨x_avl,_,rfl,h_avl,h⟩:=hasCs_cons h
 obtain ⟨x_avt,_,rfl,h_avt,h⟩:=hasCs_cons h
 obtain ⟨x_atr,_,rfl,h_atr,h⟩:=hasCs_cons h
 obtain ⟨x_bfr,_,rfl,h_bfr,h⟩:=hasCs_cons h
 obtain ⟨x_bc,_,rfl,h_bc,h⟩:=hasCs_cons h
 obtain ⟨x_bh,_,rfl,h_bh,h⟩:=hasCs_cons h
 obtain ⟨x_bt,_,rfl,h_bt,h⟩:=hasCs_cons h
 obtain ⟨x_broot,_,rfl,h_broot,h⟩:=hasCs_cons h
 obtain ⟨x_bvals,_,rfl,h_bvals,h⟩:=hasCs_cons h
 obtain ⟨x_bnext,_,rfl,h_bnext,h⟩:=hasCs_cons h
 obtain ⟨x_bvl,_,rfl,h_bvl,h⟩:=hasCs_cons h
 obtain ⟨x_bvt,_,rfl,h_bvt,h⟩:=hasCs_cons h
 obtain ⟨x_btr,_,rfl,h_btr,h⟩:=hasCs_cons h
 obtain ⟨x_other,_,rfl,h_other,h⟩:=hasCs_cons h
 obtain ⟨x_oend,_,rfl,h_oend,h⟩:=hasCs_cons h
 obtain ⟨x_ed,_,rfl,h_ed,h⟩:=hasCs_cons h
 obtain ⟨x_ord,_,rfl,h_ord,h⟩:=hasCs_cons h
 obtain ⟨x_sh,_,rfl,h_sh,h⟩:=hasCs_cons h
 obtain ⟨x_pi,_,rfl,h_pi,h⟩:=hasCs_cons h
 obtain ⟨x_pn,_,rfl,h_pn,h⟩:=hasCs_cons h
 obtain ⟨x_pk,_,rfl,h_pk,h⟩:=hasCs_cons h
 obtain ⟨x_pv,_,rfl,h_pv,h⟩:=hasCs_cons h
 obtain ⟨x_pq,_,rfl,h_pq,h⟩:=hasCs_cons h
 obtain ⟨x_hl,_,rfl,h_hl,h⟩:=hasCs_cons h
 obtain ⟨x_hr,_,rfl,h_hr,h⟩:=hasCs_cons h
 obtain ⟨x_li,_,rfl,h_li,h⟩:=hasCs_cons h
 obtain ⟨x_ln,_,rfl,h_ln,h⟩:=hasCs_cons h
 obtain ⟨x_lk,_,rfl,h_lk,h⟩:=hasCs_cons h
 obtain ⟨x_lv,_,rfl,h_lv,h⟩:=hasCs_cons h
 obtain ⟨x_lq,_,rfl,h_lq,h⟩:=hasCs_cons h
 obtain ⟨x_ri,_,rfl,h_ri,h⟩:=hasCs_cons h
 obtain ⟨x_rn,_,rfl,h_rn,h⟩:=hasCs_cons h
 obtain ⟨x_rk,_,rfl,h_rk,h⟩:=hasCs_cons h
 obtain ⟨x_rv,_,rfl,h_rv,h⟩:=hasCs_cons h
 obtain ⟨x_rq,_,rfl,h_rq,h⟩:=hasCs_cons h
 obtain ⟨x_td,_,rfl,h_td,h⟩:=hasCs_cons h
 obtain ⟨x_tn,_,rfl,h_tn,h⟩:=hasCs_cons h
 obtain ⟨x_ts,_,rfl,h_ts,h⟩:=hasCs_cons h
 obtain ⟨x_tr,_,rfl,h_tr,h⟩:=hasCs_cons h
 obtain ⟨x_tout,_,rfl,h_tout,h⟩:=hasCs_cons h
 obtain ⟨x_next,_,rfl,h_next,h⟩:=hasCs_cons h
 obtain ⟨x_pf,_,rfl,h_pf,h⟩:=hasCs_cons h
 obtain ⟨x_pd,_,rfl,h_pd,h⟩:=hasCs_cons h
 obtain ⟨x_ps,_,rfl,h_ps,h⟩:=hasCs_cons h
 obtain ⟨x_pb,_,rfl,h_pb,h⟩:=hasCs_cons h
 obtain ⟨x_pt,_,rfl,h_pt,h⟩:=hasCs_cons h
 obtain ⟨x_ack,_,rfl,h_ack,h⟩:=hasCs_cons h
 obtain rfl:=hasCs_nil h
 obtain ⟨ykind,rfl,_⟩:=dec_int h_kind
 obtain ⟨ychain,rfl,_⟩:=dec_str h_chain
 obtain ⟨ytrust,rfl,_⟩:=dec_int h_trust
 obtain ⟨ykh,rfl,_⟩:=dec_int h_kh
 obtain ⟨ykt,rfl,_⟩:=dec_int h_kt
 obtain ⟨ykr,rfl⟩:=dec_B h_kr
 obtain ⟨ykx,rfl⟩:=dec_B h_kx
 obtain ⟨ycl,rfl,_⟩:=dec_int h_cl
 obtain ⟨yafr,rfl,_⟩:=dec_int h_afr
 obtain ⟨yac,rfl,_⟩:=dec_str h_ac
 obtain ⟨yah,rfl,_⟩:=dec_int h_ah
 obtain ⟨yat,rfl,_⟩:=dec_int h_at
 obtain ⟨yaroot,rfl⟩:=dec_B h_aroot
 obtain ⟨yavals,rfl⟩:=dec_B h_avals
 obtain ⟨yanext,rfl⟩:=dec_B h_anext
 obtain ⟨yavl,rfl,w_avl⟩:=dec_Vals h_avl
 obtain ⟨yavt,rfl,w_avt⟩:=dec_Votes h_avt
 obtain ⟨yatr,rfl,w_atr⟩:=dec_Vals h_atr
 obtain ⟨ybfr,rfl,_⟩:=dec_int h_bfr
 obtain ⟨ybc,rfl,_⟩:=dec_str h_bc
 obtain ⟨ybh,rfl,_⟩:=dec_int h_bh
 obtain ⟨ybt,rfl,_⟩:=dec_int h_bt
 obtain ⟨ybroot,rfl⟩:=dec_B h_broot
 obtain ⟨ybvals,rfl⟩:=dec_B h_bvals
 obtain ⟨ybnext,rfl⟩:=dec_B h_bnext
 obtain ⟨ybvl,rfl,w_bvl⟩:=dec_Vals h_bvl
 obtain ⟨ybvt,rfl,w_bvt⟩:=dec_Votes h_bvt
 obtain ⟨ybtr,rfl,w_btr⟩:=dec_Vals h_btr
 obtain ⟨yother,rfl,_⟩:=dec_int h_other
 obtain ⟨yoend,rfl,w_oend⟩:=dec_int h_oend
 obtain ⟨yed,rfl,_⟩:=dec_int h_ed
 obtain ⟨yord,rfl⟩:=dec_bool h_ord
 obtain ⟨ysh,rfl,_⟩:=dec_int h_sh
 obtain ⟨ypi,rfl,_⟩:=dec_int h_pi
 obtain ⟨ypn,rfl,_⟩:=dec_int h_pn
 obtain ⟨ypk,rfl⟩:=dec_B h_pk
 obtain ⟨ypv,rfl⟩:=dec_B h_pv
 obtain ⟨ypq,rfl⟩:=dec_BB h_pq
 obtain ⟨yhl,rfl⟩:=dec_bool h_hl
 obtain ⟨yhr,rfl⟩:=dec_bool h_hr
 obtain ⟨yli,rfl,_⟩:=dec_int h_li
 obtain ⟨yln,rfl,_⟩:=dec_int h_ln
 obtain ⟨ylk,rfl⟩:=dec_B h_lk
 obtain ⟨ylv,rfl⟩:=dec_B h_lv
 obtain ⟨ylq,rfl⟩:=dec_BB h_lq
 obtain ⟨yri,rfl,_⟩:=dec_int h_ri
 obtain ⟨yrn,rfl,_⟩:=dec_int h_rn
 obtain ⟨yrk,rfl⟩:=dec_B h_rk
 obtain ⟨yrv,rfl⟩:=dec_B h_rv
 obtain ⟨yrq,rfl⟩:=dec_BB h_rq
 obtain ⟨ytd,rfl,_⟩:=dec_str h_td
 obtain ⟨ytn,rfl,w_tn⟩:=dec_u64 h_tn
 obtain ⟨yts,rfl,_⟩:=dec_str h_ts
 obtain ⟨ytr,rfl,_⟩:=dec_str h_tr
 obtain ⟨ytout,rfl,_⟩:=dec_int h_tout
 obtain ⟨ynext,rfl,_⟩:=dec_int h_next
 obtain ⟨ypf,rfl,w_pf⟩:=dec_int h_pf
 obtain ⟨ypd,rfl,w_pd⟩:=dec_int h_pd
 obtain ⟨yps,rfl,w_ps⟩:=dec_int h_ps
 obtain ⟨ypb,rfl⟩:=dec_B h_pb
 obtain ⟨ypt,rfl,_⟩:=dec_int h_pt
 obtain ⟨yack,rfl⟩:=dec_B h_ack
 exact ⟨⟨ykind,ychain,ytrust,⟨ykh,ykt,ykr,ykx⟩,ycl,⟨yafr,⟨⟨yac,yah,yat,yaroot,yavals,yanext⟩,yavl,yavt⟩,yatr⟩,⟨ybfr,⟨⟨ybc,ybh,ybt,ybroot,ybvals,ybnext⟩,ybvl,ybvt⟩,ybtr⟩,yother,yoend,yed,yord,⟨ysh,⟨ypi,ypn,ypk,ypv,ypq⟩,⟨yhl,yhr,⟨yli,yln,ylk,ylv,ylq⟩,⟨yri,yrn,yrk,yrv,yrq⟩⟩⟩,⟨ytd,ytn,yts,ytr⟩,ytout,ynext,⟨ypf,ypd,yps,ypb,ypt⟩,yack⟩,rfl,⟨w_avl,w_avt,w_atr⟩,⟨w_bvl,w_bvt,w_btr⟩,w_tn,xP w_pf,xP w_pd,xP w_oend,xP w_ps⟩
theorem fT:∀ {l:List I} {i:Nat} {x:I},l[i]?=some x->bkI x<=bkL l
 | [],i,x,h=>by simp at h
 | a :: t,0,x,h=>by simp at h; subst h; simp only [bkL]; omega
 | a :: t,i+1,x,h=>by
  have:=fT (l:=t) (i:=i) (x:=x) (by simpa using h)
  simp only [bkL]; omega
theorem XK {m:MsgD} {n:Nat} (hb:bkL (encMsg m)<=n) (hn:n<=1048576) (h:uT m):oD m:=by
 have r1:bkI (bI m.kn.root)<=1048576:=Nat.le_trans (Nat.le_trans (fT (l:=encMsg m) (i:=5) rfl) hb) hn
 have r2:bkI (bI m.kn.next)<=1048576:=Nat.le_trans (Nat.le_trans (fT (l:=encMsg m) (i:=6) rfl) hb) hn
 have a1:bkI (bI m.up.sg.hdr.root)<=1048576:=Nat.le_trans (Nat.le_trans (fT (l:=encMsg m) (i:=12) rfl) hb) hn
 have a2:bkI (bI m.up.sg.hdr.vals)<=1048576:=Nat.le_trans (Nat.le_trans (fT (l:=encMsg m) (i:=13) rfl) hb) hn
 have a3:bkI (bI m.up.sg.hdr.next)<=1048576:=Nat.le_trans (Nat.le_trans (fT (l:=encMsg m) (i:=14) rfl) hb) hn
 have a4:bkI (valsI m.up.sg.vals)<=1048576:=Nat.le_trans (Nat.le_trans (fT (l:=encMsg m) (i:=15) rfl) hb) hn
 have a5:bkI (valsI m.up.tr)<=1048576:=Nat.le_trans (Nat.le_trans (fT (l:=encMsg m) (i:=17) rfl) hb) hn
 have a6:bkI (.s (.string m.up.sg.hdr.c))<=1048576:=Nat.le_trans (Nat.le_trans (fT (l:=encMsg m) (i:=9) rfl) hb) hn
 have a7:=Nat.le_trans (AY jh m.up.sg.vals) a4
 have a8:=Nat.le_trans (AY jh m.up.tr) a5
 have b1:bkI (bI m.up2.sg.hdr.root)<=1048576:=Nat.le_trans (Nat.le_trans (fT (l:=encMsg m) (i:=22) rfl) hb) hn
 have b2:bkI (bI m.up2.sg.hdr.vals)<=1048576:=Nat.le_trans (Nat.le_trans (fT (l:=encMsg m) (i:=23) rfl) hb) hn
 have b3:bkI (bI m.up2.sg.hdr.next)<=1048576:=Nat.le_trans (Nat.le_trans (fT (l:=encMsg m) (i:=24) rfl) hb) hn
 have b4:bkI (valsI m.up2.sg.vals)<=1048576:=Nat.le_trans (Nat.le_trans (fT (l:=encMsg m) (i:=25) rfl) hb) hn
 have b5:bkI (valsI m.up2.tr)<=1048576:=Nat.le_trans (Nat.le_trans (fT (l:=encMsg m) (i:=27) rfl) hb) hn
 have b6:bkI (.s (.string m.up2.sg.hdr.c))<=1048576:=Nat.le_trans (Nat.le_trans (fT (l:=encMsg m) (i:=19) rfl) hb) hn
 have b7:=Nat.le_trans (AY jh m.up2.sg.vals) b4
 have b8:=Nat.le_trans (AY jh m.up2.tr) b5
 have t1:bkI (.s (.string m.tr.d))<=1048576:=Nat.le_trans (Nat.le_trans (fT (l:=encMsg m) (i:=50) rfl) hb) hn
 have t2:bkI (.s (.string m.tr.s))<=1048576:=Nat.le_trans (Nat.le_trans (fT (l:=encMsg m) (i:=52) rfl) hb) hn
 have t3:bkI (.s (.string m.tr.r))<=1048576:=Nat.le_trans (Nat.le_trans (fT (l:=encMsg m) (i:=53) rfl) hb) hn
 have p1:bkI (bI m.pk.data)<=1048576:=Nat.le_trans (Nat.le_trans (fT (l:=encMsg m) (i:=59) rfl) hb) hn
 have p2:bkI (bI m.ack)<=1048576:=Nat.le_trans (Nat.le_trans (fT (l:=encMsg m) (i:=61) rfl) hb) hn
 simp only [abA] at r1 r2 a1 a2 a3 b1 b2 b3 p1 p2
 obtain ⟨⟨v1,v2,v3⟩,⟨w1,w2,w3⟩,c,d,e,_⟩:=h
 exact ⟨⟨r1,r2⟩,⟨⟨⟨a6,a1,a2,a3⟩,a7,v1,v2⟩,a8,v3,a3⟩,⟨⟨⟨b6,b1,b2,b3⟩,b7,w1,w2⟩,b8,w3,b3⟩,c,t1,t2,t3,d,e,p1,p2⟩
end Go.Proofs.YtfenipelcpmkpaaGreatDoor
