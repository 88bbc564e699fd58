/- strconv.Itoa: by value. -/
import Derived.Shelf.Small.Bits
import Derived.Shelf.Strconv.Itoa0
import Derived.Shelf.Strconv.Itoa1
import Derived.Shelf.LaysM
import Derived.Shelf.Strconv.Itoa2
import Derived.Shelf.Strconv.Itoa3
import Derived.Shelf.Strconv.Itoa4
import Derived.Test.YtckjpabekmhnhaaDoorRow2
set_option linter.all false
namespace Go.Proofs
section
open Go.Shelf
def Tryd.laysM171_ren:Go.Shelf.Ren:=⟨fun | 171=>61 | 243=>74 | 246=>78 | 283=>81 | 284=>82 | 285=>83 | 286=>84 | 129=>86 | 317=>85 | 318=>87 | 319=>88 | 320=>89 | 337=>90 | 338=>91 | n=>n,fun | 3=>3 | 9=>9 | 2=>2 | 4=>4 | 171=>118 | 0=>0 | 53=>23 | 37=>39 | 5=>5 | 173=>121 | 212=>125 | 51=>126 | 20=>20 | 213=>127 | 46=>114 | 232=>130 | 233=>131 | n=>n,fun | 17=>1 | 18=>2 | 19=>3 | n=>n⟩
theorem Tryd.laysM171:Go.Proofs.LaysM.n171 Tryd.prog Tryd.laysM171_ren:={
 mixed:=by kernel_rfl
 f129:=Tryd.func86.trans (congrArg some (by kernel_rfl))
 f171:=Tryd.func61.trans (congrArg some (by kernel_rfl))
 f243:=Tryd.func74.trans (congrArg some (by kernel_rfl))
 f246:=Tryd.func78.trans (congrArg some (by kernel_rfl))
 f283:=Tryd.func81.trans (congrArg some (by kernel_rfl))
 f284:=Tryd.func82.trans (congrArg some (by kernel_rfl))
 f285:=Tryd.func83.trans (congrArg some (by kernel_rfl))
 f286:=Tryd.func84.trans (congrArg some (by kernel_rfl))
 f317:=Tryd.func85.trans (congrArg some (by kernel_rfl))
 f318:=Tryd.func87.trans (congrArg some (by kernel_rfl))
 f319:=Tryd.func88.trans (congrArg some (by kernel_rfl))
 f320:=Tryd.func89.trans (congrArg some (by kernel_rfl))
 f337:=Tryd.func90.trans (congrArg some (by kernel_rfl))
 f338:=Tryd.func91.trans (congrArg some (by kernel_rfl))
 t0:=Tryd.underlying0
 a0:=Tryd.isAgg0
 z0:=Tryd.sizeOf0
 v0:=Tryd.zeroValue0
 t2:=Tryd.underlying2
 a2:=Tryd.isAgg2
 z2:=Tryd.sizeOf2
 v2:=Tryd.zeroValue2
 t3:=Tryd.underlying3
 a3:=Tryd.isAgg3
 z3:=Tryd.sizeOf3
 v3:=Tryd.zeroValue3
 t4:=Tryd.underlying4
 a4:=Tryd.isAgg4
 z4:=Tryd.sizeOf4
 v4:=Tryd.zeroValue4
 t5:=Tryd.underlying5
 a5:=Tryd.isAgg5
 z5:=Tryd.sizeOf5
 v5:=Tryd.zeroValue5
 t9:=Tryd.underlying9
 a9:=Tryd.isAgg9
 z9:=Tryd.sizeOf9
 v9:=Tryd.zeroValue9
 t20:=Tryd.underlying20
 a20:=Tryd.isAgg20
 z20:=Tryd.sizeOf20
 v20:=Tryd.zeroValue20
 t37:=Tryd.underlying39
 a37:=Tryd.isAgg39
 z37:=Tryd.sizeOf39
 v37:=Tryd.zeroValue39
 t46:=Tryd.underlying114
 a46:=Tryd.isAgg114
 z46:=Tryd.sizeOf114
 v46:=Tryd.zeroValue114
 t51:=Tryd.underlying126
 a51:=Tryd.isAgg126
 z51:=Tryd.sizeOf126
 v51:=Tryd.zeroValue126
 t53:=Tryd.underlying23
 a53:=Tryd.isAgg23
 z53:=Tryd.sizeOf23
 v53:=Tryd.zeroValue23
 t171:=Tryd.underlying118
 a171:=Tryd.isAgg118
 z171:=Tryd.sizeOf118
 v171:=Tryd.zeroValue118
 t173:=Tryd.underlying121
 a173:=Tryd.isAgg121
 z173:=Tryd.sizeOf121
 v173:=Tryd.zeroValue121
 t212:=Tryd.underlying125
 a212:=Tryd.isAgg125
 z212:=Tryd.sizeOf125
 v212:=Tryd.zeroValue125
 t213:=Tryd.underlying127
 a213:=Tryd.isAgg127
 z213:=Tryd.sizeOf127
 t232:=Tryd.underlying130
 a232:=Tryd.isAgg130
 z232:=Tryd.sizeOf130
 v232:=Tryd.zeroValue130
 t233:=Tryd.underlying131
 a233:=Tryd.isAgg131
 z233:=Tryd.sizeOf131
 v233:=Tryd.zeroValue131
 g17:=by kernel_rfl
 g18:=by kernel_rfl
 g19:=by kernel_rfl
 i0:=by kernel_rfl
 i2:=by kernel_rfl
 i3:=by kernel_rfl
 i4:=by kernel_rfl
 i5:=by kernel_rfl
 i9:=by kernel_rfl
 i20:=by kernel_rfl
 i37:=by kernel_rfl
 i46:=by kernel_rfl
 i51:=by kernel_rfl
 i53:=by kernel_rfl
 i171:=by kernel_rfl
 i173:=by kernel_rfl
 i212:=by kernel_rfl
 i232:=by kernel_rfl
 i233:=by kernel_rfl
 m17:=by kernel_rfl
 m18:=by kernel_rfl
 m19:=by kernel_rfl }
open Go.RowKit Go.Sort Go.Lib in
theorem Tryd.strconv_Itoa (n:Int) (h0:-9223372036854775808≤n) (h1:n≤9223372036854775807) (w:World) (htab:Lib.TabIs Tryd.prog w "internal/strconv.uint64pow10" .u64 Lib.pow10Tab) :
  Calls Tryd.prog 61 #[.int .i64 n] w fun e w'=>e=.returned (.string ⟨(Lib.itoa n).toArray⟩)∧∃ k os,w'=grow (w.drewN k) os:=Any.strconv_Itoa Tryd.laysM171 n h0 h1 w htab
end
end Go.Proofs
namespace Go.Proofs.YtckjpabekmhnhaaDoor
open Go Go.Abs Go.RowKit
theorem itoa_A (n:Int) (h0:-9223372036854775808≤n) (h1:n≤9223372036854775807):PureD Tryd.prog 61 [intD n] (.i (.s (.string ⟨(Lib.itoa n).toArray⟩))):=by
 refine ⟨Enters_of Tryd.func61 (by kernel_rfl) (by kernel_rfl),fun K0 T K vs hr hrd=>?_⟩
 obtain ⟨hs,hg⟩:=hrd
 have hv:vs=#[.int .i64 n]:=by
  have h2:=conc_ok (hg 0 _ rfl) (v':=.int .i64 n) rfl
  apply Array.ext
  ·simpa using hs
  ·intro j hj1 hj2
   have:j=0:=by simp at hj2; exact hj2
   subst this
   rw [getD_lt hj1] at h2
   simpa using h2
 subst hv
 have ht:Lib.TabIs Tryd.prog K.w "internal/strconv.uint64pow10" .u64 Lib.pow10Tab:=hr.var (q:=("internal/strconv.uint64pow10",(Go.Lib.pow10Tab.map fun z=>Value.int .u64 z).toArray)) (by simp [gvars])
 refine (Tryd.strconv_Itoa n h0 h1 K.w ht).mono ?_
 rintro e w' ⟨rfl,k,os,rfl⟩
 have hsz:K.w.heap.size≤(Go.Sort.grow (K.w.drewN k) os).heap.size:=by show _≤(K.w.heap++os).size; simp
 obtain ⟨g1,g2⟩:=hr.grow (w':=Go.Sort.grow (K.w.drewN k) os) (S':=K.S) rfl rfl rfl hsz (fun j hj=>by show (K.w.heap++os)[j]?=_; rw [Array.getElem?_append_left hj]) (fun _ h=>h) (fun _ h=>.inl h) (fun b hb=>Nat.lt_of_lt_of_le (hr.sB b hb) hsz)
 exact ⟨_,_,rfl,rfl,g1,g2,.i (.s _ rfl)⟩
end Go.Proofs.YtckjpabekmhnhaaDoor
