/- Merged texts: AbsU, AbsV, AbsW, AbsX, AbsEq, AbsStr, AbsIt, AbsOpen, AbsEv, AbsEw, AbsZ, AbsY, AbsWk. -/
import Derived.Test.YtdmeldhlbpdeeaaGreatDoorAbs3
import Derived.Laws.StructEq
import Derived.Lib.Bytealg
import Derived.Lib.Bytes
import Derived.ProofKit
import Derived.OpenShut
import Derived.ShutString
import Derived.ChangeOld
import Derived.ChangeArms
import Derived.Carry
import Derived.Deep.Slices
import Derived.JoinedCond
import Derived.Lib.Overlaps
set_option linter.all false
namespace Go.Abs
open Go Go.RowKit
section
variable {P:Program}{sl:Nat->D}{H:Nat->Ob}{t s d e ty:TypeId}{x y z l c:Operand}{id:Nat}{n:Nat}
section
variable {dst:Option Tmp}{op:Op}{oty:TypeId}{pos:String}{after:Array Edge}{guard:Option (Nat×Bool)}{rid k n:Nat}{rest:List It}{σ:St}{ks:List Fr}{Q:Ex->St->Prop}{ops:Array Oper}{acc:Acc}
def RoX (P:Program)(n rid:Nat)(c:Option (Operand×Array Operand))(k:Nat)(dst:Option Tmp)(op:Op)(rest:List It)(σ:St)(ks:List Fr)(Q:Ex->St->Prop):Prop :=
 match c with
 |none=>RoQ P n rid (opQ P σ.sl σ.H op) k ⟨dst,op,0, "",#[],none⟩ rest σ ks Q
 |some (f,args)=>RoC P n rid (evA σ.sl f) (args.toList.map (evA σ.sl)) dst rest σ ks Q
def RdX (P:Program)(n rid:Nat)(ops:Array Oper)(c:Option (Operand×Array Operand))(k:Nat)(dst:Option Tmp)(op:Op)(rest:List It)(acc:Acc)(σ:St)(ks:List Fr)(Q:Ex->St->Prop):Prop :=
 match c with
 |none=>RdQ P n rid ops (opQ P σ.sl σ.H op) k ⟨dst,op,0, "",#[],none⟩ rest acc σ ks Q
 |some (f,args)=>RdC P n rid ops (evA σ.sl f) (args.toList.map (evA σ.sl)) k dst rest acc σ ks Q
theorem ahP:RoG P n rid (some true) k ⟨dst,op,oty,pos,after,guard⟩ rest σ ks Q=(fI n dst=true/\RoX P n rid (bG op) k dst op rest σ ks Q):=by
 cases h:bG op with
 |none=>exact afw h
 |some p=>obtain⟨f,args⟩:=p;exact RoG_call h
theorem ahR:RdG P n rid ops (some true) k ⟨dst,op,oty,pos,after,guard⟩ rest acc σ ks Q=(fI n dst=true/\RdX P n rid ops (bG op) k dst op rest acc σ ks Q):=by
 cases h:bG op with
 |none=>exact afB h
 |some p=>obtain⟨f,args⟩:=p;exact RdG_call h
theorem afu:RoX P n rid none k dst op rest σ ks Q=RoQ P n rid (opQ P σ.sl σ.H op) k ⟨dst,op,0, "",#[],none⟩ rest σ ks Q:=rfl
theorem afv {f:Operand}{args:Array Operand}:RoX P n rid (some (f,args)) k dst op rest σ ks Q=RoC P n rid (evA σ.sl f) (args.toList.map (evA σ.sl)) dst rest σ ks Q:=rfl
theorem afz:RdX P n rid ops none k dst op rest acc σ ks Q=RdQ P n rid ops (opQ P σ.sl σ.H op) k ⟨dst,op,0, "",#[],none⟩ rest acc σ ks Q:=rfl
theorem afA {f:Operand}{args:Array Operand}:RdX P n rid ops (some (f,args)) k dst op rest acc σ ks Q=RdC P n rid ops (evA σ.sl f) (args.toList.map (evA σ.sl)) k dst rest acc σ ks Q:=rfl
theorem afr {d:D}:RoQ P n rid (some d) k ⟨dst,op,oty,pos,after,guard⟩ rest σ ks Q=Ro P n rid rest (σ.put dst d) ks Q:=rfl
theorem afs:RoQ P n rid none k ⟨dst,op,oty,pos,after,guard⟩ rest σ ks Q=RoS P n rid (orX (opH P σ.sl σ.H (uo rid k) op) (opX P σ.sl σ.H (uo rid k) op)) dst rest σ.sl ks Q:=rfl
theorem ahQ:RoG P n rid (some false) k ⟨dst,op,oty,pos,after,guard⟩ rest σ ks Q=(fI n dst=true/\Ro P n rid rest (σ.put dst .un) ks Q):=rfl
theorem afx {d:D}:RdQ P n rid ops (some d) k ⟨dst,op,oty,pos,after,guard⟩ rest acc σ ks Q=Rd P n rid ops rest ((k,[],[])::acc) (σ.put dst d) ks Q:=rfl
theorem afy:RdQ P n rid ops none k ⟨dst,op,oty,pos,after,guard⟩ rest acc σ ks Q=RdS P n rid ops (orX (opH P σ.sl σ.H (uo rid k) op) (opX P σ.sl σ.H (uo rid k) op)) (fpA σ.sl (uo rid k) op) k dst rest acc σ.sl ks Q:=rfl
theorem ahS:RdG P n rid ops (some false) k ⟨dst,op,oty,pos,after,guard⟩ rest acc σ ks Q=(fI n dst=true/\Rd P n rid ops rest ((k,[],[])::acc) (σ.put dst .un) ks Q):=rfl
end
def TM (n:Nat)(ops:Array Oper):Bool:=ops.all λo=>fI n o.dst
def okL (n:Nat):List Oper->Bool
 |[]=>true
 |o::t=>fI n o.dst&&okL n t
theorem Ha {n:Nat}{l:List Oper}:TM n l.toArray=okL n l:=by
 unfold TM;rw[List.all_toArray];induction l with
 |nil=>rfl
 |cons a t ih=>rw[List.all_cons,ih];rfl
theorem NH {n:Nat}:okL n []=true:=rfl
theorem G_ {n:Nat}{dst:Option Tmp}{op:Op}{oty:TypeId}{pos:String}{after:Array Edge}{guard:Option (Nat×Bool)}{t:List Oper}:okL n (⟨dst,op,oty,pos,after,guard⟩::t)=(fI n dst&&okL n t):=rfl
theorem W_r {id n:Nat}{σ:St}{ks:List Fr}{Q:Ex->St->Prop}{ops:Array Oper}:W P n (.region id ops false) σ ks Q=(TM n ops=true/\Ro P n id (uq ops) σ ks Q):=ahh
def xc (ms:List Nat)(o:Oper):List Nat:=ms++[(o.after.toList.filter (Region.binds .any)).foldl (λa e=>a ||| (ms.getD e.on 0 ||| 1 <<< e.on)) 0]
def ahK (ops:Array Oper):List Nat:=ops.toList.foldl xc []
def aao (ops:Array Oper)(ms:List Nat):List (Nat×List Nat×List Nat)->Bool
 |[]=>true
 |(j,fj,wj)::t=>(t.all λ(i,fi,wi)=>(ms.getD j 0).testBit i||(gP ops i j&&apart fi wi fj wj))&&aao ops ms t
def chk (ops:Array Oper)(acc:List (Nat×List Nat×List Nat)):Bool:=mf ops&&aao ops (ahK ops) acc
theorem Dr {ops:Array Oper}{i:Nat}:∀(f j:Nat),i∈Dt ops f j->i∈Dt ops (f+1) j
 |0,j,h=>by simp[Dt]at h
 |f+1,j,h=>by
  rw[Dt]at h⊢;split at h
  ·rename_i o ho;simp only[ho,List.mem_flatMap,List.mem_cons]at h⊢;obtain⟨e,he,h⟩:=h;refine⟨e,he,?_⟩;rcases h with h|h
   ·exact .inl h
   ·exact .inr (Dr f _ h)
  ·simp at h
theorem QY {ops:Array Oper}{i j f g:Nat}(h:i∈Dt ops f j)(hfg:f<=g):i∈Dt ops g j:=by
 induction hfg with
 |refl=>exact h
 |step _ ih=>exact Dr _ _ ih
theorem ancM_ok {ops:Array Oper}(hed:mf ops=true):∀(m:Nat),m<=ops.size->((ops.toList.take m).foldl xc []).length=m /\
  ∀j,j<m->∀i,(((ops.toList.take m).foldl xc []).getD j 0).testBit i=true->i∈Dt ops (j+1) j
 |0,_=>by simp
 |m+1,hm=>by
  obtain⟨h1,h2⟩:=ancM_ok hed m (by omega);have ho:ops.toList.take (m+1)=ops.toList.take m++[ops[m]]:=by rw[List.take_succ_eq_append_getElem (by simp;omega)];simp
  rw[ho,List.foldl_append];generalize hms:(ops.toList.take m).foldl xc []=ms at h1 h2;simp only[List.foldl_cons,List.foldl_nil,xc];refine⟨by simp[h1],λj hj i hi=>?_⟩;by_cases hjm:j<m
  ·refine h2 j hjm i ?_;rw[List.getD_eq_getElem?_getD,List.getElem?_append_left (by omega),<- List.getD_eq_getElem?_getD]at hi;exact hi
  ·have hj':j=m:=by omega
   subst hj';rw[List.getD_eq_getElem?_getD,List.getElem?_append_right (by omega)]at hi;simp only[h1,Nat.sub_self,List.getElem?_cons_zero,Option.getD_some]at hi;have key:∀(l:List Edge) (a:Nat),(l.foldl (λa e=>a ||| (ms.getD e.on 0 ||| 1 <<< e.on)) a).testBit i=true->a.testBit i=true\/∃e∈l,(ms.getD e.on 0).testBit i=true\/i=e.on:=by
    intro l;induction l with
    |nil=>intro a h;exact .inl h
    |cons e l ih =>
     intro a h;rcases ih _ h with h|⟨e',he',h⟩
     ·simp only[Nat.testBit_or,Bool.or_eq_true]at h;rcases h with h|h|h
      ·exact .inl h
      ·exact .inr ⟨e,by simp,.inl h⟩
      ·refine .inr ⟨e,by simp,.inr ?_⟩;rw[Nat.one_shiftLeft,Nat.testBit_two_pow]at h;simpa[eq_comm]using h
     ·exact .inr ⟨e',by simp[he'],h⟩
   rcases key _ _ hi with h|⟨e,he,h⟩
   ·simp at h
   ·rw[Dt];have hg:ops[j]?=some ops[j]:=by simp[show j<ops.size by omega]
    simp only[hg,List.mem_flatMap,List.mem_cons];refine⟨e,he,?_⟩;rcases h with h|h
    ·have hlt:e.on<j:=by
      have h3:=List.all_eq_true.1 hed j (by simp;omega);simp only[hg]at h3;simp only[List.mem_filter]at he;have h4:=(Array.all_eq_true_iff_forall_mem.1 h3) e (by simpa using he.1);simpa[he.2]using h4
     exact .inr (QY (h2 e.on hlt i h) (by omega))
    ·exact .inl h
theorem chk_ok {ops:Array Oper}{acc:List (Nat×List Nat×List Nat)}(h:chk ops acc=true):(mf ops&&iV ops acc)=true:=by
 simp only[chk,Bool.and_eq_true]at h⊢;refine⟨h.1,?_⟩;have hm:=ancM_ok h.1 ops.size (Nat.le_refl _);have e:ops.toList.take ops.size=ops.toList:=List.take_of_length_le (by simp);rw[e]at hm;have:=h.2;clear h;induction acc with
 |nil=>rfl
 |cons p t ih =>
  obtain⟨j,fj,wj⟩:=p;simp only[aao,iV,Bool.and_eq_true,List.all_eq_true,Bool.or_eq_true]at this⊢;refine⟨λq hq=>?_,ih this.2⟩;rcases this.1 q hq with h|h
  ·left;by_cases hj:j<ops.size
   ·have:=QY (hm.2 j hj q.1 h) (show j+1<=ops.size by omega);simpa using this
   ·rw[List.getD_eq_getElem?_getD,List.getElem?_eq_none_iff.2 (by unfold ahK;rw[hm.1];omega)]at h;simp at h
  ·exact .inr h
structure Hq {α:Type}(a b:α):Prop where
 out:a=b
theorem ahL {id n:Nat}{σ:St}{ks:List Fr}{Q:Ex->St->Prop}{ops:Array Oper}:W P n (.region id ops true) σ ks Q=(TM n ops=true/\P.follows .mixedOrders=true/\∀ops',Hq ops' ops->Rd P n id ops' (uq ops) [] σ ks Q):=by rw[afq];refine propext ⟨λ⟨a,b,c⟩=>⟨a,b,λops' h=>?_⟩,λ⟨a,b,c⟩=>⟨a,b,c ops ⟨rfl⟩⟩⟩;obtain⟨rfl⟩:=h;exact c
theorem NF {n i:Nat}:fI n (some i)=decide (i<n):=rfl
theorem NG {n:Nat}:fI n none=true:=rfl
theorem Qj:bG (.move x)=none:=rfl
theorem Qh:bG (.pick x y z)=none:=rfl
theorem CZ:bG (.assign x)=none:=rfl
theorem Jp:bG (.alloc t)=none:=rfl
theorem XL:bG (.box t x)=none:=rfl
theorem Jn {p:Array (Nat×Operand)}:bG (.build t p)=none:=rfl
theorem qR {p:Array (Nat×Operand)}:bG (.buildSlice t n p)=none:=rfl
theorem Qk:bG (.load t x)=none:=rfl
theorem Ji:bG (.store t x y)=none:=rfl
theorem wO:bG (.nilCheck x)=none:=rfl
theorem Jo {op:BinOp}{yt:TypeId}:bG (.binOp op t x y yt)=none:=rfl
theorem Qg {op:UnOp}:bG (.unOp op t x)=none:=rfl
theorem yf:bG (.convert s d x)=none:=rfl
theorem wP {f:Fn}{a b:Array Operand}:bG (.makeFunc f a b)=none:=rfl
theorem tO:bG (.makeSlice t l c)=none:=rfl
theorem Jj {lo hi mx:Option Operand}:bG (.slice t x lo hi mx)=none:=rfl
theorem tT {f:Nat}:bG (.fieldAddr t x f)=none:=rfl
theorem Jm {f:Nat}:bG (.field t x f)=none:=rfl
theorem tQ:bG (.indexAddr t x y)=none:=rfl
theorem Jl:bG (.index t x y)=none:=rfl
theorem yc {i:Nat}:bG (.extract x i)=none:=rfl
theorem yg {b:Builtin}{args:Array Operand}{tys:Array TypeId}:bG (.call {callee:=.builtin b,args:=args,argTypes:=tys})=none:=rfl
theorem Ql {f:Operand}{args:Array Operand}{tys:Array TypeId}:bG (.call {callee:=.value f,args:=args,argTypes:=tys})=some (f,args):=rfl
theorem iH {k:IntKind}{n:Int}:ofV (.int k n)=.i (.s (.int k n)):=rfl
theorem ib {b:Bool}:ofV (.bool b)=.i (.s (.bool b)):=rfl
theorem rP {b:ByteArray}:ofV (.string b)=.i (.s (.string b)):=rfl
theorem Cb {a:Option Addr}{l c:Nat}:ofV (.slice a l c)=.i (.s (.slice a l c)):=rfl
theorem v_ {a:Option Addr}:ofV (.pointer a)=.i (.s (.pointer a)):=rfl
theorem PH {i:Nat}:evA sl (.tmp i)=sl i:=rfl
theorem CQ {v:Value}:evA sl (.const v)=ofV v:=rfl
theorem IW {f:FuncId}:evA sl (.func f)=.fn f []:=rfl
theorem XJ {v:Value}:dO (.i (.s v))=some v:=rfl
theorem Qb {o sz off len:Nat}:dO (.os o sz off len)=none:=rfl
theorem Qa {es:List (List I)}:dO (.i (.sl es))=none:=rfl
theorem Ou {α:Type}{i:Nat}{x:α}{t:List (Nat×α)}{d:α}:lk ((i,x)::t) d i=x:=by simp[lk]
theorem adw {α:Type}{i j:Nat}{x:α}{t:List (Nat×α)}{d:α}(h:i≠j):lk ((j,x)::t) d i=lk t d i:=by simp[lk,h]
theorem Xc {α:Type}{i:Nat}{d:α}:lk ([]:List (Nat×α)) d i=d:=rfl
theorem OZ {i:Nat}:inS [] i=[]:=rfl
theorem Ir {d:D}{ds:List D}{i:Nat}:inS (d::ds) i=(i,d)::inS ds (i+1):=rfl
theorem NP:opQ P sl H (.move x)=some (evA sl x):=rfl
theorem Cc:opQ P sl H (.assign x)=some (evA sl x):=rfl
theorem Hu:opQ P sl H (.alloc t)=none:=rfl
theorem WP:opQ P sl H (.box t x)=none:=rfl
theorem NQ:opQ P sl H (.load t x)=none:=rfl
theorem Hf:opQ P sl H (.store t x y)=none:=rfl
theorem tC:opQ P sl H (.makeSlice t l c)=none:=rfl
theorem qF {p:Array (Nat×Operand)}:opQ P sl H (.buildSlice t n p)=none:=rfl
theorem Ce {args:Array Operand}{tys:Array TypeId}:opQ P sl H (.call {callee:=.builtin .append,args:=args,argTypes:=tys})=none:=by simp[opQ]
def Zl (c:Option Value)(a b:D):Option D :=
 match c with
 |some (.bool v)=>some (if v=true then a else b)
 |_=>none
def afH (d:D):Option D :=
 match d with
 | .pt o sz i c=>some (.pt o sz i c)
 | .rp cs c=>some (.rp cs c)
 | .fn f cs=>some (.fn f cs)
 |_=>none
def unQ (P:Program)(op:UnOp)(a:Option Value):Option D :=
 match a with
 |some a=>(pv P (Op.unary op a)).map ofV
 |none=>none
def CX (P:Program)(s d:TypeId)(a:Option Value):Option D :=
 match a with
 |some a=>(pv P (Go.convert s d a)).map ofV
 |none=>none
def uw (P:Program)(s d:TypeId)(a:Option Value):Option D :=
 match a with
 |some (.int _ n)=>match aG P s,aG P d with
  |some _,some (.int k')=>some (.i (.s (.int k' (k'.wrap n))))
  |_,_=>CX P s d a
 |_=>CX P s d a
theorem aeT {a:Option Value}:CX P s d a=uw P s d a:=by
 unfold uw;split
 ·split
  ·rename_i h1 h2;simp only[CX,UN h2 h1,Option.map_some,iH]
  ·rfl
 ·rfl
def faQ (P:Program)(fl:Option (Nat×TypeId))(d:D):Option D :=
 match fl with
  |some (off,ty)=>match iE P ty with
   |some (_+1)=>match d with
    | .pt o sz i c=>some (.pt o sz i (c+off))
    | .rp cs c=>some (.rp cs (c+off))
    |_=>none
   |_=>none
  |_=>none
def exQ (d:D)(i:Nat):Option D :=
 match d with
  | .tup ds=>ds[i]?
  |_=>none
def UC (P:Program)(d:D)(fl:Option (Nat×TypeId)):Option D :=
 match d,fl with
  | .agg cs,some (off,ty)=>qD P ty cs off
  |_,_=>none
def qX (P:Program)(t:TypeId)(ps:Option (List (Nat×List D)))(z:Option (List D))(pl:Option (Array (Nat×Nat))):Option D :=
 match ps,z with
  |some ps,some z=>match pl with
   |some pl=>(oH (pl[·]?) z ps).map .agg
   |none=>match aG P t with
    |some (.array _ e)=>match iE P e with
     |some s=>(oH (λi=>some (i*s,s)) z ps).map .agg
     |none=>none
    |_=>none
  |_,_=>none
def slQ (P:Program)(t:TypeId)(d:D)(lo' hi':Option (Option Value))(lv hv:Option (Option Value)):Option D :=
 match aG P t with
  |some (.slice e)=>match iE P e with
   |some s =>
    match d with
    | .os o sz off len =>
     match lo',hi' with
     |none,none=>if s=sz then some (.os o sz off len)else none
     |some (some (.int _ l)),none=>if s=sz/\0<=l/\l<=len then some (.os o sz (off+l.toNat) (len-l.toNat))else none
     |none,some (some (.int _ h))=>if s=sz/\0<=h/\h<=len then some (.os o sz off h.toNat)else none
     |some (some (.int _ l)),some (some (.int _ h))=>if s=sz/\0<=l/\l<=h/\h<=len then some (.os o sz (off+l.toNat) (h.toNat-l.toNat))else none
     |_,_=>none
    | .i (.sl es)=>if uni s es=false then none else
     match lo',hi' with
     |none,none=>some (.i (.sl es))
     |some (some (.int _ l)),none=>if 0<=l/\l<=es.length then some (.i (.sl (es.drop l.toNat)))else none
     |none,some (some (.int _ h))=>if 0<=h/\h<=es.length then some (.i (.sl (es.take h.toNat)))else none
     |some (some (.int _ l)),some (some (.int _ h))=>if 0<=l/\l<=h/\h<=es.length then some (.i (.sl ((es.take h.toNat).drop l.toNat)))else none
     |_,_=>none
    |_=>none
   |none=>none
  |some .string=>match dO d,lv,hv with
   |some a,some l,some h=>(pv P (Instr.sliceAt t a l h none)).map ofV
   |_,_,_=>none
  |_=>none
def gM (P:Program)(op:BinOp)(t:TypeId)(x y:Operand)(a b:Option Value):Option D :=
 match a,b with
 |some a,some b=>(pv P (do eqGuard op t x y a b;Go.binOp op t a b)).map ofV
 |_,_=>none
def ahb (P:Program)(op:BinOp)(t:TypeId)(x y:Operand)(d:D)(a b:Option Value):Option D :=
 match a,b with
 |some a,some b=>gM P op t x y (some a) (some b)
 |none,b=>EC P op t d b
 |some _,none=>none
theorem Ht {op:BinOp}{yt:TypeId}:opQ P sl H (.binOp op t x y yt)=ahb P op t x y (evA sl x) (dO (evA sl x)) (dO (evA sl y)):=rfl
theorem QI {op:BinOp}{d:D}{a b:Value}:ahb P op t x y d (some a) (some b)=gM P op t x y (some a) (some b):=rfl
theorem QJ {op:BinOp}{d:D}{b:Option Value}:ahb P op t x y d none b=EC P op t d b:=rfl
theorem OT {e:TypeId}:abx (some (.slice e))=true:=rfl
theorem Cu:xW (some (.slice none 0 0))=true:=rfl
theorem Ig {e:List I}{l:List (List I)}:wC (.i (.sl (e::l)))=true:=by simp[wC]
theorem Ih {o sz off n:Nat}:wC (.os o sz off n)=decide (0<n):=rfl
theorem Jg {l:List (List I)}:dO (.i (.sl l))=none:=rfl
theorem Ci {t:TypeId}{d:D}{b:Option Value}:EC P .eql t d b=if abx (aG P t)&&xW b&&wC d then some (.i (.s (.bool false)))else none:=rfl
theorem Ch {t:TypeId}{d:D}{b:Option Value}:EC P .neq t d b=if abx (aG P t)&&xW b&&wC d then some (.i (.s (.bool true)))else none:=rfl
section
variable {k:IntKind}{a b:Int}
theorem Yg:gM P .add t x y (some (.int k a)) (some (.int k b))=some (.i (.s (.int k (k.wrap (a+b))))):=by simp only[gM,acJ,Option.map_some,iH]
theorem XU:gM P .sub t x y (some (.int k a)) (some (.int k b))=some (.i (.s (.int k (k.wrap (a-b))))):=by simp only[gM,acv,Option.map_some,iH]
theorem X_:gM P .mul t x y (some (.int k a)) (some (.int k b))=some (.i (.s (.int k (k.wrap (a*b))))):=by simp only[gM,acC,Option.map_some,iH]
theorem XY (h:b≠0):gM P .quo t x y (some (.int k a)) (some (.int k b))=some (.i (.s (.int k (k.wrap (a.tdiv b))))):=by simp only[gM,acA h,Option.map_some,iH]
theorem XX (h:b≠0):gM P .rem t x y (some (.int k a)) (some (.int k b))=some (.i (.s (.int k (a.tmod b)))):=by simp only[gM,acz h,Option.map_some,iH]
theorem afd:gM P .or t x y (some (.int k a)) (some (.int k b))=some (.i (.s (.int k (bits .or k a b)))):=by simp only[gM,agt,Option.map_some,iH]
theorem Yf:gM P .and t x y (some (.int k a)) (some (.int k b))=some (.i (.s (.int k (bits .and k a b)))):=by simp only[gM,acI,Option.map_some,iH]
theorem XT:gM P .xor t x y (some (.int k a)) (some (.int k b))=some (.i (.s (.int k (bits .xor k a b)))):=by simp only[gM,acu,Option.map_some,iH]
theorem XW {k':IntKind}(h:0<=b):gM P .shl t x y (some (.int k a)) (some (.int k' b))=some (.i (.s (.int k (k.wrap (a*2^(min b.toNat k.bits)))))):=by simp only[gM,acx h,Option.map_some,iH]
theorem XV {k':IntKind}(h:0<=b):gM P .shr t x y (some (.int k a)) (some (.int k' b))=some (.i (.s (.int k (a.fdiv (2^(min b.toNat k.bits)))))):=by simp only[gM,acw h,Option.map_some,iH]
theorem Ya:gM P .lss t x y (some (.int k a)) (some (.int k b))=some (.i (.s (.bool (decide (a<b))))):=by simp only[gM,acD,Option.map_some,ib]
theorem Yb:gM P .leq t x y (some (.int k a)) (some (.int k b))=some (.i (.s (.bool (decide (a<=b))))):=by simp only[gM,acE,Option.map_some,ib]
theorem Yc:gM P .gtr t x y (some (.int k a)) (some (.int k b))=some (.i (.s (.bool (decide (b<a))))):=by simp only[gM,acF,Option.map_some,ib]
theorem Yd:gM P .geq t x y (some (.int k a)) (some (.int k b))=some (.i (.s (.bool (decide (b<=a))))):=by simp only[gM,acG,Option.map_some,ib]
theorem Ye:gM P .eql t x y (some (.int k a)) (some (.int k b))=some (.i (.s (.bool (decide (a=b))))):=by simp only[gM,acH,Option.map_some,ib]
theorem XZ:gM P .neq t x y (some (.int k a)) (some (.int k b))=some (.i (.s (.bool (!decide (a=b))))):=by simp only[gM,acB,Option.map_some,ib]
end
theorem NM:opQ P sl H (.pick c x y)=Zl (dO (evA sl c)) (evA sl x) (evA sl y):=by simp only[opQ,Zl];split<;>first|rfl|simp_all
theorem WB {v:Bool}{d1 d2:D}:Zl (some (.bool v)) d1 d2=some (if v=true then d1 else d2):=rfl
theorem adO {v p q:Bool}:(if v=true then D.i (.s (.bool p))else D.i (.s (.bool q)))=D.i (.s (.bool (if v=true then p else q))):=by cases v<;>rfl
theorem WK:opQ P sl H (.nilCheck x)=afH (evA sl x):=rfl
theorem WZ {o sz i c:Nat}:afH (.pt o sz i c)=some (.pt o sz i c):=rfl
theorem WY {cs:List I}{c:Nat}:afH (.rp cs c)=some (.rp cs c):=rfl
theorem W_ {f:FuncId}{cs:List D}:afH (.fn f cs)=some (.fn f cs):=rfl
theorem NL {op:UnOp}:opQ P sl H (.unOp op t x)=unQ P op (dO (evA sl x)):=rfl
theorem Wd {v:Bool}:unQ P .not (some (.bool v))=some (.i (.s (.bool !v))):=rfl
theorem NS:opQ P sl H (.convert s d x)=uw P s d (dO (evA sl x)):=by rw[<- aeT];rfl
def cvH (P:Program)(src dst:TypeId)(H:Nat->Ob)(c:Option Value)(d:D):Option (D×(Nat->Ob)) :=
 match aG P dst,aG P src with
  |some (.slice e),some .string=>match aG P e,c with
   |some (.int .u8),some (.string s)=>if s.size<=140737488355328 then some (.i (Wm s),H)else none
   |_,_=>none
  |some .string,some (.slice e)=>match aG P e,aO H d with
   |some (.int .u8),some es=>(es.mapM nK).map λbs=>(.i (.s (.string ⟨bs.toArray⟩)),H)
   |_,_=>none
  |some (.slice e),some (.slice _)=>if src=dst then match aG P e,d with
   |some (.int .u8),.os o 1 off (len+1)=>match H o with
    | .arr 1 _=>(aO H (.os o 1 off (len+1))).map λes=>(.i (.sl es),frz [o] H)
    |_=>none
   |_,_=>none
   else none
  |_,_=>none
theorem NW:opH P sl H id (.convert s d x)=cvH P s d H (dO (evA sl x)) (evA sl x):=rfl
theorem x_:uw P s d none=none:=rfl
theorem adf {f:Nat}:opQ P sl H (.fieldAddr t x f)=faQ P (EZ P t f) (evA sl x):=rfl
theorem adg {i:Nat}:opQ P sl H (.extract x i)=exQ (evA sl x) i:=rfl
theorem Xx {ds:List D}{i:Nat}:exQ (.tup ds) i=ds[i]?:=rfl
theorem WN {f:Nat}:opQ P sl H (.field t x f)=UC P (evA sl x) (EZ P t f):=rfl
theorem WL {f:FuncId}{cap:Array Operand}:opQ P sl H (.makeFunc (.func f) #[] cap)=some (.fn f (cap.toList.map (evA sl))):=rfl
theorem Ho {p:Array (Nat×Operand)}:opQ P sl H (.build t p)=qX P t (p.toList.mapM λp=>(bY (evA sl p.2)).map λcs=>(p.1,cs)) (aJ P t) (aY P t):=rfl
theorem ac_ {lo hi:Option Operand}:opQ P sl H (.slice t x lo hi none)=slQ P t (evA sl x) (lo.map λx=>dO (evA sl x)) (hi.map λx=>dO (evA sl x)) (ru sl lo) (ru sl hi):=rfl
def RU (P:Program)(tys:Array TypeId)(d:D):Option D :=
 match d with
 | .os _ _ _ len=>match (tys[0]?).bind (aG P)with
   |some (.slice _)=>some (.i (.s (.int .i64 (len:Int))))
   |_=>none
 | .i (.sl es)=>match (tys[0]?).bind (aG P)with
   |some (.slice _)=>some (.i (.s (.int .i64 (es.length:Int))))
   |_=>none
 |d=>match dO d with
   |some a=>(pv P (Builtin.len_ tys 0 #[a])).map ofV
   |none=>none
theorem WM {tys:Array TypeId}:opQ P sl H (.call {callee:=.builtin .len,args:=#[x],argTypes:=tys})=RU P tys (evA sl x):=by
 simp only[opQ,List.map_cons,List.map_nil,RU];cases hd:evA sl x with
 |i y=>cases y<;>rfl
 |_=>rfl
def ixQ (P:Program)(t:TypeId)(d:D)(ix:Option Value):Option D :=
 match ix with
  |some (.int _ n)=>match aG P t with
   |some (.slice e)=>match iE P e with
    |some s=>match d with
     | .os o sz off len=>if s=sz/\0<=n/\n<len then some (.pt o sz (off+n.toNat) 0)else none
     | .i (.sl es)=>match es[n.toNat]? with
      |some e=>if 0<=n/\e.length=s then some (.rp e 0)else none
      |none=>none
     |_=>none
    |none=>none
   |some (.array len e)=>match iE P e with
    |some s=>match d with
     | .pt o sz i c=>if 0<=n/\n<len then some (.pt o sz i (c+n.toNat*s))else none
     | .rp cs c=>if 0<=n/\n<len then some (.rp cs (c+n.toNat*s))else none
     |_=>none
    |none=>none
   |_=>none
  |_=>none
theorem adc:opQ P sl H (.indexAddr t x y)=ixQ P t (evA sl x) (dO (evA sl y)):=rfl
def Yk (z:Option (List D))(H:Nat->Ob)(x:Ob)(id:Nat):Option (D×(Nat->Ob)) :=
 match z,x with
  |some cs,.fresh=>some (.pt id 0 0 0,upd H id (.box cs))
  |_,_=>none
def ahH (z:Option (List D))(H:Nat->Ob)(x:Ob)(id:Nat):Option (D×(Nat->Ob)) :=
 match z,x with
  |some cs,.fresh=>if cs.all D.one then some (.pt id 0 0 0,upd H id (.box cs))else none
  |_,_=>none
def stH (p:D)(new:Option (List D))(n:Option Nat)(H:Nat->Ob):Option (D×(Nat->Ob)) :=
 match new,n with
  |some new,some n=>if new.length=n/\new.all D.one then
    match p with
    | .pt o sz i c=>match H o with
     | .box cs=>if i=0/\c+n<=cs.length then some (.un,upd H o (.box (cs.take c++new++cs.drop (c+n))))else none
     | .arr sz' es=>match es[i]?,new.mapM (eu H)with
      |some e,some xs=>if sz=sz'/\c+n<=e.length/\¬(new.flatMap D.ids1).contains o then
        some (.un,upd (frz (new.flatMap D.ids1) H) o (.arr sz (es.set i (e.take c++xs++e.drop (c+n)))))else none
      |_,_=>none
     | .tab sz' es=>match es[i]? with
      |some e=>if sz=sz'/\c+n<=e.length then some (D.un,upd H o (.tab sz (es.set i (e.take c++new++e.drop (c+n)))))else none
      |none=>none
     |_=>none
    |_=>none
   else none
  |_,_=>none
def Vq (P:Program)(u:Option TypeDesc)(len:Nat)(ps:Option (List (Nat×List D)))(H:Nat->Ob)(x:Ob)(id:Nat):Option (D×(Nat->Ob)) :=
 match u,x with
  |some (.slice e),.fresh=>match iE P e,aJ P e,ps with
   |some (s+1),some z,some ps=>if len*(s+1)<=16777216/\z.length=s+1/\ps.map (·.1)=List.range len/\ps.all (λp=>p.2.length=s+1/\p.2.all D.one)then
     match ps.mapM (λp=>p.2.mapM (eu H))with
     |some es=>some (.os id (s+1) 0 len,upd (frz (ps.flatMap λp=>p.2.flatMap D.ids1) H) id (.arr (s+1) es))
     |none=>none
    else none
   |_,_,_=>none
  |_,_=>none
def zSz (P:Program)(e:TypeId):Option Nat:=(jo P e).map (·.cells.size)
def VA (P:Program)(tys:List TypeId)(H:Nat->Ob)(x0:Ob)(id:Nat)(s x:D):Option (D×(Nat->Ob)) :=
 match tys with
  |[t,tx]=>match aG P t,x0 with
   |some (.slice e),.fresh=>match iE P e,iy P e,zSz P e with
    |some (n+1),some by_,some zn=>if zn=n+1 then
      match (match aG P tx,dO x with
       |some .string,some (.string str)=>if n=0 then some (str.data.toList.map aH)else none
       |some (.slice _),_=>aO H x
       |_,_=>none)with
      |some new=>match s with
       | .i (.s (.slice none 0 0))=>if uni (n+1) new/\new.length*by_<=140737488355328/\new.length<=140737488355328 then some (.os id (n+1) 0 new.length,upd H id (.arr (n+1) new))else none
       | .os o sz 0 len=>match H o with
        | .arr sz' es=>if sz=n+1/\sz'=n+1/\es.length=len/\uni (n+1) new/\(len+new.length)*by_<=140737488355328/\len+new.length<=140737488355328 then
          some (.os id (n+1) 0 (len+new.length),upd (upd H o .dead) id (.arr (n+1) (es++new)))else none
        |_=>none
       |_=>none
      |none=>none
     else none
    |_,_,_=>none
   |_,_=>none
  |_=>none
def ldH (P:Program)(t:TypeId)(H:Nat->Ob)(d:D):Option (D×(Nat->Ob)) :=
 match pM P t with
  |some true=>match iE P t with
   |some n=>(aW H d n).map λcs=>(.agg cs,H)
   |none=>none
  |some false=>((aW H d 1).bind ku).map λd=>(d,H)
  |none=>none
theorem NU:opH P sl H id (.load t x)=ldH P t H (evA sl x):=rfl
theorem HV:opH P sl H id (.alloc t)=Yk (aJ P t) H (H id) id:=rfl
theorem JN {cs:List D}:Yk (some cs) H .fresh id=some (.pt id 0 0 0,upd H id (.box cs)):=rfl
theorem WT:opH P sl H id (.box t x)=ahH (bY (evA sl x)) H (H id) id:=rfl
theorem JC {cs:List D}:ahH (some cs) H .fresh id=if cs.all D.one then some (.pt id 0 0 0,upd H id (.box cs))else none:=rfl
theorem Hw:opH P sl H id (.store t x y)=stH (evA sl x) (bY (evA sl y)) (iE P t) H:=rfl
theorem WS {p:Array (Nat×Operand)}:opH P sl H id (.buildSlice t n p)=Vq P (aG P t) n (p.toList.mapM (λp=>(bY (evA sl p.2)).map λcs=>(p.1,cs))) H (H id) id:=rfl
theorem WU {tys:Array TypeId}:opH P sl H id (.call {callee:=.builtin .append,args:=#[x,y],argTypes:=tys})=VA P tys.toList H (H id) id (evA sl x) (evA sl y):=by simp only[opH,List.map_cons,List.map_nil];rcases h:tys.toList with _|⟨a,_|⟨b,_|⟨c,l⟩⟩⟩<;>rfl
theorem fB (l:List UInt8):uni 1 (l.map aH)=true:=by simp[uni,aH]
theorem Me {x:I}:uni 1 [[x]]=true:=rfl
theorem fQ {α β:Type}{l:List α}{f:α->β}:List.take l.length (l.map f)=l.map f:=List.take_of_length_le (by simp)
theorem jy {α:Type}{l:List α}:List.take l.length l=l:=List.take_of_length_le (Nat.le_refl _)
theorem tN {α β:Type}{l:List α}{f:α->β}:List.drop l.length (l.map f)=[]:=List.drop_eq_nil_of_le (by simp)
def KR:Ob->Ob
 | .arr sz es=>.fz sz es
 |x=>x
theorem Xp {a k:Nat}{t:List Nat}{H:Nat->Ob}(h:k≠a):frz (a::t) H k=frz t H k:=by simp[frz,h]
theorem Xq {a:Nat}{t:List Nat}{H:Nat->Ob}:frz (a::t) H a=KR (H a):=by simp only[frz,List.contains_cons,beq_self_eq_true,Bool.true_or,if_true];cases H a<;>rfl
theorem CF {sz:Nat}{es:List (List I)}:KR (.arr sz es)=.fz sz es:=rfl
theorem IC {sz:Nat}{es:List (List I)}:KR (.fz sz es)=.fz sz es:=rfl
theorem CE {cs:List D}:KR (.box cs)=.box cs:=rfl
theorem Oc {k:IntKind}{n:Int}:Od (.s (.int k n))=.s (.int k n):=rfl
theorem H_ {b:Bool}:Od (.s (.bool b))=.s (.bool b):=rfl
theorem xR {b:ByteArray}:Od (.s (.string b))=.s (.string b):=rfl
theorem WV {es:List (List I)}:Od (.sl es)=.sl es:=rfl
theorem Oa:Od (.s (.slice none 0 0))=.sl []:=rfl
theorem Mf {s:Nat}:uni s []=true:=rfl
theorem FX {s:Nat}{e:List I}{t:List (List I)}:uni s (e::t)=(decide (e.length=s)&&uni s t):=by simp only[uni,List.all_cons];rfl
theorem xH {s:Nat}{a b:List (List I)}:uni s (a++b)=(uni s a&&uni s b):=by simp[uni]
theorem eG {α:Type}{s:Nat}{f:α->List I}(h:∀x,(f x).length=s)(l:List α):uni s (l.map f)=true:=by simp[uni,h]
theorem vZ {n:Nat}:((1:Int)<=((n+1:Nat):Int))=True:=by simp;omega
theorem IM:fpA sl id (.alloc t)=([id],[id]):=rfl
theorem Xu:fpA sl id (.box t x)=([id],[id]):=rfl
theorem Pq:fpA sl id (.makeSlice t l c)=([id],[id]):=rfl
theorem Ps:fpA sl id (.load t x)=((evA sl x).ids1,[]):=rfl
theorem IG:fpA sl id (.store t x y)=((evA sl x).ids1++(evA sl y).ids,(evA sl x).ids1++(evA sl y).ids):=rfl
theorem IL {p:Array (Nat×Operand)}:fpA sl id (.buildSlice t n p)=(id::p.toList.flatMap λp=>(evA sl p.2).ids,id::p.toList.flatMap λp=>(evA sl p.2).ids):=rfl
theorem xX:fpA sl id (.convert s d x)=((evA sl x).ids1,if s=d then(evA sl x).ids1 else[]):=rfl
theorem CJ {tys:Array TypeId}:fpA sl id (.call {callee:=.builtin .append,args:=#[x,y],argTypes:=tys})=(id::(evA sl x).ids1++(evA sl y).ids1,id::(evA sl x).ids1):=rfl
theorem ahC {v:I}:(D.i v).ids1=[]:=rfl
theorem aej {o sz off len:Nat}:(D.os o sz off len).ids1=[o]:=rfl
theorem aei {o sz i c:Nat}:(D.pt o sz i c).ids1=[o]:=rfl
theorem aeh {cs:List I}{c:Nat}:(D.rp cs c).ids1=[]:=rfl
theorem Xj:D.any.ids1=[]:=rfl
theorem aeg:D.un.ids1=[]:=rfl
theorem Xi {cs:List D}:(D.agg cs).ids=cs.flatMap D.ids1:=rfl
theorem ahA {v:I}:(D.i v).ids=[]:=rfl
theorem adU {o sz off len:Nat}:(D.os o sz off len).ids=[o]:=rfl
theorem adS {o sz i c:Nat}:(D.pt o sz i c).ids=[o]:=rfl
theorem adR {cs:List I}{c:Nat}:(D.rp cs c).ids=[]:=rfl
theorem uL {fn:Func}{σ:St}{i:Tmp}(h:fn.results=#[.tmp i]):BN P fn σ=some (σ.sl i):=by simp[BN,h,iC]
theorem aA {fn:Func}{i:Tmp}{r:D}(F:List Nat)(h:fn.results=#[.tmp i])(hv:cv H F (λ_=>none) (sl i) r):Fin P fn noH r noH .ret ⟨sl,H⟩ :=
 ⟨_,uL h,kJ F hv⟩
theorem acn {fn:Func}{σ:St}{i p:Tmp}{k:Nat}{cs:List D}(h:fn.results=#[.tmp i,.cell p t])(ha:pM P t=some true)(hs:iE P t=some k)(hr:aW σ.H (σ.sl p) k=some cs):BN P fn σ=some (.tup [σ.sl i,.agg cs]):=by simp[BN,h,iC,ha,hs,hr]
theorem CP {fn:Func}{i p:Tmp}{k:Nat}{cs:List D}{r:D}(F:List Nat)(h:fn.results=#[.tmp i,.cell p t])(ha:pM P t=some true)(hs:iE P t=some k)(hr:aW H (sl p) k=some cs)(hv:cv H F (λ_=>none) (.tup [sl i,.agg cs]) r):Fin P fn noH r noH .ret ⟨sl,H⟩ :=
 ⟨_,acn h ha hs hr,kJ F hv⟩
theorem Zf {fn:Func}{σ:St}{i j:Tmp}(h:fn.results=#[.tmp i,.tmp j]):BN P fn σ=some (.tup [σ.sl i,σ.sl j]):=by simp[BN,h,iC]
theorem dC {fn:Func}{i j:Tmp}{r:D}(F:List Nat)(h:fn.results=#[.tmp i,.tmp j])(hv:cv H F (λ_=>none) (.tup [sl i,sl j]) r):Fin P fn noH r noH .ret ⟨sl,H⟩ :=
 ⟨_,Zf h,kJ F hv⟩
theorem dN {fn:Func}{i:Tmp}{r:D}{H0:Nat->Ob}(objs:List (Nat×Ob))(F:List Nat)(src:List (Nat×Nat))(h:fn.results=#[.tmp i])(hv:cv H F (jc H0 src) (sl i) r)(ho:∀p∈objs,aX H F (jc H0 src) p)
  (hk:(src.all λp=>objs.any λq=>q.1==p.1)=true) (hf:∀p∈src,H0 p.2=.fresh) (hinj:(src.all λp=>src.all λq=>p.2 != q.2||p.1==q.1)=true):Fin P fn H0 r (hOf H0 objs) .ret ⟨sl,H⟩ :=
 ⟨_,uL h,Co objs F src hv ho hk hf hinj⟩
theorem GV {α:Type}{r:α}{x:Option α}:orX (some r) x=some r:=rfl
theorem GX {α:Type}{x:Option α}:orX none x=x:=rfl
theorem Qc {o sz off len cap:Nat}:dO (.oc o sz off len cap)=none:=rfl
theorem XI:dO .z=none:=rfl
theorem WJ {lo hi:Option Operand}{m:Operand}:opQ P sl H (.slice t x lo hi (some m))=none:=rfl
theorem adh {lo hi mx:Option Operand}:opH P sl H id (.slice t x lo hi mx)=none:=rfl
theorem acW {lo hi mx:Option Operand}:opX P sl H id (.slice t x lo hi mx)=(slX P t (evA sl x) (lo.map λx=>dO (evA sl x)) (hi.map λx=>dO (evA sl x)) (mx.map λx=>dO (evA sl x))).map λd=>(d,H):=rfl
theorem WQ {a:Array Operand}{tys:Array TypeId}:opH P sl H id (.call {callee:=.builtin .len,args:=a,argTypes:=tys})=none:=rfl
theorem WO {a:Array Operand}{tys:Array TypeId}:opQ P sl H (.call {callee:=.builtin .cap,args:=a,argTypes:=tys})=none:=by simp[opQ]
theorem WR {a:Array Operand}{tys:Array TypeId}:opH P sl H id (.call {callee:=.builtin .cap,args:=a,argTypes:=tys})=none:=rfl
theorem NR {a:Array Operand}{tys:Array TypeId}:opQ P sl H (.call {callee:=.builtin .copy,args:=a,argTypes:=tys})=none:=by simp[opQ]
theorem NV {a:Array Operand}{tys:Array TypeId}:opH P sl H id (.call {callee:=.builtin .copy,args:=a,argTypes:=tys})=none:=rfl
theorem Hm {a:Array Operand}{tys:Array TypeId}:opQ P sl H (.call {callee:=.builtin .clear,args:=a,argTypes:=tys})=none:=by simp[opQ]
theorem Hz {a:Array Operand}{tys:Array TypeId}:opH P sl H id (.call {callee:=.builtin .clear,args:=a,argTypes:=tys})=none:=rfl
theorem WF:opX P sl H id (.call {callee:=.builtin .len,args:=#[x],argTypes:=#[t]})=(ZR P t (evA sl x)).map λd=>(d,H):=rfl
theorem WG:opX P sl H id (.call {callee:=.builtin .cap,args:=#[x],argTypes:=#[t]})=(afK P t (evA sl x)).map λd=>(d,H):=rfl
theorem WI {u:TypeId}:opX P sl H id (.call {callee:=.builtin .append,args:=#[x,y],argTypes:=#[t,u]})=apX P t u (evA sl x) (evA sl y) H id:=rfl
theorem NK {u:TypeId}:opX P sl H id (.call {callee:=.builtin .copy,args:=#[x,y],argTypes:=#[t,u]})=cpX P t (evA sl x) (evA sl y) H:=rfl
theorem He:opX P sl H id (.call {callee:=.builtin .clear,args:=#[x],argTypes:=#[t]})=clX P t (evA sl x) H:=rfl
theorem Pt {tys:Array TypeId}:fpA sl id (.call {callee:=.builtin .copy,args:=#[x,y],argTypes:=tys})=((evA sl x).ids1++(evA sl y).ids1,(evA sl x).ids1):=rfl
theorem IK {tys:Array TypeId}:fpA sl id (.call {callee:=.builtin .clear,args:=#[x],argTypes:=tys})=((evA sl x).ids1,(evA sl x).ids1):=rfl
theorem II {lo hi mx:Option Operand}:fpA sl id (.slice t x lo hi mx)=([],[]):=rfl
theorem Xr {a:Array Operand}{tys:Array TypeId}:fpA sl id (.call {callee:=.builtin .len,args:=a,argTypes:=tys})=([],[]):=rfl
theorem Xt {a:Array Operand}{tys:Array TypeId}:fpA sl id (.call {callee:=.builtin .cap,args:=a,argTypes:=tys})=([],[]):=rfl
theorem aek {o sz off len cap:Nat}:(D.oc o sz off len cap).ids1=[o]:=rfl
theorem ahB:D.z.ids1=[]:=rfl
theorem adV {o sz off len cap:Nat}:(D.oc o sz off len cap).ids=[o]:=rfl
theorem Cg {d:Nat}:RS d none=some d:=rfl
theorem Cf {d:Nat}{k:IntKind}{l:Int}:RS d (some (some (.int k l)))=if 0<=l then some l.toNat else none:=rfl
end
section
variable {P:Program}{K0:Ctx}{T:Nat->Prop}{K:Ctx}{H:Nat->Ob}
def aht (K:Ctx)(H:Nat->Ob)(b:Nat):Prop:=∃o,(H o).own/\K.μ o=some b
theorem HR.rebase (hr:HR K0 T K H):HR K (aht K H) K H:=by
 refine⟨⟨λq hq=>⟨hr.var hq,λg hg ⟨o,ho,hm⟩=>?_⟩⟩,rfl,rfl,rfl,Nat.le_refl _,λ_ _ _=>rfl,hr.sB,λb hb=>.inl hb,hr.mB,λo=>?_,hr.inj⟩
 ·obtain⟨h1,h2⟩:=hr.g0.is q hq;obtain⟨g',t,f,hg',hb⟩:=var_heap h1;rw[hg]at hg';cases hg';have hlt:=(Array.getElem?_eq_some_iff.1 hb).1;obtain⟨_,_,_,_,q⟩:=hr.place ho hm;rcases q with q|q
  ·omega
  ·exact h2 g hg q
 have h:=hr.ob o;cases hx:H o with
 |fresh=>rw[hx]at h;exact h
 |dead=>trivial
 |box cs =>rw[hx]at h;obtain⟨b,row,e,h1,h2,h3,h4,h5,h6,h7⟩:=h;exact⟨b,row,e,h1,h2,h3,h4,h5,h6,.inr ⟨o,by rw[hx];trivial,h1⟩⟩
 |it st pos =>rw[hx]at h;obtain⟨b,h1,h2,h6,h7⟩:=h;exact⟨b,h1,h2,h6,.inr ⟨o,by rw[hx];trivial,h1⟩⟩
 |mp es =>rw[hx]at h;obtain⟨b,en,ck,h1,h2,h3,h6,h7⟩:=h;exact⟨b,en,ck,h1,h2,h3,h6,.inr ⟨o,by rw[hx];trivial,h1⟩⟩
 |arr sz es =>
  rw[hx]at h;obtain⟨h1,h2,h3⟩:=h;refine⟨h1,h2,?_⟩;rcases h3 with h3|⟨b,row,e,a1,a2,a3,a4,a5,a6⟩
  ·exact .inl h3
  ·exact .inr ⟨b,row,e,a1,a2,a3,a4,a5,.inr ⟨o,by rw[hx];trivial,a1⟩⟩
 |tab sz es =>
  rw[hx]at h;obtain⟨h1,h2,h0,h3⟩:=h;refine⟨h1,h2,h0,?_⟩;rcases h3 with h3|⟨b,row,e,a1,a2,a3,a4,a5,a6⟩
  ·exact .inl h3
  ·exact .inr ⟨b,row,e,a1,a2,a3,a4,a5,.inr ⟨o,by rw[hx];trivial,a1⟩⟩
 |fz sz es=>rw[hx]at h;exact h
theorem HR.merge {K1 B K2:Ctx}{H1 L2:Nat->Ob}{T':Nat->Prop}{dom:Nat->Bool}(hr:HR K0 T K1 H1)(hc:HR B T' K2 L2)(hw:B.w=K1.w)(hS:B.S=K1.S)(hS2:∀b,K1.S b->K2.S b)
  (hT:∀b,T' b->∃o,dom o=true/\(H1 o).own/\K1.μ o=some b) (hμ:∀o b,dom o=true->K1.μ o=some b->K2.μ o=some b) (hd:∀o b,K2.μ o=some b->dom o=true)
  (hrow:∀o b,dom o=true->K1.μ o=some b->dR K2.w b=dR K1.w b):
  Ext K1 ⟨K2.w,K2.S,λo=>if dom o then K2.μ o else K1.μ o⟩/\HR K0 T ⟨K2.w,K2.S,λo=>if dom o then K2.μ o else K1.μ o⟩ (λo=>if dom o then L2 o else H1 o) /\
   Ext K2 ⟨K2.w,K2.S,λo=>if dom o then K2.μ o else K1.μ o⟩:=by
 have hold:∀b,b<K1.w.heap.size->¬T' b->K2.w.heap[b]?=K1.w.heap[b]?:=λb hb hn=>by have:=hc.block b (by rw[hw];exact hb) hn;rw[this,hw]
 have hST:∀b,K1.S b->¬T' b:=by intro b hb ht;obtain⟨o,_,ho,hm⟩:=hT b ht;obtain⟨_,_,_,q,_⟩:=hr.place ho hm;exact q hb
 have hsz:K1.w.heap.size<=K2.w.heap.size:=by have:=hc.size;rw[hw]at this;exact this
 have hrow':∀o b,K1.μ o=some b->dR K2.w b=dR K1.w b:=by
  intro o b hb;by_cases ht:T' b
  ·obtain⟨o',hd',_,hm'⟩:=hT b ht;exact hrow o' b hd' hm'
  ·exact fe (hold b (hr.mB o b hb) ht)
 have he:Ext K1 ⟨K2.w,K2.S,λo=>if dom o then K2.μ o else K1.μ o⟩:=by
  refine⟨hS2,λb hb j=>World.cell?_of_block (w:=K1.w) (hold b (hr.sB b hb) (hST b hb)),λo b hb=>?_,hrow'⟩;by_cases h:dom o=true
  ·simp only[h,if_true];exact hμ o b h hb
  ·simp only[h];exact hb
 have he2:Ext K2 ⟨K2.w,K2.S,λo=>if dom o then K2.μ o else K1.μ o⟩ :=
  ⟨λ_ h=>h,λ_ _ _=>rfl,λo b hb=>by simp only[hd o b hb,if_true];exact hb,λ_ _ _=>rfl⟩
 have hnS:∀o b,dom o≠true->(H1 o).own->K1.μ o=some b->¬T' b/\¬K2.S b:=by
  intro o b hdo hown hb;have hnT:¬T' b:=by intro ht;obtain⟨o',hd',ho',hm'⟩:=hT b ht;have:=hr.inj o o' b hown ho' hb hm';subst this;exact hdo hd'
  refine⟨hnT,λh2=>?_⟩;rcases hc.sN b h2 with h|h|h
  ·rw[hS]at h;obtain⟨_,_,_,q,_⟩:=hr.place hown hb;exact q h
  ·rw[hw]at h;have:=hr.mB o b hb;omega
  ·exact hnT h
 have hown2:∀b,(B.w.heap.size<=b\/T' b)->(K0.w.heap.size<=b\/T b):=by
  rintro b (h|h)
  ·left;rw[hw]at h;exact Nat.le_trans hr.size h
  ·obtain⟨o,_,ho,hm⟩:=hT b h;obtain⟨_,_,_,_,q⟩:=hr.place ho hm;exact q
 refine⟨he,?_,he2⟩;refine⟨hr.g0,(hc.os.trans (by rw[hw])).trans hr.os,(hc.tape.trans (by rw[hw])).trans hr.tape,(hc.output.trans (by rw[hw])).trans hr.output,Nat.le_trans hr.size hsz,λk hk hTk=>?_,hc.sB,λb hb=>?_,λo b hb=>?_,λo=>?_,λo1 o2 b h1 h2 g1 g2=>?_⟩
 ·have hnT:¬T' k:=by
   intro ht;rcases hown2 k (.inr ht)with h|h
   ·omega
   ·exact hTk h
  exact(hold k (Nat.lt_of_lt_of_le hk hr.size) hnT).trans (hr.block k hk hTk)
 ·rcases hc.sN b hb with h|h|h
  ·rw[hS]at h;exact hr.sN b h
  ·exact .inr (hown2 b (.inl h))
  ·exact .inr (hown2 b (.inr h))
 ·by_cases h:dom o=true
  ·simp only[h,if_true]at hb;exact hc.mB o b hb
  ·simp only[h]at hb;exact Nat.lt_of_lt_of_le (hr.mB o b hb) hsz
 ·by_cases h:dom o=true
  ·simp only[h,if_true];have h2:=hc.ob o;cases hx:L2 o with
   |fresh=>rw[hx]at h2;simp only[ObR,h,if_true];exact h2
   |dead=>trivial
   |box cs =>rw[hx]at h2;obtain⟨b,row,e,a1,a2,a3,a4,a5,a6,a7⟩:=h2;exact⟨b,row,e,he2.μ o b a1,a2,a3,λj d hd=>(a4 j d hd).ext he2,a5,a6,hown2 b a7⟩
   |it st pos =>rw[hx]at h2;obtain⟨b,a1,a2,a6,a7⟩:=h2;exact⟨b,he2.μ o b a1,a2,a6,hown2 b a7⟩
   |mp es =>rw[hx]at h2;obtain⟨b,en,ck,a1,a2,a3,a6,a7⟩:=h2;exact⟨b,en,ck,he2.μ o b a1,a2,a3.ext he2,a6,hown2 b a7⟩
   |arr sz es =>
    rw[hx]at h2;obtain⟨a1,a2,a3⟩:=h2;refine⟨a1,a2,?_⟩;rcases a3 with⟨a3,a4⟩|⟨b,row,e,c1,c2,c3,c4,c5,c6⟩
    ·exact .inl ⟨by simp only[h,if_true];exact a3,a4⟩
    ·exact .inr ⟨b,row,e,he2.μ o b c1,c2,c3,c4,c5,hown2 b c6⟩
   |tab sz es =>
    rw[hx]at h2;obtain⟨a1,a2,a0,a3⟩:=h2;refine⟨a1,a2,a0,?_⟩;rcases a3 with⟨a3,a4⟩|⟨b,row,e,c1,c2,c3,c4,c5,c6⟩
    ·exact .inl ⟨by simp only[h,if_true];exact a3,a4⟩
    ·exact .inr ⟨b,row,e,he2.μ o b c1,c2,c3,λj d hd=>(c4 j d hd).ext he2,c5,hown2 b c6⟩
   |fz sz es =>
    rw[hx]at h2;obtain⟨a1,a2,a3⟩:=h2;refine⟨a1,a2,?_⟩;rcases a3 with⟨a3,a4⟩|⟨b,f,c1,c2,c3⟩
    ·exact .inl ⟨by simp only[h,if_true];exact a3,a4⟩
    ·exact .inr ⟨b,f,he2.μ o b c1,c2,c3⟩
  ·have hobj:ObR K0 T ⟨K2.w,K2.S,λo=>if dom o then K2.μ o else K1.μ o⟩ o (H1 o) :=
    (hr.ob o).ext he (λhn=>by simp only[h];exact hn) (λb hown hb=>⟨hold b (hr.mB o b hb) (hnS o b h hown hb).1,(hnS o b h hown hb).2⟩)
   simp only[h];exact hobj
 ·by_cases d1:dom o1=true<;>by_cases d2:dom o2=true
  ·simp only[d1,d2,if_true]at h1 h2 g1 g2;exact hc.inj o1 o2 b h1 h2 g1 g2
  ·simp only[d1,if_true]at h1 g1;simp only[d2]at h2 g2;exfalso;obtain⟨_,_,_,_,q⟩:=hc.place h1 g1;rcases q with q|q
   ·rw[hw]at q;have:=hr.mB o2 b g2;omega
   ·exact(hnS o2 b d2 h2 g2).1 q
  ·simp only[d2,if_true]at h2 g2;simp only[d1]at h1 g1;exfalso;obtain⟨_,_,_,_,q⟩:=hc.place h2 g2;rcases q with q|q
   ·rw[hw]at q;have:=hr.mB o1 b g1;omega
   ·exact(hnS o1 b d1 h1 g1).1 q
  ·simp only[d1]at h1 g1;simp only[d2]at h2 g2;exact hr.inj o1 o2 b h1 h2 g1 g2
def cvs (H:Nat->Ob)(F:List Nat)(s:Nat->Option Nat):List D->List D->Prop
 |[],[]=>True
 |d::t,d'::t'=>cv1 H F s d d'/\cvs H F s t t'
 |_,_=>False
theorem cvs_ok {F:List Nat}{s:Nat->Option Nat}(hr:HR K0 T K H):∀{ds ds':List D}{f:Nat->Value},cvs H F s ds ds'->(∀(j:Nat)(d:D),ds[j]?=some d->VD K (f j) d)->ds.length=ds'.length/\∀(j:Nat)(d:D),ds'[j]?=some d->VD (K.ren H F s) (f j) d
 |[],[],f,_,_=>⟨rfl,λj d hd=>by simp at hd⟩
 |d::t,d'::t',f,h,hv=>by
  obtain⟨h1,h2⟩:=h;obtain⟨g1,g2⟩:=cvs_ok hr (f:=λj=>f (j+1)) h2 (λj d hd=>hv (j+1) d (by simpa using hd));refine⟨by simp[g1],λj d hd=>?_⟩;cases j with
  |zero=>simp at hd;subst hd;exact Je hr (hv 0 d (by simp)) h1
  |succ j=>exact g2 j d (by simpa using hd)
 |[],_::_,_,h,_=>h.elim
 |_::_,[],_,h,_=>h.elim
theorem dF {f:FuncId}{ds gs:List D}{L L' L2:Nat->Ob}{r r':D}(F:List Nat)(s s':Nat->Option Nat)(hL:aL P f ds L r L')(hgs:cvs H F s gs ds)
  (hob:∀o',(L o'=.fresh/\s o'=none)\/L o'=.dead\/(s o'=none/\∃sz,0<sz/\L o'=.arr sz [])\/∃o,s o'=some o/\cvO H F s (frz F H o) (L o'))
  (hinj:∀o1 o2 o,(L o1).own->(L o2).own->s o1=some o->s o2=some o->o1=o2)
  (hob':∀o',(L2 o'=.fresh/\s' o'=none)\/L2 o'=.dead\/(s' o'=none/\∃sz,0<sz/\L2 o'=.arr sz [])\/∃o,s' o'=some o/\cvO L' [] s' (frz [] L' o) (L2 o'))
  (hinj':∀o1 o2 o,(L2 o1).own->(L2 o2).own->s' o1=some o->s' o2=some o->o1=o2)
  (hr':cv L' [] s' r r') (hback:∀l g,s l=some g->s' g=some l) (hnew:∀g l,s' g=some l->s l=some g\/(H g=.fresh/\g ∉ F)):
  aL P f gs H r' (λo=>if(s' o).isSome then L2 o else frz F H o):=by
 refine⟨hL.1,λK0 T K vs hr hrd=>?_⟩;obtain⟨q1,q2⟩:=cvs_ok (f:=λj=>vs.getD j undef) hr hgs hrd.2;have hrl:HR K0 T (K.ren H F s) L:=hr.ren hob hinj;have hrf:=hr.frz F;refine(hL.2 _ _ _ vs hrl.rebase ⟨by rw[hrd.1,q1],q2⟩).mono ?_;rintro e w' ⟨v,K',rfl,rfl,he,hrc,hv⟩;have hrb:=hrc.ren hob' hinj';have hsome:∀{o b},(K'.ren L' [] s').μ o=some b->∃l,s' o=some l/\K'.μ l=some b:=by intro o b h;simpa[Ctx.ren,Option.bind_eq_some_iff]using h
 have hfm:∀b,¬frzS K' L' [] b:=by rintro b ⟨o,ho,_⟩;simp at ho
 have hm:=hrf.merge (B:=K.ren H F s) (K2:=K'.ren L' [] s') (L2:=L2) (T':=aht (K.ren H F s) L) (dom:=λo=>(s' o).isSome) hrb rfl rfl
  (λb hb=>.inl (he.S b hb)) (λb hb=>?_) (λo b hdo hb=>?_) (λo b hb=>?_) (λo b hdo hb=>?_)
 ·obtain⟨m1,m2,m3⟩:=hm;refine⟨v,⟨(K'.ren L' [] s').w,(K'.ren L' [] s').S,λo=>if(s' o).isSome=true then(K'.ren L' [] s').μ o else(K.more (frzS K H F)).μ o⟩,rfl,rfl,(Ext.more (K:=K) (frzS K H F)).trans m1,m2,?_⟩;exact(aaA hrc hv hr').ext m3
 ·
  obtain⟨l,hown,hml⟩:=hb;have hml:(s l).bind K.μ=some b:=hml;simp only[Option.bind_eq_some_iff]at hml;obtain⟨g,hg,hgm⟩:=hml;refine⟨g,by simp[hback l g hg],?_,hgm⟩;rcases hob l with⟨e1,_⟩|e1|⟨hn,_⟩|⟨o,ho,hc⟩
  ·rw[e1]at hown;exact hown.elim
  ·rw[e1]at hown;exact hown.elim
  ·rw[hn]at hg;cases hg
  ·rw[hg]at ho;cases ho;cases hx:L l with
   |box cs'=>rw[hx]at hc;obtain⟨cs,e,_⟩:=hc;rw[e];trivial
   |arr sz es=>rw[hx]at hc;rcases hc with hc|⟨es0,hc,_⟩<;>rw[hc]<;>trivial
   |tab sz es=>rw[hx]at hc;rcases hc.2 with⟨es0,hc,_⟩|⟨es0,hc,_⟩<;>rw[hc]<;>trivial
   |it st pos=>rw[hx]at hc;rw[show frz F H g=.it st pos from hc];trivial
   |mp es=>rw[hx]at hc;rw[show frz F H g=.mp es from hc];trivial
   |_=>rw[hx]at hown;exact hown.elim
 ·
  have hb:K.μ o=some b:=hb;obtain⟨l,hl⟩:=Option.isSome_iff_exists.1 hdo;rcases hnew o l hl with h|⟨h,_⟩
  ·have:(K.ren H F s).μ l=some b:=by simp[Ctx.ren,h,hb]
   have:=he.μ l b this;simp[Ctx.ren,hl,this]
  ·rw[hr.get h]at hb;cases hb
 ·obtain⟨l,hl,_⟩:=hsome hb;simp[hl]
 ·have hb:K.μ o=some b:=hb;obtain⟨l,hl⟩:=Option.isSome_iff_exists.1 hdo;rcases hnew o l hl with h|⟨h,_⟩
  ·have:(K.ren H F s).μ l=some b:=by simp[Ctx.ren,h,hb]
   exact he.row l b this
  ·rw[hr.get h]at hb;cases hb
end
def D.val:D->Bool
 | .i _=>true
 | .un=>true
 | .rp _ _=>true
 |_=>false
section
variable {P:Program}{n:Nat}{σ:St}{ks:List Fr}{Q:Ex->St->Prop}{rid k:Nat}{ops:Array Oper}{rest:List It}{acc:Acc}{H:Nat->Ob}{g:FuncId}
theorem r_ {H:Nat->Ob}{F:List Nat}{s:Nat->Option Nat}:∀{xs:List D},xs.all D.val=true->cvs H F s xs xs
 |[],_=>trivial
 |d::t,h=>by simp only[List.all_cons,Bool.and_eq_true]at h;refine⟨?_,r_ h.2⟩;cases d<;>simp[D.val]at h<;>simp[cv1,cv0]
theorem Vl {sz sz' len len':Nat}{es es':List (List I)}{xs:List D}(hL:aL P g (.os 0 sz 0 len::xs) (hF [(0,.arr sz es)]) (.os 1 sz' 0 len') (hOf (hF [(0,.arr sz es)]) [(1,.arr sz' es')]))
  (hx:xs.all D.val=true) {o o':Nat}(ho:H o=.arr sz es) (hf:H o'=.fresh):aL P g (.os o sz 0 len::xs) H (.os o' sz' 0 len') (upd (upd H o .dead) o' (.arr sz' es')):=by
 have hne:o≠o':=λe=>by subst e;rw[ho]at hf;cases hf
 have h:=dF (H:=H) (gs:=.os o sz 0 len::xs) (L2:=λa=>if a=o' then .arr sz' es' else .dead) (r':=.os o' sz' 0 len') [] (λl=>if l=0 then some o else none) (λa=>if a=o then some 0 else if a=o' then some 1 else none) hL
  ⟨by simp[cv1,cv0],r_ hx⟩
  (λa=>by
   by_cases h0:a=0
   ·subst h0;right;right;right;exact⟨o,by simp,by simp[hF,lk,cvO,frz,ho]⟩
   ·left;simp[hF,lk,h0])
  (λa b c h1 h2 h3 h4=>by simp at h3 h4;omega)
  (λa=>by
   by_cases h1:a=o'
   ·subst h1;right;right;right;exact⟨1,by simp[hne.symm],by simp[hOf,lk,cvO,frz]⟩
   ·right;left;simp[h1])
  (λa b c h1 h2 h3 h4=>by
   by_cases ha:a=o'<;>by_cases hb:b=o'
   ·rw[ha,hb]
   ·simp[hb,Ob.own]at h2
   ·simp[ha,Ob.own]at h1
   ·simp[ha,Ob.own]at h1)
  (by simp[cv,cv1,cv0,hne.symm])
  (λl a h=>by
   by_cases h0:l=0
   ·subst h0;simp at h;subst h;simp
   ·simp[h0]at h)
  (λa l h=>by
   by_cases h0:a=o
   ·subst h0;simp at h;subst h;left;simp
   ·simp[h0]at h;right;rw[h.1];exact⟨hf,by simp⟩)
 have e:(λa=>if((if a=o then some 0 else if a=o' then some 1 else none:Option Nat)).isSome then(if a=o' then Ob.arr sz' es' else .dead)else frz [] H a)=upd (upd H o .dead) o' (.arr sz' es'):=by
  funext a;by_cases h1:a=o'
  ·subst h1;simp[upd,hne.symm]
  ·by_cases h2:a=o
   ·subst h2;simp[upd,h1]
   ·simp[upd,h1,h2,frz]
 rw[e]at h;exact h
theorem Vj {sz sz' len':Nat}{es':List (List I)}{xs:List D}(hz:0<sz)(hL:aL P g (.os 0 sz 0 0::xs) (hF [(0,.arr sz [])]) (.os 1 sz' 0 len') (hOf (hF [(0,.arr sz [])]) [(1,.arr sz' es')]))
  (hx:xs.all D.val=true) {o':Nat}(hf:H o'=.fresh):aL P g (.i (.s (.slice none 0 0))::xs) H (.os o' sz' 0 len') (upd H o' (.arr sz' es')):=by
 have h:=dF (H:=H) (gs:=.i (.s (.slice none 0 0))::xs) (L2:=λa=>if a=o' then .arr sz' es' else .dead) (r':=.os o' sz' 0 len') [] (λ_=>none) (λa=>if a=o' then some 1 else none) hL
  ⟨by simp[cv1,cv0],r_ hx⟩
  (λa=>by
   by_cases h0:a=0
   ·subst h0;right;right;left;exact⟨rfl,sz,hz,by simp[hF,lk]⟩
   ·left;simp[hF,lk,h0])
  (λa b c h1 h2 h3 h4=>by simp at h3)
  (λa=>by
   by_cases h1:a=o'
   ·subst h1;right;right;right;exact⟨1,by simp,by simp[hOf,lk,cvO,frz]⟩
   ·right;left;simp[h1])
  (λa b c h1 h2 h3 h4=>by
   by_cases ha:a=o'<;>by_cases hb:b=o'
   ·rw[ha,hb]
   ·simp[hb]at h4
   ·simp[ha]at h3
   ·simp[ha]at h3)
  (by simp[cv,cv1,cv0])
  (λl a h=>by simp at h)
  (λa l h=>by
   by_cases h0:a=o'
   ·subst h0;right;exact⟨hf,by simp⟩
   ·simp[h0]at h)
 have e:(λa=>if((if a=o' then some 1 else none:Option Nat)).isSome then(if a=o' then Ob.arr sz' es' else .dead)else frz [] H a)=upd H o' (.arr sz' es'):=by
  funext a
  by_cases h1:a=o'
  ·subst h1;simp[upd]
  ·simp[upd,h1,frz]
 rw[e]at h
 exact h
theorem VQ {sz sz' len':Nat}{es':List (List I)}{xs:List D}{dst:Option Nat}(o':Nat)(hL:aL P g (.os 0 sz 0 0::xs) (hF [(0,.arr sz [])]) (.os 1 sz' 0 len') (hOf (hF [(0,.arr sz [])]) [(1,.arr sz' es')]))
  (hz:0<sz) (hf:σ.H o'=.fresh) (hx:xs.all D.val=true) (h:Ro P n rid rest (St.put ⟨σ.sl,upd σ.H o' (.arr sz' es')⟩ dst (.os o' sz' 0 len')) ks Q):Call P n rid g (.i (.s (.slice none 0 0))::xs) dst rest σ ks Q :=
 ⟨_,_,.inl (Vj hz hL hx hf),h⟩
theorem Dv {sz sz' len len':Nat}{es es':List (List I)}{xs:List D}{dst:Option Nat}(o':Nat)(hL:aL P g (.os 0 sz 0 len::xs) (hF [(0,.arr sz es)]) (.os 1 sz' 0 len') (hOf (hF [(0,.arr sz es)]) [(1,.arr sz' es')]))
  {o:Nat}(ho:σ.H o=.arr sz es) (hf:σ.H o'=.fresh) (hx:xs.all D.val=true) (h:Rd P n rid ops rest ((k,[o,o'],[o,o'])::acc) (St.put ⟨σ.sl,upd (upd σ.H o .dead) o' (.arr sz' es')⟩ dst (.os o' sz' 0 len')) ks Q):mr P n rid ops g (.os o sz 0 len::xs) k dst rest acc σ ks Q:=by
 refine⟨⟨.os o' sz' 0 len',[o,o'],[o,o'],λG=>upd (upd G o .dead) o' (.arr sz' es')⟩,⟨⟨λ_ h=>h,λG k hk=>?_,λG G' _ k hk=>?_⟩,λG hG=>.inl (Vl hL hx ((hG o (by simp)).trans ho) ((hG o' (by simp)).trans hf))⟩,h⟩
 ·simp at hk;simp[upd,hk.1,hk.2]
 ·simp at hk;rcases hk with rfl|rfl<;>simp[upd]
theorem jK {args ds':List D}{dst:Option Nat}(F B fp:List Nat){r:D}(hp:PureD P g ds' r)(hc:∀G,mo fp G σ.H->CV G F B args ds')(hflat:r.flat=true)(h:Rd P n rid ops rest ((k,fp,[])::acc) (σ.put dst r) ks Q):mr P n rid ops g args k dst rest acc σ ks Q :=
 ⟨⟨r,fp,[],λG=>G⟩,⟨⟨by simp,λ_ _ _=>rfl,λ_ _ _ k hk=>by simp at hk⟩,λG hG=>.inl (BQ F B hp (hc G hG) hflat)⟩,h⟩
theorem jb {args ds':List D}{dst:Option Nat}(F fp:List Nat){r:D}(hp:PureD P g ds' r)(hc:∀G,mo fp G σ.H->CV G F [] args ds')(hF:∀k∈F,k∈fp)(h:Rd P n rid ops rest ((k,fp,F)::acc) (St.put ⟨σ.sl,frz F σ.H⟩ dst r) ks Q):mr P n rid ops g args k dst rest acc σ ks Q :=
 ⟨⟨r,fp,F,λG=>frz F G⟩,⟨⟨hF,λG k hk=>wK hk,λG G' hg k hk=>wL (hg k (hF k hk))⟩,λG hG=>.inl (GG F hp (hc G hG))⟩,h⟩
end
section
variable {P:Program}{n:Nat}{σ:St}{ks:List Fr}{Q:Ex->St->Prop}{rid k:Nat}{ops:Array Oper}{rest:List It}{acc:Acc}{H:Nat->Ob}{g:FuncId}
theorem si {H:Nat->Ob}{F:List Nat}{s:Nat->Option Nat}:∀{xs:List D},xs.all D.val=true->cvL H F s xs xs
 |[],_=>trivial
 |d::t,h=>by simp only[List.all_cons,Bool.and_eq_true]at h;refine⟨?_,si h.2⟩;cases d<;>simp[D.val]at h<;>simp[cv0]
theorem JB {cs cs':List D}{xs:List D}{r:D}(hL:aL P g (.pt 0 0 0 0::xs) (hF [(0,.box cs)]) r (hOf (hF [(0,.box cs)]) [(0,.box cs')]))
  (hx:xs.all D.val=true) (hc:cs.all D.val=true) (hc1:cs.all D.one=true) (hc':cs'.all D.val=true) (hc1':cs'.all D.one=true) (hr:r.val=true) {o:Nat}(ho:H o=.box cs):aL P g (.pt o 0 0 0::xs) H r (upd H o (.box cs')):=by
 have h:=dF (H:=H) (gs:=.pt o 0 0 0::xs) (L2:=λa=>if a=o then .box cs' else .dead) (r':=r) [] (λl=>if l=0 then some o else none) (λa=>if a=o then some 0 else none) hL
  ⟨by simp[cv1,cv0],r_ hx⟩
  (λa=>by
   by_cases h0:a=0
   ·subst h0;right;right;right;refine⟨o,by simp,?_⟩;simp[hF,lk,cvO,frz,ho];exact⟨.inl (si hc),λx hx=>List.all_eq_true.1 hc1 x hx⟩
   ·left;simp[hF,lk,h0])
  (λa b c h1 h2 h3 h4=>by simp at h3 h4;omega)
  (λa=>by
   by_cases h1:a=o
   ·subst h1;right;right;right;refine⟨0,by simp,?_⟩;simp[hOf,lk,cvO,frz];exact⟨.inl (si hc'),λx hx=>List.all_eq_true.1 hc1' x hx⟩
   ·right;left;simp[h1])
  (λa b c h1 h2 h3 h4=>by simp at h3 h4;omega)
  (by cases r<;>simp[D.val]at hr<;>simp[cv,cv1,cv0])
  (λl a h=>by
   by_cases h0:l=0
   ·subst h0;simp at h;subst h;simp
   ·simp[h0]at h)
  (λa l h=>by
   by_cases h0:a=o
   ·subst h0;simp at h;subst h;left;simp
   ·simp[h0]at h)
 have e:(λa=>if((if a=o then some 0 else none:Option Nat)).isSome then(if a=o then Ob.box cs' else .dead)else frz [] H a)=upd H o (.box cs'):=by
  funext a;by_cases h1:a=o
  ·subst h1;simp[upd]
  ·simp[upd,h1,frz]
 rw[e]at h;exact h
theorem gB {cs cs':List D}{xs:List D}{r:D}{dst:Option Nat}{o:Nat}(hL:aL P g (.pt 0 0 0 0::xs) (hF [(0,.box cs)]) r (hOf (hF [(0,.box cs)]) [(0,.box cs')]))
  (ho:σ.H o=.box cs) (hx:(xs.all D.val&&cs.all D.val&&cs.all D.one&&cs'.all D.val&&cs'.all D.one&&r.val)=true) (h:Ro P n rid rest (St.put ⟨σ.sl,upd σ.H o (.box cs')⟩ dst r) ks Q):Call P n rid g (.pt o 0 0 0::xs) dst rest σ ks Q:=by
 simp only[Bool.and_eq_true]at hx;obtain⟨⟨⟨⟨⟨h1,h2⟩,h3⟩,h4⟩,h5⟩,h6⟩:=hx;exact⟨_,_,.inl (JB hL h1 h2 h3 h4 h5 h6 ho),h⟩
theorem RJ {cs cs':List D}{xs:List D}{r:D}{dst:Option Nat}{o:Nat}(hL:aL P g (.pt 0 0 0 0::xs) (hF [(0,.box cs)]) r (hOf (hF [(0,.box cs)]) [(0,.box cs')]))
  (ho:σ.H o=.box cs) (hx:(xs.all D.val&&cs.all D.val&&cs.all D.one&&cs'.all D.val&&cs'.all D.one&&r.val)=true) (h:Rd P n rid ops rest ((k,[o],[o])::acc) (St.put ⟨σ.sl,upd σ.H o (.box cs')⟩ dst r) ks Q):mr P n rid ops g (.pt o 0 0 0::xs) k dst rest acc σ ks Q:=by
 simp only[Bool.and_eq_true]at hx;obtain⟨⟨⟨⟨⟨h1,h2⟩,h3⟩,h4⟩,h5⟩,h6⟩:=hx;refine⟨⟨r,[o],[o],λG=>upd G o (.box cs')⟩,⟨⟨λ_ h=>h,λG k hk=>?_,λG G' _ k hk=>?_⟩,λG hG=>.inl (JB hL h1 h2 h3 h4 h5 h6 ((hG o (by simp)).trans ho))⟩,h⟩
 ·simp at hk;simp[upd,hk]
 ·simp at hk;subst hk;simp[upd]
theorem Jz {sz' len':Nat}{es':List (List I)}{xs ds:List D}(F:List Nat)(hL:aL P g ds noH (.os 1 sz' 0 len') (hOf noH [(1,.arr sz' es')]))
  (hx:cvs H F (λ_=>none) xs ds) {o':Nat}(hf:H o'=.fresh) (hF:o' ∉ F):aL P g xs H (.os o' sz' 0 len') (upd (frz F H) o' (.arr sz' es')):=by
 have h:=dF (H:=H) (gs:=xs) (L2:=λa=>if a=o' then .arr sz' es' else .dead) (r':=.os o' sz' 0 len') F (λ_=>none) (λa=>if a=o' then some 1 else none) hL
  hx
  (λa=>.inl ⟨rfl,rfl⟩)
  (λa b c h1 h2 h3 h4=>by simp at h3)
  (λa=>by
   by_cases h1:a=o'
   ·subst h1;right;right;right;exact⟨1,by simp,by simp[hOf,lk,cvO,frz]⟩
   ·right;left;simp[h1])
  (λa b c h1 h2 h3 h4=>by
   by_cases ha:a=o'<;>by_cases hb:b=o'
   ·rw[ha,hb]
   ·simp[hb]at h4
   ·simp[ha]at h3
   ·simp[ha]at h3)
  (by simp[cv,cv1,cv0])
  (λl a h=>by simp at h)
  (λa l h=>by
   by_cases h0:a=o'
   ·subst h0;right;exact⟨hf,hF⟩
   ·simp[h0]at h)
 have e:(λa=>if((if a=o' then some 1 else none:Option Nat)).isSome then(if a=o' then Ob.arr sz' es' else .dead)else frz F H a)=upd (frz F H) o' (.arr sz' es'):=by
  funext a
  by_cases h1:a=o'
  ·subst h1;simp[upd]
  ·simp[upd,h1]
 rw[e]at h
 exact h
theorem Ka {sz' len':Nat}{es':List (List I)}{xs:List D}{dst:Option Nat}(o':Nat)(hL:aL P g xs noH (.os 1 sz' 0 len') (hOf noH [(1,.arr sz' es')]))
  (hf:σ.H o'=.fresh) (hx:xs.all D.val=true) (h:Ro P n rid rest (St.put ⟨σ.sl,upd σ.H o' (.arr sz' es')⟩ dst (.os o' sz' 0 len')) ks Q):Call P n rid g xs dst rest σ ks Q :=
 ⟨_,_,.inl (Jz [] hL (r_ hx) hf (by simp)),by rw[kW];exact h⟩
theorem rq {sz' len':Nat}{es':List (List I)}{xs:List D}{dst:Option Nat}(o':Nat)(hL:aL P g xs noH (.os 1 sz' 0 len') (hOf noH [(1,.arr sz' es')]))
  (hf:σ.H o'=.fresh) (hx:xs.all D.val=true) (h:Rd P n rid ops rest ((k,[o'],[o'])::acc) (St.put ⟨σ.sl,upd σ.H o' (.arr sz' es')⟩ dst (.os o' sz' 0 len')) ks Q):mr P n rid ops g xs k dst rest acc σ ks Q:=by
 refine⟨⟨.os o' sz' 0 len',[o'],[o'],λG=>upd G o' (.arr sz' es')⟩,⟨⟨λ_ h=>h,λG k hk=>?_,λG G' _ k hk=>?_⟩,λG hG=>?_⟩,h⟩
 ·simp at hk;simp[upd,hk]
 ·simp at hk;subst hk;simp[upd]
 ·have:=Jz [] hL (r_ (H:=G) (F:=[]) (s:=λ_=>none) hx) ((hG o' (by simp)).trans hf) (by simp);rw[kW]at this;exact .inl this
def LpI (n:Nat){ι:Type}(Inv:ι->Prop)(S:ι->St)(m:ι->Nat)(i:ι)(σ':St):Prop:=∃j,Inv j/\LE n σ' (S j)/\m j<m i
theorem bO {body:Code}{ι:Type}(Inv:ι->Prop)(S:ι->St)(m:ι->Nat)(i:ι)(hi:Inv i)(h0:LE n σ (S i))(h:∀i,Inv i->W P n body (S i) (.lp (LpI n Inv S m i)::ks) Q):W P n (.loop body) σ ks Q:=by
 refine xg (ι:={i:ι // Inv i}) (λj=>S j.1) (λj=>m j.1) ⟨i,hi⟩ h0 (λj=>?_);have e:Lp n (λj:{i:ι // Inv i}=>S j.1) (λj=>m j.1) j=LpI n Inv S m j.1:=by funext σ';refine propext ⟨λ⟨k,h1,h2⟩=>⟨k.1,k.2,h1,h2⟩,λ⟨k,h0,h1,h2⟩=>⟨⟨k,h0⟩,h1,h2⟩⟩
 rw[e];exact h j.1 j.2
theorem Jb {ds:List D}{H:Nat->Ob}{vs:List Value}{v:Value}{r:D}(hc:ds.mapM dO=some vs)(hr:∀w,(callFunc g vs.toArray).run P w=.ok (.value v) w)(hv:∀K:Ctx,VD K v r):Sg P g ds H r H:=by
 intro K0 T K us hH hrd;have:us=vs.toArray:=by
  obtain⟨m1,m2⟩:=mapM_get hc;apply Array.ext
  ·rw[hrd.1];simpa using m1.symm
  ·intro j hj1 hj2;have hj:j<ds.length:=by rw[<- hrd.1];exact hj1
   obtain⟨b,hb1,hb2⟩:=m2 j ds[j] (by simp[hj]);have:=conc_ok (hrd.2 j ds[j] (by simp[hj])) hb2;rw[gD hj1]at this;rw[this];simp only[List.getElem_toArray];simp at hj2;rw[List.getElem?_eq_getElem hj2]at hb1;simpa using hb1.symm
 subst this;exact⟨v,K,hr K.w,Ext.refl K,hH,hv K⟩
theorem jF {args:List D}{dst:Option Nat}{r:D}(hd:∀G,Sg P g args G r G)(h:Ro P n rid rest (σ.put dst r) ks Q):Call P n rid g args dst rest σ ks Q :=
 ⟨r,σ.H,.inr (hd σ.H),h⟩
end
theorem bz {α β:Type}{P:Program}{s:Sem α}{f:α->Sem β}:pv P (s >>= f)=(pv P s).bind λa=>pv P (f a):=by
 show pv P (Sem.bind s f)=_;induction s with
 |pure b=>rfl
 |program k ih=>simp only[Sem.bind,pv];exact ih P
 |_=>rfl
theorem Em {P:Program}:pv P program=some P:=rfl
theorem cz {α:Type}{P:Program}{a:α}:pv P (pure a:Sem α)=some a:=rfl
section
variable {P:Program}
theorem lh {d:Nat}{t:TypeId}{xs ys:Array Value}{fs:Array Field}(ht:aG P t=some (.struct fs))(hp:P.stoodInHeld t=false):
  pv P (Go.Op.equalIn (d+1) t (.agg xs) (.agg ys))=pv P (Go.Op.eqFields d xs ys fs.toList):=by
 simp only[Go.Op.equalIn];rw[bz,show pv P (underlying t)=some (.struct fs)from ht];simp only[Option.bind_some,bz,Em,hp,Bool.false_eq_true,if_false];rw[<- Array.forIn_toList];generalize fs.toList=fs;clear ht;induction fs with
 |nil=>simp[Go.Op.eqFields,cz]
 |cons f fs ih =>
  simp only[List.forIn_cons,Go.Op.eqFields,bz];split
  ·simp only[bz];cases pv P (part f.type xs f.offset)with
   |none=>simp
   |some a =>
    simp only[Option.bind_some];cases pv P (part f.type ys f.offset)with
    |none=>simp
    |some b =>
     simp only[Option.bind_some];cases pv P (Go.Op.equalIn d f.type a b)with
     |none=>simp
     |some r =>
      cases r
      ·simp[cz]
      ·simpa[cz]using ih
  ·simpa[cz]using ih
theorem dM {d:Nat}{xs ys:Array Value}:pv P (Go.Op.eqFields d xs ys [])=some true:=rfl
theorem aB {d:Nat}{xs ys:Array Value}{f:Field}{fs:List Field}{a b:Value}{r s:Bool}(hn:f.name≠ "_")(h1:pv P (part f.type xs f.offset)=some a)(h2:pv P (part f.type ys f.offset)=some b)(h3:pv P (Go.Op.equalIn d f.type a b)=some r)
  (h4:pv P (Go.Op.eqFields d xs ys fs)=some s):pv P (Go.Op.eqFields d xs ys (f::fs))=some (r&&s):=by
 simp only[Go.Op.eqFields,hn,ne_eq,not_false_eq_true,if_true,bz,h1,h2,h3,Option.bind_some];cases r
 ·rfl
 ·simpa using h4
theorem bQ {d:Nat}{t:TypeId}{k k':IntKind}{a b:Int}(h:aG P t=some (.int k')):pv P (Go.Op.equalIn (d+1) t (.int k a) (.int k b))=some (decide (a=b)):=by simp only[Go.Op.equalIn];rw[bz,show pv P (underlying t)=some (.int k')from h];simp[cz];try exact Bool.eq_iff_iff.2 (by simp)
theorem n_ {d:Nat}{t:TypeId}{a b:Bool}(h:aG P t=some .bool):pv P (Go.Op.equalIn (d+1) t (.bool a) (.bool b))=some (a==b):=by simp only[Go.Op.equalIn];rw[bz,show pv P (underlying t)=some .bool from h];simp[cz]
theorem nk {d:Nat}{t:TypeId}{a b:ByteArray}(h:aG P t=some .string):pv P (Go.Op.equalIn (d+1) t (.string a) (.string b))=some (a==b):=by simp only[Go.Op.equalIn];rw[bz,show pv P (underlying t)=some .string from h];simp[cz]
theorem di {t:TypeId}{xs ys:Array Value}{fs:Array Field}(ht:aG P t=some (.struct fs))(hp:P.stoodInHeld t=false):
  pv P (Go.Op.equal t (.agg xs) (.agg ys))=pv P (Go.Op.eqFields 9999 xs ys fs.toList):=lh ht hp
def LH (P:Program)(t:TypeId)(x y:Value):Option Bool:=pv P (Go.Op.equal t x y)
theorem yA {t:TypeId}{x y:Operand}{xs ys:Array Value}(h:P.eqGuardType P.depth t=false):gM P .eql t x y (some (.agg xs)) (some (.agg ys))=(LH P t (.agg xs) (.agg ys)).map λb=>.i (.s (.bool b)):=by
 simp only[gM,bz];have:pv P (eqGuard .eql t x y (.agg xs) (.agg ys))=some ():=by simp[eqGuard,bz,Em,h,cz]
 rw[this];simp only[Option.bind_some,Go.binOp,bz,cz,LH];cases pv P (Go.Op.equal t (.agg xs) (.agg ys))<;>rfl
theorem yo {t:TypeId}{x y:Operand}{xs ys:Array Value}(h:P.eqGuardType P.depth t=false):gM P .neq t x y (some (.agg xs)) (some (.agg ys))=(LH P t (.agg xs) (.agg ys)).map λb=>.i (.s (.bool !b)):=by
 simp only[gM,bz];have:pv P (eqGuard .neq t x y (.agg xs) (.agg ys))=some ():=by simp[eqGuard,bz,Em,h,cz]
 rw[this];simp only[Option.bind_some,Go.binOp,bz,cz,LH];cases pv P (Go.Op.equal t (.agg xs) (.agg ys))<;>rfl
theorem Vr {t:TypeId}{x y:Operand}{e:TypeId}{a:Option Addr}{n c:Nat}(h:aG P t=some (.slice e)):gM P .eql t x y (some (.slice a n c)) (some (.slice none 0 0))=some (.i (.s (.bool a.isNone))):=by have hu:pv P (underlying t)=some (.slice e):=h;simp only[gM,bz,eqGuard,Go.binOp,Go.Op.equal];rw[show Go.Op.maxDepth=9999+1 from rfl];unfold Go.Op.equalIn;simp only[bz,hu];cases a<;>simp[cz,ofV]
theorem jv {t:TypeId}{e:TypeId}(h:aG P t=some (.slice e)):∀(x y:Operand)(a:Option Addr)(n c:Nat),gM P .eql t x y (some (.slice a n c)) (some (.slice none 0 0))=some (.i (.s (.bool a.isNone))):=λ_ _ _ _ _=>Vr h
theorem sH {t:TypeId}{x y:Operand}{a b:ByteArray}:gM P .eql t x y (some (.string a)) (some (.string b))=some (.i (.s (.bool (a==b)))):=by simp[gM,eqGuard,bz,Go.binOp,Op.stringOp,cz,ofV,beq_toListBytes]
theorem yn {t:TypeId}{x y:Operand}{a b:ByteArray}:gM P .neq t x y (some (.string a)) (some (.string b))=some (.i (.s (.bool (!(a==b))))):=by simp[gM,eqGuard,bz,Go.binOp,Op.stringOp,cz,ofV,beq_toListBytes]
theorem wU {t:TypeId}{x y:Operand}{a b:Bool}(h:aG P t=some .bool):gM P .eql t x y (some (.bool a)) (some (.bool b))=some (.i (.s (.bool (a==b)))):=by simp only[gM,bz,eqGuard,Go.binOp,Go.Op.equal];rw[show Go.Op.maxDepth=9999+1 from rfl,n_ h];simp[cz,ofV]
theorem wT {t:TypeId}{x y:Operand}{a b:Bool}(h:aG P t=some .bool):gM P .neq t x y (some (.bool a)) (some (.bool b))=some (.i (.s (.bool (!(a==b))))):=by simp only[gM,bz,eqGuard,Go.binOp,Go.Op.equal];rw[show Go.Op.maxDepth=9999+1 from rfl,n_ h];simp[cz,ofV]
theorem CY {cs:List D}:dO (.agg cs)=(cs.mapM Fu).map λvs=>.agg vs.toArray:=rfl
theorem Qe {v:Value}:Fu (.i (.s v))=some v:=rfl
end
section
variable {P:Program}{t:TypeId}{x y:Operand}
def nJ (a b:ByteArray):Int:=Lib.compareBytes a.data.toList b.data.toList
theorem Ik:∀a b:List UInt8,Op.bytesLess a b=decide (Lib.compareBytes a b<0)
 |[],[]=>rfl
 |_::_,[]=>rfl
 |[],_::_=>rfl
 |a::x,b::y=>by
  have ih:=Ik x y;unfold Op.bytesLess Lib.compareBytes;by_cases h:a<b
  ·simp[h]
  ·by_cases h2:b<a
   ·have h3:(a==b)=false:=by
     simp only[beq_eq_false_iff_ne,ne_eq];rintro rfl;exact h h2
    simp[h,h2,h3]
   ·have h3:a=b:=by
     apply UInt8.toNat_inj.1;simp only[UInt8.lt_iff_toNat_lt]at h h2;omega
    subst h3;simp[h,ih]
theorem qU:∀a b:List UInt8,Lib.compareBytes a b=0↔a=b
 |[],[]=>by simp[Lib.compareBytes]
 |_::_,[]=>by simp[Lib.compareBytes]
 |[],_::_=>by simp[Lib.compareBytes]
 |a::x,b::y=>by
  have ih:=qU x y;unfold Lib.compareBytes;by_cases h:a<b
  ·have:a≠b:=by rintro rfl;simp at h
   simp[h,this]
  ·by_cases h2:b<a
   ·have:a≠b:=by rintro rfl;simp at h2
    simp[h,h2,this]
   ·have h3:a=b:=by
     apply UInt8.toNat_inj.1;simp only[UInt8.lt_iff_toNat_lt]at h h2;omega
    subst h3;simp[h,ih]
theorem UJ {a b:ByteArray}(h:a.data.toList=b.data.toList):a=b:=ByteArray.ext (Array.toList_inj.1 h)
theorem cmpS_zero {a b:ByteArray}:nJ a b=0↔a=b:=by
 unfold nJ;rw[qU];constructor
 ·exact UJ
 ·rintro rfl;rfl
theorem Fa (a b:ByteArray):(a.toList==b.toList)=decide (nJ a b=0):=by rw[Lib.toList_data,Lib.toList_data,Bool.eq_iff_iff];simp only[beq_iff_eq,decide_eq_true_eq,nJ,qU]
theorem qH (a b:ByteArray):Op.bytesLess a.toList b.toList=decide (nJ a b<0):=by rw[Lib.toList_data,Lib.toList_data,Ik];rfl
theorem yu {a b:ByteArray}:gM P .lss t x y (some (.string a)) (some (.string b))=some (.i (.s (.bool (decide (nJ a b<0))))):=by simp[gM,eqGuard,bz,Go.binOp,Op.stringOp,cz,ofV,qH]
theorem yw {a b:ByteArray}:gM P .leq t x y (some (.string a)) (some (.string b))=some (.i (.s (.bool (decide (nJ a b<=0))))):=by simp only[gM,eqGuard,bz,Go.binOp,Op.stringOp,cz,qH,Fa,Option.bind_some,Option.map_some,Bool.not_false,eq_self,if_true,ib];congr 4;rw[Bool.eq_iff_iff];simp;omega
theorem yx {a b:ByteArray}:gM P .gtr t x y (some (.string a)) (some (.string b))=some (.i (.s (.bool (decide (0<nJ a b))))):=by simp only[gM,eqGuard,bz,Go.binOp,Op.stringOp,cz,qH,Fa,Option.bind_some,Option.map_some,Bool.not_false,eq_self,if_true,ib];congr 4;rw[Bool.eq_iff_iff];simp;omega
theorem yz {a b:ByteArray}:gM P .geq t x y (some (.string a)) (some (.string b))=some (.i (.s (.bool (decide (0<=nJ a b))))):=by simp only[gM,eqGuard,bz,Go.binOp,Op.stringOp,cz,qH,Fa,Option.bind_some,Option.map_some,Bool.not_false,eq_self,if_true,ib];congr 4;rw[Bool.eq_iff_iff];simp
theorem lK {a b:ByteArray}(h:a.size+b.size<=9223372036854775807):gM P .add t x y (some (.string a)) (some (.string b))=some (.i (.s (.string (a++b)))):=by
 have h':¬(((a.size+b.size:Nat):Int)>IntKind.i64.max):=by show ¬(((a.size+b.size:Nat):Int)>9223372036854775807);omega
 simp only[gM,eqGuard,bz,Go.binOp,Op.stringOp,cz,Option.bind_some,if_neg h',Option.map_some,Bool.not_false,eq_self,if_true,rP]
theorem Ow {s:ByteArray}(h:aG P t=some .string):pv P (Builtin.len_ #[t] 0 #[.string s])=some (.int .i64 (s.size:Int)):=by simp only[Builtin.len_];rw[show(#[t]:Array TypeId)[0]?=some t from rfl,show(#[Value.string s]:Array Value)[0]?=some (.string s)from rfl];simp only[bz,show pv P (underlying t)=some .string from h,Option.bind_some,cz];rfl
def idQ (P:Program)(t:TypeId)(d:D)(u:Option TypeDesc)(ix:Option Value):Option D :=
 match ix with
 |some (.int k n)=>match d,u with
   | .agg cs,some (.array len e)=>match iE P e with
    |some s=>if 0<=n/\n<len then qD P e cs (n.toNat*s)else none
    |none=>none
   |d,_=>match dO d with
    |some a=>(pv P (Instr.index t a (.int k n))).map ofV
    |none=>none
 |_=>none
theorem iM {sl:Nat->D}{H:Nat->Ob}:opQ P sl H (.index t x y)=idQ P t (evA sl x) (aG P t) (dO (evA sl y)):=rfl
def byS (s:ByteArray)(n:Nat):UInt8:=s.data.toList.getD n 0
theorem O_ {u:Option TypeDesc}{s:ByteArray}{k:IntKind}{n:Int}(h:aG P t=some .string)(h0:0<=n)(h1:n.toNat<s.size):
  idQ P t (.i (.s (.string s))) u (some (.int k n))=some (.i (.s (.int .u8 ((byS s n.toNat).toNat:Int)))):=by
 have e:dO (.i (.s (.string s)))=some (.string s):=rfl;have hb:s[n.toNat]?=some (byS s n.toNat):=by
  rw[getElem?_pos s n.toNat h1];congr 1;unfold byS;have h2:n.toNat<s.data.toList.length:=by simpa using h1
  rw[List.getD_eq_getElem?_getD,List.getElem?_eq_getElem h2];simp;rfl
 simp only[idQ,e,Instr.index,bz,asIntOf,cz,Option.bind_some,show pv P (underlying t)=some .string from h,if_pos h0,hb];simp[cz,ofV]
theorem Wp {s:ByteArray}{lo hi:Option Value}{l h:Nat}(hu:aG P t=some .string)(h1:pv P (Instr.sliceBounds false s.size s.size lo hi none)=some (l,h,s.size)):pv P (Instr.sliceAt t (.string s) lo hi none)=some (.string (s.extract l h)):=by have e:pv P (underlying t)=some .string:=hu;simp only[Instr.sliceAt,Instr.slice,bz,e,Option.bind_some,Option.isSome_none,Bool.false_eq_true,if_false,cz,h1]
theorem BA {s:ByteArray}{k:IntKind}{l:Int}(hu:aG P t=some .string)(h0:0<=l)(h1:l<=(s.size:Int)):pv P (Instr.sliceAt t (.string s) (some (.int k l)) none none)=some (.string (s.extract l.toNat s.size)):=by refine Wp hu ?_;simp only[Instr.sliceBounds,Instr.sliceBound,bz,cz,Option.bind_some,asIntOf,if_pos (And.intro h0 h1)]
theorem BB {s:ByteArray}{k:IntKind}{h:Int}(hu:aG P t=some .string)(h0:0<=h)(h1:h<=(s.size:Int)):pv P (Instr.sliceAt t (.string s) none (some (.int k h)) none)=some (.string (s.extract 0 h.toNat)):=by refine Wp hu ?_;simp only[Instr.sliceBounds,Instr.sliceBound,bz,cz,Option.bind_some,asIntOf,if_pos (And.intro h0 h1)]
end
section
variable {P:Program}{sl:Nat->D}{H:Nat->Ob}{id t:Nat}{x y:Operand}{b:Bool}
theorem Jk:bG (.range t x)=none:=rfl
theorem Qi:bG (.next x b)=none:=rfl
theorem Hg:opQ P sl H (.range t x)=none:=rfl
theorem NN:opQ P sl H (.next x b)=none:=rfl
theorem Hy:opH P sl H id (.range t x)=none:=rfl
theorem NT:opH P sl H id (.next x b)=none:=rfl
theorem adk:opH P sl H id (.indexAddr t x y)=none:=rfl
theorem Hd:opX P sl H id (.range t x)=rgX P t (dO (evA sl x)) H (H id) id:=rfl
theorem NJ:opX P sl H id (.next x true)=nxX (evA sl x) H:=rfl
theorem WH {n:Nat}{p:Array (Nat×Operand)}:opX P sl H id (.buildSlice t n p)=bsX P t n (p.toList.mapM λp=>(bY (evA sl p.2)).map λcs=>(p.1,cs)) H (H id) id:=rfl
theorem acZ:opX P sl H id (.indexAddr t x y)=(ixX P t (evA sl x) (dO (evA sl y))).map λd=>(d,H):=rfl
theorem Gq {s:ByteArray}(h:aG P t=some .string):rgX P t (some (.string s)) H .fresh id=some (.pt id 0 0 0,upd H id (.it s 0)):=by simp[rgX,h]
def nxO (x:Ob)(o:Nat)(H:Nat->Ob):Option (D×(Nat->Ob)) :=
 match x with
 | .it s pos=>if pos<s.size then some (.tup [.i (.s (.bool true)),.i (.s (.int .i64 (pos:Int))),.i (.s (.int .i32 ((Utf8.decode s pos).1:Int)))],upd H o (.it s (pos+(Utf8.decode s pos).2)))
   else some (.tup [.i (.s (.bool false))],H)
 |_=>none
theorem adl {o sz:Nat}:nxX (.pt o sz 0 0) H=nxO (H o) o H:=by simp only[nxX,nxO];cases H o<;>rfl
theorem adm {o pos:Nat}{s:ByteArray}:nxO (.it s pos) o H=if pos<s.size then some (.tup [.i (.s (.bool true)),.i (.s (.int .i64 (pos:Int))),.i (.s (.int .i32 ((Utf8.decode s pos).1:Int)))],upd H o (.it s (pos+(Utf8.decode s pos).2)))
   else some (.tup [.i (.s (.bool false))],H):=rfl
theorem IB {s:ByteArray}{pos:Nat}:KR (.it s pos)=.it s pos:=rfl
def bsO (n:Nat)(sz:Option Nat)(z:Option Value)(ps:Option (List (Nat×List D)))(H:Nat->Ob)(id:Nat):Option (D×(Nat->Ob)) :=
 match sz,z,ps with
  |some 1,some zv,some ps=>if zv.cells.size=1/\n<=16777216/\ps.map (·.1)=List.range n/\ps.all (λp=>p.2.length=1/\p.2.all D.one)then some (.bs id 0 n,upd H id (.box (ps.flatMap (·.2))))else none
  |_,_,_=>none
theorem AQ {n e:Nat}{ps:Option (List (Nat×List D))}(h:aG P t=some (.slice e)):bsX P t n ps H .fresh id=bsO n (iE P e) (jo P e) ps H id:=by simp only[bsX,h];rfl
theorem QL {n:Nat}{zv:Value}{ps:List (Nat×List D)}:bsO n (some 1) (some zv) (some ps) H id=if zv.cells.size=1/\n<=16777216/\ps.map (·.1)=List.range n/\ps.all (λp=>p.2.length=1/\p.2.all D.one)then some (.bs id 0 n,upd H id (.box (ps.flatMap (·.2))))else none:=rfl
theorem adN {o off len e:Nat}{n:Int}{k:IntKind}(h:aG P t=some (.slice e))(hs:iE P e=some 1):ixX P t (.bs o off len) (some (.int k n))=if 0<=n/\n<len then some (.pt o 0 0 (off+n.toNat))else none:=by simp only[ixX,h,hs]
theorem Ox {o off len e:Nat}(h:aG P t=some (.slice e)):ZR P t (.bs o off len)=some (.i (.s (.int .i64 (len:Int)))):=by simp only[ZR,h]
theorem Qd {o off len:Nat}:dO (.bs o off len)=none:=rfl
theorem aem {o off len:Nat}:(D.bs o off len).ids1=[o]:=rfl
theorem adY {o off len:Nat}:(D.bs o off len).ids=[o]:=rfl
theorem ael {f:FuncId}{cs:List D}:(D.fn f cs).ids1=[]:=rfl
theorem adX {f:FuncId}{cs:List D}:(D.fn f cs).ids=[]:=rfl
theorem IJ:fpA sl id (.range t x)=([id],[id]):=rfl
theorem Pp:fpA sl id (.next x b)=((evA sl x).ids1,(evA sl x).ids1):=rfl
theorem aaF {r:Option Operand}:bG (.makeMap t r)=none:=rfl
theorem aaG {m k x:Operand}:bG (.insert t m k x)=none:=rfl
theorem aeV {m k x:Operand}:bG (.mapUpdate t m k x)=none:=rfl
theorem aeW {m k:Operand}:bG (.lookup t m k b)=none:=rfl
theorem Zv {r:Option Operand}:opQ P sl H (.makeMap t r)=none:=rfl
theorem Zw {m k x:Operand}:opQ P sl H (.insert t m k x)=none:=rfl
theorem ada {m k x:Operand}:opQ P sl H (.mapUpdate t m k x)=none:=rfl
theorem adb {m k:Operand}:opQ P sl H (.lookup t m k b)=none:=rfl
theorem Zx {r:Option Operand}:opH P sl H id (.makeMap t r)=none:=rfl
theorem Zy {m k x:Operand}:opH P sl H id (.insert t m k x)=none:=rfl
theorem adi {m k x:Operand}:opH P sl H id (.mapUpdate t m k x)=none:=rfl
theorem adj {m k:Operand}:opH P sl H id (.lookup t m k b)=none:=rfl
theorem Zt:opX P sl H id (.makeMap t none)=mkX P t (some none) (H id) H id:=rfl
theorem TN:opX P sl H id (.makeMap t (some x))=mkX P t ((dO (evA sl x)).map some) (H id) H id:=rfl
theorem Zu {m k x:Operand}:opX P sl H id (.insert t m k x)=inU P (aG P t) (evA sl m) (dO (evA sl k)) (Oj (evA sl x)) H:=rfl
theorem acX {m k x:Operand}:opX P sl H id (.mapUpdate t m k x)=inU P (aG P t) (evA sl m) (dO (evA sl k)) (Oj (evA sl x)) H:=rfl
theorem acY {m k:Operand}:opX P sl H id (.lookup t m k b)=(luU P (aG P t) (evA sl m) (dO (evA sl k)) b H).map λd=>(d,H):=rfl
theorem agB {r:Option (Option Value)}:mkX P t r .fresh H id=mkU (aG P t) r .fresh H id:=rfl
section
variable {k e:TypeId}{o:Nat}{key:Value}{mv:MV}{kind:TypeDesc}{es:List (Value×MV)}{kk k1:IntKind}{n m:Int}{c:Bool}{z:Option Value}{s s':ByteArray}{v:MV}
theorem ZK:mkU (some (.map k e)) (some none) .fresh H id=some (.mp id,upd H id (.mp [])):=rfl
theorem TU:mkU (some (.map k e)) ((some (.int kk n)).map some) .fresh H id=some (.mp id,upd H id (.mp [])):=rfl
theorem aah:inU P (some (.map k e)) (.mp o) (some key) (some mv) H=inV (aG P k) (H o) o key mv H:=rfl
theorem adQ:inV (some kind) (.mp es) o key mv H=if wE kind=true then inW (luM kind key es) (upM kind key mv es) o H else none:=rfl
theorem Us {r:Option MV}:inW (some r) es o H=some (.un,upd H o (.mp es)):=rfl
theorem ZM:luU P (some (.map k e)) (.mp o) (some key) c H=luV (aG P k) (H o) key (jo P e) c:=rfl
theorem adv:luV (some kind) (.mp es) key z c=if wE kind=true then luW c z (luM kind key es)else none:=rfl
theorem TY:luW c z (some (some mv))=some (luT c (mvD mv) true):=rfl
theorem TZ {z:Value}:luW c (some z) (some none)=some (luT c (ofV z) false):=rfl
theorem agD {d:D}{b:Bool}:luT false d b=d:=rfl
theorem agC {d:D}{b:Bool}:luT true d b=.tup [d,.i (.s (.bool b))]:=rfl
theorem Uj:wE (.int kk)=true:=rfl
theorem Ui:wE .string=true:=rfl
theorem ZF {x:I}:mvD (false,[x])=.i x:=rfl
theorem ZG {l:List I}:mvD (true,l)=.agg (l.map .i):=rfl
theorem adn {x:I}:Oj (.i x)=some (false,[x]):=rfl
theorem TQ {cs:List D}:Oj (.agg cs)=(R_ cs).map λl=>(true,l):=rfl
theorem Vz:R_ []=some []:=rfl
theorem QW {x:I}{t:List D}:R_ (.i x::t)=(R_ t).map (x :: ·):=rfl
theorem ZN:luM (β:=MV) kind key []=some none:=rfl
theorem YN:upM (β:=MV) kind key v []=[(key,v)]:=rfl
end
theorem UA {es:List (Value×MV)}:KR (.mp es)=.mp es:=rfl
theorem aaE {o:Nat}:dO (.mp o)=none:=rfl
theorem agM {o:Nat}:(D.mp o).ids1=[o]:=rfl
theorem agI {o:Nat}:(D.mp o).ids=[o]:=rfl
theorem aap {r:Option Operand}:fpA sl id (.makeMap t r)=([id],[id]):=rfl
theorem aaq {m k x:Operand}:fpA sl id (.insert t m k x)=((evA sl m).ids1,(evA sl m).ids1):=rfl
theorem aeu {m k x:Operand}:fpA sl id (.mapUpdate t m k x)=((evA sl m).ids1,(evA sl m).ids1):=rfl
theorem aev {m k:Operand}:fpA sl id (.lookup t m k b)=((evA sl m).ids1,[]):=rfl
attribute [go_sem] aaF aaG aeV aeW Zv Zw ada adb Zx Zy adi adj Zt TN Zu acX acY agB ZK TU aah adQ Us ZM adv TY TZ agD agC Uj Ui ZF ZG adn TQ Vz QW ZN YN UA aaE agM agI aap aaq aeu aev
theorem aew:fpA sl id (.indexAddr t x y)=([],[]):=rfl
end
inductive Cl where
 |int (k:IntKind)
 |bool
 |str
 |sl (cs:List Cl)
mutual
def bkI:I->Nat
 | .s (.string b)=>b.size
 | .s _=>0
 | .sl es=>abC es
def bkL:List I->Nat
 |[]=>0
 |x::t=>bkI x+bkL t
def abC:List (List I)->Nat
 |[]=>0
 |e::t=>1+bkL e+abC t
end
mutual
def HasC:Cl->I->Prop
 | .int k,x=>∃n,x=.s (.int k n)/\(Lit.int k n).wf=true
 | .bool,x=>∃b,x=.s (.bool b)
 | .str,x=>∃b:ByteArray,x=.s (.string b)/\b.size<=maxLen
 | .sl cs,x=>∃es,x=.sl es/\∀e∈es,HasCs cs e
def HasCs:List Cl->List I->Prop
 |[],[]=>True
 |c::cs,x::xs=>HasC c x/\HasCs cs xs
 |_,_=>False
end
inductive TySh (P:Program):TypeId->List Cl->Prop
 |int {t:TypeId}{k:IntKind}(h:P.underlying t=some (.int k)):TySh P t [.int k]
 |bool {t:TypeId}(h:P.underlying t=some .bool):TySh P t [.bool]
 |str {t:TypeId}(h:P.underlying t=some .string):TySh P t [.str]
 |sl {t e:TypeId}{cs:List Cl}(h:P.underlying t=some (.slice e)) (he:TySh P e cs) (hn:P.cellsOf e=cs.length) (h0:0<cs.length):TySh P t [.sl cs]
 |struct {t:TypeId}{fs:Array Field}(css:List (List Cl)) (h:P.underlying t=some (.struct fs)) (hn:P.cellsOf t=css.flatten.length) (hl:css.length=fs.size)
   (hf:∀(i:Nat) (f:Field) (cs:List Cl),fs[i]?=some f->css[i]?=some cs->TySh P f.type cs)
   (ho:∀(i:Nat) (f:Field) (cs:List Cl),fs[i]?=some f->css[i]?=some cs->P.cellsOf f.type=cs.length/\f.offset=(css.take i).flatten.length):TySh P t css.flatten
theorem yC:∀(a b:List I),bkL (a++b)=bkL a+bkL b
 |[],b=>by simp[bkL]
 |x::a,b=>by simp only[List.cons_append,bkL,yC a b];omega
theorem tL:∀{a b:List Cl}{x y:List I},HasCs a x->HasCs b y->HasCs (a++b) (x++y)
 |[],_,[],_,_,h=>h
 |_::a,_,_::x,_,h,h'=>by simp only[HasCs]at h;simp only[List.cons_append,HasCs];exact⟨h.1,tL h.2 h'⟩
 |[],_,_::_,_,h,_=>by simp[HasCs]at h
 |_::_,_,[],_,h,_=>by simp[HasCs]at h
theorem wH:∀{a:List Cl}{x:List I},HasCs a x->x.length=a.length
 |[],[],_=>rfl
 |_::a,_::x,h=>by simp only[HasCs]at h;simp[wH h.2]
 |[],_::_,h=>by simp[HasCs]at h
 |_::_,[],h=>by simp[HasCs]at h
section
variable {H:Type}{enc:TypeId×Value->H}{P:Program}{w:World}
def Op' (P:Program)(w:World)(sh:List Cl)(cs:List Value)(bulk:Nat):Prop :=
 ∃xs:List I,xs.length=cs.length/\HasCs sh xs/\(∀(j:Nat) (v:Value) (x:I),cs[j]?=some v->xs[j]?=some x->VI w (λb=>b<w.heap.size) v x)/\1+bkL xs<=bulk
theorem AX:∀(es:List (List I)),abC es=(es.map λe=>1+bkL e).sum
 |[]=>rfl
 |e::t=>by simp[abC,AX t]
theorem list_choose {α β:Type}{n:Nat}{p:Nat->β->Prop}(h:∀i,i<n->∃b,p i b):∃l:List β,l.length=n/\∀i b,l[i]?=some b->p i b:=by
 induction n with
 |zero=>exact⟨[],rfl,by simp⟩
 |succ n ih =>
  obtain⟨l,h1,h2⟩:=ih (λi hi=>h i (by omega));obtain⟨b,hb⟩:=h n (by omega);refine⟨l++[b],by simp[h1],λi c hc=>?_⟩;rw[List.getElem?_append]at hc;split at hc
  ·exact h2 i c hc
  ·have:i=n:=by
    have:=(List.getElem?_eq_some_iff.1 hc).1;simp at this;omega
   subst this;simp[h1]at hc;subst hc;exact hb
variable {up:DataW H->Nat}{upA:List (DataW H)->Nat}
structure Bulk (up:DataW H->Nat) (upA:List (DataW H)->Nat):Prop where
 str:∀b,up (.lit (.string b))=b.length+1
 int:∀k n,up (.lit (.int k n))=1
 bool:∀b,up (.lit (.bool b))=1
 nil:up .nil=1
 slice:∀e s,up (.slice e s)=upA e+upA s+1
 agg:∀e,up (.agg e)=upA e+1
 anil:upA []=0
 acons:∀d r,upA (d::r)=up d+upA r
theorem AP (hb:Bulk up upA):∀(l:List (DataW H)),upA l=(l.map up).sum
 |[]=>by simp[hb.anil]
 |d::r=>by simp[hb.acons,AP hb r]
theorem sS:∀(a b:List Nat),a.length=b.length->(∀(i x y:Nat),a[i]?=some x->b[i]?=some y->x<=y)->a.sum<=b.sum
 |[],[],_,_=>by simp
 |x::a,y::b,hl,h=>by simp only[List.sum_cons];have h0:=h 0 x y (by simp) (by simp);have:=sS a b (by simpa using hl) (λi p q hp hq=>h (i+1) p q (by simpa using hp) (by simpa using hq));omega
 |[],_::_,h,_=>by simp at h
 |_::_,[],h,_=>by simp at h
theorem open_any (hb:Bulk up upA){t:TypeId}{sh:List Cl}(hs:TySh P t sh):∀{fuel:Nat}{cs:List Value}{x:DataW H×List MemPlace},DataW.trod enc P w 0 (λ_=>true) true fuel t cs=some x->cs.length=sh.length/\Op' P w sh cs (up x.1):=by
 induction hs with
 |int h =>
  intro fuel cs x hx;obtain⟨n,rfl,rfl,hw⟩:=DataW.trod_int h hx;refine⟨rfl,[.s (.int _ n)],rfl,⟨⟨n,rfl,hw⟩,trivial⟩,λj v x hv hx=>?_,by simp[bkL,bkI,hb.int]⟩;cases j with
  |zero=>simp at hv hx;subst hv;subst hx;exact .s _ rfl
  |succ j=>simp at hv
 |bool h =>
  intro fuel cs x hx;obtain⟨b,rfl,rfl⟩:=DataW.trod_bool h hx;refine⟨rfl,[.s (.bool b)],rfl,⟨⟨b,rfl⟩,trivial⟩,λj v x hv hx=>?_,by simp[bkL,bkI,hb.bool]⟩;cases j with
  |zero=>simp at hv hx;subst hv;subst hx;exact .s _ rfl
  |succ j=>simp at hv
 |str h =>
  intro fuel cs x hx;obtain⟨b,rfl,rfl,hm⟩:=DataW.trod_string h hx;refine⟨rfl,[.s (.string b)],rfl,⟨⟨b,rfl,hm⟩,trivial⟩,λj v x hv hx=>?_,by simp only[bkL,bkI,hb.str,Array.length_toList];show 1+(b.size+0)<=b.size+1;omega⟩;cases j with
  |zero=>simp at hv hx;subst hv;subst hx;exact .s _ rfl
  |succ j=>simp at hv
 | @sl t e ecs h he hn h0 ih =>
  intro fuel cs x hx;rcases DataW.trod_slice h hx with⟨rfl,rfl⟩|⟨a,len,cap,elems,rest,n,rfl,rfl,rfl,hba,hl,hm,hel,hget,hsp,_⟩
  ·refine⟨rfl,[.sl []],rfl,⟨⟨[],rfl,by simp⟩,trivial⟩,λj v x hv hx=>?_,by simp[bkL,bkI,abC,hb.nil]⟩;cases j with
   |zero=>simp at hv hx;subst hv;subst hx;exact .e _ _
   |succ j=>simp at hv
  ·have hch:∀i,i<len->∃ys:List I,∃(cs':List Value) (y:DataW H×List MemPlace),w.cells? 0 (a.add (i*P.cellsOf e)) (P.cellsOf e)=some cs'/\elems[i]?=some y /\
     ys.length=cs'.length/\HasCs ecs ys/\(∀(j:Nat) (v:Value) (x:I),cs'[j]?=some v->ys[j]?=some x->VI w (λb=>b<w.heap.size) v x)/\1+bkL ys<=up y.1:=by
    intro i hi;have:=hget i hi;have he:elems[i]?=some (elems[i]'(by omega)):=by simp[show i<elems.length by omega]
    rw[he,Option.bind_eq_some_iff]at this;obtain⟨cs',h1,h2⟩:=this;obtain⟨_,ys,y1,y2,y3,y4⟩:=ih h2;exact⟨ys,cs',_,h1,he,y1,y2,y3,y4⟩
   obtain⟨es,hesl,hes⟩:=list_choose (α:=Unit) hch;have hlen:∀e∈es,e.length=ecs.length:=λe he=>by obtain⟨i,hi⟩:=List.mem_iff_getElem?.1 he;obtain⟨cs',y,_,_,_,h2,_⟩:=hes i e hi;exact wH h2
   refine⟨rfl,[.sl es],rfl,⟨⟨es,rfl,λe he=>?_⟩,trivial⟩,λj v x hv hx=>?_,?_⟩
   ·obtain⟨i,hi⟩:=List.mem_iff_getElem?.1 he;obtain⟨cs',y,_,_,_,h2,_⟩:=hes i e hi;exact h2
   ·cases j with
    |succ j=>simp at hv
    |zero =>
     simp at hv hx;subst hv;subst hx;by_cases hz:len=0
     ·subst hz;have:es=[]:=List.eq_nil_of_length_eq_zero hesl;subst this;exact .e _ _
     ·obtain⟨b,off,spot⟩:=a;have hcell:∀i j x,es[i]?=some (x:List I)->j<ecs.length->∃v,w.cell? ((⟨b,off,spot⟩:Addr).add (i*ecs.length+j))=some v/\∀y,x[j]?=some y->VI w (λb=>b<w.heap.size) v y:=by
       intro i j x hi hj;obtain⟨cs',y,h1,_,h3,h2,h4,_⟩:=hes i x hi;rw[hn]at h1;obtain⟨_,k2,k3⟩:=World.cells?_some h1;have hl':cs'.length=ecs.length:=by rw[<- h3];exact wH h2
       have hk:=k3 j hj;have hcj:cs'[j]?=some (cs'[j]'(by omega)):=by simp[show j<cs'.length by omega]
       refine⟨cs'[j]'(by omega),?_,λy hy=>h4 j _ y hcj hy⟩;rw[hcj,Addr.add_add]at hk;exact hk
      have hpos:0<len:=Nat.pos_of_ne_zero hz;have h00:es[0]?=some (es[0]'(by omega)):=by simp[show 0<es.length by omega]
      obtain⟨v0,hv0,_⟩:=hcell 0 0 _ h00 h0;have hspot:spot=none:=by simpa[Addr.add]using World.cell?_spot hv0
      subst hspot;have hlt:=World.block_lt_of_cell? _ _ hv0;have hf:∀j:Nat,∃v,∀x,es.flatten[j]?=some x->w.cell? ⟨b,off+j,none⟩=some v/\VI w (λb=>b<w.heap.size) v x:=by
       intro j;cases hx:es.flatten[j]? with
       |none=>exact⟨undef,λx h=>by cases h⟩
       |some x =>obtain⟨e',he1,he2⟩:=flatten_get' h0 hlen hx;have hm:=Nat.mod_lt j h0;obtain⟨v,g1,g2⟩:=hcell _ _ e' he1 hm;refine⟨v,λy hy=>?_⟩;cases hy;refine⟨?_,g2 _ he2⟩;rw[Nat.mul_comm,Nat.div_add_mod]at g1;rw[Go.Addr.add_mid]at g1;exact g1
      have hch2:∃f:Nat->Value,∀j x,es.flatten[j]?=some x->w.cell? ⟨b,off+j,none⟩=some (f j)/\VI w (λb=>b<w.heap.size) (f j) x :=
       ⟨λj=>Classical.choose (hf j),λj x hx=>Classical.choose_spec (hf j) x hx⟩
      obtain⟨f,hf⟩:=hch2;rw[<- hesl];exact .sl b off cap ecs.length es f (by simpa[Addr.add]using hlt) (by omega) h0 hlen (λj x hx=>(hf j x hx).1) (λj x hx=>(hf j x hx).2)
   ·simp only[bkL,bkI,hb.slice];rw[AX,AP hb];have:(es.map λe=>1+bkL e).sum<=((elems.map (·.1)).map up).sum:=sS _ _ (by simp;omega) (λi x y hx hy=>by
     simp only[List.getElem?_map,Option.map_eq_some_iff]at hx hy;obtain⟨e',he',rfl⟩:=hx;obtain⟨d',⟨y',hy',rfl⟩,rfl⟩:=hy;obtain⟨_,y'',_,h2,_,_,_,h5⟩:=hes i e' he';rw[hy']at h2;cases h2;exact h5)
    omega
 | @struct t fs css h hn hl hf ho ih =>
  intro fuel cs x hx;obtain⟨xs,n,rfl,rfl,hcs,hxl,hfield⟩:=DataW.trod_struct h hx;rw[hn]at hcs;have key:∀m,m<=css.length->Op' P w (css.take m).flatten (cs.take (css.take m).flatten.length) (1+((xs.take m).map λy=>up y.1).sum):=by
   intro m;induction m with
   |zero=>intro _;exact⟨[],by simp,by simp[HasCs],by simp,by simp[bkL]⟩
   |succ m ihm =>
    intro hm;obtain⟨ys,y1,y2,y3,y4⟩:=ihm (by omega);have hfm:fs[m]?=some (fs[m]'(by omega)):=by simp[show m<fs.size by omega]
    have hcm:css[m]?=some (css[m]'(by omega)):=by simp[show m<css.length by omega]
    obtain⟨o1,o2⟩:=ho m _ _ hfm hcm;have ht:=hfield m _ hfm;have hxm:xs[m]?=some (xs[m]'(by omega)):=by simp[show m<xs.length by omega]
    rw[hxm]at ht;obtain⟨z0,zs,z1,z2,z3,z4⟩:=ih m _ _ hfm hcm ht;have hfl:(css.take (m+1)).flatten=(css.take m).flatten++css[m]'(by omega):=by rw[List.take_succ_eq_append_getElem (show m<css.length by omega),List.flatten_append];simp only[List.flatten_cons,List.flatten_nil,List.append_nil]
    have hle:(css.take m).flatten.length+(css[m]'(by omega)).length<=cs.length:=by rw[hcs];have:=congrArg (λl=>l.flatten.length) (List.take_append_drop (m+1) css);simp only[List.flatten_append,List.length_append]at this;rw[hfl,List.length_append]at this;omega
    have hcut:cs.take (css.take (m+1)).flatten.length=cs.take (css.take m).flatten.length++(cs.drop (css.take m).flatten.length).take (css[m]'(by omega)).length:=by rw[hfl,List.length_append,List.take_add]
    rw[o1,o2]at z1 z3 z0;refine⟨ys++zs,by rw[hcut];simp only[List.length_append];omega,by rw[hfl];exact tL y2 z2,λj v x hv hx=>?_,?_⟩
    ·rw[hcut]at hv;by_cases hj:j<ys.length
     ·rw[List.getElem?_append_left hj]at hx;rw[List.getElem?_append_left (by omega)]at hv;exact y3 j v x hv hx
     ·rw[List.getElem?_append_right (by omega)]at hx;rw[List.getElem?_append_right (by omega),<- y1]at hv;exact z3 _ v x hv hx
    ·rw[yC,List.take_succ_eq_append_getElem (by omega)];simp only[List.map_append,List.sum_append,List.map_cons,List.map_nil,List.sum_cons,List.sum_nil];omega
  have hk:=key css.length (Nat.le_refl _);rw[List.take_of_length_le (Nat.le_refl _),List.take_of_length_le (l:=cs) (by omega)]at hk;refine⟨hcs,?_⟩;obtain⟨ys,y1,y2,y3,y4⟩:=hk;refine⟨ys,y1,y2,y3,?_⟩;rw[hb.agg,AP hb];have:((xs.take css.length).map λy=>up y.1).sum=((xs.map (·.1)).map up).sum:=by rw[List.take_of_length_le (by omega),List.map_map];rfl
  omega
theorem open_one (hb:Bulk up upA){t:TypeId}{c:Cl}(hs:TySh P t [c]){v:Value}{d:DataW H}{ps:List MemPlace}(h:DataW.Trod enc P w 0 (λ_=>true) true t v d ps)(h1:v.cells=#[v]):
  ∃x,HasC c x/\VI w (λb=>b<w.heap.size) v x/\1+bkI x<=up d:=by
 obtain⟨fuel,hf⟩:=h;obtain⟨_,xs,y1,y2,y3,y4⟩:=open_any hb hs hf;rw[h1]at y1 y3
 match xs,y1 with
 |[x],_ =>simp only[HasCs]at y2;exact⟨x,y2.1,y3 0 v x (by simp) (by simp),by simpa[bkL]using y4⟩
theorem TK (hb:Bulk up upA){t:TypeId}{sh:List Cl}(hs:TySh P t sh){v:Value}{d:DataW H}{ps:List MemPlace}(h:DataW.Trod enc P w 0 (λ_=>true) true t v d ps){vs:Array Value}(h1:v=.agg vs):
  ∃xs,HasCs sh xs/\VD ⟨w,λb=>b<w.heap.size,λ_=>none⟩ v (.agg (xs.map .i))/\1+bkL xs<=up d:=by
 subst h1;obtain⟨fuel,hf⟩:=h;obtain⟨_,xs,y1,y2,y3,y4⟩:=open_any hb hs hf;refine⟨xs,y2,.agg vs _ (by simpa[Value.cells]using y1.symm) (λj d hd=>?_),y4⟩;simp only[List.getElem?_map,Option.map_eq_some_iff]at hd;obtain⟨x,hx,rfl⟩:=hd;have hj:j<vs.size:=by have:=(List.getElem?_eq_some_iff.1 hx).1;simp[Value.cells]at y1;omega
 have:vs.getD j undef=vs[j]:=gD hj;rw[this];exact .i (y3 j _ x (by simp[Value.cells,hj]) hx)
theorem rH {f:FuncId}{ds:List D}{r:Value}{vs:Array Value}(hp:PureD P f ds (.i (.s r)))(hs:vs.size=ds.length)(hv:∀(j:Nat)(d:D),ds[j]?=some d->VD ⟨w,λb=>b<w.heap.size,λ_=>none⟩ (vs.getD j undef) d)
  (hg:∀q∈ER,w.var? Go.Proofs.Tryz.prog q.1=some q.2:=by intro q hq;exact absurd hq (by simp[ER])):
  Calls P f vs w λe w'=>e=.returned r/\Below w.heap.size w w':=by
 let K:Ctx:=⟨w,λb=>b<w.heap.size,λ_=>none⟩
 have hr:HR K (λ_=>False) K noH:=⟨⟨λq hq=>⟨hg q hq,λ_ _ h=>h⟩⟩,rfl,rfl,rfl,Nat.le_refl _,λ_ _ _=>rfl,λb hb=>hb,λb hb=>.inl hb,λo b hb=>by simp[K]at hb,λo=>rfl,λo1 o2 b h=>by exact h.elim⟩
 refine(hp.2 K (λ_=>False) K vs hr ⟨hs,hv⟩).mono ?_;rintro e w' ⟨v,K',rfl,rfl,he,hr',hv⟩;refine⟨?_,hr'.os,hr'.tape,hr'.output,hr'.size,λk hk=>hr'.block k hk (λh=>h)⟩;have:=conc_ok hv (v':=r) rfl;rw[this]
def ahi (P:Program):List Field->List (List Cl)->Nat->Prop
 |[],[],_=>True
 |f::fs,c::cs,off=>TySh P f.type c/\P.cellsOf f.type=c.length/\f.offset=off/\ahi P fs cs (off+c.length)
 |_,_,_=>False
theorem tyFs_get:∀{fs:List Field}{css:List (List Cl)}{off:Nat},ahi P fs css off->css.length=fs.length/\∀(i:Nat)(f:Field)(cs:List Cl),fs[i]?=some f->css[i]?=some cs->TySh P f.type cs/\P.cellsOf f.type=cs.length/\f.offset=off+(css.take i).flatten.length
 |[],[],_,_=>⟨rfl,by simp⟩
 |f::fs,c::cs,off,h=>by
  obtain⟨h1,h2,h3,h4⟩:=h;obtain⟨g1,g2⟩:=tyFs_get h4;refine⟨by simp[g1],λi f' c' hf hc=>?_⟩;cases i with
  |zero=>simp at hf hc;subst hf;subst hc;exact⟨h1,h2,by simp[h3]⟩
  |succ i =>obtain⟨k1,k2,k3⟩:=g2 i f' c' (by simpa using hf) (by simpa using hc);exact⟨k1,k2,by rw[k3];simp;omega⟩
 |[],_::_,_,h=>h.elim
 |_::_,[],_,h=>h.elim
theorem iP {t:TypeId}{fs:Array Field}(css:List (List Cl))(sh:List Cl)(h:P.underlying t=some (.struct fs))(hsh:sh=css.flatten)(hn:P.cellsOf t=sh.length)(hf:ahi P fs.toList css 0):TySh P t sh:=by subst hsh;obtain⟨g1,g2⟩:=tyFs_get hf;refine .struct css h hn (by simpa using g1) (λi f cs a b=>(g2 i f cs (by simpa using a) b).1) (λi f cs a b=>?_);obtain⟨_,k2,k3⟩:=g2 i f cs (by simpa using a) b;exact⟨k2,by simpa using k3⟩
section
variable {t e:TypeId}{v:Value}{d:DataW H}{ps:List MemPlace}{c:Cl}{b0:Nat}{W:World}
theorem open_sl (hb:Bulk up upA)(hs:TySh P t [c])(hu:P.underlying t=some (.slice e))(hval:Value.okWide P w .any b0 t v)(h:DataW.Trod enc P w 0 (λ_=>true) true t v d ps):∃x,HasC c x/\VD ⟨w,λb=>b<w.heap.size,λ_=>none⟩ v (.i x)/\1+bkI x<=up d:=by obtain⟨a,l,c',rfl⟩:=Go.WideShapes.okWide_slice hu hval;obtain⟨x,h1,h2,h3⟩:=open_one hb hs h rfl;exact⟨x,h1,.i h2,h3⟩
theorem open_in (hb:Bulk up upA){k:IntKind}(hs:TySh P t [c])(hu:P.underlying t=some (.int k))(hval:Value.okWide P w .any b0 t v)(h:DataW.Trod enc P w 0 (λ_=>true) true t v d ps):∃x,HasC c x/\VD ⟨w,λb=>b<w.heap.size,λ_=>none⟩ v (.i x)/\1+bkI x<=up d:=by obtain⟨n,rfl⟩:=Go.WideShapes.okWide_int hu hval;obtain⟨x,h1,h2,h3⟩:=open_one hb hs h rfl;exact⟨x,h1,.i h2,h3⟩
theorem open_ag (hb:Bulk up upA){sh:List Cl}{fs:Array Field}(hs:TySh P t sh)(hu:P.underlying t=some (.struct fs))(hval:Value.okWide P w .any b0 t v)(h:DataW.Trod enc P w 0 (λ_=>true) true t v d ps):∃xs,HasCs sh xs/\VD ⟨w,λb=>b<w.heap.size,λ_=>none⟩ v (.agg (xs.map .i))/\1+bkL xs<=up d:=by unfold Value.okWide at hval;rw[hu]at hval;obtain⟨cs,rfl,_⟩:=hval;exact TK hb hs h rfl
end
end
theorem dec_list {α:Type}{cs:List Cl}{enc:α->List I}{p:α->Prop}(h:∀e,HasCs cs e->∃a:α,e=enc a/\p a){x:I}(hx:HasC (.sl cs) x):∃l:List α,x=.sl (l.map enc)/\∀a∈l,p a:=by
 simp only[HasC]at hx;obtain⟨es,rfl,he⟩:=hx;have:∃l:List α,es=l.map enc/\∀a∈l,p a:=by
  induction es with
  |nil=>exact⟨[],rfl,by simp⟩
  |cons e t ih =>obtain⟨l,h1,h2⟩:=ih (λe' he'=>he e' (by simp[he']));obtain⟨a,h3,h4⟩:=h e (he e (by simp));exact⟨a::l,by simp[h1,h3],by simpa using⟨h4,h2⟩⟩
 obtain⟨l,h1,h2⟩:=this;exact⟨l,by rw[h1],h2⟩
theorem hasCs_cons {c:Cl}{cs:List Cl}{e:List I}(h:HasCs (c::cs) e):∃x t,e=x::t/\HasC c x/\HasCs cs t:=by
 cases e with
 |nil=>simp[HasCs]at h
 |cons x t=>simp only[HasCs]at h;exact⟨x,t,rfl,h⟩
theorem hasCs_nil {e:List I}(h:HasCs [] e):e=[]:=by
 cases e with
 |nil=>rfl
 |cons x t=>simp[HasCs]at h
theorem dec_int {k:IntKind}{x:I}(h:HasC (.int k) x):∃n,x=.s (.int k n)/\(Lit.int k n).wf=true:=by simpa only[HasC]using h
theorem dec_bool {x:I}(h:HasC .bool x):∃b,x=.s (.bool b):=by simpa only[HasC]using h
theorem dec_str {x:I}(h:HasC .str x):∃b:ByteArray,x=.s (.string b)/\b.size<=maxLen:=by simpa only[HasC]using h
theorem dec_u64 {x:I}(h:HasC (.int .u64) x):∃n:Nat,x=.s (.int .u64 (n:Int))/\n<18446744073709551616:=by obtain⟨n,rfl,hw⟩:=dec_int h;simp[Lit.wf,IntKind.min,IntKind.max,IntKind.signed,IntKind.bits]at hw;exact⟨n.toNat,by rw[Int.toNat_of_nonneg (by omega)],by omega⟩
theorem dec_byte {e:List I}(h:HasCs [.int .u8] e):∃b:UInt8,e=aH b/\True:=by
 match e,h with
 |[x],h =>simp only[HasCs]at h;obtain⟨n,rfl,hw⟩:=dec_int h.1;simp[Lit.wf,IntKind.min,IntKind.max,IntKind.signed,IntKind.bits]at hw;refine⟨UInt8.ofNat n.toNat,?_,trivial⟩;simp[aH];omega
theorem dec_B {x:I}(h:HasC (.sl [.int .u8]) x):∃l:List UInt8,x=bI l:=by obtain⟨l,h1,_⟩:=dec_list (λe he=>dec_byte he) h;exact⟨l,h1⟩
theorem aha (l:List UInt8):bkI (bI l)=l.length:=by
 simp only[bI,bkI];induction l with
 |nil=>rfl
 |cons a t ih=>simp only[List.map_cons,abC,aH,bkL,bkI,ih,List.length_cons]at*;omega
theorem Yh {α:Type}(enc:α->List I)(l:List α):bkI (.sl (l.map enc))=(l.map λa=>1+bkL (enc a)).sum:=by simp only[bkI,AX,List.map_map];rfl
theorem tY {α:Type}(enc:α->List I)(l:List α):l.length<=bkI (.sl (l.map enc)):=by
 rw[Yh];induction l with
 |nil=>simp
 |cons a t ih=>simp only[List.map_cons,List.sum_cons,List.length_cons];omega
theorem Dm {α:Type}(enc:α->List I){l:List α}{a:α}(h:a∈l):1+bkL (enc a)<=bkI (.sl (l.map enc)):=by
 rw[Yh];induction l with
 |nil=>simp at h
 |cons b t ih =>
  simp only[List.map_cons,List.sum_cons];rcases List.mem_cons.1 h with rfl|h
  ·omega
  ·have:=ih h;omega
def ev1 :=
 an9 @afo @Yl @Rj @Rk @Ym @afp @Yn @W_r (an9 @ahL @Ha @NH @G_ @Ri @JQ @Yy @Rw (an9 @Yz @afE @Yv @Ru @afC @Rt @JX @Yw (an9 @Rv @Yx @afD @Yp @Rm @ahP @afu @afv (an9 @afr @afs @ahQ @JS @Yq @Yr @Rn @ahR (an9 @afz @afA @afx @afy @ahS @JV @Yt @Gy (an9 @put_none @List.zipIdx_cons.{0} @List.zipIdx_nil.{0} @List.map_cons.{0,0} @List.map_nil.{0,0} @Option.map_none.{0,0} @Option.map_some.{0,0} @Nat.zero_add (an4 @Nat.add_zero @Qj @CZ @Jp)))))))
def ev2 :=
 an9 @XL @Jn @qR @Qk @Ji @wO @Jo @Qg (an9 @yf @wP @tO @Jj @tT @Jm @tQ @Jl (an9 @yc @yg @Ql @iH @ib @rP @Cb @v_ (an9 @PH @CQ @IW @XJ @Qb @Qa @Ou @adw (an9 @Xc @OZ @Ir @Pj @aep @Xl @WX @Int.toNat_natCast (an9 @Int.natCast_nonneg @List.drop_zero.{0} @List.take_succ_cons.{0} @List.take_zero.{0} @List.drop_succ_cons.{0} @Nat.le_refl @NP @Cc (an9 @Hu @WP @NQ @Hf @tC @qF @Ce @Ht (an4 @Yg @XU @X_ @XY)))))))
def ev3 :=
 an9 @XX @Ya @Yb @Yc @Yd @Ye @XZ @WM (an9 @IM @Xu @Pq @Ps @IG @IL @xX @CJ (an9 @ahC @aej @aei @aeh @Xj @aeg @Xi @ahA (an9 @adU @adS @adR @List.flatMap_cons.{0,0} @List.flatMap_nil.{0,0} @List.nil_append.{0} @List.append_nil.{0} @List.cons_append.{0} (an9 @Option.bind_some.{0,0} @Option.bind_none.{0,0} @adc @NU @upd_same @upd_ne @if_true.{1} @if_false.{1} (an9 @decide_true @decide_false @true_and @and_true @List.getElem?_toArray.{0} @List.getElem?_cons_zero.{0} @List.getElem?_cons_succ.{0} @NF (an9 @NG @Bool.true_and @Bool.and_true @ne_eq.{1} @not_false_eq_true @List.size_toArray.{0} @List.length_cons.{0} @List.length_nil.{0} (an4 @List.length_map.{0,0} @NM @WB @adO)))))))
def ev4 :=
 an9 @WK @WZ @WY @W_ @NL @Wd @NS @adf (an9 @adg @Xx @WN @WL @Ho @ac_ @afd @Yf (an9 @XT @XW @XV @HV @JN @WT @JC @Hw (an9 @WS @WU @List.mapM_cons.{0,0,0} @List.mapM_nil.{0,0,0} @List.all_cons.{0} @List.all_nil.{0} @Option.pure_def.{0} @Option.bind_eq_bind.{0} (an9 @kW @List.range_zero @List.range_succ @List.toList_toArray.{0} @List.concat_eq_append.{0} @Qh @List.length_append.{0} @List.length_replicate.{0} (an9 @List.append_assoc.{0} @Nat.mul_one @fB @Me @and_self @List.drop_length.{0} @List.take_length.{0} @Pk (an9 @aeq @Xm @Int.cast_ofNat_Int @eq_self.{1} @Mf @FX @xH @vZ (an4 @Bool.and_self @Bool.true_eq_false @Bool.false_eq_true @beq_true)))))))
def ev5 :=
 an9 @beq_false @Bool.not_true @Bool.not_false @Oc @H_ @xR @WV @Oa (an9 @Xp @Xq @CF @IC @CE @fQ @jy @tN (an9 @CY @Qe @yA @yo @sH @yn @wU @wT (an @NW @x_)))
def ev6 :=
 an9 @List.contains_nil.{0} @List.contains_cons.{0} @Bool.or_self @Bool.or_false @QI @QJ @OT @Cu (an9 @Ig @Ih @Jg @Ci @Ch @GV @GX @Qc (an9 @XI @WJ @adh @acW @WQ @WO @WR @NR (an9 @NV @Hm @Hz @WF @WG @WI @NK @He (an9 @Pt @IK @II @Xr @Xt @aek @ahB @adV (an @Cg @Cf)))))
def ev7 :=
 an9 @yu @yw @yx @yz @lK @Ow @iM @O_ (an @BA @BB)
def ev8 :=
 an9 @Jk @Qi @Hg @NN @Hy @NT @adk @Hd (an9 @NJ @WH @acZ @Gq @adl @adm @IB @AQ (an9 @QL @adN @Ox @Qd @aem @adY @ael @adX (an3 @IJ @Pp @aew)))
def ev :=
 an8 @ev1 @ev2 @ev3 @ev4 @ev5 @ev6 @ev7 @ev8
attribute [go_sem] afo Yl Rj Rk Ym afp Yn W_r ahL Ha NH G_ Ri JQ Yy Rw Yz afE Yv Ru afC Rt JX Yw Rv Yx afD Yp Rm ahP afu afv afr afs ahQ JS Yq Yr Rn ahR afz afA afx afy ahS JV Yt Gy put_none List.zipIdx_cons List.zipIdx_nil List.map_cons List.map_nil Option.map_none Option.map_some Nat.zero_add Nat.add_zero Qj CZ Jp XL Jn qR Qk Ji wO Jo Qg yf wP tO Jj tT Jm tQ Jl yc yg Ql iH ib rP Cb v_ PH CQ IW XJ Qb Qa Ou adw Xc OZ Ir Pj aep Xl WX Int.toNat_natCast Int.natCast_nonneg List.drop_zero List.take_succ_cons List.take_zero List.drop_succ_cons Nat.le_refl NP Cc Hu WP NQ Hf tC qF Ce Ht Yg XU X_ XY XX Ya Yb Yc Yd Ye XZ WM IM Xu Pq Ps IG IL xX CJ ahC aej aei aeh Xj aeg Xi ahA adU adS adR List.flatMap_cons List.flatMap_nil List.nil_append List.append_nil List.cons_append Option.bind_some Option.bind_none adc NU upd_same upd_ne if_true if_false decide_true decide_false true_and and_true List.getElem?_toArray List.getElem?_cons_zero List.getElem?_cons_succ NF NG Bool.true_and Bool.and_true ne_eq not_false_eq_true List.size_toArray List.length_cons List.length_nil List.length_map NM WB adO WK WZ WY W_ NL Wd NS adf adg Xx WN WL Ho ac_ afd Yf XT XW XV HV JN WT JC Hw WS WU List.mapM_cons List.mapM_nil List.all_cons List.all_nil Option.pure_def Option.bind_eq_bind kW List.range_zero List.range_succ List.toList_toArray List.concat_eq_append Qh List.length_append List.length_replicate List.append_assoc Nat.mul_one fB Me and_self List.drop_length List.take_length Pk aeq Xm Int.cast_ofNat_Int eq_self Mf FX xH vZ Bool.and_self Bool.true_eq_false Bool.false_eq_true beq_true beq_false Bool.not_true Bool.not_false Oc H_ xR WV Oa Xp Xq CF IC CE fQ jy tN CY Qe yA yo sH yn wU wT NW x_ List.contains_nil List.contains_cons Bool.or_self Bool.or_false QI QJ OT Cu Ig Ih Jg Ci Ch GV GX Qc XI WJ adh acW WQ WO WR NR NV Hm Hz WF WG WI NK He Pt IK II Xr Xt aek ahB adV Cg Cf yu yw yx yz lK Ow iM O_ BA BB Jk Qi Hg NN Hy NT adk Hd NJ WH acZ Gq adl adm IB AQ QL adN Ox Qd aem adY ael adX IJ Pp aew
attribute [go_sem] uq gdA aH uo RU ixQ ldH aW aR ku faQ exQ UC qD qX slQ stH Vq VA bY eu aO D.one KF oH uw cvH
variable {P:Program}{H:Nat->Ob}{sl:Nat->D}{id:Nat}
theorem oz {P:Program}{s d:TypeId}:CX P s d none=none:=rfl
theorem gH {f:FuncId}{fn:Func}(h:P.funcs[f]?=some fn)(h1:(fn.name == "runtime.NumGoroutine")=false)(h2:fn.body.isNone=false):J_ P f:=⟨fn,h,h1,h2⟩
theorem E_ {P:Program}{fn:Func}{sl:Nat->D}{H:Nat->Ob}{t:TypeId}{p:Tmp}{k:Nat}{cs:List D}{r:D}(F:List Nat)(h:fn.results=#[.cell p t])(ha:pM P t=some true)(hs:iE P t=some k)(hr:aW H (sl p) k=some cs)(hv:cv H F (λ_=>none) (.agg cs) r):Fin P fn noH r noH .ret ⟨sl,H⟩ :=
 ⟨_,by simp[BN,h,iC,ha,hs,hr],kJ F hv⟩
def mkS (sz:Option Nat)(z:Option (List D))(by_:Option Nat)(l c:Int)(H:Nat->Ob)(id:Nat):Option (D×(Nat->Ob)) :=
 match sz,z,by_ with
   |some (s+1),some z,some by_=>if 0<=l/\l<=c/\c<140737488355328/\c*by_<=140737488355328/\z.length=s+1 then
     match z.mapM (eu H)with
     |some xs=>some (.os id (s+1) 0 l.toNat,upd H id (.arr (s+1) (List.replicate l.toNat xs)))
     |none=>none
    else none
   |_,_,_=>none
def mkH (P:Program)(u:Option TypeDesc)(l c:Option Value)(H:Nat->Ob)(x:Ob)(id:Nat):Option (D×(Nat->Ob)) :=
 match u,l,c,x with
  |some (.slice e),some (.int .i64 l),some (.int .i64 c),.fresh=>mkS (iE P e) (aJ P e) (iy P e) l c H id
  |_,_,_,_=>none
theorem agy {t:TypeId}{l c:Operand}:opH P sl H id (.makeSlice t l c)=mkH P (aG P t) (dO (evA sl l)) (dO (evA sl c)) H (H id) id:=rfl
theorem TT {e:TypeId}{l c:Int}:mkH P (some (.slice e)) (some (.int .i64 l)) (some (.int .i64 c)) H .fresh id=mkS (iE P e) (aJ P e) (iy P e) l c H id:=rfl
theorem ZL {s by_:Nat}{z:List D}{xs:List I}{k:Int}(h0:0<=k)(h1:k<140737488355328)(h2:k*by_<=140737488355328)(h3:z.length=s+1)(h4:z.mapM (eu H)=some xs):
  mkS (some (s+1)) (some z) (some by_) k k H id=some (.os id (s+1) 0 k.toNat,upd H id (.arr (s+1) (List.replicate k.toNat xs))):=by
 show(if _ then(match z.mapM (eu H)with|some xs=>_|none=>none)else none)=_;rw[if_pos ⟨h0,Int.le_refl _,h1,h2,h3⟩,h4]
theorem adq {s by_:Nat}{z:List D}{xs:List I}{l:Nat}(h1:l<140737488355328)(h2:l*by_<=140737488355328)(h3:z.length=s+1)(h4:z.mapM (eu H)=some xs):
  mkS (some (s+1)) (some z) (some by_) (l:Int) (l:Int) H id=some (.os id (s+1) 0 l,upd H id (.arr (s+1) (List.replicate l xs))):=by
 have h2':(l:Int)*(by_:Int)<=140737488355328:=by rw[<- Int.natCast_mul];generalize l*by_=x at h2;omega
 exact ZL (Int.natCast_nonneg _) (by omega) h2' h3 h4
theorem Ni {P:Program}{f:FuncId}{ds:List D}{r:D}(h0:J_ P f)(h:∀(K:Ctx)(vs:Array Value),Du K vs ds->∃ds',PureD P f ds' r/\Du K vs ds'):PureD P f ds r:=by refine⟨h0,λK0 T K vs hr hrd=>?_⟩;obtain⟨ds',hp,hrd'⟩:=h K vs hrd;exact hp.2 K0 T K vs hr hrd'
theorem ko {P:Program}{f:FuncId}{ds:List D}{r:D}{H H':Nat->Ob}(h0:J_ P f)(h:∀(K:Ctx)(vs:Array Value),Du K vs ds->∃ds',aL P f ds' H r H'/\Du K vs ds'):aL P f ds H r H':=by refine⟨h0,λK0 T K vs hr hrd=>?_⟩;obtain⟨ds',hp,hrd'⟩:=h K vs hrd;exact hp.2 K0 T K vs hr hrd'
section
variable {P:Program}{n:Nat}{σ:St}{ks:List Fr}{Q:Ex->St->Prop}{rid k:Nat}{ops:Array Oper}{rest:List It}{acc:Acc}{H:Nat->Ob}{g:FuncId}{sl:Nat->D}
theorem wz {f:FuncId}{sz m:Nat}{xs:List D}{H:Nat->Ob}{r:D}{H':Nat->Ob}(hm:0<m)(h:∀c,m<=c->aL P f (.oc 0 sz 0 m c::xs) H r H'):aL P f (.os 0 sz 0 m::xs) H r H':=by
 refine⟨(h m (Nat.le_refl _)).1,λK0 T K vs hr hrd=>?_⟩;obtain⟨h1,h2⟩:=hrd;have h0:=h2 0 _ rfl;generalize hv:vs.getD 0 undef=v at h0;cases h0 with
 |os _ _ _ _ b off' cap q1 q2 q3 q4 q5 =>
  refine(h cap q3).2 K0 T K vs hr ⟨by simpa using h1,λj d hd=>?_⟩;cases j with
  |zero =>simp at hd;subst hd;rw[hv];exact .oc 0 sz 0 m cap b off' q1 q2 q3 q4 q5
  |succ j=>exact h2 (j+1) d (by simpa using hd)
 |os0=>omega
theorem LER.trans {H0:Nat->Ob}{a b c:D}{H H1 H2:Nat->Ob}(h1:LER H0 a H b H1)(h2:LER H0 b H1 c H2):LER H0 a H c H2:=by intro K0 E0 T K v hE h0 hr hv;obtain⟨K1,e1,x1,r1,v1⟩:=h1 K0 E0 T K v hE h0 hr hv;obtain⟨K2,e2,x2,r2,v2⟩:=h2 K0 E0 T K1 v x1 h0 r1 v1;exact⟨K2,e2.trans e1,x2,r2,v2⟩
theorem HR.trim {w0:Ctx}{T:Nat->Prop}{K:Ctx}{H:Nat->Ob}(hr:HR w0 T K H){o sz m:Nat}{es:List (List I)}(ho:H o=.arr sz es):HR w0 T K (upd H o (.arr sz (es.take m))):=by
 obtain⟨hz,hu,h3⟩:=hr.get ho;refine⟨hr.g0,hr.os,hr.tape,hr.output,hr.size,hr.block,hr.sB,hr.sN,hr.mB,λo'=>?_,λo1 o2 b h1 h2 g1 g2=>?_⟩
 ·by_cases h:o'=o
  ·subst h;rw[upd_same];refine⟨hz,λe he=>hu e (List.mem_of_mem_take he),?_⟩;rcases h3 with⟨h3,rfl⟩|⟨b,row,e,h3,h4,h5,h6,h7,h8⟩
   ·exact .inl ⟨h3,by simp⟩
   ·refine .inr ⟨b,row,e,h3,h4,?_,λj x hx=>h6 j x ?_,h7,h8⟩
    ·exact Nat.le_trans (Nat.mul_le_mul_right _ (by simp;omega)) h5
    ·rw[fV hu,List.getElem?_take]at hx;split at hx
     ·exact hx
     ·cases hx
  ·rw[upd_ne _ _ h];exact hr.ob o'
 ·have key:∀{o'},(upd H o (.arr sz (es.take m)) o').own->(H o').own:=by
   intro o' h;by_cases h':o'=o
   ·subst h';rw[ho];trivial
   ·rw[upd_ne _ _ h']at h;exact h
  exact hr.inj o1 o2 b (key h1) (key h2) g1 g2
theorem Il {H0 H:Nat->Ob}{o id sz len cap m:Nat}{es:List (List I)}(ho:H o=.arr sz es)(hf:H id=.fresh):LER H0 (.oc o sz 0 len cap) H (.os id sz 0 len) (upd (upd H o .dead) id (.arr sz (es.take m))):=by
 intro K0 E0 T K v hE h0 hr hv;cases hv with
 |oc _ _ _ _ _ b off' q1 q2 q3 q4 q5 =>
  have hr':=hr.trim (m:=m) ho;have hid:id≠o:=λe=>by subst e;rw[ho]at hf;cases hf
  obtain⟨a1,a2⟩:=hr'.adopt (o:=o) (id:=id) (b:=b) (by rw[upd_same];trivial) q1 (by rw[upd_ne _ _ hid];exact hf);have e:upd (upd (upd H o (.arr sz (es.take m))) o .dead) id (upd H o (.arr sz (es.take m)) o)=upd (upd H o .dead) id (.arr sz (es.take m)):=by
   funext k;by_cases h1:k=id
   ·subst h1;simp[upd]
   ·by_cases h2:k=o<;>simp[upd,h1,h2]
  rw[e]at a2;exact⟨⟨K.w,K.S,upd K.μ id (some b)⟩,rfl,hE.trans a1,a2,.os id sz 0 len b off' cap (by simp[upd]) q2 q3 q4 q5⟩
theorem CO {fn:Func}{i:Tmp}{H0:Nat->Ob}{o sz len cap:Nat}{es:List (List I)}(h:fn.results=#[.tmp i])(hv:sl i=.oc o sz 0 len cap)(ho:H o=.arr sz es)(hf:H 900=.fresh)(h1:H0 1=.fresh)(h9:H0 900=.fresh):
  Fin P fn H0 (.os 1 sz 0 len) (hOf H0 [(1,.arr sz (es.take len))]) .ret ⟨sl,H⟩:=by
 refine⟨_,uL h,?_⟩;show LER H0 (sl i) H _ _;rw[hv];refine(Il (id:=900) (m:=len) ho hf).trans (Co [(1,.arr sz (es.take len))] [] [(1,900)] ?_ ?_ rfl ?_ rfl)
 ·simp[cv,cv1,cv0,jc,h1,lk]
 ·simp[aX,jc,h1,lk,cvO,frz,upd]
 ·simp[h9]
theorem Dk {sz sz2 sz' len len2 len':Nat}{es es2 es':List (List I)}{x:D}
  (hL:aL P g [.os 0 sz 0 len,x,.os 2 sz2 0 len2] (hF [(0,.arr sz es),(2,.arr sz2 es2)]) (.os 1 sz' 0 len') (hOf (hF [(0,.arr sz es),(2,.arr sz2 es2)]) [(1,.arr sz' es')]))
  (hx:x.val=true) {o o2 o':Nat}(ho:H o=.arr sz es) (ho2:H o2=.arr sz2 es2) (hoo:o≠o2) (hf:H o'=.fresh):
  aL P g [.os o sz 0 len,x,.os o2 sz2 0 len2] H (.os o' sz' 0 len') (upd (upd (upd H o .dead) o2 .dead) o' (.arr sz' es')):=by
 have hne:o≠o':=λe=>by subst e;rw[ho]at hf;cases hf
 have hne2:o2≠o':=λe=>by subst e;rw[ho2]at hf;cases hf
 have h:=dF (H:=H) (gs:=[.os o sz 0 len,x,.os o2 sz2 0 len2]) (L2:=λa=>if a=o' then .arr sz' es' else .dead) (r':=.os o' sz' 0 len') [] (λl=>if l=0 then some o else if l=2 then some o2 else none)
  (λa=>if a=o then some 0 else if a=o2 then some 2 else if a=o' then some 1 else none) hL
  ⟨by simp[cv1,cv0],by cases x<;>simp[D.val]at hx<;>simp[cv1,cv0],by simp[cv1,cv0],trivial⟩
  (λa=>by
   by_cases h0:a=0
   ·subst h0;right;right;right;exact⟨o,by simp,by simp[hF,lk,cvO,frz,ho]⟩
   ·by_cases h2:a=2
    ·subst h2;right;right;right;exact⟨o2,by simp,by simp[hF,lk,cvO,frz,ho2]⟩
    ·left;simp[hF,lk,h0,h2])
  (λa b c h1 h2 h3 h4=>by
   by_cases ha:a=0
   ·subst ha;simp at h3;subst h3;by_cases hb:b=0
    ·exact hb.symm
    ·by_cases hb2:b=2
     ·subst hb2;simp at h4;exact absurd h4.symm hoo
     ·simp[hb,hb2]at h4
   ·by_cases ha2:a=2
    ·subst ha2;simp at h3;subst h3;by_cases hb:b=0
     ·subst hb;simp at h4;exact absurd h4 hoo
     ·by_cases hb2:b=2
      ·exact hb2.symm
      ·simp[hb,hb2]at h4
    ·simp[ha,ha2]at h3)
  (λa=>by
   by_cases h1:a=o'
   ·subst h1;right;right;right;exact⟨1,by simp[hne.symm,hne2.symm],by simp[hOf,lk,cvO,frz]⟩
   ·right;left;simp[h1])
  (λa b c h1 h2 h3 h4=>by
   by_cases ha:a=o'<;>by_cases hb:b=o'
   ·rw[ha,hb]
   ·simp[hb,Ob.own]at h2
   ·simp[ha,Ob.own]at h1
   ·simp[ha,Ob.own]at h1)
  (by simp[cv,cv1,cv0,hne.symm,hne2.symm])
  (λl a h=>by
   by_cases h0:l=0
   ·subst h0;simp at h;subst h;simp
   ·by_cases h2:l=2
    ·subst h2;simp at h;subst h;simp[hoo.symm]
    ·simp[h0,h2]at h)
  (λa l h=>by
   by_cases h0:a=o
   ·subst h0;simp at h;subst h;left;simp
   ·by_cases h2:a=o2
    ·subst h2;simp[h0]at h;subst h;left;simp
    ·simp[h0,h2]at h;right;rw[h.1];exact⟨hf,by simp⟩)
 have e:(λa=>if((if a=o then some 0 else if a=o2 then some 2 else if a=o' then some 1 else none:Option Nat)).isSome then(if a=o' then Ob.arr sz' es' else .dead)else frz [] H a)=upd (upd (upd H o .dead) o2 .dead) o' (.arr sz' es'):=by
  funext a;by_cases h1:a=o'
  ·subst h1;simp[upd,hne.symm,hne2.symm]
  ·by_cases h2:a=o
   ·subst h2;simp[upd,h1,hoo]
   ·by_cases h3:a=o2
    ·subst h3;simp[upd,h1,h2]
    ·simp[upd,h1,h2,h3,frz]
 rw[e]at h;exact h
theorem RF {sz sz2 sz' len len2 len':Nat}{es es2 es':List (List I)}{x:D}{dst:Option Nat}(o':Nat)
  (hL:aL P g [.os 0 sz 0 len,x,.os 2 sz2 0 len2] (hF [(0,.arr sz es),(2,.arr sz2 es2)]) (.os 1 sz' 0 len') (hOf (hF [(0,.arr sz es),(2,.arr sz2 es2)]) [(1,.arr sz' es')]))
  {o o2:Nat}(ho:σ.H o=.arr sz es) (ho2:σ.H o2=.arr sz2 es2) (hf:σ.H o'=.fresh) (hx:(x.val&&o != o2)=true)
  (h:Ro P n rid rest (St.put ⟨σ.sl,upd (upd (upd σ.H o .dead) o2 .dead) o' (.arr sz' es')⟩ dst (.os o' sz' 0 len')) ks Q):Call P n rid g [.os o sz 0 len,x,.os o2 sz2 0 len2] dst rest σ ks Q:=by
 simp only[Bool.and_eq_true,bne_iff_ne]at hx;exact⟨_,_,.inl (Dk hL hx.1 ho ho2 hx.2 hf),h⟩
theorem Lu {sz sz2 sz' len len2 len':Nat}{es es2 es':List (List I)}{x:D}{dst:Option Nat}(o':Nat)
  (hL:aL P g [.os 0 sz 0 len,x,.os 2 sz2 0 len2] (hF [(0,.arr sz es),(2,.arr sz2 es2)]) (.os 1 sz' 0 len') (hOf (hF [(0,.arr sz es),(2,.arr sz2 es2)]) [(1,.arr sz' es')]))
  {o o2:Nat}(ho:σ.H o=.arr sz es) (ho2:σ.H o2=.arr sz2 es2) (hf:σ.H o'=.fresh) (hx:(x.val&&o != o2)=true)
  (h:Rd P n rid ops rest ((k,[o,o2,o'],[o,o2,o'])::acc) (St.put ⟨σ.sl,upd (upd (upd σ.H o .dead) o2 .dead) o' (.arr sz' es')⟩ dst (.os o' sz' 0 len')) ks Q):mr P n rid ops g [.os o sz 0 len,x,.os o2 sz2 0 len2] k dst rest acc σ ks Q:=by
 simp only[Bool.and_eq_true,bne_iff_ne]at hx;refine⟨⟨.os o' sz' 0 len',[o,o2,o'],[o,o2,o'],λG=>upd (upd (upd G o .dead) o2 .dead) o' (.arr sz' es')⟩,⟨⟨λ_ h=>h,λG j hj=>?_,λG G' _ j hj=>?_⟩,λG hG=>.inl (Dk hL hx.1 ((hG o (by simp)).trans ho) ((hG o2 (by simp)).trans ho2) hx.2 ((hG o' (by simp)).trans hf))⟩,h⟩
 ·simp at hj;simp[upd,hj]
 ·simp at hj;by_cases h1:j=o'
  ·simp[upd,h1]
  ·by_cases h2:j=o2
   ·simp[upd,h1,h2]
   ·by_cases h3:j=o
    ·simp[upd,h1,h2,h3]
    ·simp[h1,h2,h3]at hj
theorem nz {t tR e:TypeId}{s o o2 sz sz2 len len2 off off2 cap:Nat}{es es2:List (List I)}(ht:P.underlying t=some (.slice e))(hz:∀w,(Go.sizeOf e).run P w=.ok s w)
  {w0:Ctx}{T:Nat->Prop}{K:Ctx}(hr:HR w0 T K H) {v v2:Value}(hv2:VD K v2 (.os o2 sz2 off2 len2)) (hv:VD K v (.oc o sz off len cap)) (ho:H o=.arr sz es) (ho2:H o2=.arr sz2 es2) (hne:o≠o2) (hl:0<len) (hl2:0<len2):
  (Extern.SlicesOverlaps.overlaps #[t,t] #[tR] #[v2,v]).run P K.w=.ok (.bool false) K.w:=by
 cases hv with
 |oc _ _ _ _ _ b off' q1 q2 q3 q4 q5 =>
 cases hv2 with
 |os0 _ _ a=>omega
 |os _ _ _ _ b2 off2' cap2 p1 p2 p3 p4 p5 =>
  obtain⟨row,e1,h4,_⟩:=hr.place (by rw[ho];trivial) q1;obtain⟨row2,e2,h42,_⟩:=hr.place (by rw[ho2];trivial) p1;replace h4:=h4 (λs p=>by rw[ho];exact λe=>by cases e) (λes=>by rw[ho];exact λe=>by cases e);replace h42:=h42 (λs p=>by rw[ho2];exact λe=>by cases e) (λes=>by rw[ho2];exact λe=>by cases e);have hb:b2≠b:=λe=>hne (hr.inj o o2 b (by rw[ho];trivial) (by rw[ho2];trivial) q1 (e▸p1));have hrs:row.size≠0:=by rw[fG h4]at q5;have:0<cap*sz:=Nat.mul_pos (by omega) q2;omega
  exact Lib.run_overlaps_apart K.w t tR e ht s hz ⟨b2,off2',none⟩ ⟨b,off',none⟩ len2 cap2 len cap hb e2 e1 row2.size row.size (by simp[World.shape?,h42]) (by simp[World.shape?,h4]) hrs (frozen_of_row K.w b2 _ row2 e2 h42) (frozen_of_row K.w b2 _ row2 e2 h42)
end
def intD (n:Int):D:=.i (.s (.int .i64 n))
def boolD (b:Bool):D:=.i (.s (.bool b))
def xx (H:Nat->Ob):D->List Nat
 | .pt o _ _ _=>o::(match H o with | .box cs=>cs.flatMap D.ids1|_=>[])
 |d=>d.ids1
def oO (H:Nat->Ob):D->List Nat
 | .agg cs=>cs.flatMap (xx H)
 | .fn _ cs=>cs.flatMap (xx H)
 |d=>xx H d
def Ut:Ob->List Nat
 | .box cs=>cs.flatMap D.ids1
 |_=>[]
def agJ:D->List Nat
 | .tup ds=>ds.flatMap D.ids
 |d=>d.ids
def knk (ids:List Nat)(H:Nat->Ob):Nat->Ob:=λk=>if ids.contains k then(match H k with | .arr sz es=>.fz sz es | .box _=>.dead|x=>x)else H k
def Uf:Ob->Ob
 | .arr sz es=>.fz sz es
 | .box _=>.dead
 |x=>x
theorem ZY {H:Nat->Ob}:knk [] H=H:=by funext k;simp[knk]
theorem adC {a k:Nat}{t:List Nat}{H:Nat->Ob}(h:k≠a):knk (a::t) H k=knk t H k:=by simp[knk,h]
theorem ZX {ids:List Nat}{H:Nat->Ob}{k:Nat}(h:k ∉ ids):knk ids H k=H k:=by simp[knk,h]
theorem OH {ids:List Nat}{G H:Nat->Ob}{k:Nat}(h:G k=H k):knk ids G k=knk ids H k:=by simp[knk,h]
section
variable {P:Program}{n:Nat}{σ:St}{ks:List Fr}{Q:Ex->St->Prop}{rid k:Nat}{ops:Array Oper}{rest:List It}{acc:Acc}{H:Nat->Ob}{g:FuncId}{w0:Ctx}{T:Nat->Prop}{K:Ctx}
theorem HR.knk (hr:HR w0 T K H)(ids:List Nat):HR w0 T (K.more (lentS K H ids ids)) (knk ids H):=by
 have he:Ext K (K.more (lentS K H ids ids)):=Ext.more _;have hown:∀o,(Abs.knk ids H o).own->(H o).own:=by
  intro o h;simp only[Abs.knk]at h;split at h
  ·cases hx:H o<;>rw[hx]at h<;>first|exact h.elim|trivial
  ·exact h
 refine⟨hr.g0,hr.os,hr.tape,hr.output,hr.size,hr.block,λb hb=>?_,λb hb=>?_,hr.mB,λo=>?_,λo1 o2 b h1 h2 g1 g2=>hr.inj o1 o2 b (hown o1 h1) (hown o2 h2) g1 g2⟩
 ·rcases hb with hb|⟨o,_,_,hb⟩|⟨o,_,_,hb⟩
  ·exact hr.sB b hb
  ·exact hr.mB o b hb
  ·exact hr.mB o b hb
 ·rcases hb with hb|⟨o,_,⟨sz,es,hx⟩,hb⟩|⟨o,_,⟨cs,hx⟩,hb⟩
  ·exact hr.sN b hb
  ·obtain⟨_,_,_,_,q⟩:=hr.place (by rw[hx];trivial) hb;exact .inr q
  ·obtain⟨_,_,_,_,q⟩:=hr.place (by rw[hx];trivial) hb;exact .inr q
 ·by_cases hm:o∈ids/\((∃sz es,H o=.arr sz es)\/∃cs,H o=.box cs)
  ·obtain⟨hm,⟨sz,es,hx⟩|⟨cs,hx⟩⟩:=hm
   ·have:Abs.knk ids H o=.fz sz es:=by simp[Abs.knk,hm,hx]
    rw[this];obtain⟨h1,h2,h3⟩:=hr.get hx;refine⟨h1,h2,?_⟩;rcases h3 with h3|⟨b,row,e,h3,h4,h5,h6,h7,h8⟩
    ·exact .inl h3
    ·refine .inr ⟨b,λj=>row.getD j undef,h3,.inr (.inl ⟨o,hm,⟨sz,es,hx⟩,h3⟩),λj x hj=>⟨?_,(h6 j x hj).ext he⟩⟩;have hlt:j<row.size:=by have:=(List.getElem?_eq_some_iff.1 hj).1;rw[bA h2]at this;omega
     show K.w.cell? _=_;rw[cell_of_row K.w b j row e _ h4];simp[Array.getD,hlt]
   ·have:Abs.knk ids H o=.dead:=by simp[Abs.knk,hm,hx]
    rw[this];trivial
  ·have:Abs.knk ids H o=H o:=by
    simp only[Abs.knk];split
    ·rename_i hc;split
     ·rename_i sz es hx;exact absurd ⟨by simpa using hc,.inl ⟨sz,es,hx⟩⟩ hm
     ·rename_i cs hx;exact absurd ⟨by simpa using hc,.inr ⟨cs,hx⟩⟩ hm
     ·rfl
    ·rfl
   rw[this];refine(hr.ob o).ext he (λh=>h) (λb ho hb=>⟨rfl,?_⟩);rintro(hS|⟨o',ho',⟨sz,es,hx⟩,hb'⟩|⟨o',ho',⟨cs,hx⟩,hb'⟩)
   ·obtain⟨_,_,_,q,_⟩:=hr.place ho hb;exact q hS
   ·have:o=o':=hr.inj o o' b ho (by rw[hx];trivial) hb hb';subst this;exact hm ⟨ho',.inl ⟨sz,es,hx⟩⟩
   ·have:o=o':=hr.inj o o' b ho (by rw[hx];trivial) hb hb';subst this;exact hm ⟨ho',.inr ⟨cs,hx⟩⟩
theorem GD {f:FuncId}{ds ds':List D}{r:D}(F:List Nat)(hp:PureD P f ds' r)(hc:CV H F F ds ds'):aL P f ds H r (knk F H):=by
 refine⟨hp.1,λK0 T K vs hr hrd=>?_⟩;refine(zD hr hp hrd hc).mono ?_;rintro e w' ⟨v,S',rfl,h1,h2,h3,h4,h5,h6,h7,h8,hv⟩;obtain⟨g1,g2⟩:=(hr.knk F).grow (w':=w') (S':=S') h1 h2 h3 h4 h5 h6 h7 h8;refine⟨v,_,rfl,rfl,(Ext.more (K:=K) (lentS K H F F)).trans g1,g2,?_⟩;have hx:Ext ⟨w',S',λ_=>none⟩ ⟨w',S',(K.more (lentS K H F F)).μ⟩:=⟨λ_ h=>h,λ_ _ _=>rfl,λo b hb=>by simp at hb,λo b hb=>rfl⟩
 exact hv.ext hx
theorem abq {args ds':List D}{dst:Option Nat}{r:D}(hp:PureD P g ds' r)(hflat:r.flat=true)(hc:CV σ.H (args.flatMap (oO σ.H)) (args.flatMap (oO σ.H)) args ds')(h:Ro P n rid rest (σ.put dst r) ks Q):Call P n rid g args dst rest σ ks Q :=
 ja _ _ hp hc hflat h
theorem abp {args ds':List D}{dst:Option Nat}{r:D}(hp:PureD P g ds' r)(hc:CV σ.H (args.flatMap (oO σ.H)) [] args ds')(h:Ro P n rid rest (St.put ⟨σ.sl,frz (args.flatMap (oO σ.H)) σ.H⟩ dst r) ks Q):Call P n rid g args dst rest σ ks Q :=
 kP _ hp hc h
theorem abt {args ds':List D}{dst:Option Nat}{r:D}(hp:PureD P g ds' r)(hc:CV σ.H (args.flatMap (oO σ.H)) (args.flatMap (oO σ.H)) args ds')(h:Ro P n rid rest (St.put ⟨σ.sl,knk (args.flatMap (oO σ.H)) σ.H⟩ dst r) ks Q):Call P n rid g args dst rest σ ks Q :=
 ⟨r,_,.inl (GD _ hp hc),h⟩
theorem VS {args ds':List D}{dst:Option Nat}{r:D}(hp:PureD P g ds' r)(hflat:r.flat=true)(hc:∀G,mo (args.flatMap (oO σ.H)) G σ.H->CV G (args.flatMap (oO σ.H)) (args.flatMap (oO σ.H)) args ds')(h:Rd P n rid ops rest ((k,args.flatMap (oO σ.H),[])::acc) (σ.put dst r) ks Q):mr P n rid ops g args k dst rest acc σ ks Q :=
 jK _ _ _ hp hc hflat h
theorem VR {args ds':List D}{dst:Option Nat}{r:D}(hp:PureD P g ds' r)(hc:∀G,mo (args.flatMap (oO σ.H)) G σ.H->CV G (args.flatMap (oO σ.H)) [] args ds')(h:Rd P n rid ops rest ((k,args.flatMap (oO σ.H),args.flatMap (oO σ.H))::acc) (St.put ⟨σ.sl,frz (args.flatMap (oO σ.H)) σ.H⟩ dst r) ks Q):mr P n rid ops g args k dst rest acc σ ks Q :=
 jb _ _ hp hc (λ_ h=>h) h
theorem VT {args ds':List D}{dst:Option Nat}{r:D}(hp:PureD P g ds' r)(hc:∀G,mo (args.flatMap (oO σ.H)) G σ.H->CV G (args.flatMap (oO σ.H)) (args.flatMap (oO σ.H)) args ds')(h:Rd P n rid ops rest ((k,args.flatMap (oO σ.H),args.flatMap (oO σ.H))::acc) (St.put ⟨σ.sl,knk (args.flatMap (oO σ.H)) σ.H⟩ dst r) ks Q):mr P n rid ops g args k dst rest acc σ ks Q :=
 ⟨⟨r,_,_,λG=>knk (args.flatMap (oO σ.H)) G⟩,⟨⟨λ_ h=>h,λG k hk=>ZX hk,λG G' hg k hk=>OH (hg k hk)⟩,λG hG=>.inl (GD _ hp (hc G hG))⟩,h⟩
theorem aS {body:Code} {ι:Type} (Inv:ι->Prop) (S:ι->St) (m:ι->Nat) (i:ι) (hi:Inv i) (h0:LE n σ (S i)) (h:∀ i,Inv i->∀ R':St->Prop,(∀ j σ',Inv j->LE n σ' (S j)->m j < m i->R' σ')->W P n body (S i) (.lp R' :: ks) Q):W P n (.loop body) σ ks Q :=
 bO Inv S m i hi h0 fun i hi=>h i hi _ fun j _ a b c=>⟨j,a,b,c⟩
theorem Fy {args:List D}{dst:Option Nat}(h:Call P n rid g args dst rest σ ks Q):Call P n rid g args dst rest σ ks Q:=h
theorem AL {args:List D}{dst:Option Nat}(h:mr P n rid ops g args k dst rest acc σ ks Q):mr P n rid ops g args k dst rest acc σ ks Q:=h
theorem xh {b:Bool}{o:Oper}(h1:b=true->RoG P n rid (some true) k o rest σ ks Q)(h2:b=false->RoG P n rid (some false) k o rest σ ks Q):RoG P n rid (some b) k o rest σ ks Q:=by
 cases b
 ·exact h2 rfl
 ·exact h1 rfl
theorem xk {b:Bool}{o:Oper}(h1:b=true->RdG P n rid ops (some true) k o rest acc σ ks Q)(h2:b=false->RdG P n rid ops (some false) k o rest acc σ ks Q):RdG P n rid ops (some b) k o rest acc σ ks Q:=by
 cases b
 ·exact h2 rfl
 ·exact h1 rfl
def Gr (P:Program)(σ:St):List ResultVar->Option (List D)
 |[]=>some []
 | .tmp t::l=>(Gr P σ l).map (σ.sl t :: ·)
 | .cell a t::l=>match pM P t,iE P t with
  |some true,some k=>(aW σ.H (σ.sl a) k).bind λcs=>(Gr P σ l).map (.agg cs :: ·)
  |some false,_=>((aW σ.H (σ.sl a) 1).bind ku).bind λd=>(Gr P σ l).map (d :: ·)
  |_,_=>none
theorem vS {σ:St}:∀{l:List ResultVar}{ds:List D},Gr P σ l=some ds->l.mapM (iC P σ)=some ds
 |[],ds,h=>by simp[Gr]at h;subst h;rfl
 | .tmp t::l,ds,h=>by simp only[Gr,Option.map_eq_some_iff]at h;obtain⟨ds',h,rfl⟩:=h;simp[List.mapM_cons,iC,vS h]
 | .cell a t::l,ds,h=>by
  simp only[Gr]at h;split at h
  ·rename_i k h1 h2;simp only[Option.bind_eq_some_iff,Option.map_eq_some_iff]at h;obtain⟨cs,hc,ds',h,rfl⟩:=h;simp[List.mapM_cons,iC,h1,h2,hc,vS h]
  ·rename_i h1;simp only[Option.bind_eq_some_iff,Option.map_eq_some_iff]at h;obtain⟨d,⟨cs,hc,hd⟩,ds',h,rfl⟩:=h;simp[List.mapM_cons,iC,h1,hc,hd,vS h]
  ·cases h
def Br:List D->D
 |[d]=>d
 |ds=>.tup ds
theorem agN {sl:Nat->D}{fn:Func}{r:D}{rs:List ResultVar}{ds:List D}(h:fn.results.toList=rs)(hr:Gr P ⟨sl,H⟩ rs=some ds)(hv:cv H (agJ (Br ds)) (λ_=>none) (Br ds) r):Fin P fn noH r noH .ret ⟨sl,H⟩:=by subst h;have:=vS hr;refine⟨Br ds,?_,kJ _ hv⟩;unfold BN;rw[this];rcases ds with _|⟨d,_|⟨d',t⟩⟩<;>rfl
def ahD (x:Option (List D))(H:Nat->Ob)(r:D):Prop :=
 match x with
 |some ds=>cv H (agJ (Br ds)) (λ_=>none) (Br ds) r
 |none=>False
theorem fin_q {sl:Nat->D}{fn:Func}{r:D}{rs:List ResultVar}(h:fn.results=rs.toArray)(hv:ahD (Gr P ⟨sl,H⟩ rs) H r):Fin P fn noH r noH .ret ⟨sl,H⟩:=by
 cases hx:Gr P ⟨sl,H⟩ rs with
 |none=>rw[hx]at hv;exact hv.elim
 |some ds=>rw[hx]at hv;exact agN (by rw[h]) hx hv
structure Hr {α:Type}(a b:α):Prop where
 out:a=b
theorem ai {f:FuncId}{ds:List D}{r:D}(h:∀R,Hr r R->PureD P f ds R):PureD P f ds r:=h r ⟨rfl⟩
theorem ik {f:FuncId}{ds:List D}{H H':Nat->Ob}{r:D}(h:∀R R',Hr r R->Hr H' R'->aL P f ds H R R'):aL P f ds H r H':=h r H' ⟨rfl⟩ ⟨rfl⟩
theorem aaT (a b:ByteArray):((a==b)=true)=(a=b):=by obtain⟨a⟩:=a;obtain⟨b⟩:=b;refine propext ⟨λh=>?_,λh=>by injection h with h;subst h;exact(show(a==a)=true by simp)⟩;have:(a==b)=true:=h;rw[beq_iff_eq]at this;rw[this]
theorem Yi (a b:ByteArray):((a==b)=false)=¬(a=b):=by rw[<- aaT];simp
theorem agK {H:Nat->Ob}{x:I}:oO H (.i x)=[]:=rfl
theorem aai {H:Nat->Ob}{cs:List D}:oO H (.agg cs)=cs.flatMap (xx H):=rfl
theorem aec {H:Nat->Ob}{f:FuncId}{cs:List D}:oO H (.fn f cs)=cs.flatMap (xx H):=rfl
theorem aeb {H:Nat->Ob}{o sz off len:Nat}:oO H (.os o sz off len)=[o]:=rfl
theorem aed {H:Nat->Ob}{o off len:Nat}:oO H (.bs o off len)=[o]:=rfl
theorem adZ {H:Nat->Ob}{xs:List I}{c:Nat}:oO H (.rp xs c)=[]:=rfl
theorem aea {H:Nat->Ob}{o sz i c:Nat}:oO H (.pt o sz i c)=o::Ut (H o):=by simp only[oO,xx];cases H o<;>rfl
theorem agL {H:Nat->Ob}{x:I}:xx H (.i x)=[]:=rfl
theorem aef {H:Nat->Ob}{o sz off len:Nat}:xx H (.os o sz off len)=[o]:=rfl
theorem aee {H:Nat->Ob}{xs:List I}{c:Nat}:xx H (.rp xs c)=[]:=rfl
theorem aaf {cs:List D}:Ut (.box cs)=cs.flatMap D.ids1:=rfl
theorem aag {sz:Nat}{es:List (List I)}:Ut (.arr sz es)=[]:=rfl
theorem adP {sz:Nat}{es:List (List I)}:Ut (.fz sz es)=[]:=rfl
theorem ZW {sz:Nat}{es:List (List I)}:Uf (.arr sz es)=.fz sz es:=rfl
theorem adz {sz:Nat}{es:List (List I)}:Uf (.fz sz es)=.fz sz es:=rfl
theorem ZV {cs:List D}:Uf (.box cs)=.dead:=rfl
theorem Ud:Uf .dead=.dead:=rfl
theorem xS (l:List UInt8):(l.map aH).mapM nK=some l:=by
 have hb:∀b:UInt8,nK (aH b)=some b:=by intro b;have:=b.toNat_lt;simp only[nK,aH];rw[if_pos ⟨by omega,by omega⟩];simp
 induction l with
 |nil=>rfl
 |cons a t ih=>rw[List.map_cons,List.mapM_cons,hb,ih];rfl
theorem UM {P:Program}{src dst e:TypeId}{s:ByteArray}(h0:aG P src=some .string)(h1:aG P dst=some (.slice e))(h2:aG P e=some (.int .u8)):CX P src dst (some (.string s))=none:=by rw[gu]at h0 h1 h2;simp[CX,Go.convert,underlying,program,bind,Sem.bind,pv,pure,h0,h1,h2,Conv.stringToBytes,choose]
attribute [go_sem] agK aai aec aeb aed adZ aea agL aef aee aaf aag adP ZW adz ZV Ud ZY adC xS oz Bool.not_not
theorem afQ {n:Int}(h1:-9223372036854775808<=n)(h2:n<9223372036854775808):IntKind.i64.wrap n=n:=au h1 (by omega)
theorem YD {n:Int}(h1:0<=n)(h2:n<18446744073709551616):IntKind.u64.wrap n=n:=by rw[IntKind.wrap_u64];omega
theorem aI {α:Type}{l:List α}{f:α->List I}{i:Nat}(h:i<l.length):(l.map f)[i]?=some (f (l[i]'h)):=by rw[List.getElem?_map,List.getElem?_eq_getElem h];rfl
def nrm :=
 an9 @decide_eq_true_eq @decide_eq_false_iff_not @Bool.not_eq_true' @Bool.not_eq_false' @Bool.not_eq_eq_eq_not @Bool.not_true @Bool.not_false @Bool.and_eq_true (an5 @Bool.or_eq_true @aaT @Yi @Int.natCast_inj @Int.natCast_eq_zero)
def lgc :=
 an9 @true_or @or_true @false_or @or_false @true_and @and_true @false_and @and_false (an9 @not_true @not_false_eq_true @not_false @if_true.{1} @if_false.{1} @ite_true.{1} @ite_false.{1} @decide_true (an9 @decide_false @Bool.true_and @Bool.and_true @Bool.false_and @Bool.and_false @Bool.true_or @Bool.or_true @Bool.false_or (an5 @Bool.or_false @Bool.not_true @Bool.not_false @Bool.false_eq_true @eq_self.{1})))
end
attribute [simp] CV cvA afJ cvR Fj cv1 cvL cv0 cvT cv xx oO agJ D.ids D.ids1 Br aO upd aH hO hF noH lk frz knk az aX cvO D.one fQ jy mo D.flat D.flat2 D.flat1 intD boolD bI
attribute [go_sem] intD boolD bI Gr ahD
end Go.Abs
