/- What is wrong with a state. No program is in sight. -/
import Derived.Test.YtmclpbcipkdmcaaDoorStP
set_option linter.all false
namespace Go.Proofs.YtmclpbcipkdmcaaDoor
open Go Go.Abs

def nm (n least : Int) : Bool := decide (least ≤ n ∧ n ≤ 1000000000000)
def cnE (c : ConnD) : Int := if c.st < 1 ∨ 3 < c.st then 1 else if ¬ nm c.cl 0 = true ∨ ¬ nm c.oc 0 = true ∨ ¬ nm c.on (-1) = true then 3 else 0
def chE (c : ChanD) : Int := if c.st < 1 ∨ 4 < c.st then 1 else if ¬ nm c.cn 0 = true ∨ ¬ nm c.oc (-1) = true ∨ ¬ nm c.snd 1 = true ∨ ¬ nm c.rcv 1 = true ∨ ¬ nm c.ack 1 = true then 3 else 0
def orderW (m : MarkD) (ch seq : Int) : Int := if m.ch = ch then IntKind.i64.wrap (m.seq - seq) else IntKind.i64.wrap (m.ch - ch)
def preA {α : Type} (l : List α) (i : Nat) : Option α := if i = 0 then none else l[i - 1]?
def mksE : Option MarkD → List MarkD → Int
  | _, [] => 0
  | o, m :: t => if ¬ nm m.ch 0 = true ∨ ¬ nm m.seq 1 = true then 3 else if ¬ (m.dg.length : Int) = 32 then 2 else if (o.any fun q => decide (0 ≤ orderW q m.ch m.seq)) = true then 2 else mksE (some m) t
def pusE : Option PurseD → List PurseD → Int
  | _, [] => 0
  | o, p :: t => if (p.o.size : Int) < 1 ∨ (40 : Int) < p.o.size ∨ (p.d.size : Int) < 1 ∨ (40 : Int) < p.d.size then 4 else if p.n = 0 then 3 else if (o.any fun q => decide (0 < cmpS q.o p.o ∨ q.o = p.o ∧ 0 ≤ cmpS q.d p.d)) = true then 2 else pusE (some p) t
def fstE {α : Type} (f : α → Int) : List α → Int
  | [] => 0
  | a :: t => if f a = 0 then fstE f t else f a
def mksS (s : StateD) : Int := if mksE none s.sent = 0 then (if mksE none s.got = 0 then (if mksE none s.acks = 0 then pusE none s.pus else mksE none s.acks) else mksE none s.got) else mksE none s.sent
def endS (s : StateD) : Int := if fstE cnE s.cns = 0 then (if fstE chE s.chs = 0 then mksS s else fstE chE s.chs) else fstE cnE s.cns
def wrongS (s : StateD) : Int :=
  if nameOk s.name = true then
    (if ¬ numB s.h = true ∨ ¬ numB s.t = true then 3
    else if (4 : Int) < s.cls.length ∨ (8 : Int) < s.cns.length ∨ (8 : Int) < s.chs.length ∨ (50 : Int) < s.sent.length ∨ (50 : Int) < s.got.length ∨ (50 : Int) < s.acks.length ∨ (60 : Int) < s.pus.length then 5
    else if fstE wrongC s.cls = 0 then endS s else fstE wrongC s.cls)
  else 7
end Go.Proofs.YtmclpbcipkdmcaaDoor
