/- What serial.Serialize answers, as plain functions of the tree (the program's own way: pieces put behind what is written; it stops past the limit). -/
import Derived.Test.YtpfhgolamlnhiaaDoorXT
import Derived.Test.YtpfhgolamlnhiaaDoorXA
import Derived.Test.YtpfhgolamlnhiaaDoorEsc
set_option linter.unusedVariables false
namespace Go.Proofs.YtpfhgolamlnhiaaDoor
open Go.RowKit Go.Proofs.YtpfhgolamlnhiaaDoorW.PrintWords Go.Proofs.YtpfhgolamlnhiaaDoor.XT Go.Proofs.YtpfhgolamlnhiaaDoor.XA

abbrev Nd := S37
abbrev At := S43

/-- A piece put behind; no answer where that would be too long for any machine. -/
def wr (acc s : List UInt8) : Option (List UInt8) := if acc.length + s.length ≤ 70368744177664 then some (acc ++ s) else none
/-- A text's escaping; no answer where the text is too long. -/
def escO (attr : Bool) (s : ByteArray) : Option (List UInt8) := if s.size ≤ 4398046511104 then some (Sv.esc attr s.data.toList) else none
/-- An attribute's piece. -/
def attrS (a : At) : Option (List UInt8) := if a.f0.size ≤ 4398046511104 then (escO true a.f1).bind fun v => some ([32] ++ a.f0.data.toList ++ [61, 34] ++ v ++ [34]) else none
def attrsS : List UInt8 → List At → Option (List UInt8)
  | acc, [] => some acc
  | acc, a :: t => (attrS a).bind fun p => (wr acc p).bind fun acc => attrsS acc t
/-- What stands ahead of a node's children. -/
def headS (n : Nd) (acc : List UInt8) : Option (List UInt8) :=
  if n.f0 = 2 then (escO false n.f3).bind fun p => wr acc p
  else if n.f0 = 1 then if n.f1.size ≤ 4398046511104 then (wr acc ([60] ++ n.f1.data.toList)).bind fun acc => (attrsS acc n.f2).bind fun acc => wr acc [62] else none
  else some acc
/-- What stands behind them. -/
def footS (k : Nat) (n : Nd) (acc : List UInt8) : Option (List UInt8) :=
  if n.f0 = 1 then (tree_Kind.f k n.f1).bind fun d => if d < 7 then if n.f1.size ≤ 4398046511104 then wr acc ([60, 47] ++ n.f1.data.toList ++ [62]) else none else some acc
  else some acc
def kidsS (g : List UInt8 → Int → Option (List UInt8)) : List UInt8 → List Int → Option (List UInt8)
  | acc, [] => some acc
  | acc, c :: t => (g acc c).bind fun acc => kidsS g acc t
/-- A node and all below it; the first number bounds the depth. -/
def putS (k : Nat) (t : List Nd) : Nat → List UInt8 → Int → Option (List UInt8)
  | 0, _, _ => none
  | f + 1, acc, i =>
    if (acc.length : Int) > 65536 then some acc
    else if 0 ≤ i then if i < (t.length : Int) then (headS (rd_T37 t i) acc).bind fun acc => (kidsS (putS k t f) acc (rd_T37 t i).f5).bind fun acc => footS k (rd_T37 t i) acc else none else none

end Go.Proofs.YtpfhgolamlnhiaaDoor
