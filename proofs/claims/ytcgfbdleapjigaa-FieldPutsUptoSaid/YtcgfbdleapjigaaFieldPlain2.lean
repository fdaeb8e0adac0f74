/- Plain words of layer 4: forms, right texts, what a field's bytes are. No program in sight. -/
import Derived.Test.YtcgfbdleapjigaaFieldPlain
namespace Go.Proofs.Ytcgfbdleapjigaa.fieldp
open Go
def tenL : List UInt8 := [48, 49, 50, 51, 52, 53, 54, 55, 56, 57]
def signsL : List UInt8 := [65, 66, 67, 68, 69, 70, 71, 72, 73, 74, 75, 76, 77, 78, 79, 80, 81, 82, 83, 84, 85, 86, 87, 88, 89, 90, 48, 49, 50, 51, 52, 53, 54, 55, 56, 57, 32]
def rightB (k n : Int) (l : List UInt8) : Bool :=
  if k = 5 then (match l with | [] => false | c :: r => (c == 67 || c == 68) && ofB r tenL n)
  else if k = 1 then ofB l tenL n
  else if k = 2 then decide (0 < l.length ∧ (l.length : Int) ≤ n) && ofB l tenL l.length
  else if k = 3 then ofB l signsL n
  else ofB l hexL (2 * n)
end Go.Proofs.Ytcgfbdleapjigaa.fieldp
