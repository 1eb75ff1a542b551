/- A region of a function's text, taken out by its number. -/
import Derived.Test.YtnabpdengfmeaaaBase
namespace Go.Proofs.Ytnabpdengfmeaaa

def regionOf (n : Nat) : Code → Option Code
  | .region m ops b => if m = n then some (.region m ops b) else none
  | .loop c => regionOf n c
  | .seq a b => match regionOf n a with
    | some c => some c
    | none => regionOf n b
  | .block _ c => regionOf n c
  | .scope c => regionOf n c
  | .cond _ a b => match regionOf n a with
    | some c => some c
    | none => regionOf n b
  | _ => none
end Go.Proofs.Ytnabpdengfmeaaa
