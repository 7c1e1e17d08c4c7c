/- Polynomials over a field with 2^M elements, as lists, the highest first: values, linear factors, roots, conjugates, minimal polynomials. Plain numbers, no program in sight. -/
import Derived.Test.YtdhnjnkjhfomiaaRmQGal
set_option linter.unusedVariables false
set_option linter.unusedSimpArgs false
namespace Go.Proofs.Ytdhnjnkjhfomiaa.Gal
def hvf (p m x : Nat) : Nat → List Nat → Nat
  | v,[] => v
  | v,c :: l => hvf p m x (mu p m v x ^^^ c) l
def hv (p m : Nat) (l : List Nat) (x : Nat) : Nat := hvf p m x 0 l
def mxg (p m c : Nat) : Nat → List Nat → List Nat
  | w,[] => [w]
  | w,y :: l => (w ^^^ y) :: mxg p m c (mu p m y c) l
def mx (p m c : Nat) (l : List Nat) : List Nat := mxg p m c 0 l
namespace Fi
variable {M P : Nat} (F : Fi M P)
include F
theorem zero_lt : 0 < 2 ^ M := by have := F.sz8; omega
end Fi
namespace Fi
variable {M P : Nat} (F : Fi M P)
include F
end Fi
def bl : Nat → Nat → List Nat
  | 0,_ => []
  | n + 1,g => bl n (g / 2) ++ [g % 2]
end Go.Proofs.Ytdhnjnkjhfomiaa.Gal
