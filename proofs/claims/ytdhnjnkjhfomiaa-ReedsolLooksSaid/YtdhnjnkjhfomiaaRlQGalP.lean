/- Polynomials over a field with 2^M elements, as lists, the highest first: values, linear factors, roots, conjugates, minimal polynomials. Plain numbers, no program in sight. -/
import Derived.Test.YtdhnjnkjhfomiaaRlQGal
set_option linter.unusedVariables false
set_option linter.unusedSimpArgs false
namespace Go.Proofs.Ytdhnjnkjhfomiaa.Gal
/-- A value, from v on. -/
def hvf (p m x : Nat) : Nat → List Nat → Nat
  | v, [] => v
  | v, c :: l => hvf p m x (mu p m v x ^^^ c) l
def hv (p m : Nat) (l : List Nat) (x : Nat) : Nat := hvf p m x 0 l
/-- The product by X + c, from w on. -/
def mxg (p m c : Nat) : Nat → List Nat → List Nat
  | w, [] => [w]
  | w, y :: l => (w ^^^ y) :: mxg p m c (mu p m y c) l
def mx (p m c : Nat) (l : List Nat) : List Nat := mxg p m c 0 l
namespace Fi
variable {M P : Nat} (F : Fi M P)
include F
theorem zero_lt : 0 < 2 ^ M := by have := F.sz8; omega
theorem hvf_lt {x : Nat} (hx : x < 2 ^ M) (l : List Nat) : ∀ v, v < 2 ^ M → (∀ c ∈ l, c < 2 ^ M) → hvf P M x v l < 2 ^ M := by
  induction l with
  | nil => intro v hv _; exact hv
  | cons c l ih => intro v hv hl; exact ih _ (Nat.xor_lt_two_pow (F.mu_lt hv) (hl c (by simp))) (fun y hy => hl y (by simp [hy]))
theorem hv_lt {x : Nat} (hx : x < 2 ^ M) {l : List Nat} (hl : ∀ c ∈ l, c < 2 ^ M) : hv P M l x < 2 ^ M := F.hvf_lt hx l 0 F.zero_lt hl
/-! ### Squares, conjugates -/
end Fi
namespace Fi
variable {M P : Nat} (F : Fi M P)
include F
end Fi
/-- The bits of a number, n of them, the highest first; a number out of bits. -/
def bl : Nat → Nat → List Nat
  | 0, _ => []
  | n + 1, g => bl n (g / 2) ++ [g % 2]
end Go.Proofs.Ytdhnjnkjhfomiaa.Gal
