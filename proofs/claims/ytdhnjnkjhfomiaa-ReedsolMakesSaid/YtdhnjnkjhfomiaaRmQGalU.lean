/- Polynomials over a field: what the document's value, Trim, product, plus, wrong say, and the program's plus and lists: the same lists of numbers. -/
import Derived.Test.YtdhnjnkjhfomiaaRmQGalE
set_option linter.unusedVariables false
set_option linter.unusedSimpArgs false
namespace Go.Proofs.Ytdhnjnkjhfomiaa.GalP
open Go.RowKit P YtdhnjnkjhfomiaaW.PrintWords YtdhnjnkjhfomiaaW.PrintLast YtdhnjnkjhfomiaaW.PrintMore YtdhnjnkjhfomiaaW.Q
open Gal
def xadd (out : List Nat) (off : Nat) : List Nat → List Nat
  | [] => out
  | y :: l => xadd (out.set off (out.getD off 0 ^^^ y)) (off + 1) l
theorem xadd_length (l : List Nat) : ∀ out off,(xadd out off l).length = out.length := by
  induction l with
  | nil => intro out off; rfl
  | cons y l ih => intro out off; rw [xadd,ih,List.length_set]
theorem xadd_lt {M : Nat} (l : List Nat) : ∀ out off,(∀ y ∈ out,y < 2 ^ M) → (∀ y ∈ l,y < 2 ^ M) → ∀ y ∈ xadd out off l,y < 2 ^ M := by
  induction l with
  | nil => intro out off h _; exact h
  | cons y l ih =>
    intro out off h hl
    rw [xadd]
    have h0 : out.getD off 0 < 2 ^ M := getD_lt' (Nat.pow_pos (by omega)) h off
    exact ih _ _ (mem_set_lt h off (Nat.xor_lt_two_pow h0 (hl y (List.mem_cons_self ..)))) (fun z hz => hl z (List.mem_cons_of_mem _ hz))
end Go.Proofs.Ytdhnjnkjhfomiaa.GalP
