/- Polynomials over a field: what the document's value, Trim, product, plus, wrong say, and the program's plus and lists: the same lists of numbers. -/
import Derived.Test.YtdhnjnkjhfomiaaRlQGalE
set_option linter.unusedVariables false
set_option linter.unusedSimpArgs false
namespace Go.Proofs.Ytdhnjnkjhfomiaa.GalP
open Go.RowKit Go.Proofs.Ytdhnjnkjhfomiaa.P Go.Proofs.YtdhnjnkjhfomiaaW.PrintWords Go.Proofs.YtdhnjnkjhfomiaaW.PrintLast Go.Proofs.YtdhnjnkjhfomiaaW.PrintMore Go.Proofs.YtdhnjnkjhfomiaaW.Q
open Go.Proofs.Ytdhnjnkjhfomiaa.Gal
theorem getD_set (out : List Nat) (j v i : Nat) : (out.set j v).getD i 0 = if i = j ∧ j < out.length then v else out.getD i 0 := by
  simp only [List.getD_eq_getElem?_getD, List.getElem?_set]
  by_cases c : j = i
  · subst c
    by_cases h : j < out.length
    · simp [h]
    · rw [if_pos rfl, if_neg h, if_neg (by omega), List.getElem?_eq_none (by omega)]
  · rw [if_neg c, if_neg (by omega)]
end Go.Proofs.Ytdhnjnkjhfomiaa.GalP
