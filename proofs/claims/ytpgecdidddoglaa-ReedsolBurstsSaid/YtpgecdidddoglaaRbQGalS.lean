/- Fields: products of polynomials as the program has them; minimal polynomials, of the program and of the document. -/
import Derived.Test.YtpgecdidddoglaaRbQGalM
set_option linter.unusedVariables false
set_option linter.unusedSimpArgs false
namespace Go.Proofs.Ytpgecdidddoglaa.Gal
theorem set_mid (l : List Nat) (w v : Nat) (r : List Nat) : (l ++ w :: r).set l.length v = l ++ v :: r := by
  rw [List.set_append_right _ _ (Nat.le_refl _),Nat.sub_self]
  rfl
theorem mem_set_lt {s : Nat} {out : List Nat} (h : ∀ y ∈ out,y < s) (j : Nat) {v : Nat} (hv : v < s) : ∀ y ∈ out.set j v,y < s := by
  intro y hy
  rcases List.mem_or_eq_of_mem_set hy with h1 | rfl
  · exact h y h1
  · exact hv
theorem getD_lt' {s : Nat} (hs : 0 < s) {l : List Nat} (h : ∀ x ∈ l,x < s) (i : Nat) : l.getD i 0 < s := by
  rw [List.getD_eq_getElem?_getD]
  by_cases c : i < l.length
  · rw [List.getElem?_eq_getElem c]; exact h _ (List.getElem_mem c)
  · rw [List.getElem?_eq_none (by omega)]; exact hs
end Go.Proofs.Ytpgecdidddoglaa.Gal
namespace Go.Proofs.Ytpgecdidddoglaa.GalP
open Go.RowKit Go.Proofs.Ytpgecdidddoglaa.P Go.Proofs.YtpgecdidddoglaaW.PrintWords Go.Proofs.YtpgecdidddoglaaW.PrintLast Go.Proofs.YtpgecdidddoglaaW.PrintMore Go.Proofs.YtpgecdidddoglaaW.Q
open Go.Proofs.Ytpgecdidddoglaa.Gal
end Go.Proofs.Ytpgecdidddoglaa.GalP
