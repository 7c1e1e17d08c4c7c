/- Polynomials over a field: derivative and roots, as lists. Plain numbers, no program in sight. -/
import Derived.Test.YtjdkamhnbheofaaGpQGalD
set_option linter.unusedVariables false
set_option linter.unusedSimpArgs false
namespace Go.Proofs.Ytjdkamhnbheofaa.GalP
open Go.RowKit Go.Proofs.Ytjdkamhnbheofaa.P Go.Proofs.YtjdkamhnbheofaaW.PrintWords Go.Proofs.YtjdkamhnbheofaaW.PrintLast Go.Proofs.YtjdkamhnbheofaaW.PrintMore Go.Proofs.YtjdkamhnbheofaaW.Q
open Go.Proofs.Ytjdkamhnbheofaa.Gal
/-- The formal derivative, with zeros ahead. -/
def derN : List Nat → List Nat
  | [] => []
  | x :: l => if l = [] then [] else (if l.length % 2 = 1 then x else 0) :: derN l
theorem derN_length (l : List Nat) : (derN l).length = l.length - 1 := by
  induction l with
  | nil => rfl
  | cons x l ih =>
    rw [derN]
    by_cases c : l = []
    · subst c; rfl
    · have := List.length_pos_iff.2 c
      rw [if_neg c, List.length_cons, ih, List.length_cons]
      omega
theorem derN_getD (l : List Nat) : ∀ i, (derN l).getD i 0 = if i + 1 < l.length ∧ (l.length - 1 - i) % 2 = 1 then l.getD i 0 else 0 := by
  induction l with
  | nil => intro i; rfl
  | cons x l ih =>
    intro i
    rw [derN]
    by_cases c : l = []
    · subst c
      rw [if_pos rfl, if_neg (by rw [List.length_cons, List.length_nil]; omega)]
      rfl
    · have := List.length_pos_iff.2 c
      rw [if_neg c]
      cases i with
      | zero =>
        rw [List.length_cons, show l.length + 1 - 1 - 0 = l.length by omega]
        by_cases c2 : l.length % 2 = 1
        · rw [if_pos (⟨by omega, c2⟩ : 0 + 1 < l.length + 1 ∧ l.length % 2 = 1), if_pos c2]; rfl
        · rw [if_neg (fun h : 0 + 1 < l.length + 1 ∧ l.length % 2 = 1 => c2 h.2), if_neg c2]; rfl
      | succ i =>
        have h := ih i
        rw [List.length_cons, show l.length + 1 - 1 - (i + 1) = l.length - 1 - i by omega]
        rw [show ((if l.length % 2 = 1 then x else 0) :: derN l).getD (i + 1) 0 = (derN l).getD i 0 from rfl, h, show (x :: l).getD (i + 1) 0 = l.getD i 0 from rfl]
        by_cases c2 : i + 1 < l.length ∧ (l.length - 1 - i) % 2 = 1
        · rw [if_pos c2, if_pos ⟨by omega, c2.2⟩]
        · rw [if_neg c2, if_neg (fun h => c2 ⟨by omega, h.2⟩)]
/-- All elements at which it is zero. -/
def rtN (p m n : Nat) (l : List Nat) : List Nat := (List.range n).filter (fun x => hv p m l x == 0)
theorem rtN_succ (p m n : Nat) (l : List Nat) : rtN p m (n + 1) l = if hv p m l n = 0 then rtN p m n l ++ [n] else rtN p m n l := by
  unfold rtN
  rw [List.range_succ, List.filter_append]
  by_cases c : hv p m l n = 0
  · rw [if_pos c, List.filter_cons, if_pos (by simp [c])]
    rfl
  · rw [if_neg c, List.filter_cons, if_neg (by simp [c])]
    simp
theorem rtN_length (p m n : Nat) (l : List Nat) : (rtN p m n l).length ≤ n := by
  unfold rtN
  have := List.length_filter_le (fun x => hv p m l x == 0) (List.range n)
  rwa [List.length_range] at this
/-! ### Values -/
/-- The derivative's value, by Horner. -/
def hd (p m x : Nat) : Nat → Nat → List Nat → Nat
  | _, u, [] => u
  | v, u, c :: l => hd p m x (mu p m v x ^^^ c) (mu p m u x ^^^ v) l
end Go.Proofs.Ytjdkamhnbheofaa.GalP
