/- Polynomials over a field: what the document's value, Trim, product, plus, wrong say, and the program's plus and lists: the same lists of numbers. -/
import Derived.Test.YtpgecdidddoglaaRbQGalE
set_option linter.unusedVariables false
set_option linter.unusedSimpArgs false
namespace Go.Proofs.Ytpgecdidddoglaa.GalP
open Go.RowKit Go.Proofs.Ytpgecdidddoglaa.P Go.Proofs.YtpgecdidddoglaaW.PrintWords Go.Proofs.YtpgecdidddoglaaW.PrintLast Go.Proofs.YtpgecdidddoglaaW.PrintMore Go.Proofs.YtpgecdidddoglaaW.Q
open Go.Proofs.Ytpgecdidddoglaa.Gal
def xadd (out : List Nat) (off : Nat) : List Nat → List Nat
  | [] => out
  | y :: l => xadd (out.set off (out.getD off 0 ^^^ y)) (off + 1) l
theorem xadd_length (l : List Nat) : ∀ out off,(xadd out off l).length = out.length := by
  induction l with
  | nil => intro out off; rfl
  | cons y l ih => intro out off; rw [xadd,ih,List.length_set]
theorem xadd_lt {M : Nat} (l : List Nat) : ∀ out off,(∀ y ∈ out,y < 2 ^ M) → (∀ y ∈ l,y < 2 ^ M) → ∀ y ∈ xadd out off l,y < 2 ^ M := by
  induction l with
  | nil => intro out off h _; exact h
  | cons y l ih =>
    intro out off h hl
    rw [xadd]
    have h0 : out.getD off 0 < 2 ^ M := getD_lt' (Nat.pow_pos (by omega)) h off
    exact ih _ _ (mem_set_lt h off (Nat.xor_lt_two_pow h0 (hl y (List.mem_cons_self ..)))) (fun z hz => hl z (List.mem_cons_of_mem _ hz))
theorem getD_set (out : List Nat) (j v i : Nat) : (out.set j v).getD i 0 = if i = j ∧ j < out.length then v else out.getD i 0 := by
  simp only [List.getD_eq_getElem?_getD,List.getElem?_set]
  by_cases c : j = i
  · subst c
    by_cases h : j < out.length
    · simp [h]
    · rw [if_pos rfl,if_neg h,if_neg (by omega),List.getElem?_eq_none (by omega)]
  · rw [if_neg c,if_neg (by omega)]
theorem getD_over (l : List Nat) (i : Nat) (h : l.length ≤ i) : l.getD i 0 = 0 := by rw [List.getD_eq_getElem?_getD,List.getElem?_eq_none h]; rfl
theorem xadd_getD (l : List Nat) : ∀ out off i,off + l.length ≤ out.length → (xadd out off l).getD i 0 = out.getD i 0 ^^^ (if off ≤ i then l.getD (i - off) 0 else 0) := by
  induction l with
  | nil =>
    intro out off i h
    rw [xadd]
    split
    · rw [getD_over [] _ (Nat.zero_le _),Nat.xor_zero]
    · rw [Nat.xor_zero]
  | cons y l ih =>
    intro out off i h
    rw [List.length_cons] at h
    rw [xadd,ih _ _ _ (by rw [List.length_set]; omega),getD_set]
    by_cases c : i = off
    · subst c
      rw [if_pos ⟨rfl,by omega⟩,if_neg (by omega),if_pos (Nat.le_refl _),Nat.sub_self,Nat.xor_zero]
      rfl
    · rw [if_neg (by omega)]
      by_cases c2 : off + 1 ≤ i
      · rw [if_pos c2,if_pos (by omega),show i - off = (i - (off + 1)) + 1 by omega]
        rfl
      · rw [if_neg c2,if_neg (by omega)]
theorem list_ext_getD {a b : List Nat} (hl : a.length = b.length) (h : ∀ i,a.getD i 0 = b.getD i 0) : a = b := by
  refine List.ext_getElem hl (fun i h1 h2 => ?_)
  have := h i
  rw [List.getD_eq_getElem?_getD,List.getD_eq_getElem?_getD,List.getElem?_eq_getElem h1,List.getElem?_eq_getElem h2] at this
  exact this
end Go.Proofs.Ytpgecdidddoglaa.GalP
