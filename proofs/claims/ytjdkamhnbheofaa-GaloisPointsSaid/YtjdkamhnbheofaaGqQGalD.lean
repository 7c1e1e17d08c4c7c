/- Polynomials over a field: coefficients, products, quotient and rest. Plain numbers, no program in sight. -/
import Derived.Test.YtjdkamhnbheofaaGqQGalU
set_option linter.unusedVariables false
set_option linter.unusedSimpArgs false
namespace Go.Proofs.Ytjdkamhnbheofaa.GalP
open Go.RowKit Go.Proofs.Ytjdkamhnbheofaa.P Go.Proofs.YtjdkamhnbheofaaW.PrintWords Go.Proofs.YtjdkamhnbheofaaW.PrintLast Go.Proofs.YtjdkamhnbheofaaW.PrintMore Go.Proofs.YtjdkamhnbheofaaW.Q
open Go.Proofs.Ytjdkamhnbheofaa.Gal
/-- The coefficient of X^j. -/
def cf (l : List Nat) (j : Nat) : Nat := if j < l.length then l.getD (l.length - 1 - j) 0 else 0
theorem cf_cons (x : Nat) (l : List Nat) (j : Nat) : cf (x :: l) j = if j = l.length then x else cf l j := by
  unfold cf
  rw [List.length_cons]
  by_cases c : j = l.length
  · rw [if_pos c, if_pos (by omega), show l.length + 1 - 1 - j = 0 by omega]
    rfl
  · rw [if_neg c]
    by_cases c2 : j < l.length
    · rw [if_pos (by omega), if_pos c2, show l.length + 1 - 1 - j = (l.length - 1 - j) + 1 by omega]
      rfl
    · rw [if_neg (by omega), if_neg c2]
theorem cf_trim (l : List Nat) (j : Nat) : cf (trimN l) j = cf l j := by
  induction l with
  | nil => rfl
  | cons x l ih =>
    unfold trimN
    by_cases c : x = 0
    · rw [if_pos c, ih, cf_cons]
      split
      · next h => rw [c]; unfold cf; rw [if_neg (by omega)]
      · rfl
    · rw [if_neg c]
theorem trimN_cons (x : Nat) (l : List Nat) : trimN (x :: l) = if x = 0 then trimN l else x :: l := rfl
/-- No zero ahead. -/
def Tr (l : List Nat) : Prop := trimN l = l
theorem tr_trim (l : List Nat) : Tr (trimN l) := by
  unfold Tr
  induction l with
  | nil => rfl
  | cons x l ih =>
    by_cases c : x = 0
    · rw [trimN_cons, if_pos c]; exact ih
    · rw [trimN_cons, if_neg c, trimN_cons, if_neg c]
theorem tr_head {x : Nat} {l : List Nat} (h : Tr (x :: l)) : x ≠ 0 := by
  intro c
  unfold Tr trimN at h
  rw [if_pos c] at h
  have h1 := congrArg List.length h
  have h2 := trimN_length l
  rw [List.length_cons] at h1
  omega
theorem tr_nil : Tr [] := rfl
theorem cf_len_le {a b : List Nat} (ha : Tr a) (h : ∀ j, cf a j = cf b j) : a.length ≤ b.length := by
  cases a with
  | nil => exact Nat.zero_le _
  | cons x l =>
    have h1 := h l.length
    rw [cf_cons, if_pos rfl] at h1
    have h2 := tr_head ha
    rw [List.length_cons]
    by_cases c : l.length < b.length
    · omega
    · exfalso
      unfold cf at h1
      rw [if_neg c] at h1
      exact h2 h1
theorem cf_ext {a b : List Nat} (ha : Tr a) (hb : Tr b) (h : ∀ j, cf a j = cf b j) : a = b := by
  have h1 := cf_len_le ha h
  have h2 := cf_len_le hb (fun j => (h j).symm)
  refine list_ext_getD (by omega) (fun i => ?_)
  by_cases c : i < a.length
  · have h3 := h (a.length - 1 - i)
    unfold cf at h3
    rw [if_pos (by omega), if_pos (by omega), show a.length - 1 - (a.length - 1 - i) = i by omega, show b.length - 1 - (a.length - 1 - i) = i by omega] at h3
    exact h3
  · rw [getD_over a i (by omega), getD_over b i (by omega)]
theorem cf_plus (a b : List Nat) (j : Nat) : cf (plusN a b) j = cf a j ^^^ cf b j := by
  unfold plusN
  rw [cf_trim]
  by_cases c : a.length < b.length
  · rw [if_pos c]
    unfold cf
    rw [xadd_length, xadd_getD _ _ _ _ (by omega)]
    by_cases c1 : j < b.length
    · rw [if_pos c1, if_pos c1]
      by_cases c2 : j < a.length
      · rw [if_pos c2, if_pos (by omega), show b.length - 1 - j - (b.length - a.length) = a.length - 1 - j by omega, Nat.xor_comm]
      · rw [if_neg c2, if_neg (by omega), Nat.xor_zero, Nat.zero_xor]
    · rw [if_neg c1, if_neg c1, if_neg (by omega)]
      rfl
  · rw [if_neg c]
    unfold cf
    rw [xadd_length, xadd_getD _ _ _ _ (by omega)]
    by_cases c1 : j < a.length
    · rw [if_pos c1, if_pos c1]
      by_cases c2 : j < b.length
      · rw [if_pos c2, if_pos (by omega), show a.length - 1 - j - (a.length - b.length) = b.length - 1 - j by omega]
      · rw [if_neg c2, if_neg (by omega)]
    · rw [if_neg c1, if_neg c1, if_neg (by omega)]
      rfl
/-- Coefficient k, from the top, of a product. -/
def Pc (p m : Nat) (b : List Nat) : List Nat → Nat → Nat
  | [], _ => 0
  | x :: a, k => mu p m x (b.getD k 0) ^^^ (if 0 < k then Pc p m b a (k - 1) else 0)
theorem addr_xadd (p m x : Nat) (b : List Nat) : ∀ out j, addr p m x out j b = xadd out j (b.map (mu p m x)) := by
  induction b with
  | nil => intro out j; rfl
  | cons y b ih => intro out j; rw [addr, List.map_cons, xadd, ih]
theorem map_getD {m p : Nat} (F : Fi m p) (x : Nat) (b : List Nat) (k : Nat) : (b.map (mu p m x)).getD k 0 = mu p m x (b.getD k 0) := by
  simp only [List.getD_eq_getElem?_getD, List.getElem?_map]
  cases b[k]? with
  | none => exact (F.mu_zero_right x).symm
  | some y => rfl
theorem addr_getD {m p : Nat} (F : Fi m p) (x : Nat) (b out : List Nat) (i k : Nat) (h : i + b.length ≤ out.length) : (addr p m x out i b).getD k 0 = out.getD k 0 ^^^ (if i ≤ k then mu p m x (b.getD (k - i) 0) else 0) := by
  rw [addr_xadd, xadd_getD _ _ _ _ (by rw [List.length_map]; exact h)]
  split
  · rw [map_getD F]
  · rfl
theorem prodr_getD {m p : Nat} (F : Fi m p) (b a : List Nat) : ∀ out i k, i + a.length + b.length ≤ out.length + 1 → (prodr p m b out i a).getD k 0 = out.getD k 0 ^^^ (if i ≤ k then Pc p m b a (k - i) else 0) := by
  induction a with
  | nil =>
    intro out i k h
    rw [prodr]
    simp only [Pc, ite_self, Nat.xor_zero]
  | cons x a ih =>
    intro out i k h
    rw [List.length_cons] at h
    rw [prodr, ih _ _ _ (by rw [addr_length]; omega), addr_getD F _ _ _ _ _ (by omega), Nat.xor_assoc]
    congr 1
    by_cases c : i ≤ k
    · rw [if_pos c, if_pos c, Pc]
      by_cases c2 : i + 1 ≤ k
      · rw [if_pos c2, if_pos (by omega), show k - i - 1 = k - (i + 1) by omega]
      · rw [if_neg c2, if_neg (by omega)]
    · rw [if_neg c, if_neg c, if_neg (by omega)]
      rfl
theorem getD_rep (n k : Nat) : (List.replicate n 0).getD k 0 = 0 := by
  rw [List.getD_eq_getElem?_getD, List.getElem?_replicate]
  split <;> rfl
theorem prod_getD {m p : Nat} (F : Fi m p) (a b : List Nat) (k : Nat) : (prod p m a b).getD k 0 = Pc p m b a k := by
  unfold prod
  rw [prodr_getD F b a _ 0 k (by rw [List.length_replicate]; omega), getD_rep, Nat.zero_xor, if_pos (Nat.zero_le _)]
  rfl
theorem prod_length (p m : Nat) (a b : List Nat) : (prod p m a b).length = a.length + b.length - 1 := by
  unfold prod
  rw [prodr_length, List.length_replicate]
end Go.Proofs.Ytjdkamhnbheofaa.GalP
