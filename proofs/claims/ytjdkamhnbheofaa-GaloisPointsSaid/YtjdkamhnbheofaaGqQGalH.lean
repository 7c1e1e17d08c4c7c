/- Polynomials over a field: derivative and roots, as lists. Plain numbers, no program in sight. -/
import Derived.Test.YtjdkamhnbheofaaGqQGalD
set_option linter.unusedVariables false
set_option linter.unusedSimpArgs false
namespace Go.Proofs.Ytjdkamhnbheofaa.GalP
open Go.RowKit Go.Proofs.Ytjdkamhnbheofaa.P Go.Proofs.YtjdkamhnbheofaaW.PrintWords Go.Proofs.YtjdkamhnbheofaaW.PrintLast Go.Proofs.YtjdkamhnbheofaaW.PrintMore Go.Proofs.YtjdkamhnbheofaaW.Q
open Go.Proofs.Ytjdkamhnbheofaa.Gal
/-! ### Values -/
theorem hvf_zeros {m p : Nat} (F : Fi m p) (x n : Nat) (l : List Nat) : hvf p m x 0 (List.replicate n 0 ++ l) = hvf p m x 0 l := by
  induction n with
  | zero => rfl
  | succ n ih => rw [List.replicate_succ, List.cons_append, hvf, F.mu_zero_left]; exact ih
theorem hv_trim {m p : Nat} (F : Fi m p) (l : List Nat) (x : Nat) : hv p m (trimN l) x = hv p m l x := by
  induction l with
  | nil => rfl
  | cons y l ih =>
    rw [trimN_cons]
    by_cases c : y = 0
    · subst c
      rw [if_pos rfl, ih]
      unfold hv
      rw [hvf, F.mu_zero_left]
      rfl
    · rw [if_neg c]
theorem xadd_zip (a : List Nat) (n : Nat) : ∀ b : List Nat, b.length = n + a.length → xadd b n a = List.zipWith (· ^^^ ·) b (List.replicate n 0 ++ a) := by
  intro b h
  refine list_ext_getD (by rw [xadd_length, List.length_zipWith, List.length_append, List.length_replicate]; omega) (fun i => ?_)
  rw [xadd_getD _ _ _ _ (by omega)]
  by_cases c : i < b.length
  · have e : (List.zipWith (· ^^^ ·) b (List.replicate n 0 ++ a)).getD i 0 = b.getD i 0 ^^^ (List.replicate n 0 ++ a).getD i 0 := by
      simp only [List.getD_eq_getElem?_getD, List.getElem?_zipWith]
      rw [List.getElem?_eq_getElem c, List.getElem?_eq_getElem (by rw [List.length_append, List.length_replicate]; omega)]
      rfl
    rw [e]
    congr 1
    simp only [List.getD_eq_getElem?_getD]
    by_cases c2 : n ≤ i
    · rw [if_pos c2, List.getElem?_append_right (by rw [List.length_replicate]; exact c2), List.length_replicate]
    · rw [if_neg c2, List.getElem?_append_left (by rw [List.length_replicate]; omega), List.getElem?_replicate, if_pos (by omega)]
      rfl
  · rw [getD_over _ i (by omega), getD_over _ i (by rw [List.length_zipWith]; omega)]
    split
    · rw [getD_over _ _ (by omega)]
      rfl
    · rfl
theorem hv_plus {m p : Nat} (F : Fi m p) {a b : List Nat} (ha : ∀ y ∈ a, y < 2 ^ m) (hb : ∀ y ∈ b, y < 2 ^ m) {x : Nat} (hx : x < 2 ^ m) : hv p m (plusN a b) x = hv p m a x ^^^ hv p m b x := by
  have key : ∀ u v : List Nat, (∀ y ∈ u, y < 2 ^ m) → (∀ y ∈ v, y < 2 ^ m) → u.length ≤ v.length → hv p m (xadd v (v.length - u.length) u) x = hv p m v x ^^^ hv p m u x := by
    intro u v hu hv1 hl
    have hz : ∀ y ∈ List.replicate (v.length - u.length) 0 ++ u, y < 2 ^ m := fun y hy => by
      rcases List.mem_append.1 hy with hy | hy
      · rw [List.eq_of_mem_replicate hy]; exact F.zero_lt
      · exact hu y hy
    rw [xadd_zip u _ v (by omega)]
    have h := F.hvf_xor hx v (List.replicate (v.length - u.length) 0 ++ u) 0 0 (by rw [List.length_append, List.length_replicate]; omega) F.zero_lt F.zero_lt hv1 hz
    rw [Nat.xor_self] at h
    unfold hv
    rw [h, hvf_zeros F]
  unfold plusN
  rw [hv_trim F]
  by_cases c : a.length < b.length
  · rw [if_pos c, key a b ha hb (by omega), Nat.xor_comm]
  · rw [if_neg c, key b a hb ha (by omega)]
/-- The derivative's value, by Horner. -/
def hd (p m x : Nat) : Nat → Nat → List Nat → Nat
  | _, u, [] => u
  | v, u, c :: l => hd p m x (mu p m v x ^^^ c) (mu p m u x ^^^ v) l
end Go.Proofs.Ytjdkamhnbheofaa.GalP
