/- Polynomials over a field: coefficients, products, quotient and rest. Plain numbers, no program in sight. -/
import Derived.Test.YtjdkamhnbheofaaGpQGalU
set_option linter.unusedVariables false
set_option linter.unusedSimpArgs false
namespace Go.Proofs.Ytjdkamhnbheofaa.GalP
open Go.RowKit Go.Proofs.Ytjdkamhnbheofaa.P Go.Proofs.YtjdkamhnbheofaaW.PrintWords Go.Proofs.YtjdkamhnbheofaaW.PrintLast Go.Proofs.YtjdkamhnbheofaaW.PrintMore Go.Proofs.YtjdkamhnbheofaaW.Q
open Go.Proofs.Ytjdkamhnbheofaa.Gal
theorem trimN_cons (x : Nat) (l : List Nat) : trimN (x :: l) = if x = 0 then trimN l else x :: l := rfl
/-- No zero ahead. -/
def Tr (l : List Nat) : Prop := trimN l = l
theorem tr_trim (l : List Nat) : Tr (trimN l) := by
  unfold Tr
  induction l with
  | nil => rfl
  | cons x l ih =>
    by_cases c : x = 0
    · rw [trimN_cons, if_pos c]; exact ih
    · rw [trimN_cons, if_neg c, trimN_cons, if_neg c]
theorem tr_head {x : Nat} {l : List Nat} (h : Tr (x :: l)) : x ≠ 0 := by
  intro c
  unfold Tr trimN at h
  rw [if_pos c] at h
  have h1 := congrArg List.length h
  have h2 := trimN_length l
  rw [List.length_cons] at h1
  omega
/-- Coefficient k, from the top, of a product. -/
def Pc (p m : Nat) (b : List Nat) : List Nat → Nat → Nat
  | [], _ => 0
  | x :: a, k => mu p m x (b.getD k 0) ^^^ (if 0 < k then Pc p m b a (k - 1) else 0)
theorem addr_xadd (p m x : Nat) (b : List Nat) : ∀ out j, addr p m x out j b = xadd out j (b.map (mu p m x)) := by
  induction b with
  | nil => intro out j; rfl
  | cons y b ih => intro out j; rw [addr, List.map_cons, xadd, ih]
theorem map_getD {m p : Nat} (F : Fi m p) (x : Nat) (b : List Nat) (k : Nat) : (b.map (mu p m x)).getD k 0 = mu p m x (b.getD k 0) := by
  simp only [List.getD_eq_getElem?_getD, List.getElem?_map]
  cases b[k]? with
  | none => exact (F.mu_zero_right x).symm
  | some y => rfl
theorem addr_getD {m p : Nat} (F : Fi m p) (x : Nat) (b out : List Nat) (i k : Nat) (h : i + b.length ≤ out.length) : (addr p m x out i b).getD k 0 = out.getD k 0 ^^^ (if i ≤ k then mu p m x (b.getD (k - i) 0) else 0) := by
  rw [addr_xadd, xadd_getD _ _ _ _ (by rw [List.length_map]; exact h)]
  split
  · rw [map_getD F]
  · rfl
theorem prodr_getD {m p : Nat} (F : Fi m p) (b a : List Nat) : ∀ out i k, i + a.length + b.length ≤ out.length + 1 → (prodr p m b out i a).getD k 0 = out.getD k 0 ^^^ (if i ≤ k then Pc p m b a (k - i) else 0) := by
  induction a with
  | nil =>
    intro out i k h
    rw [prodr]
    simp only [Pc, ite_self, Nat.xor_zero]
  | cons x a ih =>
    intro out i k h
    rw [List.length_cons] at h
    rw [prodr, ih _ _ _ (by rw [addr_length]; omega), addr_getD F _ _ _ _ _ (by omega), Nat.xor_assoc]
    congr 1
    by_cases c : i ≤ k
    · rw [if_pos c, if_pos c, Pc]
      by_cases c2 : i + 1 ≤ k
      · rw [if_pos c2, if_pos (by omega), show k - i - 1 = k - (i + 1) by omega]
      · rw [if_neg c2, if_neg (by omega)]
    · rw [if_neg c, if_neg c, if_neg (by omega)]
      rfl
theorem getD_rep (n k : Nat) : (List.replicate n 0).getD k 0 = 0 := by
  rw [List.getD_eq_getElem?_getD, List.getElem?_replicate]
  split <;> rfl
theorem prod_getD {m p : Nat} (F : Fi m p) (a b : List Nat) (k : Nat) : (prod p m a b).getD k 0 = Pc p m b a k := by
  unfold prod
  rw [prodr_getD F b a _ 0 k (by rw [List.length_replicate]; omega), getD_rep, Nat.zero_xor, if_pos (Nat.zero_le _)]
  rfl
theorem prod_length (p m : Nat) (a b : List Nat) : (prod p m a b).length = a.length + b.length - 1 := by
  unfold prod
  rw [prodr_length, List.length_replicate]
theorem trim_zero (l : List Nat) : trimN (0 :: l) = trimN l := by rw [trimN, if_pos rfl]
theorem trim_rep (n : Nat) : trimN (List.replicate n 0) = [] := by
  induction n with
  | zero => rfl
  | succ n ih => rw [List.replicate_succ, trim_zero, ih]
/-- One step of a division: b times what makes the head zero is added, and the head falls away. -/
def stN (p m : Nat) (b : List Nat) (v : Nat) (a : List Nat) : List Nat := (xadd a 0 (b.map (mu p m (mu p m (a.getD 0 0) v)))).drop 1
def dvR (p m : Nat) (b : List Nat) (v : Nat) : Nat → List Nat → List Nat × List Nat
  | 0, a => ([], a)
  | d + 1, a => (mu p m (a.getD 0 0) v :: (dvR p m b v d (stN p m b v a)).1, (dvR p m b v d (stN p m b v a)).2)
theorem stN_length (p m : Nat) (b : List Nat) (v : Nat) (a : List Nat) : (stN p m b v a).length = a.length - 1 := by
  unfold stN
  rw [List.length_drop, xadd_length]
theorem stN_lt {m p : Nat} (F : Fi m p) {b : List Nat} {v : Nat} {a : List Nat} (hb : ∀ y ∈ b, y < 2 ^ m) (ha : ∀ y ∈ a, y < 2 ^ m) : ∀ y ∈ stN p m b v a, y < 2 ^ m := by
  intro y hy
  unfold stN at hy
  refine xadd_lt _ _ _ ha (fun z hz => ?_) y (List.mem_of_mem_drop hy)
  obtain ⟨u, hu, rfl⟩ := List.mem_map.1 hz
  exact F.mu_lt (F.mu_lt (getD_lt' F.zero_lt ha 0))
theorem dvR_length (p m : Nat) (b : List Nat) (v : Nat) (d : Nat) : ∀ a, (dvR p m b v d a).1.length = d ∧ (dvR p m b v d a).2.length = a.length - d := by
  induction d with
  | zero => intro a; exact ⟨rfl, rfl⟩
  | succ d ih =>
    intro a
    obtain ⟨h1, h2⟩ := ih (stN p m b v a)
    rw [stN_length] at h2
    rw [dvR]
    exact ⟨by rw [List.length_cons, h1], by simp only; rw [h2]; omega⟩
theorem dvR_lt {m p : Nat} (F : Fi m p) {b : List Nat} {v : Nat} (hb : ∀ y ∈ b, y < 2 ^ m) (d : Nat) : ∀ a, (∀ y ∈ a, y < 2 ^ m) → (∀ y ∈ (dvR p m b v d a).1, y < 2 ^ m) ∧ ∀ y ∈ (dvR p m b v d a).2, y < 2 ^ m := by
  induction d with
  | zero => intro a ha; exact ⟨fun y hy => by simp [dvR] at hy, ha⟩
  | succ d ih =>
    intro a ha
    obtain ⟨h1, h2⟩ := ih _ (stN_lt F hb ha)
    rw [dvR]
    refine ⟨fun y hy => ?_, h2⟩
    rcases List.mem_cons.1 hy with rfl | hy
    · exact F.mu_lt (getD_lt' F.zero_lt ha 0)
    · exact h1 y hy
/-- Quotient and rest. -/
def divN (p m : Nat) (a b : List Nat) : List Nat × List Nat :=
  (trimN (dvR p m (trimN b) (iv p m ((trimN b).getD 0 0)) ((trimN a).length + 1 - (trimN b).length) (trimN a)).1,
   trimN (dvR p m (trimN b) (iv p m ((trimN b).getD 0 0)) ((trimN a).length + 1 - (trimN b).length) (trimN a)).2)
theorem inv_head {m p : Nat} (F : Fi m p) {b : List Nat} (hb : Tr b) (hb0 : b ≠ []) (lb : ∀ y ∈ b, y < 2 ^ m) : 0 < b.getD 0 0 ∧ b.getD 0 0 < 2 ^ m ∧ mu p m (b.getD 0 0) (iv p m (b.getD 0 0)) = 1 := by
  have h2 : b.getD 0 0 < 2 ^ m := getD_lt' F.zero_lt lb 0
  have h1 : 0 < b.getD 0 0 := by
    cases b with
    | nil => exact absurd rfl hb0
    | cons y b => exact Nat.pos_of_ne_zero (tr_head hb)
  exact ⟨h1, h2, mu_iv F h1 h2⟩
theorem divN_lt {m p : Nat} (F : Fi m p) {a b : List Nat} (la : ∀ y ∈ a, y < 2 ^ m) (lb : ∀ y ∈ b, y < 2 ^ m) : (∀ y ∈ (divN p m a b).1, y < 2 ^ m) ∧ ∀ y ∈ (divN p m a b).2, y < 2 ^ m := by
  obtain ⟨h1, h2⟩ := dvR_lt F (v := iv p m ((trimN b).getD 0 0)) (fun y hy => lb y (trimN_mem hy)) ((trimN a).length + 1 - (trimN b).length) (trimN a) (fun y hy => la y (trimN_mem hy))
  exact ⟨fun y hy => h1 y (trimN_mem hy), fun y hy => h2 y (trimN_mem hy)⟩
theorem divN_length (p m : Nat) (a b : List Nat) (hb : trimN b ≠ []) : (divN p m a b).1.length ≤ a.length ∧ (divN p m a b).2.length < (trimN b).length := by
  have hl := List.length_pos_iff.2 hb
  obtain ⟨h1, h2⟩ := dvR_length p m (trimN b) (iv p m ((trimN b).getD 0 0)) ((trimN a).length + 1 - (trimN b).length) (trimN a)
  have h3 := trimN_length (dvR p m (trimN b) (iv p m ((trimN b).getD 0 0)) ((trimN a).length + 1 - (trimN b).length) (trimN a)).1
  have h4 := trimN_length (dvR p m (trimN b) (iv p m ((trimN b).getD 0 0)) ((trimN a).length + 1 - (trimN b).length) (trimN a)).2
  have h5 := trimN_length a
  unfold divN
  simp only
  omega
end Go.Proofs.Ytjdkamhnbheofaa.GalP
