/- Polynomials over a field: coefficients, products, quotient and rest. Plain numbers, no program in sight. -/
import Derived.Test.YtjdkamhnbheofaaGrQGalU
set_option linter.unusedVariables false
set_option linter.unusedSimpArgs false
namespace Go.Proofs.Ytjdkamhnbheofaa.GalP
open Go.RowKit Go.Proofs.Ytjdkamhnbheofaa.P Go.Proofs.YtjdkamhnbheofaaW.PrintWords Go.Proofs.YtjdkamhnbheofaaW.PrintLast Go.Proofs.YtjdkamhnbheofaaW.PrintMore Go.Proofs.YtjdkamhnbheofaaW.Q
open Go.Proofs.Ytjdkamhnbheofaa.Gal
/-- The coefficient of X^j. -/
def cf (l : List Nat) (j : Nat) : Nat := if j < l.length then l.getD (l.length - 1 - j) 0 else 0
theorem cf_cons (x : Nat) (l : List Nat) (j : Nat) : cf (x :: l) j = if j = l.length then x else cf l j := by
  unfold cf
  rw [List.length_cons]
  by_cases c : j = l.length
  · rw [if_pos c, if_pos (by omega), show l.length + 1 - 1 - j = 0 by omega]
    rfl
  · rw [if_neg c]
    by_cases c2 : j < l.length
    · rw [if_pos (by omega), if_pos c2, show l.length + 1 - 1 - j = (l.length - 1 - j) + 1 by omega]
      rfl
    · rw [if_neg (by omega), if_neg c2]
theorem cf_trim (l : List Nat) (j : Nat) : cf (trimN l) j = cf l j := by
  induction l with
  | nil => rfl
  | cons x l ih =>
    unfold trimN
    by_cases c : x = 0
    · rw [if_pos c, ih, cf_cons]
      split
      · next h => rw [c]; unfold cf; rw [if_neg (by omega)]
      · rfl
    · rw [if_neg c]
theorem trimN_cons (x : Nat) (l : List Nat) : trimN (x :: l) = if x = 0 then trimN l else x :: l := rfl
/-- No zero ahead. -/
def Tr (l : List Nat) : Prop := trimN l = l
theorem tr_trim (l : List Nat) : Tr (trimN l) := by
  unfold Tr
  induction l with
  | nil => rfl
  | cons x l ih =>
    by_cases c : x = 0
    · rw [trimN_cons, if_pos c]; exact ih
    · rw [trimN_cons, if_neg c, trimN_cons, if_neg c]
theorem tr_head {x : Nat} {l : List Nat} (h : Tr (x :: l)) : x ≠ 0 := by
  intro c
  unfold Tr trimN at h
  rw [if_pos c] at h
  have h1 := congrArg List.length h
  have h2 := trimN_length l
  rw [List.length_cons] at h1
  omega
theorem tr_cons {x : Nat} {l : List Nat} (h : x ≠ 0) : Tr (x :: l) := by unfold Tr trimN; rw [if_neg h]
theorem cf_len_le {a b : List Nat} (ha : Tr a) (h : ∀ j, cf a j = cf b j) : a.length ≤ b.length := by
  cases a with
  | nil => exact Nat.zero_le _
  | cons x l =>
    have h1 := h l.length
    rw [cf_cons, if_pos rfl] at h1
    have h2 := tr_head ha
    rw [List.length_cons]
    by_cases c : l.length < b.length
    · omega
    · exfalso
      unfold cf at h1
      rw [if_neg c] at h1
      exact h2 h1
theorem cf_ext {a b : List Nat} (ha : Tr a) (hb : Tr b) (h : ∀ j, cf a j = cf b j) : a = b := by
  have h1 := cf_len_le ha h
  have h2 := cf_len_le hb (fun j => (h j).symm)
  refine list_ext_getD (by omega) (fun i => ?_)
  by_cases c : i < a.length
  · have h3 := h (a.length - 1 - i)
    unfold cf at h3
    rw [if_pos (by omega), if_pos (by omega), show a.length - 1 - (a.length - 1 - i) = i by omega, show b.length - 1 - (a.length - 1 - i) = i by omega] at h3
    exact h3
  · rw [getD_over a i (by omega), getD_over b i (by omega)]
theorem cf_plus (a b : List Nat) (j : Nat) : cf (plusN a b) j = cf a j ^^^ cf b j := by
  unfold plusN
  rw [cf_trim]
  by_cases c : a.length < b.length
  · rw [if_pos c]
    unfold cf
    rw [xadd_length, xadd_getD _ _ _ _ (by omega)]
    by_cases c1 : j < b.length
    · rw [if_pos c1, if_pos c1]
      by_cases c2 : j < a.length
      · rw [if_pos c2, if_pos (by omega), show b.length - 1 - j - (b.length - a.length) = a.length - 1 - j by omega, Nat.xor_comm]
      · rw [if_neg c2, if_neg (by omega), Nat.xor_zero, Nat.zero_xor]
    · rw [if_neg c1, if_neg c1, if_neg (by omega)]
      rfl
  · rw [if_neg c]
    unfold cf
    rw [xadd_length, xadd_getD _ _ _ _ (by omega)]
    by_cases c1 : j < a.length
    · rw [if_pos c1, if_pos c1]
      by_cases c2 : j < b.length
      · rw [if_pos c2, if_pos (by omega), show a.length - 1 - j - (a.length - b.length) = b.length - 1 - j by omega]
      · rw [if_neg c2, if_neg (by omega)]
    · rw [if_neg c1, if_neg c1, if_neg (by omega)]
      rfl
/-- Coefficient k, from the top, of a product. -/
def Pc (p m : Nat) (b : List Nat) : List Nat → Nat → Nat
  | [], _ => 0
  | x :: a, k => mu p m x (b.getD k 0) ^^^ (if 0 < k then Pc p m b a (k - 1) else 0)
theorem addr_xadd (p m x : Nat) (b : List Nat) : ∀ out j, addr p m x out j b = xadd out j (b.map (mu p m x)) := by
  induction b with
  | nil => intro out j; rfl
  | cons y b ih => intro out j; rw [addr, List.map_cons, xadd, ih]
theorem map_getD {m p : Nat} (F : Fi m p) (x : Nat) (b : List Nat) (k : Nat) : (b.map (mu p m x)).getD k 0 = mu p m x (b.getD k 0) := by
  simp only [List.getD_eq_getElem?_getD, List.getElem?_map]
  cases b[k]? with
  | none => exact (F.mu_zero_right x).symm
  | some y => rfl
theorem addr_getD {m p : Nat} (F : Fi m p) (x : Nat) (b out : List Nat) (i k : Nat) (h : i + b.length ≤ out.length) : (addr p m x out i b).getD k 0 = out.getD k 0 ^^^ (if i ≤ k then mu p m x (b.getD (k - i) 0) else 0) := by
  rw [addr_xadd, xadd_getD _ _ _ _ (by rw [List.length_map]; exact h)]
  split
  · rw [map_getD F]
  · rfl
theorem prodr_getD {m p : Nat} (F : Fi m p) (b a : List Nat) : ∀ out i k, i + a.length + b.length ≤ out.length + 1 → (prodr p m b out i a).getD k 0 = out.getD k 0 ^^^ (if i ≤ k then Pc p m b a (k - i) else 0) := by
  induction a with
  | nil =>
    intro out i k h
    rw [prodr]
    simp only [Pc, ite_self, Nat.xor_zero]
  | cons x a ih =>
    intro out i k h
    rw [List.length_cons] at h
    rw [prodr, ih _ _ _ (by rw [addr_length]; omega), addr_getD F _ _ _ _ _ (by omega), Nat.xor_assoc]
    congr 1
    by_cases c : i ≤ k
    · rw [if_pos c, if_pos c, Pc]
      by_cases c2 : i + 1 ≤ k
      · rw [if_pos c2, if_pos (by omega), show k - i - 1 = k - (i + 1) by omega]
      · rw [if_neg c2, if_neg (by omega)]
    · rw [if_neg c, if_neg c, if_neg (by omega)]
      rfl
theorem getD_rep (n k : Nat) : (List.replicate n 0).getD k 0 = 0 := by
  rw [List.getD_eq_getElem?_getD, List.getElem?_replicate]
  split <;> rfl
theorem prod_getD {m p : Nat} (F : Fi m p) (a b : List Nat) (k : Nat) : (prod p m a b).getD k 0 = Pc p m b a k := by
  unfold prod
  rw [prodr_getD F b a _ 0 k (by rw [List.length_replicate]; omega), getD_rep, Nat.zero_xor, if_pos (Nat.zero_le _)]
  rfl
theorem prod_length (p m : Nat) (a b : List Nat) : (prod p m a b).length = a.length + b.length - 1 := by
  unfold prod
  rw [prodr_length, List.length_replicate]
/-- A zero ahead of a factor is a zero ahead of the product. -/
theorem prod_zero {m p : Nat} (F : Fi m p) (a b : List Nat) (hb : b ≠ []) : prod p m (0 :: a) b = 0 :: prod p m a b := by
  have hl := List.length_pos_iff.2 hb
  refine list_ext_getD (by rw [List.length_cons, prod_length, prod_length, List.length_cons]; omega) (fun k => ?_)
  rw [prod_getD F, Pc, F.mu_zero_left, Nat.zero_xor]
  cases k with
  | zero => rfl
  | succ k => rw [if_pos (by omega), Nat.add_sub_cancel, ← prod_getD F]; rfl
theorem trim_zero (l : List Nat) : trimN (0 :: l) = trimN l := by rw [trimN, if_pos rfl]
theorem trim_rep (n : Nat) : trimN (List.replicate n 0) = [] := by
  induction n with
  | zero => rfl
  | succ n ih => rw [List.replicate_succ, trim_zero, ih]
theorem trim_prod {m p : Nat} (F : Fi m p) (a b : List Nat) (hb : b ≠ []) : trimN (prod p m (trimN a) b) = trimN (prod p m a b) := by
  induction a with
  | nil => rfl
  | cons x a ih =>
    by_cases c : x = 0
    · subst c
      rw [trimN_cons, if_pos rfl, ih, prod_zero F a b hb, trim_zero]
    · rw [trimN_cons, if_neg c]
/-- One step of a division: b times what makes the head zero is added, and the head falls away. -/
def stN (p m : Nat) (b : List Nat) (v : Nat) (a : List Nat) : List Nat := (xadd a 0 (b.map (mu p m (mu p m (a.getD 0 0) v)))).drop 1
def dvR (p m : Nat) (b : List Nat) (v : Nat) : Nat → List Nat → List Nat × List Nat
  | 0, a => ([], a)
  | d + 1, a => (mu p m (a.getD 0 0) v :: (dvR p m b v d (stN p m b v a)).1, (dvR p m b v d (stN p m b v a)).2)
theorem stN_length (p m : Nat) (b : List Nat) (v : Nat) (a : List Nat) : (stN p m b v a).length = a.length - 1 := by
  unfold stN
  rw [List.length_drop, xadd_length]
theorem stN_lt {m p : Nat} (F : Fi m p) {b : List Nat} {v : Nat} {a : List Nat} (hb : ∀ y ∈ b, y < 2 ^ m) (ha : ∀ y ∈ a, y < 2 ^ m) : ∀ y ∈ stN p m b v a, y < 2 ^ m := by
  intro y hy
  unfold stN at hy
  refine xadd_lt _ _ _ ha (fun z hz => ?_) y (List.mem_of_mem_drop hy)
  obtain ⟨u, hu, rfl⟩ := List.mem_map.1 hz
  exact F.mu_lt (F.mu_lt (getD_lt' F.zero_lt ha 0))
theorem dvR_length (p m : Nat) (b : List Nat) (v : Nat) (d : Nat) : ∀ a, (dvR p m b v d a).1.length = d ∧ (dvR p m b v d a).2.length = a.length - d := by
  induction d with
  | zero => intro a; exact ⟨rfl, rfl⟩
  | succ d ih =>
    intro a
    obtain ⟨h1, h2⟩ := ih (stN p m b v a)
    rw [stN_length] at h2
    rw [dvR]
    exact ⟨by rw [List.length_cons, h1], by simp only; rw [h2]; omega⟩
theorem dvR_lt {m p : Nat} (F : Fi m p) {b : List Nat} {v : Nat} (hb : ∀ y ∈ b, y < 2 ^ m) (d : Nat) : ∀ a, (∀ y ∈ a, y < 2 ^ m) → (∀ y ∈ (dvR p m b v d a).1, y < 2 ^ m) ∧ ∀ y ∈ (dvR p m b v d a).2, y < 2 ^ m := by
  induction d with
  | zero => intro a ha; exact ⟨fun y hy => by simp [dvR] at hy, ha⟩
  | succ d ih =>
    intro a ha
    obtain ⟨h1, h2⟩ := ih _ (stN_lt F hb ha)
    rw [dvR]
    refine ⟨fun y hy => ?_, h2⟩
    rcases List.mem_cons.1 hy with rfl | hy
    · exact F.mu_lt (getD_lt' F.zero_lt ha 0)
    · exact h1 y hy
theorem stN_getD {m p : Nat} (F : Fi m p) (b : List Nat) (v : Nat) (a : List Nat) (h : b.length ≤ a.length) (k : Nat) : (stN p m b v a).getD k 0 = a.getD (k + 1) 0 ^^^ mu p m (mu p m (a.getD 0 0) v) (b.getD (k + 1) 0) := by
  unfold stN
  have e : ∀ l : List Nat, (l.drop 1).getD k 0 = l.getD (k + 1) 0 := fun l => by
    simp only [List.getD_eq_getElem?_getD, List.getElem?_drop, Nat.add_comm]
  rw [e, xadd_getD _ _ _ _ (by rw [List.length_map]; omega), if_pos (Nat.zero_le _), map_getD F, Nat.sub_zero]
/-- What is divided is quotient times b and the rest. -/
theorem dvR_eq {m p : Nat} (F : Fi m p) {b : List Nat} {v : Nat} (hb : ∀ y ∈ b, y < 2 ^ m) (hb0 : b ≠ []) (hv : v < 2 ^ m) (h1 : mu p m (b.getD 0 0) v = 1) (d : Nat) : ∀ a, (∀ y ∈ a, y < 2 ^ m) → a.length + 1 = d + b.length →
    ∀ k, a.getD k 0 = Pc p m b (dvR p m b v d a).1 k ^^^ (if d ≤ k then (dvR p m b v d a).2.getD (k - d) 0 else 0) := by
  have hl := List.length_pos_iff.2 hb0
  have hbl : b.getD 0 0 < 2 ^ m := getD_lt' F.zero_lt hb 0
  induction d with
  | zero =>
    intro a ha h k
    rw [dvR, Pc, Nat.zero_xor, if_pos (Nat.zero_le _)]
    rfl
  | succ d ih =>
    intro a ha h k
    have h0 : a.getD 0 0 < 2 ^ m := getD_lt' F.zero_lt ha 0
    rw [dvR]
    simp only [Pc]
    cases k with
    | zero =>
      rw [if_neg (by omega), if_neg (by omega), Nat.xor_zero, Nat.xor_zero, F.mu_assoc h0 hv hbl, F.mu_comm hv hbl, h1, F.mu_one' h0]
    | succ k =>
      have g := ih (stN p m b v a) (stN_lt F hb ha) (by rw [stN_length]; omega) k
      rw [stN_getD F b v a (by omega)] at g
      rw [if_pos (by omega), Nat.add_sub_cancel, Nat.xor_assoc, show k + 1 - (d + 1) = k - d by omega]
      have e : (if d + 1 ≤ k + 1 then (dvR p m b v d (stN p m b v a)).2.getD (k - d) 0 else 0) = (if d ≤ k then (dvR p m b v d (stN p m b v a)).2.getD (k - d) 0 else 0) := by
        by_cases c : d ≤ k
        · rw [if_pos c, if_pos (by omega)]
        · rw [if_neg c, if_neg (by omega)]
      rw [e, ← g, Nat.xor_comm (a.getD (k + 1) 0), ← Nat.xor_assoc, Nat.xor_self, Nat.zero_xor]
/-- Quotient and rest. -/
def divN (p m : Nat) (a b : List Nat) : List Nat × List Nat :=
  (trimN (dvR p m (trimN b) (iv p m ((trimN b).getD 0 0)) ((trimN a).length + 1 - (trimN b).length) (trimN a)).1,
   trimN (dvR p m (trimN b) (iv p m ((trimN b).getD 0 0)) ((trimN a).length + 1 - (trimN b).length) (trimN a)).2)
theorem inv_head {m p : Nat} (F : Fi m p) {b : List Nat} (hb : Tr b) (hb0 : b ≠ []) (lb : ∀ y ∈ b, y < 2 ^ m) : 0 < b.getD 0 0 ∧ b.getD 0 0 < 2 ^ m ∧ mu p m (b.getD 0 0) (iv p m (b.getD 0 0)) = 1 := by
  have h2 : b.getD 0 0 < 2 ^ m := getD_lt' F.zero_lt lb 0
  have h1 : 0 < b.getD 0 0 := by
    cases b with
    | nil => exact absurd rfl hb0
    | cons y b => exact Nat.pos_of_ne_zero (tr_head hb)
  exact ⟨h1, h2, mu_iv F h1 h2⟩
theorem divN_lt {m p : Nat} (F : Fi m p) {a b : List Nat} (la : ∀ y ∈ a, y < 2 ^ m) (lb : ∀ y ∈ b, y < 2 ^ m) : (∀ y ∈ (divN p m a b).1, y < 2 ^ m) ∧ ∀ y ∈ (divN p m a b).2, y < 2 ^ m := by
  obtain ⟨h1, h2⟩ := dvR_lt F (v := iv p m ((trimN b).getD 0 0)) (fun y hy => lb y (trimN_mem hy)) ((trimN a).length + 1 - (trimN b).length) (trimN a) (fun y hy => la y (trimN_mem hy))
  exact ⟨fun y hy => h1 y (trimN_mem hy), fun y hy => h2 y (trimN_mem hy)⟩
theorem divN_length (p m : Nat) (a b : List Nat) (hb : trimN b ≠ []) : (divN p m a b).1.length ≤ a.length ∧ (divN p m a b).2.length < (trimN b).length := by
  have hl := List.length_pos_iff.2 hb
  obtain ⟨h1, h2⟩ := dvR_length p m (trimN b) (iv p m ((trimN b).getD 0 0)) ((trimN a).length + 1 - (trimN b).length) (trimN a)
  have h3 := trimN_length (dvR p m (trimN b) (iv p m ((trimN b).getD 0 0)) ((trimN a).length + 1 - (trimN b).length) (trimN a)).1
  have h4 := trimN_length (dvR p m (trimN b) (iv p m ((trimN b).getD 0 0)) ((trimN a).length + 1 - (trimN b).length) (trimN a)).2
  have h5 := trimN_length a
  unfold divN
  simp only
  omega
/-- Quotient times b, and the rest, is a. -/
theorem divN_sum {m p : Nat} (F : Fi m p) {a b : List Nat} (ha : Tr a) (hb : Tr b) (hb0 : b ≠ []) (la : ∀ y ∈ a, y < 2 ^ m) (lb : ∀ y ∈ b, y < 2 ^ m) : plusN (trimN (prod p m (divN p m a b).1 b)) (divN p m a b).2 = a := by
  have hl := List.length_pos_iff.2 hb0
  obtain ⟨i1, i2, i3⟩ := inv_head F hb hb0 lb
  have ea : trimN a = a := ha
  have eb : trimN b = b := hb
  refine cf_ext (by unfold plusN; exact tr_trim _) ha (fun j => ?_)
  rw [cf_plus, cf_trim]
  unfold divN
  simp only
  rw [ea, eb]
  obtain ⟨D, hD⟩ : ∃ D, D = dvR p m b (iv p m (b.getD 0 0)) (a.length + 1 - b.length) a := ⟨_, rfl⟩
  rw [← hD, cf_trim, ← cf_trim (prod p m (trimN D.1) b), trim_prod F D.1 b hb0, cf_trim]
  obtain ⟨l1, l2⟩ := dvR_length p m b (iv p m (b.getD 0 0)) (a.length + 1 - b.length) a
  rw [← hD] at l1 l2
  by_cases c : b.length ≤ a.length
  · have h := dvR_eq F lb hb0 (iv_lt F _) i3 (a.length + 1 - b.length) a la (by omega)
    rw [← hD] at h
    unfold cf
    rw [prod_length, l1, l2]
    by_cases c1 : j < a.length
    · rw [if_pos (show j < a.length + 1 - b.length + b.length - 1 by omega), if_pos c1, prod_getD F, h (a.length - 1 - j), show a.length + 1 - b.length + b.length - 1 - 1 - j = a.length - 1 - j by omega]
      by_cases c2 : j < a.length - (a.length + 1 - b.length)
      · rw [if_pos c2, if_pos (by omega), show a.length - (a.length + 1 - b.length) - 1 - j = a.length - 1 - j - (a.length + 1 - b.length) by omega]
      · rw [if_neg c2, if_neg (by omega)]
    · rw [if_neg (show ¬ j < a.length + 1 - b.length + b.length - 1 by omega), if_neg c1, if_neg (by omega)]
      rfl
  · have e0 : a.length + 1 - b.length = 0 := by omega
    rw [e0] at hD
    rw [hD, dvR]
    simp only
    have e1 : cf (prod p m [] b) j = 0 := by
      unfold cf
      split
      · rw [prod_getD F]; rfl
      · rfl
    rw [e1, Nat.zero_xor]
end Go.Proofs.Ytjdkamhnbheofaa.GalP
