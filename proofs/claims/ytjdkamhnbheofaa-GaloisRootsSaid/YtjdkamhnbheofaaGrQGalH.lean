/- Polynomials over a field: derivative and roots, as lists. Plain numbers, no program in sight. -/
import Derived.Test.YtjdkamhnbheofaaGrQGalD
set_option linter.unusedVariables false
set_option linter.unusedSimpArgs false
namespace Go.Proofs.Ytjdkamhnbheofaa.GalP
open Go.RowKit Go.Proofs.Ytjdkamhnbheofaa.P Go.Proofs.YtjdkamhnbheofaaW.PrintWords Go.Proofs.YtjdkamhnbheofaaW.PrintLast Go.Proofs.YtjdkamhnbheofaaW.PrintMore Go.Proofs.YtjdkamhnbheofaaW.Q
open Go.Proofs.Ytjdkamhnbheofaa.Gal
/-- The formal derivative, with zeros ahead. -/
def derN : List Nat → List Nat
  | [] => []
  | x :: l => if l = [] then [] else (if l.length % 2 = 1 then x else 0) :: derN l
theorem derN_length (l : List Nat) : (derN l).length = l.length - 1 := by
  induction l with
  | nil => rfl
  | cons x l ih =>
    rw [derN]
    by_cases c : l = []
    · subst c; rfl
    · have := List.length_pos_iff.2 c
      rw [if_neg c, List.length_cons, ih, List.length_cons]
      omega
theorem derN_getD (l : List Nat) : ∀ i, (derN l).getD i 0 = if i + 1 < l.length ∧ (l.length - 1 - i) % 2 = 1 then l.getD i 0 else 0 := by
  induction l with
  | nil => intro i; rfl
  | cons x l ih =>
    intro i
    rw [derN]
    by_cases c : l = []
    · subst c
      rw [if_pos rfl, if_neg (by rw [List.length_cons, List.length_nil]; omega)]
      rfl
    · have := List.length_pos_iff.2 c
      rw [if_neg c]
      cases i with
      | zero =>
        rw [List.length_cons, show l.length + 1 - 1 - 0 = l.length by omega]
        by_cases c2 : l.length % 2 = 1
        · rw [if_pos (⟨by omega, c2⟩ : 0 + 1 < l.length + 1 ∧ l.length % 2 = 1), if_pos c2]; rfl
        · rw [if_neg (fun h : 0 + 1 < l.length + 1 ∧ l.length % 2 = 1 => c2 h.2), if_neg c2]; rfl
      | succ i =>
        have h := ih i
        rw [List.length_cons, show l.length + 1 - 1 - (i + 1) = l.length - 1 - i by omega]
        rw [show ((if l.length % 2 = 1 then x else 0) :: derN l).getD (i + 1) 0 = (derN l).getD i 0 from rfl, h, show (x :: l).getD (i + 1) 0 = l.getD i 0 from rfl]
        by_cases c2 : i + 1 < l.length ∧ (l.length - 1 - i) % 2 = 1
        · rw [if_pos c2, if_pos ⟨by omega, c2.2⟩]
        · rw [if_neg c2, if_neg (fun h => c2 ⟨by omega, h.2⟩)]
theorem derN_lt {M : Nat} {l : List Nat} (h : ∀ y ∈ l, y < 2 ^ M) : ∀ y ∈ derN l, y < 2 ^ M := by
  induction l with
  | nil => intro y hy; simp [derN] at hy
  | cons x l ih =>
    intro y hy
    rw [derN] at hy
    split at hy
    · simp at hy
    · rcases List.mem_cons.1 hy with rfl | hy
      · split
        · exact h x (List.mem_cons_self ..)
        · exact Nat.pow_pos (by omega)
      · exact ih (fun z hz => h z (List.mem_cons_of_mem _ hz)) y hy
/-- All elements at which it is zero. -/
def rtN (p m n : Nat) (l : List Nat) : List Nat := (List.range n).filter (fun x => hv p m l x == 0)
theorem rtN_succ (p m n : Nat) (l : List Nat) : rtN p m (n + 1) l = if hv p m l n = 0 then rtN p m n l ++ [n] else rtN p m n l := by
  unfold rtN
  rw [List.range_succ, List.filter_append]
  by_cases c : hv p m l n = 0
  · rw [if_pos c, List.filter_cons, if_pos (by simp [c])]
    rfl
  · rw [if_neg c, List.filter_cons, if_neg (by simp [c])]
    simp
theorem rtN_length (p m n : Nat) (l : List Nat) : (rtN p m n l).length ≤ n := by
  unfold rtN
  have := List.length_filter_le (fun x => hv p m l x == 0) (List.range n)
  rwa [List.length_range] at this
theorem mem_rtN (p m n : Nat) (l : List Nat) (x : Nat) : x ∈ rtN p m n l ↔ x < n ∧ hv p m l x = 0 := by
  unfold rtN
  rw [List.mem_filter, List.mem_range, beq_iff_eq]
/-! ### Values -/
theorem hvf_zeros {m p : Nat} (F : Fi m p) (x n : Nat) (l : List Nat) : hvf p m x 0 (List.replicate n 0 ++ l) = hvf p m x 0 l := by
  induction n with
  | zero => rfl
  | succ n ih => rw [List.replicate_succ, List.cons_append, hvf, F.mu_zero_left]; exact ih
theorem hv_trim {m p : Nat} (F : Fi m p) (l : List Nat) (x : Nat) : hv p m (trimN l) x = hv p m l x := by
  induction l with
  | nil => rfl
  | cons y l ih =>
    rw [trimN_cons]
    by_cases c : y = 0
    · subst c
      rw [if_pos rfl, ih]
      unfold hv
      rw [hvf, F.mu_zero_left]
      rfl
    · rw [if_neg c]
/-- The value hangs on the coefficients alone. -/
theorem hv_cf {m p : Nat} (F : Fi m p) {a b : List Nat} (h : ∀ j, cf a j = cf b j) (x : Nat) : hv p m a x = hv p m b x := by
  have e : trimN a = trimN b := cf_ext (tr_trim a) (tr_trim b) (fun j => by rw [cf_trim, cf_trim]; exact h j)
  rw [← hv_trim F a, e, hv_trim F b]
theorem xadd_zip (a : List Nat) (n : Nat) : ∀ b : List Nat, b.length = n + a.length → xadd b n a = List.zipWith (· ^^^ ·) b (List.replicate n 0 ++ a) := by
  intro b h
  refine list_ext_getD (by rw [xadd_length, List.length_zipWith, List.length_append, List.length_replicate]; omega) (fun i => ?_)
  rw [xadd_getD _ _ _ _ (by omega)]
  by_cases c : i < b.length
  · have e : (List.zipWith (· ^^^ ·) b (List.replicate n 0 ++ a)).getD i 0 = b.getD i 0 ^^^ (List.replicate n 0 ++ a).getD i 0 := by
      simp only [List.getD_eq_getElem?_getD, List.getElem?_zipWith]
      rw [List.getElem?_eq_getElem c, List.getElem?_eq_getElem (by rw [List.length_append, List.length_replicate]; omega)]
      rfl
    rw [e]
    congr 1
    simp only [List.getD_eq_getElem?_getD]
    by_cases c2 : n ≤ i
    · rw [if_pos c2, List.getElem?_append_right (by rw [List.length_replicate]; exact c2), List.length_replicate]
    · rw [if_neg c2, List.getElem?_append_left (by rw [List.length_replicate]; omega), List.getElem?_replicate, if_pos (by omega)]
      rfl
  · rw [getD_over _ i (by omega), getD_over _ i (by rw [List.length_zipWith]; omega)]
    split
    · rw [getD_over _ _ (by omega)]
      rfl
    · rfl
theorem hv_plus {m p : Nat} (F : Fi m p) {a b : List Nat} (ha : ∀ y ∈ a, y < 2 ^ m) (hb : ∀ y ∈ b, y < 2 ^ m) {x : Nat} (hx : x < 2 ^ m) : hv p m (plusN a b) x = hv p m a x ^^^ hv p m b x := by
  have key : ∀ u v : List Nat, (∀ y ∈ u, y < 2 ^ m) → (∀ y ∈ v, y < 2 ^ m) → u.length ≤ v.length → hv p m (xadd v (v.length - u.length) u) x = hv p m v x ^^^ hv p m u x := by
    intro u v hu hv1 hl
    have hz : ∀ y ∈ List.replicate (v.length - u.length) 0 ++ u, y < 2 ^ m := fun y hy => by
      rcases List.mem_append.1 hy with hy | hy
      · rw [List.eq_of_mem_replicate hy]; exact F.zero_lt
      · exact hu y hy
    rw [xadd_zip u _ v (by omega)]
    have h := F.hvf_xor hx v (List.replicate (v.length - u.length) 0 ++ u) 0 0 (by rw [List.length_append, List.length_replicate]; omega) F.zero_lt F.zero_lt hv1 hz
    rw [Nat.xor_self] at h
    unfold hv
    rw [h, hvf_zeros F]
  unfold plusN
  rw [hv_trim F]
  by_cases c : a.length < b.length
  · rw [if_pos c, key a b ha hb (by omega), Nat.xor_comm]
  · rw [if_neg c, key b a hb ha (by omega)]
theorem cf_der (l : List Nat) (j : Nat) : cf (derN l) j = if j % 2 = 0 then cf l (j + 1) else 0 := by
  unfold cf
  rw [derN_length, derN_getD]
  by_cases c : j < l.length - 1
  · rw [if_pos c, if_pos (show j + 1 < l.length by omega), show l.length - 1 - (l.length - 1 - 1 - j) = j + 1 by omega, show l.length - 1 - (j + 1) = l.length - 1 - 1 - j by omega]
    by_cases c2 : j % 2 = 0
    · rw [if_pos c2, if_pos ⟨by omega, by omega⟩]
    · rw [if_neg c2, if_neg (fun h => by omega)]
  · rw [if_neg c, if_neg (show ¬ j + 1 < l.length by omega)]
    simp only [ite_self]
/-- The value of the derivative. -/
def dv (p m : Nat) (l : List Nat) (x : Nat) : Nat := hv p m (derN l) x
theorem dv_trim {m p : Nat} (F : Fi m p) (l : List Nat) (x : Nat) : dv p m (trimN l) x = dv p m l x := by
  unfold dv
  refine hv_cf F (fun j => ?_) x
  rw [cf_der, cf_der, cf_trim]
theorem dv_plus {m p : Nat} (F : Fi m p) {a b : List Nat} (ha : ∀ y ∈ a, y < 2 ^ m) (hb : ∀ y ∈ b, y < 2 ^ m) {x : Nat} (hx : x < 2 ^ m) : dv p m (plusN a b) x = dv p m a x ^^^ dv p m b x := by
  unfold dv
  rw [← hv_plus F (derN_lt ha) (derN_lt hb) hx]
  refine hv_cf F (fun j => ?_) x
  rw [cf_der, cf_plus, cf_plus, cf_der, cf_der]
  by_cases c : j % 2 = 0
  · rw [if_pos c, if_pos c, if_pos c]
  · rw [if_neg c, if_neg c, if_neg c]; rfl
/-- The derivative's value, by Horner. -/
def hd (p m x : Nat) : Nat → Nat → List Nat → Nat
  | _, u, [] => u
  | v, u, c :: l => hd p m x (mu p m v x ^^^ c) (mu p m u x ^^^ v) l
theorem hd_der {m p x : Nat} (F : Fi m p) (hx : x < 2 ^ m) (l : List Nat) : ∀ v u, v < 2 ^ m → u < 2 ^ m → (∀ y ∈ l, y < 2 ^ m) → hd p m x v u l = hvf p m x u (derN (v :: l)) := by
  induction l with
  | nil => intro v u hv hu hl; rfl
  | cons c l ih =>
    intro v u hv hu hl
    have hc : c < 2 ^ m := hl c (List.mem_cons_self ..)
    have hl2 : ∀ y ∈ l, y < 2 ^ m := fun y hy => hl y (List.mem_cons_of_mem _ hy)
    have h1 := F.mu_lt (b := x) hv
    have h2 := F.mu_lt (b := x) hu
    rw [hd, ih _ _ (Nat.xor_lt_two_pow h1 hc) (Nat.xor_lt_two_pow h2 hv) hl2]
    rw [show derN (v :: c :: l) = (if (c :: l).length % 2 = 1 then v else 0) :: derN (c :: l) by rw [derN, if_neg (by simp)], hvf, List.length_cons]
    by_cases c0 : l = []
    · subst c0
      rw [if_pos (by rfl)]
      rfl
    · rw [show derN ((mu p m v x ^^^ c) :: l) = (if l.length % 2 = 1 then mu p m v x ^^^ c else 0) :: derN l by rw [derN, if_neg c0], show derN (c :: l) = (if l.length % 2 = 1 then c else 0) :: derN l by rw [derN, if_neg c0], hvf, hvf]
      congr 1
      by_cases c1 : l.length % 2 = 1
      · rw [if_pos c1, if_pos c1, if_neg (by omega), F.mu_add_left h2 hv, Nat.xor_zero, Nat.xor_assoc, ← Nat.xor_assoc (mu p m v x), Nat.xor_self, Nat.zero_xor]
      · rw [if_neg c1, if_neg c1, if_pos (by omega)]
theorem dv_cons {m p x : Nat} (F : Fi m p) (hx : x < 2 ^ m) (v : Nat) (l : List Nat) (hv : v < 2 ^ m) (hl : ∀ y ∈ l, y < 2 ^ m) : dv p m (v :: l) x = hd p m x v 0 l := by
  rw [hd_der F hx l v 0 hv F.zero_lt hl]
  rfl
theorem hd_mxg {m p a : Nat} (F : Fi m p) (ha : a < 2 ^ m) (l : List Nat) : ∀ v u, hd p m a v u (mxg p m a (mu p m v a) l) = hvf p m a (mu p m u a ^^^ v) l := by
  induction l with
  | nil => intro v u; rfl
  | cons y l ih =>
    intro v u
    rw [mxg, hd, ← Nat.xor_assoc, Nat.xor_self, Nat.zero_xor, ih, hvf]
/-- The derivative of (X + a) times l, at a, is l's value there. -/
theorem dv_mx {m p a : Nat} (F : Fi m p) (ha : a < 2 ^ m) (l : List Nat) (hl : ∀ y ∈ l, y < 2 ^ m) : dv p m (mx p m a l) a = hv p m l a := by
  cases l with
  | nil => rfl
  | cons y l =>
    have hy : y < 2 ^ m := hl y (List.mem_cons_self ..)
    have hl2 : ∀ z ∈ l, z < 2 ^ m := fun z hz => hl z (List.mem_cons_of_mem _ hz)
    unfold Gal.mx
    rw [mxg, Nat.zero_xor, dv_cons F ha y _ hy (F.mxg_lt ha l _ (F.mu_lt hy) hl2), hd_mxg F ha, F.mu_zero_left, Nat.zero_xor]
    unfold hv
    rw [hvf, F.mu_zero_left, Nat.zero_xor]
theorem hv_mx {m p a : Nat} (F : Fi m p) (ha : a < 2 ^ m) (l : List Nat) (hl : ∀ y ∈ l, y < 2 ^ m) : hv p m (mx p m a l) a = 0 := by
  rw [F.mx_hv ha ha hl, Nat.xor_self, F.mu_zero_right]
/-- The square of X + a, and its multiples. -/
def sqN (p m a : Nat) : List Nat := [1, 0, mu p m a a]
theorem sq_prod {m p a : Nat} (F : Fi m p) (ha : a < 2 ^ m) : trimN (prod p m [1, a] [1, a]) = sqN p m a := by
  rw [prod_mx F [1, a] (fun y hy => by rcases List.mem_cons.1 hy with rfl | hy; exact F.one_lt; rw [List.mem_singleton.1 hy]; exact ha)]
  unfold Gal.mx sqN
  rw [mxg, mxg, mxg, Nat.zero_xor, F.mu_one ha, Nat.xor_self, trimN_cons, if_neg (by omega)]
theorem mxg_getD {m p a : Nat} (l : List Nat) : ∀ w k, (mxg p m a w l).getD k 0 = (if k = 0 then w else mu p m (l.getD (k - 1) 0) a) ^^^ l.getD k 0 ∨ l.length < k := by
  induction l with
  | nil =>
    intro w k
    cases k with
    | zero => left; rw [mxg, if_pos rfl]; exact (Nat.xor_zero w).symm
    | succ k => right; exact Nat.zero_lt_succ k
  | cons y l ih =>
    intro w k
    rw [mxg]
    cases k with
    | zero => left; rw [if_pos rfl]; rfl
    | succ k =>
      rcases ih (mu p m y a) k with h | h
      · left
        rw [show ((w ^^^ y) :: mxg p m a (mu p m y a) l).getD (k + 1) 0 = (mxg p m a (mu p m y a) l).getD k 0 from rfl, h]
        cases k with
        | zero => rfl
        | succ k => rfl
      · right; rw [List.length_cons]; omega
theorem mx_getD {m p a : Nat} (F : Fi m p) (l : List Nat) (k : Nat) : (mx p m a l).getD k 0 = (if k = 0 then 0 else mu p m (l.getD (k - 1) 0) a) ^^^ l.getD k 0 := by
  rcases mxg_getD (p := p) (m := m) (a := a) l 0 k with h | h
  · exact h
  · unfold Gal.mx
    rw [getD_over _ k (by rw [mxg_length]; omega), if_neg (by omega), getD_over l k (by omega), getD_over l (k - 1) (by omega), F.mu_zero_left]
    rfl
/-- Coefficients of a product by one of three terms. -/
theorem Pc_three {m p : Nat} (F : Fi m p) (s : Nat) (q : List Nat) (hq : ∀ y ∈ q, y < 2 ^ m) : ∀ k, Pc p m [1, 0, s] q k = q.getD k 0 ^^^ (if 2 ≤ k then mu p m (q.getD (k - 2) 0) s else 0) := by
  induction q with
  | nil => intro k; rw [Pc]; simp only [List.getD_nil, F.mu_zero_left, ite_self]; rfl
  | cons x q ih =>
    intro k
    have hx : x < 2 ^ m := hq x (List.mem_cons_self ..)
    have ih2 := ih (fun y hy => hq y (List.mem_cons_of_mem _ hy))
    rw [Pc]
    cases k with
    | zero =>
      rw [if_neg (by omega), if_neg (by omega), show ([1, 0, s] : List Nat).getD 0 0 = 1 from rfl, F.mu_one' hx]
      rfl
    | succ k =>
      rw [if_pos (by omega), Nat.add_sub_cancel, ih2 k, show (x :: q).getD (k + 1) 0 = q.getD k 0 from rfl]
      cases k with
      | zero =>
        rw [if_neg (by omega), if_neg (by omega), show ([1, 0, s] : List Nat).getD (0 + 1) 0 = 0 from rfl, F.mu_zero_right, Nat.zero_xor]
      | succ k =>
        rw [if_pos (show 2 ≤ k + 1 + 1 by omega), show k + 1 + 1 - 2 = k by omega]
        cases k with
        | zero =>
          rw [if_neg (by omega), show ([1, 0, s] : List Nat).getD (0 + 1 + 1) 0 = s from rfl, show (x :: q).getD 0 0 = x from rfl, Nat.xor_zero, Nat.xor_comm]
        | succ k =>
          rw [if_pos (by omega), show k + 1 + 1 - 2 = k by omega, show (x :: q).getD (k + 1) 0 = q.getD k 0 from rfl, getD_over [1, 0, s] _ (by simp), F.mu_zero_right, Nat.zero_xor]
theorem prod_sq {m p a : Nat} (F : Fi m p) (ha : a < 2 ^ m) (q : List Nat) (hq : ∀ y ∈ q, y < 2 ^ m) : prod p m q (sqN p m a) = mx p m a (mx p m a q) := by
  unfold sqN
  refine list_ext_getD (by rw [prod_length]; unfold Gal.mx; rw [mxg_length, mxg_length]; rfl) (fun k => ?_)
  rw [prod_getD F, Pc_three F _ q hq, mx_getD F, mx_getD F, mx_getD F]
  have g0 : ∀ j, q.getD j 0 < 2 ^ m := fun j => getD_lt' F.zero_lt hq j
  cases k with
  | zero => rw [if_neg (by omega), if_pos rfl, if_pos rfl, Nat.xor_zero, Nat.zero_xor, Nat.zero_xor]
  | succ k =>
    rw [if_neg (show ¬ k + 1 = 0 by omega), if_neg (show ¬ k + 1 = 0 by omega), Nat.add_sub_cancel]
    cases k with
    | zero =>
      rw [if_neg (by omega), if_pos rfl, Nat.zero_xor, Nat.xor_zero, ← Nat.xor_assoc, Nat.xor_self, Nat.zero_xor]
    | succ k =>
      rw [if_pos (by omega), if_neg (by omega), Nat.add_sub_cancel, show k + 1 + 1 - 2 = k by omega, F.mu_add_left (F.mu_lt (g0 k)) (g0 (k + 1)), F.mu_assoc (g0 k) ha ha, Nat.xor_assoc, ← Nat.xor_assoc (mu p m (q.getD (k + 1) 0) a), Nat.xor_self, Nat.zero_xor, Nat.xor_comm]
/-- The rest of a division by X + a: nothing just if the value at a is zero. -/
theorem rest_one {m p a : Nat} (F : Fi m p) (ha : a < 2 ^ m) {P : List Nat} (tP : Tr P) (lP : ∀ y ∈ P, y < 2 ^ m) : (divN p m P [1, a]).2 = [] ↔ hv p m P a = 0 := by
  have lb : ∀ y ∈ [1, a], y < 2 ^ m := fun y hy => by rcases List.mem_cons.1 hy with rfl | hy; exact F.one_lt; rw [List.mem_singleton.1 hy]; exact ha
  have tb : Tr [1, a] := tr_cons (by omega)
  have hl := divN_length p m P [1, a] (by rw [show trimN [1, a] = [1, a] from tb]; simp)
  rw [show trimN [1, a] = [1, a] from tb] at hl
  have h2 := divN_lt F lP lb
  have hs := divN_sum F tP tb (by simp) lP lb
  have e1 : hv p m P a = hv p m (divN p m P [1, a]).2 a := by
    have h : hv p m _ a = hv p m P a := congrArg (fun l => hv p m l a) hs
    rw [hv_plus F (fun y hy => prod_lt F h2.1 y (trimN_mem hy)) h2.2 ha, hv_trim F, prod_mx F _ h2.1, hv_mx F ha _ h2.1, Nat.zero_xor] at h
    exact h.symm
  have tr : Tr (divN p m P [1, a]).2 := by unfold divN; exact tr_trim _
  rw [e1]
  obtain ⟨R, hR⟩ : ∃ R, R = (divN p m P [1, a]).2 := ⟨_, rfl⟩
  rw [← hR] at tr hl ⊢
  cases R with
  | nil => exact ⟨fun _ => rfl, fun _ => rfl⟩
  | cons y R =>
    have : R = [] := List.length_eq_zero_iff.1 (by have := hl.2; simp only [List.length_cons, List.length_nil] at this; omega)
    subst this
    have e2 : hv p m [y] a = y := by unfold hv; rw [hvf, hvf, F.mu_zero_left, Nat.zero_xor]
    rw [e2]
    exact ⟨fun h => absurd h (by simp), fun h => absurd h (tr_head tr)⟩
/-- The rest of a division by its square: nothing just if the value at a, and the derivative's, are zero. -/
theorem rest_two {m p a : Nat} (F : Fi m p) (ha : a < 2 ^ m) {P : List Nat} (tP : Tr P) (lP : ∀ y ∈ P, y < 2 ^ m) : (divN p m P (sqN p m a)).2 = [] ↔ hv p m P a = 0 ∧ dv p m P a = 0 := by
  have lb : ∀ y ∈ sqN p m a, y < 2 ^ m := fun y hy => by
    unfold sqN at hy
    rcases List.mem_cons.1 hy with rfl | hy
    · exact F.one_lt
    · rcases List.mem_cons.1 hy with rfl | hy
      · exact F.zero_lt
      · rw [List.mem_singleton.1 hy]; exact F.mu_lt ha
  have tb : Tr (sqN p m a) := tr_cons (by omega)
  have hl := divN_length p m P (sqN p m a) (by rw [show trimN (sqN p m a) = sqN p m a from tb]; unfold sqN; simp)
  rw [show trimN (sqN p m a) = sqN p m a from tb] at hl
  have h2 := divN_lt F lP lb
  have hs := divN_sum F tP tb (by unfold sqN; simp) lP lb
  have lm : ∀ y ∈ mx p m a (divN p m P (sqN p m a)).1, y < 2 ^ m := F.mxg_lt ha (divN p m P (sqN p m a)).1 0 F.zero_lt h2.1
  have lt1 : ∀ y ∈ trimN (prod p m (divN p m P (sqN p m a)).1 (sqN p m a)), y < 2 ^ m := fun y hy => prod_lt F h2.1 y (trimN_mem hy)
  have e1 : hv p m P a = hv p m (divN p m P (sqN p m a)).2 a := by
    have h : hv p m _ a = hv p m P a := congrArg (fun l => hv p m l a) hs
    rw [hv_plus F lt1 h2.2 ha, hv_trim F, prod_sq F ha _ h2.1, hv_mx F ha _ lm, Nat.zero_xor] at h
    exact h.symm
  have e2 : dv p m P a = dv p m (divN p m P (sqN p m a)).2 a := by
    have h : dv p m _ a = dv p m P a := congrArg (fun l => dv p m l a) hs
    rw [dv_plus F lt1 h2.2 ha, dv_trim F, prod_sq F ha _ h2.1, dv_mx F ha _ lm, hv_mx F ha _ h2.1, Nat.zero_xor] at h
    exact h.symm
  have tr : Tr (divN p m P (sqN p m a)).2 := by unfold divN; exact tr_trim _
  rw [e1, e2]
  obtain ⟨R, hR⟩ : ∃ R, R = (divN p m P (sqN p m a)).2 := ⟨_, rfl⟩
  rw [← hR] at tr hl ⊢
  clear hs e1 e2 hR
  cases R with
  | nil => exact ⟨fun _ => ⟨rfl, rfl⟩, fun _ => rfl⟩
  | cons y R =>
    refine ⟨fun h => absurd h (by simp), fun h => ?_⟩
    exfalso
    cases R with
    | nil =>
      have e3 : hv p m [y] a = y := by unfold hv; rw [hvf, hvf, F.mu_zero_left, Nat.zero_xor]
      rw [e3] at h
      exact tr_head tr h.1
    | cons z R =>
      have : R = [] := List.length_eq_zero_iff.1 (by have := hl.2; unfold sqN at this; simp only [List.length_cons, List.length_nil] at this; omega)
      subst this
      have e3 : dv p m [y, z] a = y := by
        unfold dv
        rw [show derN [y, z] = [y] from rfl]
        unfold hv
        rw [hvf, hvf, F.mu_zero_left, Nat.zero_xor]
      rw [e3] at h
      exact tr_head tr h.2
/-- Fewer roots than terms. -/
theorem rtN_few {m p : Nat} (F : Fi m p) {P : List Nat} (tP : Tr P) (lP : ∀ y ∈ P, y < 2 ^ m) (h0 : P ≠ []) : (rtN p m (2 ^ m) P).length < P.length := by
  by_cases c : (rtN p m (2 ^ m) P).length < P.length
  · exact c
  · exfalso
    have hnd : (rtN p m (2 ^ m) P).Nodup := by unfold rtN; exact (List.nodup_range).filter _
    have hz := F.roots_zero (fun i => (rtN p m (2 ^ m) P).getD i 0) P.length P (Nat.le_refl _) lP (fun i j hi hj h => by
      have hi2 : i < (rtN p m (2 ^ m) P).length := by omega
      have hj2 : j < (rtN p m (2 ^ m) P).length := by omega
      simp only [List.getD_eq_getElem?_getD, List.getElem?_eq_getElem hi2, List.getElem?_eq_getElem hj2, Option.getD_some] at h
      exact (List.getElem_inj hnd).1 h) (fun i hi => by
      have hi2 : i < (rtN p m (2 ^ m) P).length := by omega
      have hm : (rtN p m (2 ^ m) P).getD i 0 ∈ rtN p m (2 ^ m) P := by
        rw [List.getD_eq_getElem?_getD, List.getElem?_eq_getElem hi2]
        exact List.getElem_mem hi2
      exact (mem_rtN p m (2 ^ m) P _).1 hm)
    cases P with
    | nil => exact h0 rfl
    | cons x P => exact tr_head tP (hz x (List.mem_cons_self ..))
theorem rtN_up (p m n : Nat) (l : List Nat) (i j : Nat) (hij : i < j) (hj : j < (rtN p m n l).length) : (rtN p m n l).getD i 0 < (rtN p m n l).getD j 0 := by
  have hp : (rtN p m n l).Pairwise (· < ·) := by unfold rtN; exact List.Pairwise.filter _ List.pairwise_lt_range
  rw [List.getD_eq_getElem?_getD, List.getD_eq_getElem?_getD, List.getElem?_eq_getElem (by omega), List.getElem?_eq_getElem hj]
  exact List.pairwise_iff_getElem.1 hp i j (by omega) hj hij
end Go.Proofs.Ytjdkamhnbheofaa.GalP
