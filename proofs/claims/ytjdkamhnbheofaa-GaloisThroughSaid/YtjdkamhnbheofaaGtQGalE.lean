/- Fields: lists of elements, values of polynomials, as the program has them; the least polynomial with a root. -/
import Derived.Test.YtjdkamhnbheofaaGtQGalS
import Derived.Test.YtjdkamhnbheofaaGtPx5
set_option linter.unusedVariables false
set_option linter.unusedSimpArgs false
namespace Go.Proofs.Ytjdkamhnbheofaa.Gal
/-- A value of a number's polynomial. -/
def he (p m a : Nat) (n z : Nat) : Nat := hv p m (bl n z) a
namespace Fi
variable {M P : Nat} (F : Fi M P)
include F
theorem he_succ (a n z : Nat) : he P M a (n + 1) z = mu P M (he P M a n (z / 2)) a ^^^ (z % 2) := by
  have _ := F
  unfold he hv
  rw [bl, hvf_append]
  rfl
theorem he_lt {a : Nat} (ha : a < 2 ^ M) (n z : Nat) : he P M a n z < 2 ^ M :=
  F.hv_lt ha (fun y hy => by have := bl_le n z y hy; have := F.sz8; omega)
theorem he_zero (a : Nat) : ∀ n, he P M a n 0 = 0 := by
  intro n
  induction n with
  | zero => rfl
  | succ n ih => rw [F.he_succ, Nat.zero_div, ih, F.mu_zero_left]; rfl
theorem he_xor {a : Nat} (ha : a < 2 ^ M) : ∀ n x y, he P M a n (x ^^^ y) = he P M a n x ^^^ he P M a n y := by
  intro n
  induction n with
  | zero => intro x y; simp [he, bl, hv, hvf]
  | succ n ih => intro x y; rw [F.he_succ, F.he_succ, F.he_succ, xor_half, xor_par, ih, F.mu_add_left (F.he_lt ha _ _) (F.he_lt ha _ _), xor4]
theorem he_grow1 {a : Nat} : ∀ n z, z < 2 ^ n → he P M a (n + 1) z = he P M a n z := by
  intro n
  induction n with
  | zero => intro z h; have : z = 0 := by simpa using h
            subst this; rw [F.he_zero, F.he_zero]
  | succ n ih =>
    intro z h
    rw [F.he_succ, ih _ (by rw [Nat.pow_succ] at h; omega), ← F.he_succ]
theorem he_grow {a : Nat} (k n z : Nat) (h : z < 2 ^ n) : he P M a (n + k) z = he P M a n z := by
  induction k with
  | zero => rfl
  | succ k ih => rw [← Nat.add_assoc, F.he_grow1 _ _ (Nat.lt_of_lt_of_le h (Nat.pow_le_pow_right (by omega) (by omega))), ih]
theorem he_cl {a : Nat} (ha : a < 2 ^ M) : ∀ n x y j N, x < 2 ^ n → y < 2 ^ j → j + n ≤ N → he P M a N (cl n x y) = mu P M (he P M a N x) (he P M a N y) := by
  intro n
  induction n with
  | zero =>
    intro x y j N hx _ _
    have : x = 0 := by simpa using hx
    subst this
    rw [show cl 0 0 y = 0 from rfl, F.he_zero, F.mu_zero_left]
  | succ n ih =>
    intro x y j N hx hy hN
    have hx2 : x / 2 < 2 ^ n := by rw [Nat.pow_succ] at hx; omega
    obtain ⟨K, rfl⟩ : ∃ K, N = K + 1 := ⟨N - 1, by omega⟩
    have e1 := ih (x / 2) (2 * y) (j + 1) (K + 1) hx2 (by rw [Nat.pow_succ]; omega) (by omega)
    have e2 : he P M a (K + 1) (2 * y) = mu P M (he P M a (K + 1) y) a := by
      rw [F.he_succ, show 2 * y / 2 = y by omega, show 2 * y % 2 = 0 by omega, Nat.xor_zero, F.he_grow1 K y (Nat.lt_of_lt_of_le hy (Nat.pow_le_pow_right (by omega) (by omega)))]
    have e3 : he P M a (K + 1) x = mu P M (he P M a (K + 1) (x / 2)) a ^^^ (x % 2) := by
      rw [F.he_succ, F.he_grow1 K (x / 2) (Nat.lt_of_lt_of_le hx2 (Nat.pow_le_pow_right (by omega) (by omega)))]
    have l1 := F.he_lt ha (K + 1) (x / 2)
    have l2 := F.he_lt ha (K + 1) y
    have e4 : he P M a (K + 1) (if x % 2 = 1 then y else 0) = mu P M (x % 2) (he P M a (K + 1) y) := by
      rcases Nat.mod_two_eq_zero_or_one x with c | c
      · rw [c, if_neg (by omega), F.he_zero, F.mu_zero_left]
      · rw [c, if_pos rfl, F.mu_one l2]
    rw [cl, F.he_xor ha, e1, e2, e3, e4, F.mu_add_left (F.mu_lt l1) (by have := F.sz8; omega), Nat.xor_comm]
    congr 1
    rw [F.mu_comm l2 ha, F.mu_assoc l1 ha l2]
/-- The least polynomial over two elements that has a as a root: of a degree that divides M. -/
theorem least {a : Nat} (ha : a < 2 ^ M) : ∃ N d, num (pm P M a d) = N ∧ 0 < d ∧ d ≤ M ∧ M % d = 0 ∧ 2 ^ d ≤ N ∧ N < 2 ^ (d + 1) ∧ he P M a 16 N = 0 ∧ (∀ g, 0 < g → g < N → he P M a 16 g ≠ 0) ∧
    cj P M a d = a ∧ (∀ i, 0 < i → i < d → cj P M a i ≠ a) ∧ (∀ c ∈ pm P M a d, c ≤ 1) := by
  obtain ⟨d, h0, h1, h2, h3, h4, h5, h6, h7, h8⟩ := F.minimal ha
  have hM := F.eight
  obtain ⟨b1, b2⟩ := bl_num h4
  rw [pm_length] at b1 b2
  have gr : ∀ z, z < 2 ^ (d + 1) → he P M a 16 z = hv P M (bl (d + 1) z) a := by
    intro z hz
    have := F.he_grow (a := a) (16 - (d + 1)) (d + 1) z hz
    rw [show d + 1 + (16 - (d + 1)) = 16 by omega] at this
    exact this
  refine ⟨_, d, rfl, h0, h1, ?_, h6, h7, ?_, fun g hg1 hg2 => ?_, h2, h3, h4⟩
  · have ed : (M / d) * d + M % d = M := by have := Nat.div_add_mod M d; rw [Nat.mul_comm] at this; exact this
    have e : ∀ q, cj P M a (q * d) = a := by
      intro q
      induction q with
      | zero => rw [Nat.zero_mul]; rfl
      | succ q ih => rw [Nat.succ_mul, F.cj_add, ih, h2]
    have e2 : cj P M a ((M / d) * d + M % d) = a := by rw [ed]; exact F.cj_round ha
    rw [F.cj_add, e] at e2
    rcases Nat.eq_zero_or_pos (M % d) with c | c
    · exact c
    · exact absurd e2 (h3 _ c (Nat.mod_lt _ h0))
  · rw [gr _ h7, b1]; exact h5
  · rw [gr g (by omega)]; exact h8 g hg1 hg2
theorem he_conj {a : Nat} (ha : a < 2 ^ M) (n z : Nat) : he P M (mu P M a a) n z = 0 ↔ he P M a n z = 0 := by
  have l := bl_le n z
  constructor
  · intro h
    have := F.root_cj l (F.mu_lt (b := a) ha) h (M - 1)
    have e := F.cj_add a 1 (M - 1)
    rw [show 1 + (M - 1) = M by have := F.three; omega, F.cj_round ha] at e
    rw [show cj P M (mu P M a a) (M - 1) = a from e.symm] at this
    exact this
  · intro h
    exact F.root_cj l ha h 1
end Fi
end Go.Proofs.Ytjdkamhnbheofaa.Gal
namespace Go.Proofs.Ytjdkamhnbheofaa.GalP
open Go.RowKit Go.Proofs.Ytjdkamhnbheofaa.P Go.Proofs.YtjdkamhnbheofaaW.PrintWords Go.Proofs.YtjdkamhnbheofaaW.PrintLast Go.Proofs.YtjdkamhnbheofaaW.PrintMore Go.Proofs.YtjdkamhnbheofaaW.Q
open Go.Proofs.Ytjdkamhnbheofaa.Gal
theorem rd_L4_ints (L : List (List Nat)) (i : Nat) : rd_L4 (L.map ints) (i : Int) = ints (L.getD i []) := by
  unfold rd_L4
  simp only [Int.toNat_natCast, List.getD_eq_getElem?_getD, List.getElem?_map]
  cases L[i]? <;> rfl
theorem mem_getD {α : Type} {L : List α} {d : α} {i : Nat} (h : i < L.length) : L.getD i d ∈ L := by
  rw [List.getD_eq_getElem?_getD, List.getElem?_eq_getElem h]
  exact List.getElem_mem h
theorem lists_l1 {m p : Nat} (F : Fi m p) (L : List (List Nat)) (hL : L.length ≤ 100) (h1 : ∀ B ∈ L, B.length ≤ 1024) (h2 : ∀ B ∈ L, ∀ x ∈ B, x < 2 ^ m) (d : Nat) : ∀ i, i + d = L.length →
    Ev (fun k => galois_Tables_lists.l1 k (tab m p) (L.map ints) (L.length : Int) (i : Int)) 0 := by
  have h256 := F.sz256
  induction d with
  | zero =>
    intro i hi
    refine Ev.step (f := fun _ => some 0) (fun k => ?_) (Ev.now _)
    simp only [galois_Tables_lists.l1]
    rw [if_neg (by omega)]
  | succ d ih =>
    intro i hi
    have hB : L.getD i [] ∈ L := mem_getD (by omega)
    have hc := check_t F (L.getD i []) (fun x hx => by have := h2 _ hB x hx; omega) (by have := h1 _ hB; omega)
    have hall : (L.getD i []).all (fun x => decide (x < 2 ^ m)) = true := by
      rw [List.all_eq_true]
      exact fun x hx => decide_eq_true (h2 _ hB x hx)
    rw [hall] at hc
    have c1 : (i : Int) < (L.length : Int) := by omega
    have c2 : (0 : Int) ≤ (i : Int) := by omega
    have c3 : (i : Int) < ((L.map ints).length : Int) := by rw [List.length_map]; omega
    have ei : wrap64 ((i : Int) + 1) = ((i + 1 : Nat) : Int) := w64s (by omega)
    refine Ev.step (f := fun k => (galois_Tables_check.f k (tab m p) (ints (L.getD i []))).bind fun t => if t = 0 then galois_Tables_lists.l1 k (tab m p) (L.map ints) (L.length : Int) ((i + 1 : Nat) : Int) else some t) (fun k => ?_) (Ev.bind hc (ev_pos rfl (ih (i + 1) (by clear ei; omega))))
    simp only [galois_Tables_lists.l1]
    rw [if_pos c1, if_pos c2, if_pos c3, rd_L4_ints, ei]
theorem lists_l0 {m p : Nat} (F : Fi m p) (L : List (List Nat)) (hL : L.length ≤ 100) (h1 : ∀ B ∈ L, B.length ≤ 1024) (h2 : ∀ B ∈ L, ∀ x ∈ B, x < 2 ^ m) (d : Nat) : ∀ i, i + d = L.length →
    Ev (fun k => galois_Tables_lists.l0 k (tab m p) (L.map ints) (L.map ints) (L.length : Int) (i : Int)) 0 := by
  induction d with
  | zero =>
    intro i hi
    refine Ev.step (fun k => ?_) (lists_l1 F L hL h1 h2 L.length 0 (by omega))
    simp only [galois_Tables_lists.l0]
    rw [if_neg (by omega), List.length_map]
    rfl
  | succ d ih =>
    intro i hi
    have hB := h1 _ (mem_getD (L := L) (d := []) (show i < L.length by omega))
    have c1 : (i : Int) < (L.length : Int) := by omega
    have c2 : (0 : Int) ≤ (i : Int) := by omega
    have c3 : (i : Int) < ((L.map ints).length : Int) := by rw [List.length_map]; omega
    have c4 : ¬ ((ints (L.getD i [])).length : Int) > 1024 := by rw [ints_length]; omega
    have ei : wrap64 ((i : Int) + 1) = ((i + 1 : Nat) : Int) := w64s (by omega)
    refine Ev.step (fun k => ?_) (ih (i + 1) (by clear ei; omega))
    simp only [galois_Tables_lists.l0]
    rw [if_pos c1, if_pos c2, if_pos c3, rd_L4_ints, if_neg c4, ei]
theorem lists_ok {m p : Nat} (F : Fi m p) (L : List (List Nat)) (hL : L.length ≤ 100) (h1 : ∀ B ∈ L, B.length ≤ 1024) (h2 : ∀ B ∈ L, ∀ x ∈ B, x < 2 ^ m) :
    Ev (fun k => galois_Tables_lists.f k (tab m p) (L.map ints)) 0 := by
  unfold galois_Tables_lists.f
  rw [none_f]
  simp only [Option.bind_some, Bool.false_eq_true, if_false]
  have := lists_l0 F L hL h1 h2 L.length 0 (by omega)
  rw [List.length_map]
  exact this
theorem eval_l {m p x : Nat} (F : Fi m p) (hx : x < 2 ^ m) (B : List Nat) (hB : ∀ y ∈ B, y < 2 ^ m) (lb : B.length ≤ 1000000) (d : Nat) : ∀ (i v : Nat), i + d = B.length → v < 2 ^ m →
    Ev (fun k => galois_Tables_eval.l0 k (tab m p) (x : Int) (v : Int) (ints B) (B.length : Int) (i : Int)) ((hvf p m x v (B.drop i) : Nat) : Int) := by
  have h256 := F.sz256
  induction d with
  | zero =>
    intro i v hi hv
    rw [List.drop_of_length_le (by omega)]
    refine Ev.step (f := fun _ => some (v : Int)) (fun k => ?_) (Ev.now _)
    simp only [galois_Tables_eval.l0]
    rw [if_neg (by omega)]
  | succ d ih =>
    intro i v hi hv
    have hy : B.getD i 0 < 2 ^ m := getD_lt' F.zero_lt hB i
    have lm := F.mu_lt (b := x) hv
    rw [drop_get (by omega), hvf]
    have c1 : (i : Int) < (B.length : Int) := by omega
    have c2 : (0 : Int) ≤ (i : Int) := by omega
    have c3 : (i : Int) < ((ints B).length : Int) := by rw [ints_length]; omega
    have c4 : 0 < (tab m p).size := by rw [tab_size]; have := F.sz8; omega
    have b1 : mu p m v x < 256 := by omega
    have b2 : B.getD i 0 < 256 := by omega
    have ei : wrap64 ((i : Int) + 1) = ((i + 1 : Nat) : Int) := w64s (by omega)
    refine Ev.step (fun k => ?_) (ih (i + 1) (mu p m v x ^^^ B.getD i 0) (by clear ei; omega) (Nat.xor_lt_two_pow lm hy))
    simp only [galois_Tables_eval.l0]
    rw [if_pos c1, if_pos c2, if_pos c3, if_pos c4, mulc_f F hv hx]
    simp only [Option.bind_some]
    rw [rd_ints, bxor8 _ _ b1 b2, ei]
theorem eval_f {m p x : Nat} (F : Fi m p) (hx : x < 2 ^ m) (B : List Nat) (hB : ∀ y ∈ B, y < 2 ^ m) (lb : B.length ≤ 1000000) :
    Ev (fun k => galois_Tables_eval.f k (tab m p) (ints B) (x : Int)) ((hv p m B x : Nat) : Int) := by
  unfold galois_Tables_eval.f
  rw [ints_length]
  exact eval_l F hx B hB lb B.length 0 0 (by omega) F.zero_lt
end Go.Proofs.Ytjdkamhnbheofaa.GalP
