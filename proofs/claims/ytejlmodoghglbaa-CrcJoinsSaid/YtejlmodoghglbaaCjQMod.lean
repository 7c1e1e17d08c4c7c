/- Polynomials over two elements modulo one of degree W: products, rests, powers. Plain numbers, no program in sight. -/
import Derived.Test.YtejlmodoghglbaaCjQGal
set_option linter.unusedVariables false
set_option linter.unusedSimpArgs false
namespace Go.Proofs.Ytejlmodoghglbaa.Mod
open Go.Proofs.Ytejlmodoghglbaa.Gal
theorem xor_half (a b : Nat) : (a ^^^ b) / 2 = a / 2 ^^^ b / 2 := by
  have := Nat.shiftRight_xor_distrib (a := a) (b := b) (i := 1)
  simpa only [Nat.shiftRight_eq_div_pow, Nat.pow_one] using this
theorem xor_par (a b : Nat) : (a ^^^ b) % 2 = (a % 2) ^^^ (b % 2) := by
  have := Nat.xor_mod_two_pow (a := a) (b := b) (n := 1)
  simpa only [Nat.pow_one] using this
theorem two_xor_bit (q r : Nat) (h : r < 2) : 2 * q ^^^ r = 2 * q + r := by
  have h1 := xor_half (2 * q) r
  have h2 := xor_par (2 * q) r
  rw [show 2 * q / 2 = q by omega, show r / 2 = 0 by omega, Nat.xor_zero] at h1
  rw [show 2 * q % 2 = 0 by omega, show r % 2 = r by omega, Nat.zero_xor] at h2
  omega
/-- The rest of a polynomial of n bits. -/
def redn (P sz : Nat) : Nat → Nat → Nat
  | 0, _ => 0
  | n + 1, z => stp P sz (redn P sz n (z / 2)) ^^^ (z % 2)
/-- The whole product: n bits of x. -/
def cl : Nat → Nat → Nat → Nat
  | 0, _, _ => 0
  | n + 1, x, y => (if x % 2 = 1 then y else 0) ^^^ cl n (x / 2) (2 * y)
theorem cl_zero : ∀ n y, cl n 0 y = 0 := by
  intro n
  induction n with
  | zero => intro y; rfl
  | succ n ih => intro y; unfold cl; rw [Nat.zero_div, ih]; simp
theorem cl_grow (k : Nat) : ∀ n x y, x < 2 ^ n → cl (n + k) x y = cl n x y := by
  intro n
  induction n with
  | zero => intro x y h; have : x = 0 := by simpa using h
            subst this; rw [cl_zero, cl_zero]
  | succ n ih =>
    intro x y h
    rw [show n + 1 + k = (n + k) + 1 by omega]
    unfold cl
    rw [ih _ _ (by rw [Nat.pow_succ] at h; omega)]
theorem cl_lt (j : Nat) : ∀ n x y, y < 2 ^ j → cl n x y < 2 ^ (j + n) := by
  intro n
  induction n generalizing j with
  | zero => intro x y _; exact Nat.pow_pos (by omega)
  | succ n ih =>
    intro x y h
    unfold cl
    have h1 := ih (j + 1) (x / 2) (2 * y) (by rw [Nat.pow_succ]; omega)
    rw [show j + 1 + n = j + (n + 1) by omega] at h1
    refine Nat.xor_lt_two_pow ?_ h1
    split
    · exact Nat.lt_of_lt_of_le h (Nat.pow_le_pow_right (by omega) (by omega))
    · exact Nat.pow_pos (by omega)
/-- A modulus of degree W. -/
structure Mo (W P : Nat) : Prop where
  pos : 1 ≤ W
  lo : 2 ^ W ≤ P
  hi : P < 2 ^ (W + 1)
/-- The product modulo P. -/
def mm (P W a b : Nat) : Nat := qm P (2 ^ W) W a b
/-- Powers modulo P. -/
def npow (P W a : Nat) : Nat → Nat
  | 0 => 1
  | n + 1 => mm P W (npow P W a n) a
namespace Mo
variable {W P : Nat} (F : Mo W P)
include F
theorem two_le : 2 ≤ 2 ^ W := Nat.pow_le_pow_right (n := 2) (by omega) F.pos
theorem zero_lt : 0 < 2 ^ W := by have := F.two_le; omega
theorem one_lt : 1 < 2 ^ W := by have := F.two_le; omega
theorem redn_lt : ∀ n z, redn P (2 ^ W) n z < 2 ^ W := by
  intro n
  induction n with
  | zero => intro z; exact F.zero_lt
  | succ n ih => intro z; exact Nat.xor_lt_two_pow (stp_lt F.lo F.hi (ih _)) (by have := F.two_le; omega)
theorem redn_zero : ∀ n, redn P (2 ^ W) n 0 = 0 := by
  have _ := F
  intro n
  induction n with
  | zero => rfl
  | succ n ih => unfold redn; rw [Nat.zero_div, ih, stp_zero]; rfl
theorem redn_xor : ∀ n a b, redn P (2 ^ W) n (a ^^^ b) = redn P (2 ^ W) n a ^^^ redn P (2 ^ W) n b := by
  intro n
  induction n with
  | zero => intro a b; simp [redn]
  | succ n ih => intro a b; simp only [redn]; rw [xor_half, xor_par, ih, stp_xor (F.redn_lt _ _) (F.redn_lt _ _), xor4]
theorem redn_two (n z : Nat) : redn P (2 ^ W) (n + 1) (2 * z) = stp P (2 ^ W) (redn P (2 ^ W) n z) := by
  have _ := F
  unfold redn
  rw [show 2 * z / 2 = z by omega, show 2 * z % 2 = 0 by omega, Nat.xor_zero]
  cases n <;> rfl
theorem redn_grow1 : ∀ n z, z < 2 ^ n → redn P (2 ^ W) (n + 1) z = redn P (2 ^ W) n z := by
  intro n
  induction n with
  | zero => intro z h; have : z = 0 := by simpa using h
            subst this; rw [F.redn_zero, F.redn_zero]
  | succ n ih =>
    intro z h
    rw [redn, ih _ (by rw [Nat.pow_succ] at h; omega)]
    rfl
theorem redn_grow (k : Nat) : ∀ n z, z < 2 ^ n → redn P (2 ^ W) (n + k) z = redn P (2 ^ W) n z := by
  intro n z h
  induction k with
  | zero => rfl
  | succ k ih => rw [← Nat.add_assoc, F.redn_grow1 _ _ (Nat.lt_of_lt_of_le h (Nat.pow_le_pow_right (by omega) (by omega))), ih]
theorem redn_low : ∀ n z, n ≤ W → z < 2 ^ n → redn P (2 ^ W) n z = z := by
  have _ := F
  intro n
  induction n with
  | zero => intro z _ h; have : z = 0 := by simpa using h
            subst this; rfl
  | succ n ih =>
    intro z hn h
    have h2 : 2 ^ (n + 1) ≤ 2 ^ W := Nat.pow_le_pow_right (by omega) hn
    rw [Nat.pow_succ] at h h2
    unfold redn
    rw [ih (z / 2) (by omega) (by omega)]
    unfold stp
    rw [if_neg (by omega), two_xor_bit _ _ (by omega)]
    omega
theorem redn_small {n z : Nat} (hn : W ≤ n) (h : z < 2 ^ W) : redn P (2 ^ W) n z = z := by
  have e := F.redn_grow (n - W) W z h
  rw [show W + (n - W) = n by omega] at e
  rw [e, F.redn_low W z (Nat.le_refl _) h]
/-- A multiple by a power of x leaves no rest. -/
theorem redn_self : ∀ j n, W + 1 + j ≤ n → redn P (2 ^ W) n (P * 2 ^ j) = 0 := by
  intro j
  induction j with
  | zero =>
    intro n hn
    rw [Nat.pow_zero, Nat.mul_one]
    have e := F.redn_grow (n - (W + 1)) (W + 1) P F.hi
    rw [show W + 1 + (n - (W + 1)) = n by omega] at e
    have h2 : 2 ^ W = 2 * 2 ^ (W - 1) := by rw [← Nat.pow_succ']; congr 1; have := F.pos; omega
    have hlo := F.lo
    have hhi := F.hi
    rw [Nat.pow_succ] at hhi
    rw [e, redn, F.redn_low W (P / 2) (Nat.le_refl _) (by omega)]
    unfold stp
    rw [if_pos (by omega), Nat.xor_assoc, Nat.xor_comm P, ← Nat.xor_assoc, two_xor_bit _ _ (Nat.mod_lt _ (by omega)), Nat.div_add_mod, Nat.xor_self]
  | succ j ih =>
    intro n hn
    obtain ⟨K, rfl⟩ : ∃ K, n = K + 1 := ⟨n - 1, by omega⟩
    rw [show P * 2 ^ (j + 1) = 2 * (P * 2 ^ j) by rw [Nat.pow_succ, ← Nat.mul_assoc, Nat.mul_comm], F.redn_two, ih K (by omega), stp_zero]
theorem redn_cl : ∀ n x y j N, y < 2 ^ j → j + n ≤ N → redn P (2 ^ W) N (cl n x y) = qm P (2 ^ W) n (redn P (2 ^ W) N y) x := by
  intro n
  induction n with
  | zero => intro x y j N _ _; exact F.redn_zero N
  | succ n ih =>
    intro x y j N hy hN
    unfold cl qm
    rw [F.redn_xor, ih (x / 2) (2 * y) (j + 1) N (by rw [Nat.pow_succ]; omega) (by omega)]
    obtain ⟨K, rfl⟩ : ∃ K, N = K + 1 := ⟨N - 1, by omega⟩
    rw [F.redn_two, F.redn_grow1 K y (Nat.lt_of_lt_of_le hy (Nat.pow_le_pow_right (by omega) (by omega)))]
    congr 1
    split
    · exact F.redn_grow1 K y (Nat.lt_of_lt_of_le hy (Nat.pow_le_pow_right (by omega) (by omega)))
    · exact F.redn_zero _
theorem mm_lt {a b : Nat} (ha : a < 2 ^ W) : mm P W a b < 2 ^ W := qm_lt F.lo F.hi W ha
theorem swap : ∀ n k a b c, a < 2 ^ W → qm P (2 ^ W) n (qm P (2 ^ W) k a b) c = qm P (2 ^ W) k (qm P (2 ^ W) n a c) b := by
  intro n
  induction n with
  | zero => intro k a b c _; exact (qm_zero_left k b).symm
  | succ n ih =>
    intro k a b c ha
    have hs := stp_lt F.lo F.hi ha
    simp only [qm]
    rw [← qm_stp F.lo F.hi k ha, ih k (stp P (2 ^ W) a) b (c / 2) hs, qm_add_left F.lo F.hi k (by split; exact ha; exact F.zero_lt) (qm_lt F.lo F.hi n hs)]
    congr 1
    split
    · rfl
    · exact (qm_zero_left k b).symm
theorem mm_one {a : Nat} (ha : a < 2 ^ W) : mm P W 1 a = a := have _ := F; qm_one ha
theorem mm_comm {a b : Nat} (ha : a < 2 ^ W) (hb : b < 2 ^ W) : mm P W a b = mm P W b a := by
  have h := F.swap W W 1 a b F.one_lt
  rw [qm_one ha, qm_one hb] at h
  exact h
theorem mm_assoc {a b c : Nat} (ha : a < 2 ^ W) (hb : b < 2 ^ W) (hc : c < 2 ^ W) : mm P W (mm P W a b) c = mm P W a (mm P W b c) := by
  rw [F.mm_comm ha (F.mm_lt hb), F.mm_comm ha hb]
  exact F.swap W W b a c hb
theorem mm_one' {a : Nat} (ha : a < 2 ^ W) : mm P W a 1 = a := by rw [F.mm_comm ha F.one_lt, F.mm_one ha]
/-- The rest of the whole product is the product. -/
theorem redn_mm {x y n N : Nat} (hx : x < 2 ^ W) (hy : y < 2 ^ W) (hn : W ≤ n) (hN : 2 * W ≤ N) : redn P (2 ^ W) N (cl n x y) = mm P W x y := by
  have e := cl_grow (n - W) W x y hx
  rw [show W + (n - W) = n by omega] at e
  rw [e, F.redn_cl W x y W N hy (by omega), F.redn_small (by omega) hy]
  exact F.mm_comm hy hx
theorem npow_lt {a : Nat} (ha : a < 2 ^ W) : ∀ n, npow P W a n < 2 ^ W := by
  intro n
  cases n with
  | zero => exact F.one_lt
  | succ n => exact F.mm_lt (npow_lt ha n)
theorem npow_add {a : Nat} (ha : a < 2 ^ W) (m : Nat) : ∀ n, npow P W a (m + n) = mm P W (npow P W a m) (npow P W a n) := by
  intro n
  induction n with
  | zero => exact (F.mm_one' (F.npow_lt ha m)).symm
  | succ n ih => rw [← Nat.add_assoc, npow, ih, npow, F.mm_assoc (F.npow_lt ha m) (F.npow_lt ha n) ha]
theorem npow_sq {a : Nat} (ha : a < 2 ^ W) : ∀ n, npow P W (mm P W a a) n = npow P W a (2 * n) := by
  intro n
  induction n with
  | zero => rfl
  | succ n ih =>
    rw [npow, ih, show 2 * (n + 1) = 2 * n + 1 + 1 by omega, npow, npow, F.mm_assoc (F.npow_lt ha _) ha ha]
end Mo
end Go.Proofs.Ytejlmodoghglbaa.Mod
