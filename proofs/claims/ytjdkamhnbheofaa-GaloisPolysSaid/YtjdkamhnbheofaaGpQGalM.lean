/- Fields: the document's products (by the whole product and its rest; step by step) are the product of the field. -/
import Derived.Test.YtjdkamhnbheofaaGpQGalP
import Derived.Test.YtjdkamhnbheofaaGpQGalT
import Derived.Test.YtjdkamhnbheofaaGpPx16
import Derived.Test.YtjdkamhnbheofaaGpPx14
import Derived.Test.YtjdkamhnbheofaaGpPx7
import Derived.Laws.BitsAllLaws
set_option linter.unusedVariables false
set_option linter.unusedSimpArgs false
namespace Go.Proofs.Ytjdkamhnbheofaa.Gal
theorem xor_half (a b : Nat) : (a ^^^ b) / 2 = a / 2 ^^^ b / 2 := by
  have := Nat.shiftRight_xor_distrib (a := a) (b := b) (i := 1)
  simpa only [Nat.shiftRight_eq_div_pow, Nat.pow_one] using this
theorem xor_par (a b : Nat) : (a ^^^ b) % 2 = (a % 2) ^^^ (b % 2) := by
  have := Nat.xor_mod_two_pow (a := a) (b := b) (n := 1)
  simpa only [Nat.pow_one] using this
theorem two_xor_bit (q r : Nat) (h : r < 2) : 2 * q ^^^ r = 2 * q + r := by
  have h1 := xor_half (2 * q) r
  have h2 := xor_par (2 * q) r
  rw [show 2 * q / 2 = q by omega, show r / 2 = 0 by omega, Nat.xor_zero] at h1
  rw [show 2 * q % 2 = 0 by omega, show r % 2 = r by omega, Nat.zero_xor] at h2
  omega
/-- The rest of a polynomial of n bits. -/
def redn (P sz : Nat) : Nat → Nat → Nat
  | 0, _ => 0
  | n + 1, z => stp P sz (redn P sz n (z / 2)) ^^^ (z % 2)
/-- The whole product: n bits of x. -/
def cl : Nat → Nat → Nat → Nat
  | 0, _, _ => 0
  | n + 1, x, y => (if x % 2 = 1 then y else 0) ^^^ cl n (x / 2) (2 * y)
theorem cl_zero : ∀ n y, cl n 0 y = 0 := by
  intro n
  induction n with
  | zero => intro y; rfl
  | succ n ih => intro y; unfold cl; rw [Nat.zero_div, ih]; simp
theorem cl_grow (k : Nat) : ∀ n x y, x < 2 ^ n → cl (n + k) x y = cl n x y := by
  intro n
  induction n with
  | zero => intro x y h; have : x = 0 := by simpa using h
            subst this; rw [cl_zero, cl_zero]
  | succ n ih =>
    intro x y h
    rw [show n + 1 + k = (n + k) + 1 by omega]
    unfold cl
    rw [ih _ _ (by rw [Nat.pow_succ] at h; omega)]
theorem cl_lt (j : Nat) : ∀ n x y, y < 2 ^ j → cl n x y < 2 ^ (j + n) := by
  intro n
  induction n generalizing j with
  | zero => intro x y _; exact Nat.pow_pos (by omega)
  | succ n ih =>
    intro x y h
    unfold cl
    have h1 := ih (j + 1) (x / 2) (2 * y) (by rw [Nat.pow_succ]; omega)
    rw [show j + 1 + n = j + (n + 1) by omega] at h1
    refine Nat.xor_lt_two_pow ?_ h1
    split
    · exact Nat.lt_of_lt_of_le h (Nat.pow_le_pow_right (by omega) (by omega))
    · exact Nat.pow_pos (by omega)
namespace Fi
variable {M P : Nat} (F : Fi M P)
include F
theorem redn_lt : ∀ n z, redn P (2 ^ M) n z < 2 ^ M := by
  intro n
  induction n with
  | zero => intro z; exact F.zero_lt
  | succ n ih => intro z; exact Nat.xor_lt_two_pow (stp_lt F.lo F.hi (ih _)) (by have := F.sz8; omega)
theorem redn_zero : ∀ n, redn P (2 ^ M) n 0 = 0 := by
  have _ := F
  intro n
  induction n with
  | zero => rfl
  | succ n ih => unfold redn; rw [Nat.zero_div, ih, stp_zero]; rfl
theorem redn_xor : ∀ n a b, redn P (2 ^ M) n (a ^^^ b) = redn P (2 ^ M) n a ^^^ redn P (2 ^ M) n b := by
  intro n
  induction n with
  | zero => intro a b; simp [redn]
  | succ n ih => intro a b; simp only [redn]; rw [xor_half, xor_par, ih, stp_xor (F.redn_lt _ _) (F.redn_lt _ _), xor4]
theorem redn_two (n z : Nat) : redn P (2 ^ M) (n + 1) (2 * z) = stp P (2 ^ M) (redn P (2 ^ M) n z) := by
  have _ := F
  unfold redn
  rw [show 2 * z / 2 = z by omega, show 2 * z % 2 = 0 by omega, Nat.xor_zero]
  cases n <;> rfl
theorem redn_grow1 : ∀ n z, z < 2 ^ n → redn P (2 ^ M) (n + 1) z = redn P (2 ^ M) n z := by
  intro n
  induction n with
  | zero => intro z h; have : z = 0 := by simpa using h
            subst this; rw [F.redn_zero, F.redn_zero]
  | succ n ih =>
    intro z h
    rw [redn, ih _ (by rw [Nat.pow_succ] at h; omega)]
    rfl
theorem redn_grow (k : Nat) : ∀ n z, z < 2 ^ n → redn P (2 ^ M) (n + k) z = redn P (2 ^ M) n z := by
  intro n z h
  induction k with
  | zero => rfl
  | succ k ih => rw [← Nat.add_assoc, F.redn_grow1 _ _ (Nat.lt_of_lt_of_le h (Nat.pow_le_pow_right (by omega) (by omega))), ih]
theorem redn_low : ∀ n z, n ≤ M → z < 2 ^ n → redn P (2 ^ M) n z = z := by
  have _ := F
  intro n
  induction n with
  | zero => intro z _ h; have : z = 0 := by simpa using h
            subst this; rfl
  | succ n ih =>
    intro z hn h
    have h2 : 2 ^ (n + 1) ≤ 2 ^ M := Nat.pow_le_pow_right (by omega) hn
    rw [Nat.pow_succ] at h h2
    unfold redn
    rw [ih (z / 2) (by omega) (by omega)]
    unfold stp
    rw [if_neg (by omega), two_xor_bit _ _ (by omega)]
    omega
theorem redn_cl : ∀ n x y j N, y < 2 ^ j → j + n ≤ N → redn P (2 ^ M) N (cl n x y) = qm P (2 ^ M) n (redn P (2 ^ M) N y) x := by
  intro n
  induction n with
  | zero => intro x y j N _ _; exact F.redn_zero N
  | succ n ih =>
    intro x y j N hy hN
    unfold cl qm
    rw [F.redn_xor, ih (x / 2) (2 * y) (j + 1) N (by rw [Nat.pow_succ]; omega) (by omega)]
    obtain ⟨K, rfl⟩ : ∃ K, N = K + 1 := ⟨N - 1, by omega⟩
    rw [F.redn_two, F.redn_grow1 K y (Nat.lt_of_lt_of_le hy (Nat.pow_le_pow_right (by omega) (by omega)))]
    congr 1
    split
    · exact F.redn_grow1 K y (Nat.lt_of_lt_of_le hy (Nat.pow_le_pow_right (by omega) (by omega)))
    · exact F.redn_zero _
/-- The rest of the whole product is the product. -/
theorem redn_mu {x y : Nat} (hx : x < 2 ^ M) (hy : y < 2 ^ M) : redn P (2 ^ M) 128 (cl 64 x y) = mu P M x y := by
  have h8 := F.eight
  have e := cl_grow (64 - M) M x y hx
  rw [show M + (64 - M) = 64 by omega] at e
  rw [e, F.redn_cl M x y M 128 hy (by omega)]
  have e2 := F.redn_grow (128 - M) M y hy
  rw [show M + (128 - M) = 128 by omega] at e2
  rw [e2, F.redn_low M y (Nat.le_refl _) hy]
  exact F.mu_comm hy hx
end Fi
end Go.Proofs.Ytjdkamhnbheofaa.Gal
namespace Go.Proofs.Ytjdkamhnbheofaa.GalP
open Go.RowKit Go.Proofs.Ytjdkamhnbheofaa.P Go.Proofs.YtjdkamhnbheofaaW.PrintWords Go.Proofs.YtjdkamhnbheofaaW.PrintLast Go.Proofs.YtjdkamhnbheofaaW.PrintMore Go.Proofs.YtjdkamhnbheofaaW.Q
open Go.Proofs.Ytjdkamhnbheofaa.Gal
theorem shr64 (x n : Nat) (hn : n ≤ 64) : shr .u64 (x : Int) (n : Int) = ((x / 2 ^ n : Nat) : Int) := by
  unfold shr
  rw [show min (n : Int).toNat IntKind.u64.bits = n by simp [IntKind.bits]; omega]
  simp
theorem shl64 (x n : Nat) (hn : n ≤ 64) : shl .u64 (x : Int) (n : Int) = ((x * 2 ^ n % 18446744073709551616 : Nat) : Int) := by
  unfold shl
  rw [show min (n : Int).toNat IntKind.u64.bits = n by simp [IntKind.bits]; omega, IntKind.wrap_u64]
  simp
theorem ofInt_i64 (a : Nat) (ha : a < 9223372036854775808) : (BitVec.ofInt 64 (a : Int)).toNat = a := by
  rw [BitVec.ofInt_natCast, BitVec.toNat_ofNat]
  exact Nat.mod_eq_of_lt (by omega)
theorem xor_i64 (a b : Nat) (ha : a < 9223372036854775808) (hb : b < 9223372036854775808) : Go.bits .xor .i64 (a : Int) (b : Int) = ((a ^^^ b : Nat) : Int) := by
  have hx : a ^^^ b < 2 ^ 63 := Nat.xor_lt_two_pow (by omega) (by omega)
  show IntKind.i64.wrap ((BitVec.ofInt 64 (a : Int) ^^^ BitVec.ofInt 64 (b : Int)).toNat : Int) = _
  rw [BitVec.toNat_xor, ofInt_i64 a ha, ofInt_i64 b hb, IntKind.wrap_i64]
  generalize a ^^^ b = c at hx ⊢
  omega
theorem refBit (x i : Nat) (hx : x < 18446744073709551616) (hi : i ≤ 63) : r2_Bit.f (x : Int) (i : Int) = some ((x / 2 ^ i % 2 : Nat) : Int) := by
  unfold r2_Bit.f
  rw [wu64 (by omega) (by omega), if_pos (by omega), shr64 x i (by omega)]
  have h : x / 2 ^ i < 18446744073709551616 := Nat.lt_of_le_of_lt (Nat.div_le_self _ _) hx
  have := u64_and_nat (x / 2 ^ i) 1 h (by omega)
  rw [Nat.and_one_is_mod] at this
  exact congrArg some this
theorem refMul_l {x y : Nat} (hx : x < 256) (hy : y < 256) (d : Nat) : ∀ i lo : Nat, i + d = 64 → lo < 65536 →
    Ev (fun k => r2_Mul.l0 k (x : Int) (y : Int) 0 (lo : Int) (i : Int)) (0, ((lo ^^^ cl d (x / 2 ^ i) (y * 2 ^ i) : Nat) : Int)) := by
  induction d with
  | zero =>
    intro i lo hi hlo
    refine Ev.step (f := fun _ => some (0, (lo : Int))) (fun k => ?_) ?_
    · simp only [r2_Mul.l0]
      rw [if_neg (by omega)]
    · rw [show cl 0 (x / 2 ^ i) (y * 2 ^ i) = 0 from rfl, Nat.xor_zero]
      exact Ev.now _
  | succ d ih =>
    intro i lo hi hlo
    have hb := refBit x i (by omega) (by omega)
    have e1 : x / 2 ^ i / 2 = x / 2 ^ (i + 1) := by rw [Nat.pow_succ, Nat.div_div_eq_div_mul]
    have e2 : 2 * (y * 2 ^ i) = y * 2 ^ (i + 1) := by rw [Nat.pow_succ, Nat.mul_comm 2, Nat.mul_assoc]
    by_cases c : x / 2 ^ i % 2 = 1
    · have hi8 : i < 8 := by
        rcases Nat.lt_or_ge i 8 with h | h
        · exact h
        · have : 2 ^ 8 ≤ 2 ^ i := Nat.pow_le_pow_right (by omega) h
          rw [Nat.div_eq_of_lt (by omega)] at c
          omega
      have hs : y * 2 ^ i < 65536 := by
        have : 2 ^ i ≤ 2 ^ 7 := Nat.pow_le_pow_right (by omega) (by omega)
        have := Nat.mul_le_mul (show y ≤ 255 by omega) this
        omega
      have hx2 : lo ^^^ y * 2 ^ i < 65536 := Nat.xor_lt_two_pow (n := 16) hlo hs
      have hsh : shl .u64 (y : Int) (IntKind.u64.wrap (i : Int)) = ((y * 2 ^ i : Nat) : Int) := by
        rw [wu64 (by omega) (by omega), shl64 y i (by omega), Nat.mod_eq_of_lt (by omega)]
      have hlo2 : Go.bits .xor .u64 (lo : Int) (shl .u64 (y : Int) (IntKind.u64.wrap (i : Int))) = ((lo ^^^ y * 2 ^ i : Nat) : Int) := by
        rw [hsh, u64_xor_nat _ _ (by omega) (by omega)]
      have hhi : 0 < i → Go.bits .xor .u64 0 (shr .u64 (y : Int) (IntKind.u64.wrap (wrap64 (64 - (i : Int))))) = 0 := by
        intro h0
        rw [w64 (by omega) (by omega), wu64 (by omega) (by omega), show (64 - (i : Int)) = ((64 - i : Nat) : Int) by omega, shr64 y _ (by omega)]
        have : 2 ^ 8 ≤ 2 ^ (64 - i) := Nat.pow_le_pow_right (by omega) (by omega)
        rw [Nat.div_eq_of_lt (by omega)]
        rfl
      refine Ev.step (f := fun k => r2_Mul.l0 k (x : Int) (y : Int) 0 ((lo ^^^ y * 2 ^ i : Nat) : Int) ((i + 1 : Nat) : Int)) (fun k => ?_) ?_
      · simp only [r2_Mul.l0]
        rw [if_pos (by omega), hb]
        simp only [Option.bind_some]
        rw [if_pos (by rw [c]; rfl), if_pos (by rw [wu64 (by omega) (by omega)]; omega), w64s (by omega), hlo2]
        by_cases c0 : 0 < i
        · rw [if_pos (by omega), if_pos (by rw [w64 (by omega) (by omega), wu64 (by omega) (by omega)]; omega), hhi c0]
        · rw [if_neg (by omega)]
      · have := ih (i + 1) (lo ^^^ y * 2 ^ i) (by omega) hx2
        rw [cl, if_pos c, e1, e2, ← Nat.xor_assoc]
        exact this
    · refine Ev.step (f := fun k => r2_Mul.l0 k (x : Int) (y : Int) 0 (lo : Int) ((i + 1 : Nat) : Int)) (fun k => ?_) ?_
      · simp only [r2_Mul.l0]
        rw [if_pos (by omega), hb]
        simp only [Option.bind_some]
        rw [if_neg (by omega), w64s (by omega)]
      · have := ih (i + 1) lo (by omega) hlo
        rw [cl, if_neg c, e1, e2, Nat.zero_xor]
        exact this
theorem refMul {x y : Nat} (hx : x < 256) (hy : y < 256) : Ev (fun k => r2_Mul.f k (x : Int) (y : Int)) (0, ((cl 64 x y : Nat) : Int)) := by
  have := refMul_l hx hy 64 0 0 (by omega) (by omega)
  rw [Nat.pow_zero, Nat.div_one, Nat.mul_one, Nat.zero_xor] at this
  exact this
theorem refWhole_l {m p z : Nat} (F : Fi m p) (hz : z < 18446744073709551616) (d : Nat) : ∀ (n : Nat) (q : Int), n + d = 128 →
    ∃ q', Ev (fun k => r2_Whole.l0 k 0 (z : Int) (p : Int) q ((redn p (2 ^ m) n (z / 2 ^ (128 - n)) : Nat) : Int) (m : Int) (127 - (n : Int))) (q', ((redn p (2 ^ m) 128 z : Nat) : Int)) := by
  have h8 := F.eight
  have h3 := F.three
  have h256 := F.sz256
  have hp : p < 512 := by
    have h2 : 2 ^ (m + 1) ≤ 2 ^ 9 := Nat.pow_le_pow_right (by omega) (by omega)
    have := F.hi
    omega
  induction d with
  | zero =>
    intro n q hn
    obtain rfl : n = 128 := by omega
    refine ⟨q, Ev.step (f := fun _ => some (q, ((redn p (2 ^ m) 128 z : Nat) : Int))) (fun k => ?_) (Ev.now _)⟩
    simp only [r2_Whole.l0]
    rw [if_neg (by omega), Nat.sub_self, Nat.pow_zero, Nat.div_one]
  | succ d ih =>
    intro n q hn
    have hr := F.redn_lt n (z / 2 ^ (128 - n))
    obtain ⟨r, er⟩ : ∃ r, r = redn p (2 ^ m) n (z / 2 ^ (128 - n)) := ⟨_, rfl⟩
    rw [← er] at hr
    obtain ⟨b, eb⟩ : ∃ b, b = z / 2 ^ (127 - n) % 2 := ⟨_, rfl⟩
    have hb : b < 2 := by omega
    have enext : redn p (2 ^ m) (n + 1) (z / 2 ^ (128 - (n + 1))) = stp p (2 ^ m) r ^^^ b := by
      rw [redn, show 128 - (n + 1) = 127 - n by omega, Nat.div_div_eq_div_mul, ← Nat.pow_succ, show (127 - n).succ = 128 - n by omega, ← er, ← eb]
    have hu : Go.bits .or .u64 (IntKind.u64.wrap ((r : Int) * 2)) (b : Int) = ((2 * r + b : Nat) : Int) := by
      rw [wu64 (by omega) (by omega), show ((r : Int) * 2) = ((2 * r : Nat) : Int) by omega, u64_or_nat _ _ (by omega) (by omega)]
      congr 1
      have := Nat.two_pow_add_eq_or_of_lt (i := 1) (b := b) (by omega) r
      rw [Nat.pow_one] at this
      exact this.symm
    have hlt : 2 * r + b < 2 ^ (m + 1) := by rw [Nat.pow_succ]; omega
    have h2m : 2 ^ m = 2 * 2 ^ (m - 1) := by rw [← Nat.pow_succ']; congr 1; omega
    have hbit : (2 * r + b) / 2 ^ m % 2 = if 2 ^ m ≤ 2 * r then 1 else 0 := by
      rw [Nat.pow_succ] at hlt
      by_cases c : 2 ^ m ≤ 2 * r
      · rw [if_pos c, Nat.div_eq_of_lt_le (k := 1) (by omega) (by omega)]
      · rw [if_neg c, Nat.div_eq_of_lt (by omega)]
    have hst : (if 2 ^ m ≤ 2 * r then (2 * r + b) ^^^ p else 2 * r + b) = stp p (2 ^ m) r ^^^ b := by
      unfold stp
      rw [← two_xor_bit r b hb]
      split
      · rw [Nat.xor_assoc, Nat.xor_comm b, ← Nat.xor_assoc]
      · rfl
    have hj : ∀ q : Int, ∃ q', Ev (fun k => r2_Whole.j1 k 0 (z : Int) (p : Int) q (r : Int) (m : Int) (127 - (n : Int)) (b : Int)) (q', ((redn p (2 ^ m) 128 z : Nat) : Int)) := by
      intro q
      have hi : wrap64 (127 - (n : Int) - 1) = 127 - ((n + 1 : Nat) : Int) := by rw [w64 (by omega) (by omega)]; omega
      have hB := refBit (2 * r + b) m (by omega) (by omega)
      rw [hbit] at hB
      by_cases c : 2 ^ m ≤ 2 * r
      · rw [if_pos c] at hB hst
        obtain ⟨q', h⟩ := ih (n + 1) (Go.bits .or .u64 (IntKind.u64.wrap (q * 2)) 1) (by omega)
        rw [enext, ← hst] at h
        refine ⟨q', Ev.step (fun k => ?_) h⟩
        simp only [r2_Whole.j1]
        rw [if_neg (by omega), hu, hB]
        simp only [Option.bind_some]
        rw [if_pos (by rfl), hi, u64_xor_nat _ _ (by omega) (by omega)]
      · rw [if_neg c] at hB hst
        obtain ⟨q', h⟩ := ih (n + 1) (IntKind.u64.wrap (q * 2)) (by omega)
        rw [enext, ← hst] at h
        refine ⟨q', Ev.step (fun k => ?_) h⟩
        simp only [r2_Whole.j1]
        rw [if_neg (by omega), hu, hB]
        simp only [Option.bind_some]
        rw [if_neg (by decide), hi]
    obtain ⟨q', h⟩ := hj q
    refine ⟨q', Ev.step (f := fun k => r2_Whole.j1 k 0 (z : Int) (p : Int) q (r : Int) (m : Int) (127 - (n : Int)) (b : Int)) (fun k => ?_) h⟩
    simp only [r2_Whole.l0]
    rw [if_pos (by omega), ← er]
    by_cases c : 64 ≤ 127 - n
    · have hb0 : b = 0 := by
        have : 2 ^ 64 ≤ 2 ^ (127 - n) := Nat.pow_le_pow_right (by omega) c
        rw [eb, Nat.div_eq_of_lt (by omega)]
      rw [if_pos (by omega), w64 (by omega) (by omega), show 127 - (n : Int) - 64 = ((63 - n : Nat) : Int) by omega, show (0 : Int) = ((0 : Nat) : Int) from rfl, refBit 0 _ (by omega) (by omega), Nat.zero_div, hb0]
      rfl
    · rw [if_neg (by omega)]
      have := refBit z (127 - n) hz (by omega)
      rw [← eb] at this
      rw [show (127 : Int) - (n : Int) = ((127 - n : Nat) : Int) by omega, this]
      rfl
theorem refTimes {m p a b : Nat} (F : Fi m p) (ha : a < 2 ^ m) (hb : b < 2 ^ m) : Ev (fun k => r3_times.f k (m : Int) (p : Int) (a : Int) (b : Int)) ((mu p m a b : Nat) : Int) := by
  have h256 := F.sz256
  have h8 := F.eight
  have hp : p < 512 := by
    have h2 : 2 ^ (m + 1) ≤ 2 ^ 9 := Nat.pow_le_pow_right (by omega) (by omega)
    have := F.hi
    omega
  have hlo := F.lo
  have hsz := F.sz8
  have hc : cl 64 a b < 18446744073709551616 := by
    have e := cl_grow (64 - m) m a b ha
    rw [show m + (64 - m) = 64 by omega] at e
    rw [e]
    have h1 := cl_lt m m a b hb
    have h2 : 2 ^ (m + m) ≤ 2 ^ 16 := Nat.pow_le_pow_right (by omega) (by omega)
    omega
  have hl : Poly.blen p = m + 1 := Poly.blen_eq F.lo F.hi
  have hd := refDegree_f p (by omega)
  rw [hl, show ((m + 1 : Nat) : Int) - 1 = (m : Int) by omega] at hd
  obtain ⟨q, hw⟩ := refWhole_l F hc 128 0 0 (by omega)
  rw [show redn p (2 ^ m) 0 (cl 64 a b / 2 ^ (128 - 0)) = 0 from rfl, F.redn_mu ha hb] at hw
  have hlt := F.mu_lt (b := b) ha
  unfold r3_times.f r2_MulMod.f r2_Whole.f
  rw [wu64 (by omega) (by omega), wu64 (by omega) (by omega)]
  refine Ev.bind (ev_neg (by omega) (Ev.bind (refMul (by omega) (by omega)) (Ev.bind (Ev.bind hd hw) (Ev.now _)))) ?_
  exact ev_const (by
    show some (((mu p m a b : Nat) : Int) % 256) = _
    congr 1
    omega)
theorem quick_l {m p : Nat} (F : Fi m p) : ∀ (n b s x : Nat), n ≤ 8 → b < 2 ^ n → s < 2 ^ m → x < 2 ^ m →
    Ev (fun k => r3_quick.l0 k (b : Int) (s : Int) (x : Int) (m : Int) (p : Int)) ((s ^^^ qm p (2 ^ m) n x b : Nat) : Int) := by
  have h256 := F.sz256
  have hp : p < 512 := by
    have h2 : 2 ^ (m + 1) ≤ 2 ^ 9 := Nat.pow_le_pow_right (by omega) (by have := F.eight; omega)
    have := F.hi
    omega
  have stop : ∀ s : Nat, s < 2 ^ m → ∀ x : Nat, Ev (fun k => r3_quick.l0 k ((0 : Nat) : Int) (s : Int) (x : Int) (m : Int) (p : Int)) (s : Int) := by
    intro s hs x
    refine Ev.step (f := fun _ => some (s : Int)) (fun k => ?_) (Ev.now _)
    simp only [r3_quick.l0]
    rw [if_neg (by omega)]
    congr 1
    omega
  intro n
  induction n with
  | zero =>
    intro b s x _ hb hs hx
    have : b = 0 := by simpa using hb
    subst this
    rw [show qm p (2 ^ m) 0 x 0 = 0 from rfl, Nat.xor_zero]
    exact stop s hs x
  | succ n ih =>
    intro b s x hn hb hs hx
    rcases Nat.eq_zero_or_pos b with rfl | hb0
    · rw [qm_zero_right, Nat.xor_zero]
      exact stop s hs x
    have hb8 : b < 256 := Nat.lt_of_lt_of_le hb (Nat.pow_le_pow_right (n := 2) (by omega) (show n + 1 ≤ 8 from hn))
    have hst : stp p (2 ^ m) x < 2 ^ m := stp_lt F.lo F.hi hx
    have hb2 : b / 2 < 2 ^ n := by rw [Nat.pow_succ] at hb; omega
    have hsx : s ^^^ x < 2 ^ m := Nat.xor_lt_two_pow hs hx
    have c1 : (b : Int) > 0 := by omega
    have d1 : b % 2 = 1 → ((b % 2 : Nat) : Int) = 1 := by omega
    have d2 : ¬ b % 2 = 1 → ¬ ((b % 2 : Nat) : Int) = 1 := by omega
    have d3 : 2 ^ m ≤ 2 * x → ((2 * x : Nat) : Int) ≥ ((2 ^ m : Nat) : Int) := by omega
    have d4 : ¬ 2 ^ m ≤ 2 * x → ¬ ((2 * x : Nat) : Int) ≥ ((2 ^ m : Nat) : Int) := by omega
    have l1 : 2 * x < 9223372036854775808 := by omega
    have l2 : p < 9223372036854775808 := by omega
    have l3 : s < 9223372036854775808 := by omega
    have l4 : x < 9223372036854775808 := by omega
    have e2 : (Int.tdiv (b : Int) 2) % 256 = ((b / 2 : Nat) : Int) := by
      rw [show (2 : Int) = ((2 : Nat) : Int) from rfl, tdiv_nat]
      omega
    have e3 : Int.tmod (b : Int) 2 = ((b % 2 : Nat) : Int) := tmod_nat b 2
    have e4 : wrap64 (2 * (x : Int)) = ((2 * x : Nat) : Int) := by rw [w64 (by omega) (by omega)]; omega
    have e5 : wrap64 (p : Int) = (p : Int) := w64 (by omega) (by omega)
    have e6 : Go.bits .xor .i64 ((2 * x : Nat) : Int) (p : Int) = ((2 * x ^^^ p : Nat) : Int) := xor_i64 _ _ l1 l2
    have e7 : Go.bits .xor .i64 (s : Int) (x : Int) = ((s ^^^ x : Nat) : Int) := xor_i64 _ _ l3 l4
    refine Ev.step (f := fun k => r3_quick.l0 k ((b / 2 : Nat) : Int) ((s ^^^ (if b % 2 = 1 then x else 0) : Nat) : Int) ((stp p (2 ^ m) x : Nat) : Int) (m : Int) (p : Int)) (fun k => ?_) ?_
    · simp only [r3_quick.l0]
      rw [if_pos c1, e2, e3, e4, e5, e6, e7, Size_r F]
      simp only [Option.bind_some]
      unfold stp
      by_cases c : b % 2 = 1
      · rw [if_pos (d1 c), if_pos c]
        by_cases c2 : 2 ^ m ≤ 2 * x
        · rw [if_pos (d3 c2), if_pos c2]
        · rw [if_neg (d4 c2), if_neg c2]
      · rw [if_neg (d2 c), if_neg c, Nat.xor_zero]
        by_cases c2 : 2 ^ m ≤ 2 * x
        · rw [if_pos (d3 c2), if_pos c2]
        · rw [if_neg (d4 c2), if_neg c2]
    · rw [qm, ← Nat.xor_assoc]
      refine ih _ _ _ (Nat.le_of_succ_le hn) hb2 ?_ hst
      split
      · exact hsx
      · rw [Nat.xor_zero]; exact hs
theorem quick_f {m p a b : Nat} (F : Fi m p) (ha : a < 2 ^ m) (hb : b < 2 ^ m) : Ev (fun k => r3_quick.f k (m : Int) (p : Int) (a : Int) (b : Int)) ((mu p m a b : Nat) : Int) := by
  have h256 := F.sz256
  have := quick_l F m b 0 a F.eight hb F.zero_lt ha
  rw [Nat.zero_xor] at this
  unfold r3_quick.f
  rw [w64 (by omega) (by omega)]
  exact this
end Go.Proofs.Ytjdkamhnbheofaa.GalP
