/- Products, rests and powers modulo a polynomial over two elements: of the program and of the document, in plain words (for moduli of degree 8 to 32). -/
import Derived.Test.YtejlmodoghglbaaCjQMod
import Derived.Test.YtejlmodoghglbaaCjPx15
import Derived.Test.YtejlmodoghglbaaCjPx17
import Derived.Test.YtejlmodoghglbaaCjQBase
import Derived.Test.YtejlmodoghglbaaCjQEv
import Derived.Laws.BitsAllLaws
set_option linter.unusedVariables false
set_option linter.unusedSimpArgs false
namespace Go.Proofs.Ytejlmodoghglbaa.ModP
open Go.RowKit Go.Proofs.Ytejlmodoghglbaa.P Go.Proofs.YtejlmodoghglbaaW.PrintWords Go.Proofs.YtejlmodoghglbaaW.PrintLast Go.Proofs.YtejlmodoghglbaaW.PrintMore Go.Proofs.YtejlmodoghglbaaW.Q
open Go.Proofs.Ytejlmodoghglbaa.Mod
open Go.Proofs.Ytejlmodoghglbaa.Gal (stp qm top_bit)
theorem ev_pos {α : Type} {c : Prop} [Decidable c] {a b : Nat → Option α} {r : α} (h : c) (k : Ev a r) : Ev (fun n => if c then a n else b n) r := Ev.congr (fun n => if_pos h) k
theorem ev_neg {α : Type} {c : Prop} [Decidable c] {a b : Nat → Option α} {r : α} (h : ¬ c) (k : Ev b r) : Ev (fun n => if c then a n else b n) r := Ev.congr (fun n => if_neg h) k
theorem ev_const {α : Type} {o : Option α} {a : α} (h : o = some a) : Ev (fun _ => o) a := ⟨0, fun _ _ => h⟩
theorem blen_half {x : Nat} (h : x ≠ 0) : Poly.blen x = Poly.blen (x / 2) + 1 := by
  by_cases c : x = 1
  · subst c; decide +kernel
  · have := Poly.blen_div (x := x) (s := 1) (by omega)
    rw [Nat.pow_one] at this
    omega
theorem blen64 {x : Nat} (h : x < 18446744073709551616) : Poly.blen x ≤ 64 := by
  by_cases c : x = 0
  · subst c; decide +kernel
  · rcases Nat.lt_or_ge 64 (Poly.blen x) with h1 | h1
    · have h2 := Poly.blen_le c
      have h3 : 2 ^ 64 ≤ 2 ^ (Poly.blen x - 1) := Nat.pow_le_pow_right (by omega) (by omega)
      omega
    · exact h1
theorem refDegree_l (b : Nat) : ∀ (x : Nat) (n : Int), Poly.blen x = b → -10 ≤ n → n + b ≤ 1000 → Ev (fun k => outpostref02_Degree.l0 k (x : Int) n) (n + b) := by
  induction b with
  | zero =>
    intro x n hb h1 h2
    have hx : x = 0 := by
      by_cases c : x = 0
      · exact c
      · have := Poly.blen_pos c; omega
    subst hx
    refine Ev.step (f := fun _ => some n) (fun k => ?_) ?_
    · simp only [outpostref02_Degree.l0]
      rw [if_pos (by rfl)]
    · have := Ev.now n
      simpa using this
  | succ b ih =>
    intro x n hb h1 h2
    have hx : x ≠ 0 := by
      intro c
      subst c
      exact absurd hb (by rw [show Poly.blen 0 = 0 by decide +kernel]; omega)
    have h3 := blen_half hx
    have h4 := ih (x / 2) (n + 1) (by omega) (by omega) (by omega)
    refine Ev.step (f := fun k => outpostref02_Degree.l0 k ((x / 2 : Nat) : Int) (n + 1)) (fun k => ?_) ?_
    · simp only [outpostref02_Degree.l0]
      rw [if_neg (by omega)]
      congr 1
      exact w64 (by omega) (by omega)
    · rw [show n + ((b + 1 : Nat) : Int) = n + 1 + (b : Int) by omega]
      exact h4
theorem refDegree_f (x : Nat) (h : x < 18446744073709551616) : Ev (fun k => outpostref02_Degree.f k (x : Int)) ((Poly.blen x : Int) - 1) := by
  have h1 := blen64 h
  have := refDegree_l (Poly.blen x) x (-1) rfl (by omega) (by omega)
  rw [show (Poly.blen x : Int) - 1 = -1 + (Poly.blen x : Int) by omega]
  exact this
theorem polyDegree_f (x : Nat) (h : x < 18446744073709551616) : poly_Degree.f (x : Int) = some ((Poly.blen x : Int) - 1) := by
  have h1 := blen64 h
  unfold poly_Degree.f bits_Len64.f
  rw [if_pos ⟨by omega, by omega⟩]
  simp only [Option.bind_some, Int.toNat_natCast]
  rw [w64 (by omega) (by omega)]
theorem shr64 (x n : Nat) (hn : n ≤ 64) : shr .u64 (x : Int) (n : Int) = ((x / 2 ^ n : Nat) : Int) := by
  unfold shr
  rw [show min (n : Int).toNat IntKind.u64.bits = n by simp [IntKind.bits]; omega]
  simp
theorem shl64 (x n : Nat) (hn : n ≤ 64) : shl .u64 (x : Int) (n : Int) = ((x * 2 ^ n % 18446744073709551616 : Nat) : Int) := by
  unfold shl
  rw [show min (n : Int).toNat IntKind.u64.bits = n by simp [IntKind.bits]; omega, IntKind.wrap_u64]
  simp
theorem bit64 (x i : Nat) (hx : x < 18446744073709551616) (hi : i ≤ 64) : Go.bits .and .u64 (shr .u64 (x : Int) (i : Int)) 1 = ((x / 2 ^ i % 2 : Nat) : Int) := by
  rw [shr64 x i hi]
  have h : x / 2 ^ i < 18446744073709551616 := Nat.lt_of_le_of_lt (Nat.div_le_self _ _) hx
  have := u64_and_nat (x / 2 ^ i) 1 h (by omega)
  rw [Nat.and_one_is_mod] at this
  exact this
theorem refBit (x i : Nat) (hx : x < 18446744073709551616) (hi : i ≤ 63) : outpostref02_Bit.f (x : Int) (i : Int) = some ((x / 2 ^ i % 2 : Nat) : Int) := by
  unfold outpostref02_Bit.f
  rw [wu64 (by omega) (by omega), if_pos (by omega), bit64 x i hx (by omega)]
theorem p32 {i : Nat} (h : i < 32) : 2 ^ i ≤ 2147483648 := by
  have : 2 ^ i ≤ 2 ^ 31 := Nat.pow_le_pow_right (by omega) (by omega)
  omega
theorem bit_lt {x i : Nat} (hx : x < 4294967296) (c : x / 2 ^ i % 2 = 1) : i < 32 := by
  rcases Nat.lt_or_ge i 32 with h | h
  · exact h
  · have : 2 ^ 32 ≤ 2 ^ i := Nat.pow_le_pow_right (by omega) h
    rw [Nat.div_eq_of_lt (by omega)] at c
    omega
theorem word_step {y lo i : Nat} (hy : y < 4294967296) (hlo : lo < 18446744073709551616) (hi : i < 32) :
    Go.bits .xor .u64 (lo : Int) (shl .u64 (y : Int) (i : Int)) = ((lo ^^^ y * 2 ^ i : Nat) : Int) ∧ lo ^^^ y * 2 ^ i < 18446744073709551616 ∧ (0 < i → Go.bits .xor .u64 0 (shr .u64 (y : Int) ((64 - i : Nat) : Int)) = 0) := by
  have hs : y * 2 ^ i < 18446744073709551616 := by
    have := Nat.mul_le_mul (show y ≤ 4294967295 by omega) (p32 hi)
    omega
  refine ⟨?_, Nat.xor_lt_two_pow (n := 64) hlo hs, fun h0 => ?_⟩
  · rw [shl64 y i (by omega), Nat.mod_eq_of_lt hs, u64_xor_nat _ _ hlo hs]
  · rw [shr64 y _ (by omega)]
    have : 2 ^ 32 ≤ 2 ^ (64 - i) := Nat.pow_le_pow_right (by omega) (by omega)
    rw [Nat.div_eq_of_lt (by omega)]
    rfl
theorem half_pow (x i : Nat) : x / 2 ^ i / 2 = x / 2 ^ (i + 1) := by rw [Nat.pow_succ, Nat.div_div_eq_div_mul]
theorem two_pow_mul (y i : Nat) : 2 * (y * 2 ^ i) = y * 2 ^ (i + 1) := by rw [Nat.pow_succ, Nat.mul_comm 2, Nat.mul_assoc]
theorem refMul_l {x y : Nat} (hx : x < 4294967296) (hy : y < 4294967296) (d : Nat) : ∀ i lo : Nat, i + d = 64 → lo < 18446744073709551616 →
    Ev (fun k => outpostref02_Mul.l0 k (x : Int) (y : Int) 0 (lo : Int) (i : Int)) (0, ((lo ^^^ cl d (x / 2 ^ i) (y * 2 ^ i) : Nat) : Int)) := by
  induction d with
  | zero =>
    intro i lo hi hlo
    refine Ev.step (f := fun _ => some (0, (lo : Int))) (fun k => ?_) ?_
    · simp only [outpostref02_Mul.l0]
      rw [if_neg (by omega)]
    · rw [show cl 0 (x / 2 ^ i) (y * 2 ^ i) = 0 from rfl, Nat.xor_zero]
      exact Ev.now _
  | succ d ih =>
    intro i lo hi hlo
    have hb := refBit x i (by omega) (by omega)
    have c0 : (i : Int) < 64 := by omega
    have ei : wrap64 ((i : Int) + 1) = ((i + 1 : Nat) : Int) := w64s (by omega)
    have eu : IntKind.u64.wrap (i : Int) = (i : Int) := wu64 (by omega) (by omega)
    by_cases c : x / 2 ^ i % 2 = 1
    · have hi8 := bit_lt hx c
      obtain ⟨s1, s2, s3⟩ := word_step hy hlo hi8
      have c1 : ((x / 2 ^ i % 2 : Nat) : Int) = 1 := by clear ei eu s1; omega
      have c2 : (0 : Int) ≤ (i : Int) := by clear ei eu s1; omega
      have em : IntKind.u64.wrap (wrap64 (64 - (i : Int))) = ((64 - i : Nat) : Int) := by clear ei eu s1; rw [w64 (by omega) (by omega), wu64 (by omega) (by omega)]; omega
      have c3 : (0 : Int) ≤ ((64 - i : Nat) : Int) := by clear ei eu s1 em; omega
      refine Ev.step (f := fun k => outpostref02_Mul.l0 k (x : Int) (y : Int) 0 ((lo ^^^ y * 2 ^ i : Nat) : Int) ((i + 1 : Nat) : Int)) (fun k => ?_) ?_
      · simp only [outpostref02_Mul.l0]
        rw [if_pos c0, hb]
        simp only [Option.bind_some]
        rw [if_pos c1, eu, if_pos c2, ei, s1]
        by_cases z : 0 < i
        · rw [if_pos (by clear ei eu s1 em; omega), em, if_pos c3, s3 z]
        · rw [if_neg (by clear ei eu s1 em; omega)]
      · have := ih (i + 1) (lo ^^^ y * 2 ^ i) (by clear ei eu s1 em; omega) s2
        rw [cl, if_pos c, half_pow, two_pow_mul, ← Nat.xor_assoc]
        exact this
    · have c1 : ¬ ((x / 2 ^ i % 2 : Nat) : Int) = 1 := by clear ei eu; omega
      refine Ev.step (f := fun k => outpostref02_Mul.l0 k (x : Int) (y : Int) 0 (lo : Int) ((i + 1 : Nat) : Int)) (fun k => ?_) ?_
      · simp only [outpostref02_Mul.l0]
        rw [if_pos c0, hb]
        simp only [Option.bind_some]
        rw [if_neg c1, ei]
      · have := ih (i + 1) lo (by clear ei eu; omega) hlo
        rw [cl, if_neg c, half_pow, two_pow_mul, Nat.zero_xor]
        exact this
theorem refMul {x y : Nat} (hx : x < 4294967296) (hy : y < 4294967296) : Ev (fun k => outpostref02_Mul.f k (x : Int) (y : Int)) (0, ((cl 64 x y : Nat) : Int)) := by
  have := refMul_l hx hy 64 0 0 (by omega) (by omega)
  rw [Nat.pow_zero, Nat.div_one, Nat.mul_one, Nat.zero_xor] at this
  exact this
theorem polyMul_l {x y : Nat} (hx : x < 4294967296) (hy : y < 4294967296) (d : Nat) : ∀ i lo : Nat, i + d = 64 → lo < 18446744073709551616 →
    Ev (fun k => poly_Mul.l0 k (x : Int) (y : Int) 0 (lo : Int) (i : Int)) (0, ((lo ^^^ cl d (x / 2 ^ i) (y * 2 ^ i) : Nat) : Int)) := by
  induction d with
  | zero =>
    intro i lo hi hlo
    refine Ev.step (f := fun _ => some (0, (lo : Int))) (fun k => ?_) ?_
    · simp only [poly_Mul.l0]
      rw [if_neg (by omega)]
    · rw [show cl 0 (x / 2 ^ i) (y * 2 ^ i) = 0 from rfl, Nat.xor_zero]
      exact Ev.now _
  | succ d ih =>
    intro i lo hi hlo
    have hb := bit64 x i (by omega) (by omega)
    have c0 : (i : Int) < 64 := by clear hb; omega
    have c2 : (0 : Int) ≤ (i : Int) := by clear hb; omega
    have ei : wrap64 ((i : Int) + 1) = ((i + 1 : Nat) : Int) := w64s (by clear hb; omega)
    by_cases c : x / 2 ^ i % 2 = 1
    · have hi8 := bit_lt hx c
      obtain ⟨s1, s2, s3⟩ := word_step hy hlo hi8
      have c1 : ¬ ((x / 2 ^ i % 2 : Nat) : Int) = 0 := by clear hb ei s1; omega
      have em : wrap64 (64 - (i : Int)) = ((64 - i : Nat) : Int) := by clear hb ei s1; rw [w64 (by omega) (by omega)]; omega
      have c3 : (0 : Int) ≤ ((64 - i : Nat) : Int) := by clear hb ei s1 em; omega
      have s4 : Go.bits .xor .u64 0 (shr .u64 (y : Int) ((64 - i : Nat) : Int)) = 0 := by
        by_cases z : 0 < i
        · exact s3 z
        · have hz : i = 0 := by clear hb ei s1 em; omega
          rw [hz, shr64 y (64 - 0) (by omega), Nat.div_eq_of_lt (by omega)]
          rfl
      refine Ev.step (f := fun k => poly_Mul.l0 k (x : Int) (y : Int) 0 ((lo ^^^ y * 2 ^ i : Nat) : Int) ((i + 1 : Nat) : Int)) (fun k => ?_) ?_
      · simp only [poly_Mul.l0]
        rw [if_pos c0, if_pos c2, hb, if_neg c1, em, if_pos c3, s4, s1, ei]
      · have := ih (i + 1) (lo ^^^ y * 2 ^ i) (by clear hb ei s1 em s4; omega) s2
        rw [cl, if_pos c, half_pow, two_pow_mul, ← Nat.xor_assoc]
        exact this
    · have c1 : ((x / 2 ^ i % 2 : Nat) : Int) = 0 := by clear hb ei; omega
      refine Ev.step (f := fun k => poly_Mul.l0 k (x : Int) (y : Int) 0 (lo : Int) ((i + 1 : Nat) : Int)) (fun k => ?_) ?_
      · simp only [poly_Mul.l0]
        rw [if_pos c0, if_pos c2, hb, if_pos c1, ei]
      · have := ih (i + 1) lo (by clear hb ei; omega) hlo
        rw [cl, if_neg c, half_pow, two_pow_mul, Nat.zero_xor]
        exact this
theorem polyMul {x y : Nat} (hx : x < 4294967296) (hy : y < 4294967296) : Ev (fun k => poly_Mul.f k (x : Int) (y : Int)) (0, ((cl 64 x y : Nat) : Int)) := by
  have := polyMul_l hx hy 64 0 0 (by omega) (by omega)
  rw [Nat.pow_zero, Nat.div_one, Nat.mul_one, Nat.zero_xor] at this
  exact this
theorem top_gone {a b i : Nat} (a1 : 2 ^ i ≤ a) (a2 : a < 2 ^ (i + 1)) (b1 : 2 ^ i ≤ b) (b2 : b < 2 ^ (i + 1)) : a ^^^ b < 2 ^ i := by
  rcases Nat.lt_or_ge (a ^^^ b) (2 ^ i) with h | h
  · exact h
  · have := (top_bit (Nat.xor_lt_two_pow a2 b2)).1 h
    rw [Nat.testBit_xor, (top_bit a2).1 a1, (top_bit b2).1 b1] at this
    cases this
theorem polyLong_l1 {W P : Nat} (F : Mo W P) (hW : W ≤ 32) (j : Nat) : ∀ (lo : Nat) (q : Int), j ≤ 64 → lo < 2 ^ j →
    ∃ q', Ev (fun k => poly_long.l1 k (lo : Int) (P : Int) q (W : Int) ((j : Int) - 1)) (q', ((redn P (2 ^ W) 64 lo : Nat) : Int)) := by
  induction j with
  | zero =>
    intro lo q _ hlo
    have h0 : lo = 0 := by simpa using hlo
    subst h0
    refine ⟨q, Ev.step (f := fun _ => some (q, 0)) (fun k => ?_) (by rw [F.redn_zero]; exact Ev.now _)⟩
    simp only [poly_long.l1]
    rw [if_neg (by omega)]
    rfl
  | succ i ih =>
    intro lo q hj hlo
    have e0 : ((i + 1 : Nat) : Int) - 1 = (i : Int) := by omega
    have h64 : 2 ^ (i + 1) ≤ 2 ^ 64 := Nat.pow_le_pow_right (by omega) hj
    have hlo64 : lo < 18446744073709551616 := by omega
    rw [e0]
    by_cases c : W ≤ i
    · have c0 : (i : Int) ≥ (W : Int) := by omega
      have c2 : (0 : Int) ≤ (i : Int) := by omega
      have ei : wrap64 ((i : Int) - 1) = (i : Int) - 1 := w64 (by omega) (by omega)
      have hb := bit64 lo i hlo64 (by clear ei; omega)
      by_cases z : 2 ^ i ≤ lo
      · have hbit : lo / 2 ^ i % 2 = 1 := by
          rw [Nat.div_eq_of_lt_le (k := 1) (by rw [Nat.one_mul]; exact z) (by rw [Nat.pow_succ] at hlo; clear ei hb; omega)]
        have ew : wrap64 ((i : Int) - (W : Int)) = ((i - W : Nat) : Int) := by clear ei hb; rw [w64 (by omega) (by omega)]; omega
        have c3 : (0 : Int) ≤ ((i - W : Nat) : Int) := by clear ei hb ew; omega
        have hp1 : 2 ^ i ≤ P * 2 ^ (i - W) := by
          have := Nat.mul_le_mul_right (2 ^ (i - W)) F.lo
          rwa [← Nat.pow_add, show W + (i - W) = i by clear ei hb ew; omega] at this
        have hp2 : P * 2 ^ (i - W) < 2 ^ (i + 1) := by
          have := Nat.mul_lt_mul_of_pos_right F.hi (Nat.pow_pos (n := i - W) (show 0 < 2 by omega))
          rwa [← Nat.pow_add, show W + 1 + (i - W) = i + 1 by clear ei hb ew; omega] at this
        have hp3 : P * 2 ^ (i - W) < 18446744073709551616 := by clear ei hb ew; omega
        have hx := top_gone z hlo hp1 hp2
        have er : redn P (2 ^ W) 64 (lo ^^^ P * 2 ^ (i - W)) = redn P (2 ^ W) 64 lo := by
          rw [F.redn_xor, F.redn_self (i - W) 64 (by clear ei hb ew; omega), Nat.xor_zero]
        have es : Go.bits .xor .u64 (lo : Int) (shl .u64 (P : Int) ((i - W : Nat) : Int)) = ((lo ^^^ P * 2 ^ (i - W) : Nat) : Int) := by
          rw [shl64 P (i - W) (by clear ei hb ew; omega), Nat.mod_eq_of_lt hp3, u64_xor_nat _ _ hlo64 hp3]
        obtain ⟨q', h⟩ := ih (lo ^^^ P * 2 ^ (i - W)) (Go.bits .or .u64 q (shl .u64 1 ((i - W : Nat) : Int))) (by clear ei hb ew es; omega) hx
        rw [er] at h
        refine ⟨q', Ev.step (fun k => ?_) h⟩
        simp only [poly_long.l1]
        rw [if_pos c0, if_pos c2, hb, hbit, if_neg (by decide), ew, if_pos c3, es, ei]
      · have hbit : lo / 2 ^ i % 2 = 0 := by rw [Nat.div_eq_of_lt (by clear ei hb; omega)]
        obtain ⟨q', h⟩ := ih lo q (by clear ei hb; omega) (by clear ei hb; omega)
        refine ⟨q', Ev.step (fun k => ?_) h⟩
        simp only [poly_long.l1]
        rw [if_pos c0, if_pos c2, hb, hbit, if_pos (by rfl), ei]
    · have hs : lo < 2 ^ W := Nat.lt_of_lt_of_le hlo (Nat.pow_le_pow_right (by omega) (by omega))
      refine ⟨q, Ev.step (f := fun _ => some (q, (lo : Int))) (fun k => ?_) (by rw [F.redn_small (by omega) hs]; exact Ev.now _)⟩
      simp only [poly_long.l1]
      rw [if_neg (by omega)]
theorem mo_lt {W P : Nat} (F : Mo W P) (hW : W ≤ 32) : P < 8589934592 ∧ 2 ^ W ≤ 4294967296 := by
  have h1 : 2 ^ (W + 1) ≤ 2 ^ 33 := Nat.pow_le_pow_right (by omega) (by omega)
  have h2 : 2 ^ W ≤ 2 ^ 32 := Nat.pow_le_pow_right (by omega) hW
  have := F.hi
  omega
theorem polyLong {W P : Nat} (F : Mo W P) (hW : W ≤ 32) {lo : Nat} (hlo : lo < 18446744073709551616) :
    ∃ q', Ev (fun k => poly_long.f k 0 (lo : Int) (P : Int)) (q', ((redn P (2 ^ W) 64 lo : Nat) : Int)) := by
  have hp := (mo_lt F hW).1
  have hl : Poly.blen P = W + 1 := Poly.blen_eq F.lo F.hi
  have d1 := polyDegree_f P (by omega)
  rw [hl] at d1
  have d2 := polyDegree_f 0 (by omega)
  rw [show Poly.blen 0 = 0 by decide +kernel] at d2
  have d3 := polyDegree_f lo hlo
  obtain ⟨q', h⟩ := polyLong_l1 F hW (Poly.blen lo) lo 0 (blen64 hlo) Poly.blen_lt
  have eW : ((W + 1 : Nat) : Int) - 1 = (W : Int) := by omega
  rw [eW] at d1
  refine ⟨q', ?_⟩
  unfold poly_long.f
  refine Ev.bind (ev_const d1) (Ev.bind (ev_const d2) (Ev.step (f := fun k => (poly_Degree.f (lo : Int)).bind fun t => poly_long.l1 k (lo : Int) (P : Int) 0 (W : Int) t) (fun k => ?_) (Ev.bind (ev_const d3) h)))
  simp only [poly_long.l0]
  rw [if_neg (by decide)]
theorem polyMulMod {W P a b : Nat} (F : Mo W P) (hW : W ≤ 32) (ha : a < 2 ^ W) (hb : b < 2 ^ W) : Ev (fun k => poly_MulMod.f k (a : Int) (b : Int) (P : Int)) (((mm P W a b : Nat) : Int), 0) := by
  obtain ⟨hp, h32⟩ := mo_lt F hW
  have hlo := F.lo
  have hz := F.zero_lt
  have hc : cl 64 a b < 18446744073709551616 := by
    have e := cl_grow (64 - W) W a b ha
    rw [show W + (64 - W) = 64 by omega] at e
    rw [e]
    have h1 := cl_lt W W a b hb
    have h2 : 2 ^ (W + W) ≤ 2 ^ 64 := Nat.pow_le_pow_right (by omega) (by omega)
    omega
  obtain ⟨q, h⟩ := polyLong F hW hc
  rw [F.redn_mm ha hb (by omega) (by omega)] at h
  unfold poly_MulMod.f
  exact ev_neg (by omega) (Ev.bind (polyMul (by omega) (by omega)) (Ev.bind h (Ev.now _)))
theorem refWhole_l {W P z : Nat} (F : Mo W P) (hW : W ≤ 32) (hz : z < 18446744073709551616) (d : Nat) : ∀ (n : Nat) (q : Int), n + d = 128 →
    ∃ q', Ev (fun k => outpostref02_Whole.l0 k 0 (z : Int) (P : Int) q ((redn P (2 ^ W) n (z / 2 ^ (128 - n)) : Nat) : Int) (W : Int) (127 - (n : Int))) (q', ((redn P (2 ^ W) 128 z : Nat) : Int)) := by
  obtain ⟨hp, h32⟩ := mo_lt F hW
  have h3 := F.pos
  induction d with
  | zero =>
    intro n q hn
    obtain rfl : n = 128 := by omega
    refine ⟨q, Ev.step (f := fun _ => some (q, ((redn P (2 ^ W) 128 z : Nat) : Int))) (fun k => ?_) (Ev.now _)⟩
    simp only [outpostref02_Whole.l0]
    rw [if_neg (by omega), Nat.sub_self, Nat.pow_zero, Nat.div_one]
  | succ d ih =>
    intro n q hn
    have hr := F.redn_lt n (z / 2 ^ (128 - n))
    obtain ⟨r, er⟩ : ∃ r, r = redn P (2 ^ W) n (z / 2 ^ (128 - n)) := ⟨_, rfl⟩
    rw [← er] at hr
    obtain ⟨b, eb⟩ : ∃ b, b = z / 2 ^ (127 - n) % 2 := ⟨_, rfl⟩
    have hb : b < 2 := by omega
    have enext : redn P (2 ^ W) (n + 1) (z / 2 ^ (128 - (n + 1))) = stp P (2 ^ W) r ^^^ b := by
      rw [redn, show 128 - (n + 1) = 127 - n by omega, Nat.div_div_eq_div_mul, ← Nat.pow_succ, show (127 - n).succ = 128 - n by omega, ← er, ← eb]
    have hu : Go.bits .or .u64 (IntKind.u64.wrap ((r : Int) * 2)) (b : Int) = ((2 * r + b : Nat) : Int) := by
      rw [wu64 (by omega) (by omega), show ((r : Int) * 2) = ((2 * r : Nat) : Int) by omega, u64_or_nat _ _ (by omega) (by omega)]
      congr 1
      have := Nat.two_pow_add_eq_or_of_lt (i := 1) (b := b) (by omega) r
      rw [Nat.pow_one] at this
      exact this.symm
    have HU := Aside0.mk hu
    clear hu
    have hlt : 2 * r + b < 2 ^ (W + 1) := by rw [Nat.pow_succ]; omega
    have h2m : 2 ^ W = 2 * 2 ^ (W - 1) := by rw [← Nat.pow_succ']; congr 1; omega
    have hbit : (2 * r + b) / 2 ^ W % 2 = if 2 ^ W ≤ 2 * r then 1 else 0 := by
      rw [Nat.pow_succ] at hlt
      by_cases c : 2 ^ W ≤ 2 * r
      · rw [if_pos c, Nat.div_eq_of_lt_le (k := 1) (by omega) (by omega)]
      · rw [if_neg c, Nat.div_eq_of_lt (by omega)]
    have hst : (if 2 ^ W ≤ 2 * r then (2 * r + b) ^^^ P else 2 * r + b) = stp P (2 ^ W) r ^^^ b := by
      unfold stp
      rw [← two_xor_bit r b hb]
      split
      · rw [Nat.xor_assoc, Nat.xor_comm b, ← Nat.xor_assoc]
      · rfl
    have hu64 : 2 * r + b < 18446744073709551616 := by omega
    have hp64 : P < 18446744073709551616 := by omega
    have hn1 : n + 1 + d = 128 := by omega
    have hW0 : ¬ (W : Int) = 0 := by omega
    have hW63 : W ≤ 63 := by omega
    have hj : ∀ q : Int, ∃ q', Ev (fun k => outpostref02_Whole.j1 k 0 (z : Int) (P : Int) q (r : Int) (W : Int) (127 - (n : Int)) (b : Int)) (q', ((redn P (2 ^ W) 128 z : Nat) : Int)) := by
      intro q
      have hi : wrap64 (127 - (n : Int) - 1) = 127 - ((n + 1 : Nat) : Int) := by rw [w64 (by omega) (by omega)]; omega
      have hB := refBit (2 * r + b) W hu64 hW63
      rw [hbit] at hB
      by_cases c : 2 ^ W ≤ 2 * r
      · rw [if_pos c] at hB hst
        obtain ⟨q', h⟩ := ih (n + 1) (Go.bits .or .u64 (IntKind.u64.wrap (q * 2)) 1) hn1
        rw [enext, ← hst] at h
        refine ⟨q', Ev.step (fun k => ?_) h⟩
        simp only [outpostref02_Whole.j1]
        rw [if_neg hW0, HU.out, hB]
        simp only [Option.bind_some]
        rw [if_pos (by rfl), hi, u64_xor_nat _ _ hu64 hp64]
      · rw [if_neg c] at hB hst
        obtain ⟨q', h⟩ := ih (n + 1) (IntKind.u64.wrap (q * 2)) hn1
        rw [enext, ← hst] at h
        refine ⟨q', Ev.step (fun k => ?_) h⟩
        simp only [outpostref02_Whole.j1]
        rw [if_neg hW0, HU.out, hB]
        simp only [Option.bind_some]
        rw [if_neg (by decide), hi]
    obtain ⟨q', h⟩ := hj q
    refine ⟨q', Ev.step (f := fun k => outpostref02_Whole.j1 k 0 (z : Int) (P : Int) q (r : Int) (W : Int) (127 - (n : Int)) (b : Int)) (fun k => ?_) h⟩
    simp only [outpostref02_Whole.l0]
    rw [if_pos (by omega), ← er]
    by_cases c : 64 ≤ 127 - n
    · have hb0 : b = 0 := by
        have : 2 ^ 64 ≤ 2 ^ (127 - n) := Nat.pow_le_pow_right (by omega) c
        rw [eb, Nat.div_eq_of_lt (by omega)]
      rw [if_pos (by omega), w64 (by omega) (by omega), show 127 - (n : Int) - 64 = ((63 - n : Nat) : Int) by omega, show (0 : Int) = ((0 : Nat) : Int) from rfl, refBit 0 _ (by omega) (by omega), Nat.zero_div, hb0]
      rfl
    · rw [if_neg (by omega)]
      have := refBit z (127 - n) hz (by omega)
      rw [← eb] at this
      rw [show (127 : Int) - (n : Int) = ((127 - n : Nat) : Int) by omega, this]
      rfl
theorem refWhole {W P : Nat} (F : Mo W P) (hW : W ≤ 32) {z : Nat} (hz : z < 18446744073709551616) :
    ∃ q', Ev (fun k => outpostref02_Whole.f k 0 (z : Int) (P : Int)) (q', ((redn P (2 ^ W) 128 z : Nat) : Int)) := by
  have hp := (mo_lt F hW).1
  have hl : Poly.blen P = W + 1 := Poly.blen_eq F.lo F.hi
  have hd := refDegree_f P (by omega)
  rw [hl, show ((W + 1 : Nat) : Int) - 1 = (W : Int) by omega] at hd
  obtain ⟨q, hw⟩ := refWhole_l F hW hz 128 0 0 (by omega)
  rw [show redn P (2 ^ W) 0 (z / 2 ^ (128 - 0)) = 0 from rfl] at hw
  refine ⟨q, ?_⟩
  unfold outpostref02_Whole.f
  exact Ev.bind hd hw
theorem refMulMod {W P a b : Nat} (F : Mo W P) (hW : W ≤ 32) (ha : a < 2 ^ W) (hb : b < 2 ^ W) : Ev (fun k => outpostref02_MulMod.f k (a : Int) (b : Int) (P : Int)) (((mm P W a b : Nat) : Int), 0) := by
  obtain ⟨hp, h32⟩ := mo_lt F hW
  have hlo := F.lo
  have hz := F.zero_lt
  have hc : cl 64 a b < 18446744073709551616 := by
    have e := cl_grow (64 - W) W a b ha
    rw [show W + (64 - W) = 64 by omega] at e
    rw [e]
    have h1 := cl_lt W W a b hb
    have h2 : 2 ^ (W + W) ≤ 2 ^ 64 := Nat.pow_le_pow_right (by omega) (by omega)
    omega
  obtain ⟨q, h⟩ := refWhole F hW hc
  rw [F.redn_mm ha hb (by omega) (by omega)] at h
  unfold outpostref02_MulMod.f
  exact ev_neg (by omega) (Ev.bind (refMul (by omega) (by omega)) (Ev.bind h (Ev.now _)))
theorem power_f {W P : Nat} (F : Mo W P) (hW : W ≤ 32) : ∀ (n o x : Nat), n < 18446744073709551616 → o < 2 ^ W → x < 2 ^ W →
    Ev (fun k => poly_power.l0 k (P : Int) (o : Int) (x : Int) (n : Int)) ((mm P W o (npow P W x n) : Nat) : Int) := by
  intro n
  induction n using Nat.strongRecOn with
  | _ n ih =>
    intro o x hn ho hx
    have h1 : ∀ a b : Nat, a < 2 ^ W → b < 2 ^ W → Ev (fun k => poly_PowMod_1.f k (P : Int) (a : Int) (b : Int)) ((mm P W a b : Nat) : Int) := by
      intro a b ha hb
      unfold poly_PowMod_1.f
      exact Ev.bind (polyMulMod F hW ha hb) (Ev.now _)
    have hxx := F.mm_lt (b := x) hx
    rcases Nat.eq_zero_or_pos n with rfl | h0
    · refine Ev.step (f := fun _ => some (o : Int)) (fun k => ?_) (by rw [show npow P W x 0 = 1 from rfl, F.mm_one' ho]; exact Ev.now _)
      simp only [poly_power.l0]
      rw [if_neg (by omega)]
    · have c0 : (n : Int) > 0 := by omega
      have e2 : (n : Int) / 2 = ((n / 2 : Nat) : Int) := by omega
      have hb : Go.bits .and .u64 (n : Int) 1 = ((n % 2 : Nat) : Int) := by
        have := u64_and_nat n 1 hn (by omega)
        rw [Nat.and_one_is_mod] at this
        exact this
      have hh : n / 2 < n := by clear hb; omega
      have hh2 : n / 2 < 18446744073709551616 := by clear hb; omega
      rcases Nat.mod_two_eq_zero_or_one n with c | c
      · have e : mm P W o (npow P W (mm P W x x) (n / 2)) = mm P W o (npow P W x n) := by
          rw [F.npow_sq hx, show 2 * (n / 2) = n by clear hb; omega]
        have h := ih (n / 2) hh o (mm P W x x) hh2 ho hxx
        rw [e] at h
        refine Ev.step (f := fun k => (poly_PowMod_1.f k (P : Int) (x : Int) (x : Int)).bind fun s => poly_power.l0 k (P : Int) (o : Int) s ((n / 2 : Nat) : Int)) (fun k => ?_) (Ev.bind (h1 x x hx hx) h)
        simp only [poly_power.l0]
        rw [if_pos c0, hb, c, if_pos (by rfl), e2]
      · have hox := F.mm_lt (b := x) ho
        have e : mm P W (mm P W o x) (npow P W (mm P W x x) (n / 2)) = mm P W o (npow P W x n) := by
          rw [F.npow_sq hx, F.mm_assoc ho hx (F.npow_lt hx _), F.mm_comm hx (F.npow_lt hx _)]
          rw [show mm P W (npow P W x (2 * (n / 2))) x = npow P W x (2 * (n / 2) + 1) from rfl, show 2 * (n / 2) + 1 = n by clear hb; omega]
        have h := ih (n / 2) hh (mm P W o x) (mm P W x x) hh2 hox hxx
        rw [e] at h
        refine Ev.step (f := fun k => (poly_PowMod_1.f k (P : Int) (o : Int) (x : Int)).bind fun t => (poly_PowMod_1.f k (P : Int) (x : Int) (x : Int)).bind fun s => poly_power.l0 k (P : Int) t s ((n / 2 : Nat) : Int)) (fun k => ?_) (Ev.bind (h1 o x ho hx) (Ev.bind (h1 x x hx hx) h))
        simp only [poly_power.l0]
        rw [if_pos c0, hb, c, if_neg (by decide), e2]
theorem polyPowMod {W P a n : Nat} (F : Mo W P) (hW : W ≤ 32) (ha : a < 2 ^ W) (hn : n < 18446744073709551616) : Ev (fun k => poly_PowMod.f k (a : Int) (n : Int) (P : Int)) (((npow P W a n : Nat) : Int), 0) := by
  have hlo := F.lo
  have hz := F.zero_lt
  obtain ⟨q, h⟩ := polyLong F hW (lo := 1) (by omega)
  rw [F.redn_small (by omega) F.one_lt] at h
  have hp := power_f F hW n 1 a hn F.one_lt ha
  rw [F.mm_one (F.npow_lt ha n)] at hp
  unfold poly_PowMod.f poly_rest.f
  exact ev_neg (by omega) (Ev.bind (Ev.bind h (Ev.now _)) (Ev.bind hp (Ev.now _)))
theorem refPowMod_l {W P a n : Nat} (F : Mo W P) (hW : W ≤ 32) (ha : a < 2 ^ W) (hn : n < 18446744073709551616) (j : Nat) : j ≤ 64 →
    Ev (fun k => outpostref02_PowMod.l0 k (a : Int) (n : Int) (P : Int) ((npow P W a (n / 2 ^ j) : Nat) : Int) ((j : Int) - 1)) (((npow P W a n : Nat) : Int), 0) := by
  induction j with
  | zero =>
    intro _
    rw [Nat.pow_zero, Nat.div_one]
    refine Ev.step (f := fun _ => some (((npow P W a n : Nat) : Int), 0)) (fun k => ?_) (Ev.now _)
    simp only [outpostref02_PowMod.l0]
    rw [if_neg (by omega)]
  | succ i ih =>
    intro hj
    have h := ih (by omega)
    have l1 := F.npow_lt ha (n / 2 ^ (i + 1))
    have l2 := F.mm_lt (b := npow P W a (n / 2 ^ (i + 1))) l1
    have hs := refMulMod F hW l1 l1
    have hB := refBit n i hn (by omega)
    have e0 : ((i + 1 : Nat) : Int) - 1 = (i : Int) := by omega
    have c0 : (i : Int) ≥ 0 := by omega
    have ei : wrap64 ((i : Int) - 1) = (i : Int) - 1 := w64 (by omega) (by omega)
    have hd : n / 2 ^ i = 2 * (n / 2 ^ (i + 1)) + n / 2 ^ i % 2 := by
      have := half_pow n i
      clear ei
      omega
    have esq : mm P W (npow P W a (n / 2 ^ (i + 1))) (npow P W a (n / 2 ^ (i + 1))) = npow P W a (2 * (n / 2 ^ (i + 1))) := by rw [← F.npow_add ha, Nat.two_mul]
    rw [e0]
    rcases Nat.mod_two_eq_zero_or_one (n / 2 ^ i) with c | c
    · rw [c, Nat.add_zero] at hd
      rw [esq, ← hd] at hs
      rw [c] at hB
      refine Ev.step (f := fun k => (outpostref02_MulMod.f k ((npow P W a (n / 2 ^ (i + 1)) : Nat) : Int) ((npow P W a (n / 2 ^ (i + 1)) : Nat) : Int) (P : Int)).bind fun t => outpostref02_PowMod.l0 k (a : Int) (n : Int) (P : Int) t.1 ((i : Int) - 1)) (fun k => ?_) (Ev.bind hs h)
      simp only [outpostref02_PowMod.l0]
      rw [if_pos c0, hB, ei]
      rfl
    · rw [c] at hd hB
      have hm := refMulMod F hW l2 ha
      have em : mm P W (mm P W (npow P W a (n / 2 ^ (i + 1))) (npow P W a (n / 2 ^ (i + 1)))) a = npow P W a (n / 2 ^ i) := by
        rw [esq, hd]
        rfl
      rw [em] at hm
      refine Ev.step (f := fun k => (outpostref02_MulMod.f k ((npow P W a (n / 2 ^ (i + 1)) : Nat) : Int) ((npow P W a (n / 2 ^ (i + 1)) : Nat) : Int) (P : Int)).bind fun t => (outpostref02_MulMod.f k t.1 (a : Int) (P : Int)).bind fun s => outpostref02_PowMod.l0 k (a : Int) (n : Int) (P : Int) s.1 ((i : Int) - 1)) (fun k => ?_) (Ev.bind hs (Ev.bind hm h))
      simp only [outpostref02_PowMod.l0]
      rw [if_pos c0, hB, ei]
      rfl
theorem refPowMod {W P a n : Nat} (F : Mo W P) (hW : W ≤ 32) (ha : a < 2 ^ W) (hn : n < 18446744073709551616) : Ev (fun k => outpostref02_PowMod.f k (a : Int) (n : Int) (P : Int)) (((npow P W a n : Nat) : Int), 0) := by
  have hlo := F.lo
  have hz := F.zero_lt
  obtain ⟨q, h⟩ := refWhole F hW (z := 1) (by omega)
  rw [F.redn_small (by omega) F.one_lt] at h
  have hl := refPowMod_l F hW ha hn 64 (by omega)
  rw [Nat.div_eq_of_lt (show n < 2 ^ 64 by omega)] at hl
  unfold outpostref02_PowMod.f
  exact ev_neg (by omega) (Ev.bind h hl)
end Go.Proofs.Ytejlmodoghglbaa.ModP
