/- Reedsol: the document's product and powers are the field's. -/
import Derived.Test.YtdhnjnkjhfomiaaRmQGalM
import Derived.Test.YtdhnjnkjhfomiaaRmQGalT
import Derived.Test.YtdhnjnkjhfomiaaRmPx10
set_option linter.unusedVariables false
set_option linter.unusedSimpArgs false
namespace Go.Proofs.Ytdhnjnkjhfomiaa.Gal
theorem two_top {a b i : Nat} (ha : a < 2 ^ (i + 1)) (hb : b < 2 ^ (i + 1)) (ha1 : 2 ^ i ≤ a) (hb1 : 2 ^ i ≤ b) : a ^^^ b < 2 ^ i := by
  have h1 : (a ^^^ b) < 2 ^ (i + 1) := Nat.xor_lt_two_pow ha hb
  have h2 : (a ^^^ b).testBit i = false := by rw [Nat.testBit_xor,(top_bit ha).1 ha1,(top_bit hb).1 hb1]; rfl
  by_cases c : 2 ^ i ≤ a ^^^ b
  · rw [(top_bit h1).1 c] at h2
    cases h2
  · omega
namespace Fi
variable {M P : Nat} (F : Fi M P)
include F
theorem redn_P (j : Nat) : redn P (2 ^ M) (M + 1 + j) (P * 2 ^ j) = 0 := by
  induction j with
  | zero =>
    have hlo := F.lo
    have hhi := F.hi
    have h8 := F.sz8
    rw [Nat.pow_succ] at hhi
    rw [Nat.pow_zero,Nat.mul_one,Nat.add_zero,redn,F.redn_low M (P / 2) (Nat.le_refl _) (by omega)]
    have he : 2 ^ M % 2 = 0 := by
      have h3 := F.three
      obtain ⟨k,hk⟩ : ∃ k,M = k + 1 := ⟨M - 1,by omega⟩
      rw [hk,Nat.pow_succ]
      omega
    unfold stp
    rw [if_pos (by omega),Nat.xor_assoc,Nat.xor_comm P,← Nat.xor_assoc,two_xor_bit _ _ (by omega),show 2 * (P / 2) + P % 2 = P by omega,Nat.xor_self]
  | succ j ih =>
    rw [show P * 2 ^ (j + 1) = 2 * (P * 2 ^ j) by rw [Nat.pow_succ,← Nat.mul_assoc,Nat.mul_comm],show M + 1 + (j + 1) = (M + 1 + j) + 1 by omega,F.redn_two,ih]
    unfold stp
    rw [if_neg (by have := F.sz8; omega)]
end Fi
end Go.Proofs.Ytdhnjnkjhfomiaa.Gal
namespace Go.Proofs.Ytdhnjnkjhfomiaa.GalP
open Go.RowKit P YtdhnjnkjhfomiaaW.PrintWords YtdhnjnkjhfomiaaW.PrintLast YtdhnjnkjhfomiaaW.PrintMore YtdhnjnkjhfomiaaW.Q
open Gal
theorem bit_and (x i : Nat) (hx : x < 18446744073709551616) (hi : i ≤ 63) : Go.bits .and .u64 (shr .u64 (x : Int) (IntKind.u64.wrap (i : Int))) 1 = ((x / 2 ^ i % 2 : Nat) : Int) := by
  rw [wu64 (by omega) (by omega),shr64 x i (by omega)]
  have h : x / 2 ^ i < 18446744073709551616 := Nat.lt_of_le_of_lt (Nat.div_le_self _ _) hx
  have := u64_and_nat (x / 2 ^ i) 1 h (by omega)
  rw [Nat.and_one_is_mod] at this
  exact this
theorem bit_and8 (x i : Nat) (hx : x < 256) (hi : i ≤ 8) : Go.bits .and .u8 (shr .u8 (x : Int) (IntKind.u64.wrap (i : Int))) 1 = ((x / 2 ^ i % 2 : Nat) : Int) := by
  rw [wu64 (by omega) (by omega),shr8 x i (by omega)]
  have h : x / 2 ^ i < 256 := Nat.lt_of_le_of_lt (Nat.div_le_self _ _) hx
  have := band8 (x / 2 ^ i) 1 h (by omega)
  rw [Nat.and_one_is_mod] at this
  exact this
theorem cl_lt1 (n : Nat) : ∀ j x y,y < 2 ^ (j + 1) → cl (n + 1) x y < 2 ^ (j + (n + 1)) := by
  induction n with
  | zero =>
    intro j x y h
    rw [cl,cl,Nat.xor_zero]
    split
    · exact h
    · exact Nat.pow_pos (by omega)
  | succ n ih =>
    intro j x y h
    rw [cl]
    have h1 := ih (j + 1) (x / 2) (2 * y) (by rw [Nat.pow_succ]; omega)
    rw [show j + 1 + (n + 1) = j + (n + 1 + 1) by omega] at h1
    refine Nat.xor_lt_two_pow ?_ h1
    split
    · exact Nat.lt_of_lt_of_le h (Nat.pow_le_pow_right (by omega) (by omega))
    · exact Nat.pow_pos (by omega)
theorem mul33_l1 {m p : Nat} (F : Fi m p) (d : Nat) : ∀ z : Nat,d + m ≤ 15 → z < 2 ^ (d + m) →
    Ev (fun k => r4_mul.l1 k (z : Int) (((d + m : Nat) : Int) - 1) (m : Int) (p : Int)) ((redn p (2 ^ m) (d + m) z : Nat) : Int) := by
  have h256 := F.sz256
  have h8 := F.eight
  have h3 := F.three
  have hlo := F.lo
  have hhi := F.hi
  induction d with
  | zero =>
    intro z hd hz
    rw [Nat.zero_add] at hz ⊢
    rw [F.redn_low m z (Nat.le_refl _) hz]
    refine Ev.step (f := fun _ => some (z : Int)) (fun k => ?_) (Ev.now _)
    simp only [r4_mul.l1]
    rw [if_neg (by omega)]
    congr 1
    omega
  | succ d ih =>
    intro z hd hz
    have e0 : (((d + 1 + m : Nat) : Int) - 1) = ((d + m : Nat) : Int) := by omega
    have h15 : 2 ^ (d + m) ≤ 2 ^ 14 := Nat.pow_le_pow_right (by omega) (by omega)
    have e2 : wrap64 (((d + m : Nat) : Int) - 1) = ((d + m : Nat) : Int) - 1 := w64 (by omega) (by omega)
    have ed : wrap64 (((d + m : Nat) : Int) - (m : Int)) = (d : Int) := by rw [w64 (by omega) (by omega)]; omega
    rw [show d + 1 + m = (d + m) + 1 by omega] at hz
    rw [Nat.pow_succ] at hz
    have hb := bit_and z (d + m) (by omega) (by omega)
    rw [e0,show d + 1 + m = (d + m) + 1 by omega]
    by_cases c : z / 2 ^ (d + m) % 2 = 1
    · have hz1 : 2 ^ (d + m) ≤ z := by
        by_cases q : 2 ^ (d + m) ≤ z
        · exact q
        · rw [Nat.div_eq_of_lt (by omega)] at c; omega
      have hp1 : 2 ^ (d + m) ≤ p * 2 ^ d := by rw [Nat.add_comm d m,Nat.pow_add]; exact Nat.mul_le_mul_right _ hlo
      have hp2 : p * 2 ^ d < 2 ^ (d + m + 1) := by
        rw [show d + m + 1 = (m + 1) + d by omega,Nat.pow_add]
        exact Nat.mul_lt_mul_of_pos_right hhi (Nat.pow_pos (by omega))
      have hz2 : z ^^^ p * 2 ^ d < 2 ^ (d + m) := two_top (by rw [Nat.pow_succ]; exact hz) hp2 hz1 hp1
      have er : redn p (2 ^ m) (d + m + 1) z = redn p (2 ^ m) (d + m) (z ^^^ p * 2 ^ d) := by
        have h1 := F.redn_P d
        rw [show m + 1 + d = d + m + 1 by omega] at h1
        rw [← F.redn_grow1 (d + m) _ hz2,F.redn_xor,h1,Nat.xor_zero]
      have hs : shl .u64 (p : Int) (IntKind.u64.wrap (d : Int)) = ((p * 2 ^ d : Nat) : Int) := by
        rw [wu64 (by omega) (by omega),shl64 p d (by omega)]
        rw [Nat.pow_succ] at hp2
        rw [Nat.mod_eq_of_lt (by omega)]
      have hx := u64_xor_nat z (p * 2 ^ d) (by omega) (by rw [Nat.pow_succ] at hp2; omega)
      rw [er]
      refine Ev.step (fun k => ?_) (ih (z ^^^ p * 2 ^ d) (by omega) hz2)
      simp only [r4_mul.l1]
      rw [if_pos (by clear e2 ed; omega),if_pos (by clear e2 ed; rw [wu64 (by omega) (by omega)]; omega),hb,if_pos (by clear e2 ed; omega),ed,if_pos (by clear e2 ed; rw [wu64 (by omega) (by omega)]; omega),hs,hx,e2]
    · have hz1 : z < 2 ^ (d + m) := by
        by_cases q : 2 ^ (d + m) ≤ z
        · have : z / 2 ^ (d + m) = 1 := by
            have h1 : 1 ≤ z / 2 ^ (d + m) := (Nat.le_div_iff_mul_le (Nat.pow_pos (by omega))).2 (by omega)
            have h2 : z / 2 ^ (d + m) < 2 := (Nat.div_lt_iff_lt_mul (Nat.pow_pos (by omega))).2 (by omega)
            omega
          rw [this] at c
          omega
        · omega
      rw [F.redn_grow1 _ _ hz1]
      refine Ev.step (fun k => ?_) (ih z (by omega) hz1)
      simp only [r4_mul.l1]
      rw [if_pos (by clear e2 ed; omega),if_pos (by clear e2 ed; rw [wu64 (by omega) (by omega)]; omega),hb,if_neg (by clear e2 ed; omega),e2]
theorem mul33_l0 {m p a b : Nat} (F : Fi m p) (ha : a < 256) (hb : b < 256) (r : Int) (d : Nat) : ∀ (i s : Nat),i + d = 8 → s < 2 ^ (8 + i) →
    Ev (fun k => r4_mul.l1 k (((s ^^^ cl d (b / 2 ^ i) (a * 2 ^ i) : Nat)) : Int) 14 (m : Int) (p : Int)) r →
    Ev (fun k => r4_mul.l0 k (a : Int) (b : Int) (s : Int) (i : Int) (m : Int) (p : Int)) r := by
  induction d with
  | zero =>
    intro i s hi hs hk
    rw [cl,Nat.xor_zero] at hk
    refine Ev.step (fun k => ?_) hk
    simp only [r4_mul.l0]
    rw [if_neg (by omega)]
  | succ d ih =>
    intro i s hi hs hk
    have hi8 : i < 8 := by omega
    have e2 : b / 2 ^ i / 2 = b / 2 ^ (i + 1) := by rw [Nat.div_div_eq_div_mul,Nat.pow_succ]
    have e3 : 2 * (a * 2 ^ i) = a * 2 ^ (i + 1) := by rw [Nat.pow_succ,Nat.mul_left_comm,Nat.mul_comm 2]
    have hp : 2 ^ (8 + i) ≤ 2 ^ 15 := Nat.pow_le_pow_right (by omega) (by omega)
    have hai : a * 2 ^ i < 2 ^ (8 + i) := by rw [Nat.pow_add]; exact Nat.mul_lt_mul_of_pos_right ha (Nat.pow_pos (by omega))
    have hp2 : 2 ^ (8 + (i + 1)) = 2 ^ (8 + i) * 2 := by rw [show 8 + (i + 1) = (8 + i) + 1 by omega,Nat.pow_succ]
    have hbit := bit_and8 b i hb (by omega)
    have hu := wu64 (n := (i : Int)) (by omega) (by omega)
    have hi0 : (0 : Int) ≤ IntKind.u64.wrap (i : Int) := by rw [hu]; omega
    have hi9 : (i : Int) < 8 := by omega
    have hs2 : shl .u64 (IntKind.u64.wrap (a : Int)) (IntKind.u64.wrap (i : Int)) = ((a * 2 ^ i : Nat) : Int) := by
      rw [hu,wu64 (n := (a : Int)) (by omega) (by omega),shl64 a i (by omega),Nat.mod_eq_of_lt (by omega)]
    have hx := u64_xor_nat s (a * 2 ^ i) (by omega) (by omega)
    have ei : wrap64 ((i : Int) + 1) = ((i + 1 : Nat) : Int) := w64s (by omega)
    rw [cl,e2,e3] at hk
    by_cases c : b / 2 ^ i % 2 = 1
    · rw [if_pos c,← Nat.xor_assoc] at hk
      have g := ih (i + 1) (s ^^^ a * 2 ^ i) (by clear ei hs2 hx hu; omega) (Nat.lt_of_lt_of_le (Nat.xor_lt_two_pow hs hai) (by clear ei hs2 hx hu; omega)) hk
      refine Ev.step (fun k => ?_) g
      simp only [r4_mul.l0]
      rw [if_pos hi9,if_pos hi0,hbit,if_pos (by rw [c]; rfl),hs2,hx,ei]
    · rw [if_neg c,Nat.zero_xor] at hk
      have g := ih (i + 1) s (by clear ei hs2 hx hu; omega) (by clear ei hs2 hx hu; omega) hk
      refine Ev.step (fun k => ?_) g
      simp only [r4_mul.l0]
      rw [if_pos hi9,if_pos hi0,hbit,if_neg (by intro q; exact c (Int.ofNat.inj q)),ei]
theorem mul33_f {m p a b : Nat} (F : Fi m p) (ha : a < 2 ^ m) (hb : b < 2 ^ m) : Ev (fun k => r4_mul.f k (m : Int) (p : Int) (a : Int) (b : Int)) ((mu p m a b : Nat) : Int) := by
  have h256 := F.sz256
  have h8 := F.eight
  unfold r4_mul.f
  have hc : cl 8 b a < 2 ^ (15 - m + m) := by
    rw [show 15 - m + m = 15 by omega]
    have e := cl_grow (8 - m) m b a hb
    rw [show m + (8 - m) = 8 by omega] at e
    rw [e]
    obtain ⟨n,rfl⟩ : ∃ n,m = n + 1 := ⟨m - 1,by have := F.three; omega⟩
    have h := cl_lt1 n n b a ha
    exact Nat.lt_of_lt_of_le h (Nat.pow_le_pow_right (by omega) (by omega))
  have g := mul33_l1 F (15 - m) (cl 8 b a) (by omega) hc
  have er : redn p (2 ^ m) (15 - m + m) (cl 8 b a) = mu p m a b := by
    rw [show 15 - m + m = 15 by omega] at hc ⊢
    have e1 := F.redn_grow (128 - 15) 15 (cl 8 b a) hc
    rw [show 15 + (128 - 15) = 128 by omega] at e1
    have e2 := cl_grow 56 8 b a (by omega)
    rw [← e1,← e2,F.redn_mu hb ha,F.mu_comm hb ha]
  rw [er,show (((15 - m + m : Nat) : Int) - 1) = 14 by omega] at g
  have q := mul33_l0 F (a := a) (b := b) (by omega) (by omega) ((mu p m a b : Nat) : Int) 8 0 0 (by omega) (by omega) (by
    rw [Nat.zero_xor,Nat.pow_zero,Nat.div_one,Nat.mul_one]
    exact g)
  exact q
end Go.Proofs.Ytdhnjnkjhfomiaa.GalP
