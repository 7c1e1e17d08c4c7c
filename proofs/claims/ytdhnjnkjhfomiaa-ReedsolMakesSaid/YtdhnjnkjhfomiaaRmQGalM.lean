/- Fields: the document's products (by the whole product and its rest; step by step) are the product of the field. -/
import Derived.Test.YtdhnjnkjhfomiaaRmQGalP
import Derived.Test.YtdhnjnkjhfomiaaRmQGalT
import Derived.Laws.BitsAllLaws
set_option linter.unusedVariables false
set_option linter.unusedSimpArgs false
namespace Go.Proofs.Ytdhnjnkjhfomiaa.Gal
theorem xor_half (a b : Nat) : (a ^^^ b) / 2 = a / 2 ^^^ b / 2 := by
  have := Nat.shiftRight_xor_distrib (a := a) (b := b) (i := 1)
  simpa only [Nat.shiftRight_eq_div_pow,Nat.pow_one] using this
theorem xor_par (a b : Nat) : (a ^^^ b) % 2 = (a % 2) ^^^ (b % 2) := by
  have := Nat.xor_mod_two_pow (a := a) (b := b) (n := 1)
  simpa only [Nat.pow_one] using this
theorem two_xor_bit (q r : Nat) (h : r < 2) : 2 * q ^^^ r = 2 * q + r := by
  have h1 := xor_half (2 * q) r
  have h2 := xor_par (2 * q) r
  rw [show 2 * q / 2 = q by omega,show r / 2 = 0 by omega,Nat.xor_zero] at h1
  rw [show 2 * q % 2 = 0 by omega,show r % 2 = r by omega,Nat.zero_xor] at h2
  omega
def redn (P sz : Nat) : Nat → Nat → Nat
  | 0,_ => 0
  | n + 1,z => stp P sz (redn P sz n (z / 2)) ^^^ (z % 2)
def cl : Nat → Nat → Nat → Nat
  | 0,_,_ => 0
  | n + 1,x,y => (if x % 2 = 1 then y else 0) ^^^ cl n (x / 2) (2 * y)
theorem cl_zero : ∀ n y,cl n 0 y = 0 := by
  intro n
  induction n with
  | zero => intro y; rfl
  | succ n ih => intro y; unfold cl; rw [Nat.zero_div,ih]; simp
theorem cl_grow (k : Nat) : ∀ n x y,x < 2 ^ n → cl (n + k) x y = cl n x y := by
  intro n
  induction n with
  | zero => intro x y h; have : x = 0 := by simpa using h
            subst this; rw [cl_zero,cl_zero]
  | succ n ih =>
    intro x y h
    rw [show n + 1 + k = (n + k) + 1 by omega]
    unfold cl
    rw [ih _ _ (by rw [Nat.pow_succ] at h; omega)]
namespace Fi
variable {M P : Nat} (F : Fi M P)
include F
theorem redn_lt : ∀ n z,redn P (2 ^ M) n z < 2 ^ M := by
  intro n
  induction n with
  | zero => intro z; exact F.zero_lt
  | succ n ih => intro z; exact Nat.xor_lt_two_pow (stp_lt F.lo F.hi (ih _)) (by have := F.sz8; omega)
theorem redn_zero : ∀ n,redn P (2 ^ M) n 0 = 0 := by
  have _ := F
  intro n
  induction n with
  | zero => rfl
  | succ n ih => unfold redn; rw [Nat.zero_div,ih,stp_zero]; rfl
theorem redn_xor : ∀ n a b,redn P (2 ^ M) n (a ^^^ b) = redn P (2 ^ M) n a ^^^ redn P (2 ^ M) n b := by
  intro n
  induction n with
  | zero => intro a b; simp [redn]
  | succ n ih => intro a b; simp only [redn]; rw [xor_half,xor_par,ih,stp_xor (F.redn_lt _ _) (F.redn_lt _ _),xor4]
theorem redn_two (n z : Nat) : redn P (2 ^ M) (n + 1) (2 * z) = stp P (2 ^ M) (redn P (2 ^ M) n z) := by
  have _ := F
  unfold redn
  rw [show 2 * z / 2 = z by omega,show 2 * z % 2 = 0 by omega,Nat.xor_zero]
  cases n <;> rfl
theorem redn_grow1 : ∀ n z,z < 2 ^ n → redn P (2 ^ M) (n + 1) z = redn P (2 ^ M) n z := by
  intro n
  induction n with
  | zero => intro z h; have : z = 0 := by simpa using h
            subst this; rw [F.redn_zero,F.redn_zero]
  | succ n ih =>
    intro z h
    rw [redn,ih _ (by rw [Nat.pow_succ] at h; omega)]
    rfl
theorem redn_grow (k : Nat) : ∀ n z,z < 2 ^ n → redn P (2 ^ M) (n + k) z = redn P (2 ^ M) n z := by
  intro n z h
  induction k with
  | zero => rfl
  | succ k ih => rw [← Nat.add_assoc,F.redn_grow1 _ _ (Nat.lt_of_lt_of_le h (Nat.pow_le_pow_right (by omega) (by omega))),ih]
theorem redn_low : ∀ n z,n ≤ M → z < 2 ^ n → redn P (2 ^ M) n z = z := by
  have _ := F
  intro n
  induction n with
  | zero => intro z _ h; have : z = 0 := by simpa using h
            subst this; rfl
  | succ n ih =>
    intro z hn h
    have h2 : 2 ^ (n + 1) ≤ 2 ^ M := Nat.pow_le_pow_right (by omega) hn
    rw [Nat.pow_succ] at h h2
    unfold redn
    rw [ih (z / 2) (by omega) (by omega)]
    unfold stp
    rw [if_neg (by omega),two_xor_bit _ _ (by omega)]
    omega
theorem redn_cl : ∀ n x y j N,y < 2 ^ j → j + n ≤ N → redn P (2 ^ M) N (cl n x y) = qm P (2 ^ M) n (redn P (2 ^ M) N y) x := by
  intro n
  induction n with
  | zero => intro x y j N _ _; exact F.redn_zero N
  | succ n ih =>
    intro x y j N hy hN
    unfold cl qm
    rw [F.redn_xor,ih (x / 2) (2 * y) (j + 1) N (by rw [Nat.pow_succ]; omega) (by omega)]
    obtain ⟨K,rfl⟩ : ∃ K,N = K + 1 := ⟨N - 1,by omega⟩
    rw [F.redn_two,F.redn_grow1 K y (Nat.lt_of_lt_of_le hy (Nat.pow_le_pow_right (by omega) (by omega)))]
    congr 1
    split
    · exact F.redn_grow1 K y (Nat.lt_of_lt_of_le hy (Nat.pow_le_pow_right (by omega) (by omega)))
    · exact F.redn_zero _
theorem redn_mu {x y : Nat} (hx : x < 2 ^ M) (hy : y < 2 ^ M) : redn P (2 ^ M) 128 (cl 64 x y) = mu P M x y := by
  have h8 := F.eight
  have e := cl_grow (64 - M) M x y hx
  rw [show M + (64 - M) = 64 by omega] at e
  rw [e,F.redn_cl M x y M 128 hy (by omega)]
  have e2 := F.redn_grow (128 - M) M y hy
  rw [show M + (128 - M) = 128 by omega] at e2
  rw [e2,F.redn_low M y (Nat.le_refl _) hy]
  exact F.mu_comm hy hx
end Fi
end Go.Proofs.Ytdhnjnkjhfomiaa.Gal
namespace Go.Proofs.Ytdhnjnkjhfomiaa.GalP
open Go.RowKit P YtdhnjnkjhfomiaaW.PrintWords YtdhnjnkjhfomiaaW.PrintLast YtdhnjnkjhfomiaaW.PrintMore YtdhnjnkjhfomiaaW.Q
open Gal
theorem shr64 (x n : Nat) (hn : n ≤ 64) : shr .u64 (x : Int) (n : Int) = ((x / 2 ^ n : Nat) : Int) := by
  unfold shr
  rw [show min (n : Int).toNat IntKind.u64.bits = n by simp [IntKind.bits]; omega]
  simp
theorem shl64 (x n : Nat) (hn : n ≤ 64) : shl .u64 (x : Int) (n : Int) = ((x * 2 ^ n % 18446744073709551616 : Nat) : Int) := by
  unfold shl
  rw [show min (n : Int).toNat IntKind.u64.bits = n by simp [IntKind.bits]; omega,IntKind.wrap_u64]
  simp
end Go.Proofs.Ytdhnjnkjhfomiaa.GalP
