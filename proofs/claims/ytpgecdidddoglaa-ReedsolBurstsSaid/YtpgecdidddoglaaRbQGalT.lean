/- Fields: what the methods of the tables say, in plain words. -/
import Derived.Test.YtpgecdidddoglaaRbQGalC
import Derived.Test.YtpgecdidddoglaaRbPx6
import Derived.Test.YtpgecdidddoglaaRbPx7
set_option linter.unusedVariables false
set_option linter.unusedSimpArgs false
namespace Go.Proofs.Ytpgecdidddoglaa.GalP
open Go.RowKit Go.Proofs.Ytpgecdidddoglaa.P Go.Proofs.YtpgecdidddoglaaW.PrintWords Go.Proofs.YtpgecdidddoglaaW.PrintLast Go.Proofs.YtpgecdidddoglaaW.PrintMore Go.Proofs.YtpgecdidddoglaaW.Q
open Go.Proofs.Ytpgecdidddoglaa.Gal
theorem tab_size (m p : Nat) : (tab m p).size = 2 ^ m := rfl
theorem none_f (m p : Nat) : gT_none.f (tab m p) = some false := by
  unfold gT_none.f
  have := Nat.pow_pos (n := m) (show 0 < 2 by omega)
  rw [tab_size,decide_eq_false (by omega)]
def errR (b : Bool) : Int := if b then 0 else 11
theorem check_l {m p : Nat} (F : Fi m p) (B : List Nat) (hB : ∀ x ∈ B,x < 256) (hl : B.length ≤ 9223372036854775806) (d : Nat) : ∀ i : Nat,i + d = B.length →
    Ev (fun k => gT_check.l0 k (tab m p) (ints B) (B.length : Int) (i : Int)) (errR ((B.drop i).all (fun x => decide (x < 2 ^ m)))) := by
  have hs : (0 : Int) < ((2 ^ m : Nat) : Int) := by have := F.sz8; omega
  induction d with
  | zero =>
    intro i hi
    refine Ev.step (f := fun _ => some 0) (fun k => ?_) ?_
    · simp only [gT_check.l0]
      rw [if_neg (by omega)]
    · rw [List.drop_of_length_le (by omega)]
      exact Ev.now _
  | succ d ih =>
    intro i hi
    have hil : i < B.length := by omega
    have hx : B.getD i 0 < 256 := getD_lt hB i
    rw [drop_get hil]
    simp only [List.all_cons]
    have hr : wrap64 (rd (ints B) (i : Int)) = ((B.getD i 0 : Nat) : Int) := by rw [rd_ints,w64 (by omega) (by omega)]
    refine Ev.step (f := fun k => if ((B.getD i 0 : Nat) : Int) ≥ ((2 ^ m : Nat) : Int) then some 11 else gT_check.l0 k (tab m p) (ints B) (B.length : Int) ((i + 1 : Nat) : Int)) (fun k => ?_) ?_
    · simp only [gT_check.l0]
      rw [if_pos (by omega),if_pos (by omega),if_pos (by rw [ints_length]; omega),if_pos (by rw [tab_size]; have := F.sz8; omega),hr,tab_size,w64s (by omega)]
    · by_cases c : B.getD i 0 < 2 ^ m
      · rw [decide_eq_true c,Bool.true_and]
        exact ev_neg (by omega) (ih (i + 1) (by omega))
      · rw [decide_eq_false c,Bool.false_and]
        exact ev_pos (by omega) (Ev.now _)
theorem check_t {m p : Nat} (F : Fi m p) (B : List Nat) (hB : ∀ x ∈ B,x < 256) (hl : B.length ≤ 9223372036854775806) :
    Ev (fun k => gT_check.f k (tab m p) (ints B)) (errR (B.all (fun x => decide (x < 2 ^ m)))) := by
  unfold gT_check.f
  rw [none_f]
  simp only [Option.bind_some,Bool.false_eq_true,if_false]
  have := check_l F B hB hl B.length 0 (by omega)
  rw [List.drop_zero] at this
  rw [ints_length]
  exact this
theorem all2 (n a b : Nat) : [a,b].all (fun x => decide (x < n)) = (decide (a < n) && decide (b < n)) := by simp
theorem check2 {m p a b : Nat} (F : Fi m p) (ha : a < 2 ^ m) (hb : b < 2 ^ m) : Ev (fun k => gT_check.f k (tab m p) [(a : Int),(b : Int)]) 0 := by
  have h := check_t F [a,b] (fun x hx => by have := F.sz256; rcases List.mem_cons.1 hx with rfl | hx; omega; rw [List.mem_singleton.1 hx]; omega) (by simp)
  rw [all2,decide_eq_true ha,decide_eq_true hb] at h
  exact h
theorem ex_pw {m p : Nat} (F : Fi m p) (n : Nat) (h : n < 2 ^ m - 1) : GTab.ex (tab m p) (n : Int) = ((pw p (2 ^ m) n : Nat) : Int) := by
  unfold GTab.ex tab GTab.of
  simp only [Int.toNat_natCast]
  unfold gxe
  rw [if_pos h,gxn_pw]
theorem lg_t (m p x : Nat) : GTab.lg (tab m p) (x : Int) = ((lg p (2 ^ m) x : Nat) : Int) := by
  unfold GTab.lg tab GTab.of
  simp only [Int.toNat_natCast]
  rw [glg_lgn]
  rfl
theorem ord_cast {m p : Nat} (F : Fi m p) : (((tab m p).size : Int) - 1) = ((2 ^ m - 1 : Nat) : Int) := by have := F.sz8; rw [tab_size]; omega
theorem mulc_f {m p a b : Nat} (F : Fi m p) (ha : a < 2 ^ m) (hb : b < 2 ^ m) : gN1.f (tab m p) (a : Int) (b : Int) = some ((mu p m a b : Nat) : Int) := by
  have h8 := F.sz8
  have h256 := F.sz256
  unfold gN1.f
  rcases Nat.eq_zero_or_pos a with rfl | ha0
  · rw [if_pos (by rfl),F.mu_zero_left]; rfl
  rw [if_neg (by omega)]
  rcases Nat.eq_zero_or_pos b with rfl | hb0
  · rw [if_pos (by rfl),F.mu_zero_right]; rfl
  rw [if_neg (by omega),if_pos ⟨by omega,by omega,by omega,by omega⟩,lg_t,lg_t,ord_cast F,← Int.natCast_add,← Int.natCast_emod,ex_pw F _ (Nat.mod_lt _ F.ord_pos),F.fld.mod,F.mu_eq ha0 ha hb0 hb]
theorem Mul_t {m p a b : Nat} (F : Fi m p) (ha : a < 2 ^ m) (hb : b < 2 ^ m) : Ev (fun k => gT_Mul.f k (tab m p) (a : Int) (b : Int)) (((mu p m a b : Nat) : Int),0) := by
  unfold gT_Mul.f
  refine Ev.bind (check2 F ha hb) (ev_pos rfl (ev_pos (by rw [tab_size]; have := F.sz8; omega) ?_))
  exact ev_const (by rw [mulc_f F ha hb]; rfl)
def ex_of (m : Nat) (n : Int) : Nat := (n % ((2 ^ m - 1 : Nat) : Int)).toNat
theorem ex_of_lt {m p : Nat} (F : Fi m p) (n : Int) : ex_of m n < 2 ^ m - 1 := by
  have h := F.ord_pos
  have h1 := Int.emod_nonneg n (b := ((2 ^ m - 1 : Nat) : Int)) (by omega)
  have h2 := Int.emod_lt_of_pos n (b := ((2 ^ m - 1 : Nat) : Int)) (by omega)
  unfold ex_of
  omega
theorem ex_of_nat (m n : Nat) : ex_of m (n : Int) = n % (2 ^ m - 1) := by
  unfold ex_of
  rw [← Int.natCast_emod,Int.toNat_natCast]
theorem go_mod {o : Nat} (ho : 0 < o) (ho2 : o ≤ 256) (n : Int) : Int.tmod (wrap64 ((Int.tmod n (o : Int)) + (o : Int))) (o : Int) = n % (o : Int) := by
  have key : Int.tmod n (o : Int) % (o : Int) = n % (o : Int) ∧ -(o : Int) < Int.tmod n (o : Int) ∧ Int.tmod n (o : Int) < (o : Int) := by
    rcases Int.le_total 0 n with h | h
    · rw [Int.tmod_eq_emod_of_nonneg h]
      exact ⟨Int.emod_emod_of_dvd _ (Int.dvd_refl _),by have := Int.emod_nonneg n (b := (o : Int)) (by omega); omega,Int.emod_lt_of_pos _ (by omega)⟩
    · obtain ⟨k,rfl⟩ : ∃ k : Int,n = -k := ⟨-n,by omega⟩
      have h1 := Int.emod_nonneg k (b := (o : Int)) (by omega)
      have h2 := Int.emod_lt_of_pos k (b := (o : Int)) (by omega)
      rw [Int.neg_tmod,Int.tmod_eq_emod_of_nonneg (by omega)]
      refine ⟨?_,by omega,by omega⟩
      have h3 : -(k % (o : Int)) = -k + (o : Int) * (k / (o : Int)) := by have := Int.emod_add_mul_ediv k (o : Int); omega
      rw [h3,Int.add_mul_emod_self_left]
  rw [w64 (by omega) (by omega),Int.tmod_eq_emod_of_nonneg (by omega),Int.add_emod_right]
  exact key.1
theorem ord_t {m p : Nat} (F : Fi m p) : wrap64 (((tab m p).size : Int) - 1) = ((2 ^ m - 1 : Nat) : Int) := by
  have := F.sz256
  rw [ord_cast F,w64 (by omega) (by omega)]
theorem ex_of_cast {m p : Nat} (F : Fi m p) (n : Int) : ((ex_of m n : Nat) : Int) = n % ((2 ^ m - 1 : Nat) : Int) := by
  have h := F.ord_pos
  have h1 := Int.emod_nonneg n (b := ((2 ^ m - 1 : Nat) : Int)) (by omega)
  unfold ex_of
  omega
theorem power_t {m p q : Nat} (F : Fi m p) (n : Int) (hq : q < 256) : gT_power.f (tab m p) n (q : Int) = some ((pw p (2 ^ m) (ex_of m n * q) : Nat) : Int) := by
  have h8 := F.sz8
  have h256 := F.sz256
  have ho := F.ord_pos
  have hx := ex_of_lt F n
  unfold gT_power.f
  rw [if_pos (by rw [tab_size]; omega),ord_t F,if_neg (by omega),go_mod ho (by omega) n,← ex_of_cast F]
  have hm : ex_of m n * q ≤ 256 * 256 := Nat.mul_le_mul (by omega) (by omega)
  rw [← Int.natCast_mul,w64 (by omega) (by omega),tmod_nat]
  have hl := Nat.mod_lt (ex_of m n * q) ho
  rw [if_pos (by omega),if_pos (by omega),ex_pw F _ hl,F.fld.mod]
def iv (p m a : Nat) : Nat := pw p (2 ^ m) (2 ^ m - 1 - lg p (2 ^ m) a)
theorem iv_lt {m p : Nat} (F : Fi m p) (a : Nat) : iv p m a < 2 ^ m := F.pw_lt _
theorem mu_iv {m p a : Nat} (F : Fi m p) (ha0 : 0 < a) (ha : a < 2 ^ m) : mu p m a (iv p m a) = 1 := by
  have h1 := F.inv_pw (lg p (2 ^ m) a) (Nat.le_of_lt (F.lg_lt a))
  rw [pw_lg F.fld ha0 ha] at h1
  exact h1
theorem inv_t {m p a : Nat} (F : Fi m p) (ha0 : 0 < a) (ha : a < 2 ^ m) : gT_inv.f (tab m p) (a : Int) = some ((iv p m a : Nat) : Int) := by
  have h8 := F.sz8
  have h256 := F.sz256
  have ho := F.ord_pos
  have hl := F.lg_lt a
  unfold gT_inv.f
  rw [if_pos (by rw [tab_size]; omega),if_pos (by omega),if_pos (by omega),ord_t F,if_neg (by omega),lg_t]
  rw [show ((2 ^ m - 1 : Nat) : Int) - ((lg p (2 ^ m) a : Nat) : Int) = ((2 ^ m - 1 - lg p (2 ^ m) a : Nat) : Int) by omega,w64 (by omega) (by omega),tmod_nat]
  have hl2 := Nat.mod_lt (2 ^ m - 1 - lg p (2 ^ m) a) ho
  rw [if_pos (by omega),if_pos (by omega),ex_pw F _ hl2,F.fld.mod]
  rfl
theorem Div_t {m p a b : Nat} (F : Fi m p) (ha : a < 2 ^ m) (hb0 : 0 < b) (hb : b < 2 ^ m) : Ev (fun k => gT_Div.f k (tab m p) (a : Int) (b : Int)) (((mu p m a (iv p m b) : Nat) : Int),0) := by
  unfold gT_Div.f
  refine Ev.bind (check2 F ha hb) (ev_pos rfl (ev_neg (by omega) (ev_pos (by rw [tab_size]; have := F.sz8; omega) (ev_const ?_))))
  rw [inv_t F hb0 hb]
  simp only [Option.bind_some]
  rw [mulc_f F ha (iv_lt F b)]
  rfl
end Go.Proofs.Ytpgecdidddoglaa.GalP
