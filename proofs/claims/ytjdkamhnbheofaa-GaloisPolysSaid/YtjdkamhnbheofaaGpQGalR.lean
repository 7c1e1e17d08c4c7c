/- Fields: what the document's Two, Inv, Pow, Log say, in plain words. -/
import Derived.Test.YtjdkamhnbheofaaGpQGalM
import Derived.Test.YtjdkamhnbheofaaGpPx17
import Derived.Test.YtjdkamhnbheofaaGpPx13
set_option linter.unusedVariables false
set_option linter.unusedSimpArgs false
namespace Go.Proofs.Ytjdkamhnbheofaa.GalP
open Go.RowKit Go.Proofs.Ytjdkamhnbheofaa.P Go.Proofs.YtjdkamhnbheofaaW.PrintWords Go.Proofs.YtjdkamhnbheofaaW.PrintLast Go.Proofs.YtjdkamhnbheofaaW.PrintMore Go.Proofs.YtjdkamhnbheofaaW.Q
open Go.Proofs.Ytjdkamhnbheofaa.Gal
theorem over_l {m p : Nat} (F : Fi m p) (B : List Nat) (hB : ∀ x ∈ B, x < 256) (hl : B.length ≤ 9223372036854775806) (d : Nat) : ∀ i : Nat, i + d = B.length →
    Ev (fun k => r3_over.l0 k (ints B) (i : Int) (m : Int) (p : Int)) (!((B.drop i).all (fun x => decide (x < 2 ^ m)))) := by
  induction d with
  | zero =>
    intro i hi
    refine Ev.step (f := fun _ => some false) (fun k => ?_) ?_
    · simp only [r3_over.l0]
      rw [if_neg (by rw [ints_length]; omega)]
    · rw [List.drop_of_length_le (by omega)]
      exact Ev.now _
  | succ d ih =>
    intro i hi
    have hil : i < B.length := by omega
    have hx : B.getD i 0 < 256 := getD_lt hB i
    rw [drop_get hil]
    simp only [List.all_cons]
    have hr : wrap64 (rd (ints B) (i : Int)) = ((B.getD i 0 : Nat) : Int) := by rw [rd_ints, w64 (by omega) (by omega)]
    refine Ev.step (f := fun k => if ((B.getD i 0 : Nat) : Int) ≥ ((2 ^ m : Nat) : Int) then some true else r3_over.l0 k (ints B) ((i + 1 : Nat) : Int) (m : Int) (p : Int)) (fun k => ?_) ?_
    · simp only [r3_over.l0]
      rw [if_pos (by rw [ints_length]; omega), if_pos (by omega), Size_r F]
      simp only [Option.bind_some]
      rw [hr, w64s (by omega)]
    · by_cases c : B.getD i 0 < 2 ^ m
      · rw [decide_eq_true c, Bool.true_and]
        exact ev_neg (by omega) (ih (i + 1) (by omega))
      · rw [decide_eq_false c, Bool.false_and]
        exact ev_pos (by omega) (Ev.now _)
theorem over_f {m p : Nat} (F : Fi m p) (B : List Nat) (hB : ∀ x ∈ B, x < 256) (hl : B.length ≤ 9223372036854775806) :
    Ev (fun k => r3_over.f k (m : Int) (p : Int) (ints B)) (!(B.all (fun x => decide (x < 2 ^ m)))) := by
  have := over_l F B hB hl B.length 0 (by omega)
  rw [List.drop_zero] at this
  exact this
theorem over1 {m p a : Nat} (F : Fi m p) (ha : a < 256) : Ev (fun k => r3_over.f k (m : Int) (p : Int) [(a : Int)]) (!decide (a < 2 ^ m)) := by
  have h := over_f F [a] (fun x hx => by rw [List.mem_singleton.1 hx]; exact ha) (by simp)
  rw [all1] at h
  exact h
theorem over2 {m p a b : Nat} (F : Fi m p) (ha : a < 256) (hb : b < 256) : Ev (fun k => r3_over.f k (m : Int) (p : Int) [(a : Int), (b : Int)]) (!(decide (a < 2 ^ m) && decide (b < 2 ^ m))) := by
  have h := over_f F [a, b] (fun x hx => by rcases List.mem_cons.1 hx with rfl | hx; exact ha; rw [List.mem_singleton.1 hx]; exact hb) (by simp)
  rw [all2] at h
  exact h
theorem div_iff {m p a b q : Nat} (F : Fi m p) (ha : a < 2 ^ m) (hb0 : 0 < b) (hb : b < 2 ^ m) (hq : q < 2 ^ m) : mu p m q b = a ↔ q = mu p m a (iv p m b) := by
  have e : mu p m (mu p m a (iv p m b)) b = a := by rw [F.mu_assoc ha (iv_lt F b) hb, F.mu_comm (iv_lt F b) hb, mu_iv F hb0 hb, F.mu_one' ha]
  constructor
  · intro h
    refine F.mu_cancel hb0 hb hq (F.mu_lt ha) ?_
    rw [F.mu_comm hb hq, F.mu_comm hb (F.mu_lt ha), h, e]
  · rintro rfl
    exact e
theorem Two_l {m p a b : Nat} (F : Fi m p) (ha : a < 2 ^ m) (hb0 : 0 < b) (hb : b < 2 ^ m) (d : Nat) : ∀ q : Nat, q + d = mu p m a (iv p m b) →
    Ev (fun k => r3_Two.l0 k (a : Int) (b : Int) (q : Int) (m : Int) (p : Int)) (((a ^^^ b : Nat) : Int), ((mu p m a b : Nat) : Int), ((mu p m a (iv p m b) : Nat) : Int), 0, 0) := by
  have h256 := F.sz256
  have ht := F.mu_lt (b := iv p m b) ha
  induction d with
  | zero =>
    intro q hq
    have e := (div_iff F ha hb0 hb (show q < 2 ^ m by omega)).2 (show q = mu p m a (iv p m b) by omega)
    have h1 := refTimes (a := q) (b := b) F (by omega) hb
    rw [e] at h1
    refine Ev.succ ?_
    simp only [r3_Two.l0]
    refine Ev.bind h1 (ev_pos rfl (Ev.bind (refTimes F ha hb) (ev_const ?_)))
    rw [bxor8 a b (by omega) (by omega), show (q : Int) = ((mu p m a (iv p m b) : Nat) : Int) by rw [← hq]; rfl]
  | succ d ih =>
    intro q hq
    have h1 := refTimes (a := q) (b := b) F (by omega) hb
    refine Ev.succ ?_
    simp only [r3_Two.l0]
    refine Ev.bind h1 (ev_neg (fun h => ?_) ?_)
    · have := (div_iff F ha hb0 hb (by omega)).1 (Int.ofNat.inj h)
      omega
    · have e : ((q : Int) + 1) % 256 = ((q + 1 : Nat) : Int) := by omega
      rw [e]
      exact ih (q + 1) (by omega)
theorem Two_ok {m p a b : Nat} (F : Fi m p) (ha : a < 2 ^ m) (hb0 : 0 < b) (hb : b < 2 ^ m) :
    Ev (fun k => r3_Two.f k (m : Int) (p : Int) (a : Int) (b : Int)) (((a ^^^ b : Nat) : Int), ((mu p m a b : Nat) : Int), ((mu p m a (iv p m b) : Nat) : Int), 0, 0) := by
  have h256 := F.sz256
  unfold r3_Two.f
  have h := over2 (a := a) (b := b) F (by omega) (by omega)
  rw [decide_eq_true ha, decide_eq_true hb] at h
  exact Ev.bind h (ev_neg (by decide) (ev_neg (by omega) (Two_l F ha hb0 hb _ 0 (Nat.zero_add _))))
theorem Inv_r {m p a : Nat} (F : Fi m p) (ha0 : 0 < a) (ha : a < 2 ^ m) : Ev (fun k => r3_Inv.f k (m : Int) (p : Int) (a : Int)) (((iv p m a : Nat) : Int), 0) := by
  have h256 := F.sz256
  unfold r3_Inv.f
  have h := over1 (a := a) F (by omega)
  rw [decide_eq_true ha] at h
  have h2 := Two_ok (a := 1) F F.one_lt ha0 ha
  rw [F.mu_one (iv_lt F a)] at h2
  exact Ev.bind h (ev_neg (by decide) (Ev.bind h2 (Ev.now _)))
end Go.Proofs.Ytjdkamhnbheofaa.GalP
