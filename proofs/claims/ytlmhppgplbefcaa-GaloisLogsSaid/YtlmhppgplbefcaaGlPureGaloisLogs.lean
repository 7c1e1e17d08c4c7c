/- For every field and every two bytes: logarithms add up, and go back. The plain law of GaloisLogs; no condition. -/
import Derived.Test.YtlmhppgplbefcaaGlPx8
import Derived.Test.YtlmhppgplbefcaaGlQGalT
namespace Go.Proofs.Ytlmhppgplbefcaa.Pure
open Go.RowKit Go.Proofs.Ytlmhppgplbefcaa.P Go.Proofs.YtlmhppgplbefcaaW.PrintWords Go.Proofs.YtlmhppgplbefcaaW.PrintLast Go.Proofs.YtlmhppgplbefcaaW.Q Go.Proofs.Ytlmhppgplbefcaa.GalP Go.Proofs.Ytlmhppgplbefcaa.Gal
theorem logs_arg {m p x : Nat} (F : Fi m p) : (1 + (Int.tmod (wrap64 (x : Int)) (wrap64 (((2 ^ m : Nat) : Int) - 1)))) % 256 = ((1 + x % (2 ^ m - 1) : Nat) : Int) ∨ ¬ x < 256 := by
  by_cases hx : x < 256
  · refine .inl ?_
    have h := F.ord_pos
    have h2 := F.sz256
    have hl := Nat.mod_lt x h
    rw [w64 (n := (x : Int)) (by omega) (by omega), show ((2 ^ m : Nat) : Int) - 1 = ((2 ^ m - 1 : Nat) : Int) by omega, w64 (by omega) (by omega), tmod_nat]
    omega
  · exact .inr hx
theorem GaloisLogs : outpostlaw32_GaloisLogs.Pure := by
  intro M P x y n hM hP hx hy hn
  obtain ⟨x, rfl⟩ : ∃ z : Nat, x = (z : Int) := ⟨x.toNat, by have := wf_u8 hx; omega⟩
  obtain ⟨y, rfl⟩ : ∃ z : Nat, y = (z : Int) := ⟨y.toNat, by have := wf_u8 hy; omega⟩
  have hx2 : x < 256 := by have := wf_u8 hx; omega
  have hy2 : y < 256 := by have := wf_u8 hy; omega
  refine Ev.rounds (g := fun k => outpostlaw32_GaloisLogs.f k M P (x : Int) (y : Int) n) ?_
  unfold outpostlaw32_GaloisLogs.f
  rcases made_f M P (wf_i64 hM) (wf_u64 hP) with h | ⟨m, p, rfl, rfl, F, h⟩
  · refine Ev.bind h ?_
    refine ev_neg (by simp) ?_
    exact Ev.step (f := fun _ => some true) (fun k => by simp only [outpostlaw32_GaloisLogs.j0, if_true]) (Ev.now _)
  · refine Ev.bind h ?_
    refine ev_pos rfl ?_
    have ho := F.ord_pos
    have h256 := F.sz256
    have h8 := F.sz8
    have e1 := (logs_arg (x := x) F).resolve_right (by omega)
    have e2 := (logs_arg (x := y) F).resolve_right (by omega)
    have eo : wrap64 (((2 ^ m : Nat) : Int) - 1) = ((2 ^ m - 1 : Nat) : Int) := by rw [show ((2 ^ m : Nat) : Int) - 1 = ((2 ^ m - 1 : Nat) : Int) by omega, w64 (by omega) (by omega)]
    obtain ⟨a, ha⟩ : ∃ a, a = 1 + x % (2 ^ m - 1) := ⟨_, rfl⟩
    obtain ⟨b, hb⟩ : ∃ b, b = 1 + y % (2 ^ m - 1) := ⟨_, rfl⟩
    have hxl := Nat.mod_lt x ho
    have hyl := Nat.mod_lt y ho
    have ha1 : 0 < a ∧ a < 2 ^ m := by omega
    have hb1 : 0 < b ∧ b < 2 ^ m := by omega
    rw [← ha, eo] at e1
    rw [← hb, eo] at e2
    have la := F.lg_lt a
    have lb := F.lg_lt b
    have hk : lg p (2 ^ m) (mu p m a b) = (lg p (2 ^ m) a + lg p (2 ^ m) b) % (2 ^ m - 1) := by rw [F.mu_eq ha1.1 ha1.2 hb1.1 hb1.2, lg_pw F.fld]
    have fin : Ev (fun k => outpostlaw32_GaloisLogs.j1 k n (tab m p) ((2 ^ m - 1 : Nat) : Int) (a : Int) ((lg p (2 ^ m) a : Nat) : Int) false) true := by
      refine Ev.step (f := fun _ => some true) (fun k => ?_) (Ev.now _)
      simp only [outpostlaw32_GaloisLogs.j1, Bool.false_eq_true, if_false]
      rw [Exp_t F, Exp_t F, Exp_t F, Exp_t F, Exp_t F]
      simp only [Option.bind_some]
      rw [ex_of_nat, F.fld.mod, pw_lg F.fld ha1.1 ha1.2, if_pos rfl, if_neg (by omega), go_mod ho (by omega) n]
      have e3 : ex_of m (n % ((2 ^ m - 1 : Nat) : Int)) = ex_of m n := by
        unfold ex_of
        rw [Int.emod_emod_of_dvd _ (Int.dvd_refl _)]
      rw [e3, if_pos rfl]
      have e4 : ex_of m 0 = 0 := by unfold ex_of; simp
      have e5 : ex_of m 1 = 1 := by
        have := ex_of_nat m 1
        rw [Nat.mod_eq_of_lt (by omega)] at this
        exact this
      rw [e4, e5]
      have e6 : pw p (2 ^ m) 0 = 1 := rfl
      have e7 : pw p (2 ^ m) 1 = 2 := by
        show stp p (2 ^ m) 1 = 2
        unfold stp
        rw [if_neg (by omega)]
      rw [e6, e7]
      rfl
    have hmp := F.mu_pos ha1.1 ha1.2 hb1.1 hb1.2
    have hml := F.mu_lt (b := b) ha1.2
    refine Ev.succ ?_
    simp only [outpostlaw32_GaloisLogs.j0, Bool.not_true, Bool.false_eq_true, if_false, Size_r F, Option.bind_some, eo, e1, e2]
    refine ev_neg (by omega) (Ev.bind (Mul_t F ha1.2 hb1.2) (Ev.bind (Log_t F ha1.1 ha1.2) (Ev.bind (Log_t F hb1.1 hb1.2) (Ev.bind (Log_t F hmp hml) (Ev.bind (Log_0 F) ?_)))))
    simp only [outpostlaw32_num.f, Option.bind_some, if_true]
    refine ev_neg (by decide) (ev_neg (by omega) (ev_neg (by omega) (ev_neg (by omega) ?_)))
    rw [← Int.natCast_add, w64 (by omega) (by omega), tmod_nat, hk, bne_self_eq_false]
    exact fin
end Go.Proofs.Ytlmhppgplbefcaa.Pure
