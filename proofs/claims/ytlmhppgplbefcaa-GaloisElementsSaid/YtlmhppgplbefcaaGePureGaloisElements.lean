/- For every field, every two bytes and every whole number: sums, products, quotients, inverses, powers, logarithms, minimal polynomials and their errors are the document's. The plain law of GaloisElements; no condition. -/
import Derived.Test.YtlmhppgplbefcaaGePx14
import Derived.Test.YtlmhppgplbefcaaGeQGalS
namespace Go.Proofs.Ytlmhppgplbefcaa.Pure
open Go.RowKit Go.Proofs.Ytlmhppgplbefcaa.P Go.Proofs.YtlmhppgplbefcaaW.PrintWords Go.Proofs.YtlmhppgplbefcaaW.PrintLast Go.Proofs.YtlmhppgplbefcaaW.Q Go.Proofs.Ytlmhppgplbefcaa.GalP Go.Proofs.Ytlmhppgplbefcaa.Gal
theorem ck1_bad {m p a : Nat} (F : Fi m p) (ha : a < 256) (h : ¬ a < 2 ^ m) : Ev (fun k => galois_Tables_check.f k (tab m p) [(a : Int)]) 11 := by
  have h1 := check_t F [a] (fun x hx => by rw [List.mem_singleton.1 hx]; exact ha) (by simp)
  rw [all1, decide_eq_false h] at h1
  exact h1
theorem ck2_bad {m p a b : Nat} (F : Fi m p) (ha : a < 256) (hb : b < 256) (h : ¬ (a < 2 ^ m ∧ b < 2 ^ m)) : Ev (fun k => galois_Tables_check.f k (tab m p) [(a : Int), (b : Int)]) 11 := by
  have h1 := check_t F [a, b] (fun x hx => by rcases List.mem_cons.1 hx with rfl | hx; exact ha; rw [List.mem_singleton.1 hx]; exact hb) (by simp)
  have e : (decide (a < 2 ^ m) && decide (b < 2 ^ m)) = false := by simp; omega
  rw [all2, e] at h1
  exact h1
theorem two_agree {m p a b : Nat} (F : Fi m p) (ha : a < 256) (hb : b < 256) : ∃ s e1 r q e2 : Int, Ev (fun k => galois_Tables_Add.f k (tab m p) (a : Int) (b : Int)) (s, e1) ∧ Ev (fun k => galois_Tables_Mul.f k (tab m p) (a : Int) (b : Int)) (r, e1) ∧
    Ev (fun k => galois_Tables_Div.f k (tab m p) (a : Int) (b : Int)) (q, e2) ∧ Ev (fun k => outpostref32_Two.f k (m : Int) (p : Int) (a : Int) (b : Int)) (s, r, q, e1, e2) := by
  by_cases h : a < 2 ^ m ∧ b < 2 ^ m
  · obtain ⟨la, lb⟩ := h
    have hA := Add_t F la lb
    have hM := Mul_t F la lb
    rcases Nat.eq_zero_or_pos b with rfl | h0
    · rw [Nat.xor_zero] at hA
      rw [F.mu_zero_right] at hM
      exact ⟨_, _, _, _, _, hA, hM, Div_0 F la, Two_0 F la⟩
    · exact ⟨_, _, _, _, _, hA, hM, Div_t F la h0 lb, Two_ok F la h0 lb⟩
  · have hc := ck2_bad F ha hb h
    refine ⟨0, 11, 0, 0, 11, ?_, ?_, ?_, Two_bad F ha hb h⟩
    · unfold galois_Tables_Add.f; exact Ev.bind hc (ev_neg (by decide) (Ev.now _))
    · unfold galois_Tables_Mul.f; exact Ev.bind hc (ev_neg (by decide) (Ev.now _))
    · unfold galois_Tables_Div.f; exact Ev.bind hc (ev_neg (by decide) (Ev.now _))
theorem inv_agree {m p a : Nat} (F : Fi m p) (ha : a < 256) : ∃ r e : Int, Ev (fun k => galois_Tables_Inv.f k (tab m p) (a : Int)) (r, e) ∧ Ev (fun k => outpostref32_Inv.f k (m : Int) (p : Int) (a : Int)) (r, e) := by
  by_cases h : a < 2 ^ m
  · rcases Nat.eq_zero_or_pos a with rfl | h0
    · exact ⟨_, _, Inv_0 F, Inv_r0 F⟩
    · exact ⟨_, _, Inv_t F h0 h, Inv_r F h0 h⟩
  · refine ⟨0, 11, ?_, Inv_rbad F ha h⟩
    have hc := ck2_bad (a := 1) F (by omega) ha (fun hh => h hh.2)
    unfold galois_Tables_Inv.f galois_Tables_Div.f
    exact Ev.bind (Ev.bind hc (ev_neg (by decide) (Ev.now _))) (Ev.now _)
theorem pow_agree {m p a : Nat} (F : Fi m p) (n : Int) (ha : a < 256) : ∃ r e : Int, Ev (fun k => galois_Tables_Pow.f k (tab m p) (a : Int) n) (r, e) ∧ Ev (fun k => outpostref32_Pow.f k (m : Int) (p : Int) (a : Int) n) (r, e) := by
  by_cases h : a < 2 ^ m
  · rcases Nat.eq_zero_or_pos a with rfl | h0
    · have hr := Pow_r0 F n
      rcases Int.lt_trichotomy n 0 with c | c | c
      · rw [if_pos c] at hr
        exact ⟨_, _, Pow_neg F n c, hr⟩
      · subst c
        exact ⟨_, _, Pow_one F h, hr⟩
      · rw [if_neg (by omega), if_neg (by omega)] at hr
        exact ⟨_, _, Pow_0 F n c, hr⟩
    · have hr := Pow_r F n h0 h
      by_cases c : n = 0
      · subst c
        have e : po p m a 0 = 1 := by
          unfold po
          have := ex_of_nat m 0
          rw [Nat.zero_mod] at this
          rw [show (0 : Int) = ((0 : Nat) : Int) from rfl, this, Nat.zero_mul]
          rfl
        rw [e] at hr
        exact ⟨_, _, Pow_one F h, hr⟩
      · exact ⟨_, _, Pow_t F n h0 h c, hr⟩
  · refine ⟨0, 11, ?_, Pow_rbad F n ha h⟩
    unfold galois_Tables_Pow.f
    exact Ev.bind (ck1_bad F ha h) (ev_neg (by decide) (Ev.now _))
theorem log_agree {m p a : Nat} (F : Fi m p) (ha : a < 256) : ∃ r e : Int, Ev (fun k => galois_Tables_Log.f k (tab m p) (a : Int)) (r, e) ∧ Ev (fun k => outpostref32_Log.f k (m : Int) (p : Int) (a : Int)) (r, e) := by
  by_cases h : a < 2 ^ m
  · rcases Nat.eq_zero_or_pos a with rfl | h0
    · exact ⟨_, _, Log_0 F, Log_r0 F⟩
    · exact ⟨_, _, Log_t F h0 h, Log_r F h0 h⟩
  · refine ⟨0, 11, ?_, Log_rbad F ha h⟩
    unfold galois_Tables_Log.f
    exact Ev.bind (ck1_bad F ha h) (ev_neg (by decide) (Ev.now _))
theorem min_agree {m p a : Nat} (F : Fi m p) (ha : a < 256) : ∃ r e : Int, Ev (fun k => galois_Tables_Minimal.f k (tab m p) (a : Int)) (r, e) ∧ Ev (fun k => outpostref32_Minimal.f k (m : Int) (p : Int) (a : Int)) (r, e) := by
  by_cases h : a < 2 ^ m
  · obtain ⟨r, h1, h2⟩ := Minimal_both F h
    exact ⟨r, 0, h1, h2⟩
  · refine ⟨0, 11, ?_, Minimal_bad F ha h⟩
    unfold galois_Tables_Minimal.f
    exact Ev.bind (ck1_bad F ha h) (ev_neg (by decide) (Ev.now _))
theorem po_two {m p : Nat} (F : Fi m p) (n : Int) : po p m 2 n = pw p (2 ^ m) (ex_of m n) := by
  have h8 := F.sz8
  unfold po
  have := lg_pw F.fld 1
  rw [pw_one F, Nat.mod_eq_of_lt (by omega)] at this
  rw [this, Nat.mul_one]
theorem Size_t {m p : Nat} (F : Fi m p) : galois_Tables_Size.f (tab m p) = some ((2 ^ m : Nat) : Int) := by
  unfold galois_Tables_Size.f
  rw [none_f]
  simp only [Option.bind_some, Bool.false_eq_true, if_false]
  rw [if_pos (by rw [tab_size]; have := F.sz8; omega), tab_size]
theorem GaloisElements : outpostlaw32_GaloisElements.Pure := by
  intro M P x y n hM hP hx hy hn
  obtain ⟨a, rfl⟩ : ∃ v : Nat, x = (v : Int) := ⟨x.toNat, by have := wf_u8 hx; omega⟩
  obtain ⟨b, rfl⟩ : ∃ v : Nat, y = (v : Int) := ⟨y.toNat, by have := wf_u8 hy; omega⟩
  have ha : a < 256 := by have := wf_u8 hx; omega
  have hb : b < 256 := by have := wf_u8 hy; omega
  refine Ev.rounds (g := fun k => outpostlaw32_GaloisElements.f k M P (a : Int) (b : Int) n) ?_
  unfold outpostlaw32_GaloisElements.f
  rcases made_f M P (wf_i64 hM) (wf_u64 hP) with h | ⟨m, p, rfl, rfl, F, h⟩
  · refine Ev.bind h ?_
    refine ev_neg (by simp) ?_
    exact Ev.step (f := fun _ => some true) (fun k => by simp only [outpostlaw32_GaloisElements.j0, if_true]) (Ev.now _)
  · refine Ev.bind h ?_
    refine ev_pos rfl ?_
    obtain ⟨s, e1, r, q, e2, tA, tM, tD, tT⟩ := two_agree (a := a) (b := b) F ha hb
    obtain ⟨ri, ei, iA, iB⟩ := inv_agree (a := a) F ha
    obtain ⟨rp, ep, pA, pB⟩ := pow_agree (a := a) F n ha
    obtain ⟨rl, el, lA, lB⟩ := log_agree (a := a) F ha
    obtain ⟨rm, em, mA, mB⟩ := min_agree (a := a) F ha
    have h2 := Pow_r (a := 2) F n (by omega) (by have := F.sz8; omega)
    rw [po_two F] at h2
    refine Ev.succ ?_
    simp only [outpostlaw32_GaloisElements.j0, Bool.not_true, Bool.false_eq_true, if_false]
    refine Ev.bind tA (Ev.bind tM (Ev.bind tD (Ev.bind iA (Ev.bind pA (Ev.bind lA (Ev.bind mA (Ev.bind tT ?_)))))))
    simp only [outpostlaw32_num.f, Option.bind_some, if_true, Size_t F, Size_r F, bne_self_eq_false]
    refine Ev.succ ?_
    simp only [outpostlaw32_GaloisElements.j1, Bool.false_eq_true, if_false]
    refine Ev.bind iB ?_
    simp only [outpostlaw32_num.f, Option.bind_some, if_true, bne_self_eq_false]
    refine Ev.succ ?_
    simp only [outpostlaw32_GaloisElements.j2, Bool.false_eq_true, if_false]
    refine Ev.bind pB ?_
    simp only [outpostlaw32_num.f, Option.bind_some, if_true, bne_self_eq_false]
    refine Ev.succ ?_
    simp only [outpostlaw32_GaloisElements.j3, Bool.false_eq_true, if_false]
    refine Ev.bind lB ?_
    simp only [outpostlaw32_num.f, Option.bind_some, if_true, bne_self_eq_false]
    refine Ev.succ ?_
    simp only [outpostlaw32_GaloisElements.j4, Bool.false_eq_true, if_false]
    refine Ev.bind mB (Ev.bind h2 ?_)
    simp only [outpostlaw32_num.f, Option.bind_some, if_true, Exp_t F, beq_self_eq_true]
    exact Ev.now _
end Go.Proofs.Ytlmhppgplbefcaa.Pure
