/- For every field and every three bytes, taken as elements: the laws of a field; all powers come round; squares add up. The plain law of GaloisField; no condition. -/
import Derived.Test.YtlmhppgplbefcaaGfPx10
import Derived.Test.YtlmhppgplbefcaaGfQGalT
namespace Go.Proofs.Ytlmhppgplbefcaa.Pure
open Go.RowKit Go.Proofs.Ytlmhppgplbefcaa.P Go.Proofs.YtlmhppgplbefcaaW.PrintWords Go.Proofs.YtlmhppgplbefcaaW.PrintLast Go.Proofs.YtlmhppgplbefcaaW.Q Go.Proofs.Ytlmhppgplbefcaa.GalP Go.Proofs.Ytlmhppgplbefcaa.Gal
/-- A power of any element, n above 0. -/
def pn (p m a : Nat) (n : Int) : Nat := if a = 0 then 0 else po p m a n
theorem Pow_any {m p a : Nat} (F : Fi m p) (n : Int) (ha : a < 2 ^ m) (hn : 0 < n) : Ev (fun k => galois_Tables_Pow.f k (tab m p) (a : Int) n) (((pn p m a n : Nat) : Int), 0) := by
  unfold pn
  rcases Nat.eq_zero_or_pos a with rfl | ha0
  · rw [if_pos rfl]; exact Pow_0 F n hn
  · rw [if_neg (by omega)]; exact Pow_t F n ha0 ha (by omega)
theorem pn_lt {m p a : Nat} (F : Fi m p) (n : Int) : pn p m a n < 2 ^ m := by
  unfold pn
  split
  · have := F.sz8; omega
  · exact F.pw_lt _
theorem pn_two {m p a : Nat} (F : Fi m p) (ha : a < 2 ^ m) : pn p m a 2 = mu p m a a := by
  have h8 := F.sz8
  unfold pn
  rcases Nat.eq_zero_or_pos a with rfl | ha0
  · rw [if_pos rfl, F.mu_zero_left]
  · rw [if_neg (by omega), F.mu_eq ha0 ha ha0 ha]
    have e := ex_of_nat m 2
    rw [Nat.mod_eq_of_lt (by omega)] at e
    unfold po
    rw [show (2 : Int) = ((2 : Nat) : Int) from rfl, e, Nat.two_mul]
theorem pn_all {m p a : Nat} (F : Fi m p) (ha : a < 2 ^ m) : pn p m a ((2 ^ m : Nat) : Int) = a := by
  have h8 := F.sz8
  unfold pn
  rcases Nat.eq_zero_or_pos a with rfl | ha0
  · rw [if_pos rfl]
  · rw [if_neg (by omega)]
    unfold po
    have e : (2 ^ m) % (2 ^ m - 1) = 1 := by
      have h1 : 2 ^ m = 1 + (2 ^ m - 1) := by omega
      have h2 : (1 + (2 ^ m - 1)) % (2 ^ m - 1) = 1 := by rw [Nat.add_mod_right, Nat.mod_eq_of_lt (by omega)]
      rwa [← h1] at h2
    rw [ex_of_nat, e, Nat.one_mul, pw_lg F.fld ha0 ha]
theorem sq_add {m p b c : Nat} (F : Fi m p) (hb : b < 2 ^ m) (hc : c < 2 ^ m) : mu p m (b ^^^ c) (b ^^^ c) = mu p m b b ^^^ mu p m c c := by
  rw [F.mu_add_left hb hc, F.mu_add_right, F.mu_add_right, F.mu_comm hc hb, Nat.xor_assoc, ← Nat.xor_assoc (mu p m b c), Nat.xor_self, Nat.zero_xor]
theorem GaloisField : outpostlaw32_GaloisField.Pure := by
  intro M P x y z hM hP hx hy hz
  obtain ⟨x, rfl⟩ : ∃ v : Nat, x = (v : Int) := ⟨x.toNat, by have := wf_u8 hx; omega⟩
  obtain ⟨y, rfl⟩ : ∃ v : Nat, y = (v : Int) := ⟨y.toNat, by have := wf_u8 hy; omega⟩
  obtain ⟨z, rfl⟩ : ∃ v : Nat, z = (v : Int) := ⟨z.toNat, by have := wf_u8 hz; omega⟩
  have hx2 : x < 256 := by have := wf_u8 hx; omega
  have hy2 : y < 256 := by have := wf_u8 hy; omega
  have hz2 : z < 256 := by have := wf_u8 hz; omega
  refine Ev.rounds (g := fun k => outpostlaw32_GaloisField.f k M P (x : Int) (y : Int) (z : Int)) ?_
  unfold outpostlaw32_GaloisField.f
  rcases made_f M P (wf_i64 hM) (wf_u64 hP) with h | ⟨m, p, rfl, rfl, F, h⟩
  · refine Ev.bind h ?_
    refine ev_neg (by simp) ?_
    exact Ev.step (f := fun _ => some true) (fun k => by simp only [outpostlaw32_GaloisField.j0, if_true]) (Ev.now _)
  · refine Ev.bind h ?_
    refine ev_pos rfl ?_
    have h8 := F.sz8
    have h256 := F.sz256
    have hm8 := F.eight
    obtain ⟨a, ha⟩ : ∃ a, a = x % 2 ^ m := ⟨_, rfl⟩
    obtain ⟨b, hb⟩ : ∃ b, b = y % 2 ^ m := ⟨_, rfl⟩
    obtain ⟨c, hc⟩ : ∃ c, c = z % 2 ^ m := ⟨_, rfl⟩
    have la : a < 2 ^ m := by rw [ha]; exact Nat.mod_lt _ (by omega)
    have lb : b < 2 ^ m := by rw [hb]; exact Nat.mod_lt _ (by omega)
    have lc : c < 2 ^ m := by rw [hc]; exact Nat.mod_lt _ (by omega)
    have lbc : b ^^^ c < 2 ^ m := Nat.xor_lt_two_pow lb lc
    have lab := F.mu_lt (b := b) la
    have lac := F.mu_lt (b := c) la
    have lbc2 := F.mu_lt (b := c) lb
    have hsh : shl .i64 1 (m : Int) = ((2 ^ m : Nat) : Int) := by
      unfold shl
      rw [show min (m : Int).toNat IntKind.i64.bits = m by simp [IntKind.bits]; omega, Int.one_mul, show ((2 : Int) ^ m) = ((2 ^ m : Nat) : Int) by simp]
      generalize 2 ^ m = s at h256 ⊢
      rw [i64_w, w64 (by omega) (by omega)]
    have fin : Ev (fun k => outpostlaw32_GaloisField.j1 k (tab m p) (a : Int) (b : Int) (c : Int) ((mu p m a b : Nat) : Int) ((b ^^^ c : Nat) : Int) false) true := by
      refine Ev.succ ?_
      simp only [outpostlaw32_GaloisField.j1, Bool.false_eq_true, if_false]
      refine Ev.bind (Pow_any F 2 lb (by omega)) (Ev.bind (Pow_any F 2 lc (by omega)) (Ev.bind (Pow_any F 2 lbc (by omega)) (Ev.bind (Add_t F (pn_lt F 2) (pn_lt F 2)) ?_)))
      refine ev_pos (by rw [pn_two F lb, pn_two F lc, pn_two F lbc, sq_add F lb lc]) ?_
      rcases Nat.eq_zero_or_pos a with rfl | ha0
      · refine Ev.bind (Inv_0 F) (ev_pos (by rfl) ?_)
        simp only [outpostlaw32_num.f, Option.bind_some]
        exact ev_neg (by decide) (Ev.now _)
      · refine Ev.bind (Inv_t F ha0 la) (ev_neg (by omega) (Ev.bind (Mul_t F la (iv_lt F a)) (Ev.bind (Div_t F lab ha0 la) ?_)))
        simp only [outpostlaw32_num.f, Option.bind_some, if_true]
        rw [mu_iv F ha0 la]
        refine ev_pos rfl ?_
        have e : mu p m (mu p m a b) (iv p m a) = b := by
          rw [F.mu_comm la lb, F.mu_assoc lb la (iv_lt F a), mu_iv F ha0 la, F.mu_one' lb]
        rw [e, beq_self_eq_true]
        exact Ev.now _
    refine Ev.succ ?_
    simp only [outpostlaw32_GaloisField.j0, Bool.not_true, Bool.false_eq_true, if_false, in_f F hx2, in_f F hy2, in_f F hz2, Option.bind_some]
    rw [← ha, ← hb, ← hc]
    refine Ev.bind (Mul_t F la lb) (Ev.bind (Mul_t F lb la) (Ev.bind (Mul_t F lb lc) (Ev.bind (Mul_t F la lc) (Ev.bind (Mul_t F lab lc) (Ev.bind (Mul_t F la lbc2) (Ev.bind (Add_t F lb lc) (Ev.bind (Mul_t F la lbc) (Ev.bind (Add_t F lab lac) (Ev.bind (Add_t F lbc lc) ?_)))))))))
    have hw : IntKind.u64.wrap (m : Int) = (m : Int) := by rw [IntKind.wrap_u64]; omega
    rw [hw, hsh]
    refine ev_pos (by omega) (Ev.bind (Pow_any F _ la (by omega)) ?_)
    simp only [outpostlaw32_num.f, Option.bind_some, if_true]
    refine ev_pos (by rw [F.mu_comm la lb]) (ev_pos (by rw [F.mu_assoc la lb lc]) (ev_pos (by rw [F.mu_add_right]) (ev_pos (by rw [Nat.xor_assoc, Nat.xor_self, Nat.xor_zero]) ?_)))
    rw [pn_all F la, bne_self_eq_false]
    exact fin
end Go.Proofs.Ytlmhppgplbefcaa.Pure
