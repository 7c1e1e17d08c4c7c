/- For every field and every byte, taken as an element: its minimal polynomial is irreducible, has the element and its square as roots, and divides x^(2^M) + x. The plain law of GaloisMinimal; no condition. -/
import Derived.Test.YtlmhppgplbefcaaGmPx16
import Derived.Test.YtlmhppgplbefcaaGmQCkMA
import Derived.Test.YtlmhppgplbefcaaGmQCkMB
import Derived.Test.YtlmhppgplbefcaaGmQCkMC
import Derived.Test.YtlmhppgplbefcaaGmQCkMD
import Derived.Test.YtlmhppgplbefcaaGmQCkME
import Derived.Test.YtlmhppgplbefcaaGmQGalE
namespace Go.Proofs.Ytlmhppgplbefcaa.Pure
open Go.RowKit Go.Proofs.Ytlmhppgplbefcaa.P Go.Proofs.YtlmhppgplbefcaaW.PrintWords Go.Proofs.YtlmhppgplbefcaaW.PrintLast Go.Proofs.YtlmhppgplbefcaaW.Q Go.Proofs.Ytlmhppgplbefcaa.GalP Go.Proofs.Ytlmhppgplbefcaa.Gal
theorem ckMi_at (lo n : Nat) (h : (List.range n).all (fun i => ckMi (lo + i)) = true) (i : Nat) (h1 : lo ≤ i) (h2 : i < lo + n) : ckMi i = true := by
  have := List.all_eq_true.1 h (i - lo) (List.mem_range.2 (by omega))
  rwa [show lo + (i - lo) = i by omega] at this
theorem ckMi_all (i : Nat) (h : i < 510) : ckMi i = true := by
  by_cases c1 : i < 62
  · exact ckMi_at 0 62 ckM0 i (by omega) (by omega)
  by_cases c2 : i < 126
  · exact ckMi_at 62 64 ckM62 i (by omega) (by omega)
  by_cases c3 : i < 254
  · exact ckMi_at 126 128 ckM126 i (by omega) (by omega)
  by_cases c4 : i < 382
  · exact ckMi_at 254 128 ckM254 i (by omega) (by omega)
  · exact ckMi_at 382 128 ckM382 i (by omega) (by omega)
/-- A polynomial that no lesser one divides by a root: it is irreducible, as the program has it. -/
theorem prime_of {m p a N : Nat} (F : Fi m p) (ha : a < 2 ^ m) (h2 : 2 ≤ N) (h512 : N < 512) (h0 : he p m a 16 N = 0) (hn : ∀ g, 0 < g → g < N → he p m a 16 g ≠ 0) : ckI N = true := by
  have h := ckMi_all (N - 2) (by omega)
  unfold ckMi at h
  rw [show N - 2 + 2 = N by omega] at h
  generalize (facs.getD (N - 2) (0, 0)).1 = g at h
  generalize (facs.getD (N - 2) (0, 0)).2 = k at h
  unfold ckM at h
  by_cases c : g = 0
  · rw [if_pos c] at h
    exact h
  · rw [if_neg c] at h
    simp only [Bool.and_eq_true, decide_eq_true_eq, beq_iff_eq] at h
    obtain ⟨⟨⟨⟨g1, g2⟩, g3⟩, g4⟩, g5⟩ := h
    exfalso
    have hx : g < 2 ^ 9 := by omega
    have e : cl 16 g k = cl 9 g k := cl_grow 7 9 g k hx
    have hs : he p m a 16 (cl 9 g k) = he p m a 18 (cl 9 g k) := (F.he_grow (a := a) 2 16 _ (by rw [g5]; omega)).symm
    have hm := F.he_cl ha 9 g k 9 18 hx (by omega) (by omega)
    have e1 := F.he_grow (a := a) 2 16 g (by omega)
    have e2 := F.he_grow (a := a) 2 16 k (by omega)
    rw [← hs, g5, h0] at hm
    rw [show (16 + 2 : Nat) = 18 from rfl] at e1 e2
    rw [e1, e2] at hm
    have p1 := Nat.pos_of_ne_zero (hn g (by omega) g3)
    have p2 := Nat.pos_of_ne_zero (hn k (by omega) g4)
    have := F.mu_pos p1 (F.he_lt ha 16 g) p2 (F.he_lt ha 16 k)
    omega
theorem ckI_use {N m d : Nat} (h : ckI N = true) (hd : Poly.blen N = d + 1) (h3 : 3 ≤ m) (h8 : m ≤ 8) (hm : m % d = 0) :
    poly_Irreducible.f 300 (N : Int) = some (true, 0) ∧ ∃ u v, poly_PowMod.f 300 2 ((2 ^ m : Nat) : Int) (N : Int) = some (u, 0) ∧ poly_Div.f 300 2 (N : Int) = some (v, u, 0) := by
  unfold ckI at h
  rw [Bool.and_eq_true, List.all_eq_true] at h
  refine ⟨ckB_of h.1, ?_⟩
  have := h.2 m (by simp; omega)
  rw [hd, Nat.add_sub_cancel, hm] at this
  simp only [bne_self_eq_false, Bool.false_or] at this
  exact ckD_of this
/-- The list of the bits, as the law makes it. -/
theorem bits_l {m p a N : Nat} (t : GTab) (hN : N < 512) (r : Bool) (j : Nat) : ∀ n, n + j ≤ 20 →
    Ev (fun k => outpostlaw32_GaloisMinimal.l0 k t (a : Int) (N : Int) (ints (bl (n + j) N)) (-1) (m : Int) (p : Int)) r →
    Ev (fun k => outpostlaw32_GaloisMinimal.l0 k t (a : Int) (N : Int) (ints (bl n (N / 2 ^ j))) ((j : Int) - 1) (m : Int) (p : Int)) r := by
  induction j with
  | zero =>
    intro n hn hk
    rw [Nat.pow_zero, Nat.div_one]
    exact hk
  | succ j ih =>
    intro n hn hk
    have h := ih (n + 1) (by omega) (by rw [show n + 1 + j = n + (j + 1) by omega]; exact hk)
    have e1 : (Go.bits .and .u64 (shr .u64 (N : Int) (IntKind.u64.wrap (j : Int))) 1) % 256 = ((N / 2 ^ j % 2 : Nat) : Int) := by
      have hb := refBit N j (by omega) (by omega)
      unfold outpostref02_Bit.f at hb
      rw [if_pos (by rw [wu64 (by omega) (by omega)]; omega)] at hb
      rw [Option.some.inj hb]
      have := Nat.mod_lt (N / 2 ^ j) (show 0 < 2 by omega)
      omega
    have e2 : ints (bl (n + 1) (N / 2 ^ j)) = ints (bl n (N / 2 ^ (j + 1))) ++ [((N / 2 ^ j % 2 : Nat) : Int)] := by
      rw [bl, Nat.div_div_eq_div_mul, ← Nat.pow_succ, ints_append]
      rfl
    have c0 : (j : Int) ≥ 0 := by omega
    have c1 : (0 : Int) ≤ IntKind.u64.wrap (j : Int) := by rw [wu64 (by omega) (by omega)]; omega
    have c2 : (ints (bl n (N / 2 ^ (j + 1)))).length < 140737488355328 := by rw [ints_length, bl_length]; omega
    have ei : wrap64 ((j : Int) - 1) = (j : Int) - 1 := w64 (by omega) (by omega)
    have ej : ((j + 1 : Nat) : Int) - 1 = (j : Int) := by clear ei e1; omega
    refine Ev.step (fun k => ?_) h
    simp only [outpostlaw32_GaloisMinimal.l0]
    rw [ej, if_pos c0, if_pos c1, if_pos c2, e1, ← e2, ei]
theorem least_eq {f : Nat → Nat} {N K : Nat} (hN : 0 < N) (hK : 0 < K) (h1 : f N = 0) (h2 : f K = 0) (n1 : ∀ g, 0 < g → g < N → f g ≠ 0) (n2 : ∀ g, 0 < g → g < K → f g ≠ 0) : N = K := by
  rcases Nat.lt_trichotomy N K with c | c | c
  · exact absurd h1 (n2 N hN c)
  · exact c
  · exact absurd h2 (n1 K hK c)
theorem Pow2 {m p a : Nat} (F : Fi m p) (ha : a < 2 ^ m) : Ev (fun k => galois_Tables_Pow.f k (tab m p) (a : Int) 2) (((mu p m a a : Nat) : Int), 0) := by
  have h8 := F.sz8
  rcases Nat.eq_zero_or_pos a with rfl | h0
  · rw [F.mu_zero_left]
    exact Pow_0 F 2 (by omega)
  · have h := Pow_t F 2 h0 ha (by omega)
    have e : po p m a 2 = mu p m a a := by
      rw [F.mu_eq h0 ha h0 ha]
      have e := ex_of_nat m 2
      rw [Nat.mod_eq_of_lt (by omega)] at e
      unfold po
      rw [show (2 : Int) = ((2 : Nat) : Int) from rfl, e, Nat.two_mul]
    rw [e] at h
    exact h
/-- What the law asks of the minimal polynomials of an element and its square. -/
theorem min_facts {m p a : Nat} (F : Fi m p) (ha : a < 2 ^ m) : ∃ (N d : Nat) (u v : Int), Ev (fun k => galois_Tables_Minimal.f k (tab m p) (a : Int)) ((N : Int), 0) ∧ Ev (fun k => galois_Tables_Minimal.f k (tab m p) ((mu p m a a : Nat) : Int)) ((N : Int), 0) ∧
    Ev (fun k => poly_Irreducible.f k (N : Int)) (true, 0) ∧ Ev (fun k => poly_PowMod.f k 2 ((2 ^ m : Nat) : Int) (N : Int)) (u, 0) ∧ Ev (fun k => poly_Div.f k 2 (N : Int)) (v, u, 0) ∧
    poly_Degree.f (N : Int) = some (d : Int) ∧ d ≤ m ∧ N < 512 ∧ d ≤ 8 ∧ Ev (fun k => galois_Tables_Eval.f k (tab m p) (ints (bl (d + 1) N)) (a : Int)) (0, 0) := by
  have hm8 := F.eight
  have hs : mu p m a a < 2 ^ m := F.mu_lt ha
  obtain ⟨N, d, hN, d0, d1, d2, d3, d4, d5, d6, d7, d8, d9⟩ := F.least ha
  obtain ⟨K, e, hK, e0, e1, e2, e3, e4, e5, e6, e7, e8, e9⟩ := F.least hs
  have D5 := Aside0.mk d5
  have D6 := Aside0.mk d6
  have D7 := Aside0.mk (And.intro d7 (And.intro d8 d9))
  have E5 := Aside0.mk e5
  have E6 := Aside0.mk e6
  have E7 := Aside0.mk (And.intro e7 (And.intro e8 e9))
  have HN := Aside0.mk hN
  have HK := Aside0.mk hK
  clear d5 d6 d7 d8 d9 e5 e6 e7 e8 e9 hN hK
  have hd9 : 2 ^ (d + 1) ≤ 2 ^ 9 := Nat.pow_le_pow_right (by omega) (by omega)
  have hd1 : 2 ^ 1 ≤ 2 ^ d := Nat.pow_le_pow_right (by omega) d0
  have he1 : 2 ^ 1 ≤ 2 ^ e := Nat.pow_le_pow_right (by omega) e0
  have hN0 : 0 < N := by omega
  have hN2 : 2 ≤ N := by omega
  have hN5 : N < 512 := by omega
  have hK0 : 0 < K := by omega
  have hd8 : d ≤ 8 := by omega
  have hb : Poly.blen N = d + 1 := Poly.blen_eq d3 d4
  have hd16 : d + 1 + (16 - (d + 1)) = 16 := by omega
  have hle : (bl (d + 1) N).length ≤ 1024 := by rw [bl_length]; omega
  have hdeg : poly_Degree.f (N : Int) = some (d : Int) := by
    rw [polyDegree_f N (by omega), hb]
    have : ((d + 1 : Nat) : Int) - 1 = (d : Int) := by omega
    rw [this]
  have hsz := F.sz8
  have hlt : ∀ y ∈ bl (d + 1) N, y < 2 ^ m := fun y hy => by have := bl_le _ _ y hy; omega
  have hNK : N = K := least_eq (f := he p m a 16) hN0 hK0 D5.out ((F.he_conj ha 16 K).1 E5.out) D6.out (fun g h1 h2 h3 => E6.out g h1 h2 ((F.he_conj ha 16 g).2 h3))
  have mA := Minimal_t F ha d0 d1 D7.out.1 D7.out.2.1 D7.out.2.2
  have mB := Minimal_t F hs e0 e1 E7.out.1 E7.out.2.1 E7.out.2.2
  rw [HN.out] at mA
  rw [HK.out, ← hNK] at mB
  obtain ⟨i1, u, v, i2, i3⟩ := ckI_use (prime_of F ha hN2 hN5 D5.out D6.out) hb F.three F.eight d2
  have hv0 : hv p m (bl (d + 1) N) a = 0 := by
    have h1 := F.he_grow (a := a) (16 - (d + 1)) (d + 1) N d4
    rw [hd16, D5.out] at h1
    exact h1.symm
  have hE := Eval_t F ha (bl (d + 1) N) hlt hle
  rw [hv0] at hE
  exact ⟨N, d, u, v, mA, mB, Ev.of (fun k => poly_Irreducible.mono _ k) i1, Ev.of (fun k => poly_PowMod.mono _ _ _ k) i2, Ev.of (fun k => poly_Div.mono _ _ k) i3, hdeg, d1, hN5, hd8, hE⟩
theorem GaloisMinimal : outpostlaw32_GaloisMinimal.Pure := by
  intro M P x hM hP hx
  obtain ⟨x, rfl⟩ : ∃ v : Nat, x = (v : Int) := ⟨x.toNat, by have := wf_u8 hx; omega⟩
  have hx2 : x < 256 := by have := wf_u8 hx; omega
  refine Ev.rounds (g := fun k => outpostlaw32_GaloisMinimal.f k M P (x : Int)) ?_
  unfold outpostlaw32_GaloisMinimal.f
  rcases made_f M P (wf_i64 hM) (wf_u64 hP) with h | ⟨m, p, rfl, rfl, F, h⟩
  · refine Ev.bind h ?_
    refine ev_neg (by simp) ?_
    exact Ev.step (f := fun _ => some true) (fun k => by simp only [outpostlaw32_GaloisMinimal.j0, if_true]) (Ev.now _)
  · refine Ev.bind h ?_
    refine ev_pos rfl ?_
    have h8 := F.sz8
    have h256 := F.sz256
    have hm8 := F.eight
    obtain ⟨a, hax⟩ : ∃ a, a = x % 2 ^ m := ⟨_, rfl⟩
    have ha : a < 2 ^ m := by rw [hax]; exact Nat.mod_lt _ (by omega)
    have hs : mu p m a a < 2 ^ m := F.mu_lt ha
    obtain ⟨N, d, u, v, mA, mB, hI, hPM, hDv, hdeg, hdm, hN5, hd8, hE⟩ := min_facts F ha
    have hsh : shl .u64 1 (IntKind.u64.wrap (m : Int)) = ((2 ^ m : Nat) : Int) := by
      rw [wu64 (by omega) (by omega)]
      have h1 := shl64 1 m (by omega)
      generalize 2 ^ m = s at h1 h256 ⊢
      rw [Nat.one_mul, Nat.mod_eq_of_lt (by omega)] at h1
      exact h1
    have cw : (0 : Int) ≤ IntKind.u64.wrap (m : Int) := by rw [wu64 (by omega) (by omega)]; omega
    have cm : ¬ (-1 : Int) ≥ 0 := by omega
    have cd : decide ((d : Int) > (m : Int)) = false := decide_eq_false (by omega)
    have ed : ((d + 1 : Nat) : Int) - 1 = (d : Int) := by omega
    have hbl := bits_l (a := a) (N := N) (p := p) (m := m) (tab m p) hN5 true (d + 1) 0 (by omega)
    have hfin : Ev (fun k => outpostlaw32_GaloisMinimal.l0 k (tab m p) (a : Int) (N : Int) (ints (bl (0 + (d + 1)) N)) (-1) (m : Int) (p : Int)) true := by
      rw [Nat.zero_add]
      refine Ev.succ ?_
      simp only [outpostlaw32_GaloisMinimal.l0]
      refine ev_neg cm (Ev.bind hE (ev_pos cw ?_))
      rw [hsh]
      refine Ev.bind hPM (Ev.bind hDv ?_)
      simp only [outpostlaw32_num.f, Option.bind_some, if_true, beq_self_eq_true]
      exact Ev.now _
    have hl := hbl hfin
    rw [ed] at hl
    refine Ev.succ ?_
    simp only [outpostlaw32_GaloisMinimal.j0, Bool.not_true, Bool.false_eq_true, if_false, in_f F hx2, Option.bind_some]
    rw [← hax]
    refine Ev.bind mA (Ev.bind (Pow2 F ha) (Ev.bind mB (Ev.bind hI ?_)))
    simp only [outpostlaw32_num.f, Option.bind_some, if_true, hdeg, cd]
    refine Ev.succ ?_
    simp only [outpostlaw32_GaloisMinimal.j1, Bool.false_eq_true, if_false, hdeg, Option.bind_some]
    exact hl
end Go.Proofs.Ytlmhppgplbefcaa.Pure
