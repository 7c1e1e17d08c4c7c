/- For every row of bytes and all numbers: what lies near in the shuffled order comes from far apart. The plain law of BitrowSpreads; no condition. -/
import Derived.Test.YtgebmeojmenomaaSpPx10
import Derived.Test.YtgebmeojmenomaaSpQShuf
namespace Go.Proofs.Ytgebmeojmenomaa.Pure
open Go.RowKit Go.Proofs.Ytgebmeojmenomaa.P Go.Proofs.YtgebmeojmenomaaW.PrintWords Go.Proofs.YtgebmeojmenomaaW.PrintLast Go.Proofs.YtgebmeojmenomaaW.PrintMore Go.Proofs.YtgebmeojmenomaaW.Q
theorem wnat (a : Nat) (h : a ≤ 281474976710656) : wrap64 (a : Int) = (a : Int) := w64 (by omega) (by omega)
theorem wsub (a b : Nat) (h : b ≤ a) (h2 : a ≤ 281474976710656) : wrap64 ((a : Int) - (b : Int)) = ((a - b : Nat) : Int) := by rw [w64 (by omega) (by omega)]; omega
theorem wsub1 (a : Nat) (h : 1 ≤ a) (h2 : a ≤ 281474976710656) : wrap64 ((a : Int) - 1) = ((a - 1 : Nat) : Int) := by rw [w64 (by omega) (by omega)]; omega
theorem wadd (a b : Nat) (h : a + b ≤ 4611686018427387904) : wrap64 ((a : Int) + (b : Int)) = ((a + b : Nat) : Int) := by rw [w64 (by omega) (by omega)]; omega
theorem BitrowSpreads : outpostlaw01_BitrowSpreads.Pure := by
  intro l0 a1 a2 a3 hm hs hw g1 g2 g3
  have i64 : ∀ a : Int, (Lit.int .i64 a).wf = true → -9223372036854775808 ≤ a ∧ a ≤ 9223372036854775807 := fun a h => by simpa [Lit.wf, IntKind.min, IntKind.max, IntKind.signed, IntKind.bits] using h
  have b1 := i64 a1 g1
  have b2 := i64 a2 g2
  have b3 := i64 a3 g3
  refine Ev.rounds (g := fun k => outpostlaw01_BitrowSpreads.f k l0 a1 a2 a3) ?_
  unfold outpostlaw01_BitrowSpreads.f
  obtain ⟨rows', hr, hr1, hr2⟩ := within_f a1 1 64 b1.1 b1.2 (by omega) (by omega) (by omega)
  obtain ⟨rows, rfl⟩ : ∃ r : Nat, rows' = (r : Int) := ⟨rows'.toNat, by omega⟩
  rw [hr]
  simp only [Option.bind_some]
  by_cases h2 : (l0.length : Int) < 2
  · simp only [if_pos h2]
    refine Ev.succ ?_
    simp only [outpostlaw01_BitrowSpreads.j0, if_true]
    refine Ev.bind knows_f ?_
    exact Ev.now true
  simp only [if_neg h2]
  refine Ev.bind knows_f ?_
  refine Ev.succ ?_
  simp only [outpostlaw01_BitrowSpreads.j0, Bool.not_true, Bool.false_eq_true, if_false]
  obtain ⟨n, hn⟩ : ∃ n, n = l0.length := ⟨_, rfl⟩
  rw [← hn] at h2 hs ⊢
  clear hm hw hn g1 g2 g3 hr
  have hn2 : 2 ≤ n := by omega
  obtain ⟨hc0, hcn⟩ := cols_pos (n := n) (rows := rows) (by omega) (by omega)
  rw [cols_int n rows (by omega) (by omega) (by omega)]
  obtain ⟨c, hc⟩ : ∃ c, c = cols n rows := ⟨_, rfl⟩
  have hf : 1 ≤ n / c := by rw [hc]; exact Nat.div_pos hcn hc0
  have hf2 : n / c ≤ n := Nat.div_le_self _ _
  rw [← hc] at hc0 hcn ⊢
  have z := Int.natCast_nonneg (n / c)
  have hsz : n ≤ 140737488355328 := by omega
  have e1 : ¬ ((rows : Int) = 0) := by omega
  have e2 : ¬ ((c : Int) = 0) := by omega
  obtain ⟨i', hi, hi1, hi2⟩ := within_f a2 0 ((n - 1 : Nat) : Int) b2.1 b2.2 (by omega) (by omega) (by omega)
  obtain ⟨i, rfl⟩ : ∃ r : Nat, i' = (r : Int) := ⟨i'.toNat, by omega⟩
  generalize hq : n / c = f at hf hf2 z
  have e8 : mn ((n - 1 - i : Nat) : Int) ((f - 1 : Nat) : Int) = ((min (n - 1 - i) (f - 1) : Nat) : Int) := by
    unfold mn
    split <;> omega
  obtain ⟨j', hj, hj1, hj2⟩ := within_f a3 0 ((min (n - 1 - i) (f - 1) : Nat) : Int) b3.1 b3.2 (by omega) (by omega) (by omega)
  obtain ⟨j0, rfl⟩ : ∃ r : Nat, j' = (r : Int) := ⟨j'.toNat, by omega⟩
  have hin : i < n := by omega
  have hjn : i + j0 < n := by omega
  have hnear : i + j0 + 1 ≤ i + f := by omega
  have hin1 : i ≤ n - 1 := by omega
  have hij : j0 + i ≤ 4611686018427387904 := by omega
  have hr0 : 0 < rows := by omega
  have hr64 : rows ≤ 64 := by omega
  have hsz2 : n ≤ 281474976710656 := by omega
  have hn1 : 1 ≤ n := by omega
  have hfs : f ≤ 281474976710656 := by omega
  have hcs : c ≤ 281474976710656 := by omega
  have hns : n - 1 ≤ 281474976710656 := by omega
  have p1 := (ord_ok hc0 hcn i hin).1
  have p2 := (ord_ok hc0 hcn (i + j0) hjn).1
  have far : 0 < j0 → ord n c i ≠ ord n c (i + j0) ∧ (ord n c (i + j0) + c ≤ ord n c i + 1 ∨ ord n c i + c ≤ ord n c (i + j0) + 1) := fun h => ord_far hc0 hcn hjn (by omega) (by rw [hq]; exact hnear)
  have q1 : ¬ ((ord n c i : Int) < 0) := by omega
  have q2 : ¬ ((ord n c (i + j0) : Int) < 0) := by omega
  have pl1 := place_f n i rows hin hsz2 hr0 hr64
  have pl2 := place_f n (i + j0) rows hjn hsz2 hr0 hr64
  have fin : 0 < j0 → ¬ ((i : Int) = ((i + j0 : Nat) : Int)) ∧ mx (wrap64 ((ord n c i : Int) - (ord n c (i + j0) : Int))) (wrap64 ((ord n c (i + j0) : Int) - (ord n c i : Int))) ≥ ((c - 1 : Nat) : Int) ∧ ((ord n c i : Int) != (ord n c (i + j0) : Int)) = true := by
    intro h
    obtain ⟨f1, f2⟩ := far h
    generalize ord n c i = p at *
    generalize ord n c (i + j0) = q at *
    refine ⟨by omega, ?_, bne_iff_ne.2 (by omega)⟩
    rw [w64 (n := (p : Int) - (q : Int)) (by omega) (by omega), w64 (n := (q : Int) - (p : Int)) (by omega) (by omega)]
    unfold mx
    split <;> omega
  have hj00 : j0 = 0 ∨ 0 < j0 := by omega
  have e4' : Int.tdiv (n : Int) (c : Int) = (f : Int) := by rw [tdiv_nat, hq]
  have e3 : wrap64 ((n : Int) - 1) = ((n - 1 : Nat) : Int) := wsub1 n hn1 hsz2
  have e4 : wrap64 (Int.tdiv (n : Int) (c : Int)) = (f : Int) := by rw [e4']; exact wnat f hfs
  have e5 : wrap64 ((f : Int) - 1) = ((f - 1 : Nat) : Int) := wsub1 f hf hfs
  have e6 : wrap64 ((c : Int) - 1) = ((c - 1 : Nat) : Int) := wsub1 c hc0 hcs
  have e7 : wrap64 (((n - 1 : Nat) : Int) - (i : Int)) = ((n - 1 - i : Nat) : Int) := wsub _ _ hin1 hns
  have e9 : wrap64 ((j0 : Int) + (i : Int)) = ((i + j0 : Nat) : Int) := by rw [wadd _ _ hij, Nat.add_comm]
  simp only [e1, e2, e3, if_false]
  simp only [hi, Option.bind_some, e4, e5, e7, e8]
  simp only [hj, Option.bind_some, e9]
  rw [← hc] at pl1 pl2
  refine Ev.bind pl1 (Ev.bind pl2 ?_)
  simp only [q1, q2, if_false, e6]
  rcases hj00 with h0 | h0
  · subst h0
    simp only [Nat.add_zero, if_true]
    exact Ev.now true
  · obtain ⟨r1, r2, r3⟩ := fin h0
    simp only [r1, r2, r3, if_true, if_false]
    exact Ev.now true
end Go.Proofs.Ytgebmeojmenomaa.Pure
