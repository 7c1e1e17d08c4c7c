/- For every three rows of bytes, made bits and cut to one length: Distance is a metric, it is the weight of the sum, and the burst of two rows holds all their unlike places. The plain law of BitrowMetric; no condition. -/
import Derived.Test.YtgebmeojmenomaaMtPx8
import Derived.Test.YtgebmeojmenomaaMtQBit4
import Derived.Test.YtgebmeojmenomaaMtQEv
set_option maxHeartbeats 1000000
namespace Go.Proofs.Ytgebmeojmenomaa.Pure
open Go.RowKit Go.Proofs.Ytgebmeojmenomaa.P Go.Proofs.YtgebmeojmenomaaW.PrintWords Go.Proofs.YtgebmeojmenomaaW.PrintLast Go.Proofs.YtgebmeojmenomaaW.PrintMore Go.Proofs.YtgebmeojmenomaaW.Q
theorem BitrowMetric : outpostlaw01_BitrowMetric.Pure := by
  intro l0 l1 l2 hm0 hs0 hw0 hm1 hs1 hw1 hm2 hs2 hw2
  obtain ⟨X, rfl, hX⟩ := bytes_of hw0
  obtain ⟨Y, rfl, hY⟩ := bytes_of hw1
  obtain ⟨Z, rfl, hZ⟩ := bytes_of hw2
  rw [ints_length] at hs0 hs1 hs2
  refine Ev.rounds (g := fun k => outpostlaw01_BitrowMetric.f k (ints X) (ints Y) (ints Z)) ?_
  unfold outpostlaw01_BitrowMetric.f
  obtain ⟨n, hn⟩ : ∃ n : Nat, n = min (min X.length Y.length) Z.length := ⟨_, rfl⟩
  have e : mn (mn (X.length : Int) (Y.length : Int)) (Z.length : Int) = (n : Int) := by
    rw [mn_nat, mn_nat, hn]
  have hnx : n ≤ X.length := by omega
  have hny : n ≤ Y.length := by omega
  have hnz : n ≤ Z.length := by omega
  simp only [ints_length]
  simp only [e, Int.toNat_natCast, ints_take]
  have i1 : (0 : Int) ≤ (n : Int) := by omega
  have i2 : (n : Int) ≤ (X.length : Int) := by omega
  have i3 : (n : Int) ≤ (Y.length : Int) := by omega
  have i4 : (n : Int) ≤ (Z.length : Int) := by omega
  simp only [i1, i2, i3, i4, if_true]
  have hl : ∀ C : List Nat, n ≤ C.length → (C.take n).length = n := fun C h => by rw [List.length_take]; omega
  have hlt : ∀ C : List Nat, (∀ x ∈ C, x < 256) → ∀ x ∈ C.take n, x < 256 := fun C h x hx => h x (List.mem_of_mem_take hx)
  refine Ev.bind (bits_f _ (by rw [hl X hnx]; omega) (hlt X hX)) (Ev.bind (bits_f _ (by rw [hl Y hny]; omega) (hlt Y hY)) (Ev.bind (bits_f _ (by rw [hl Z hnz]; omega) (hlt Z hZ)) ?_))
  obtain ⟨A, hA⟩ : ∃ A, A = (X.take n).map (· % 2) := ⟨_, rfl⟩
  obtain ⟨B, hB⟩ : ∃ B, B = (Y.take n).map (· % 2) := ⟨_, rfl⟩
  obtain ⟨C, hC⟩ : ∃ C, C = (Z.take n).map (· % 2) := ⟨_, rfl⟩
  rw [← hA, ← hB, ← hC]
  have la : A.length = n := by rw [hA, List.length_map, hl X hnx]
  have lb : B.length = n := by rw [hB, List.length_map, hl Y hny]
  have lc : C.length = n := by rw [hC, List.length_map, hl Z hnz]
  have va : vld A = true := by rw [hA]; exact vld_mod _
  have vb : vld B = true := by rw [hB]; exact vld_mod _
  have vc : vld C = true := by rw [hC]; exact vld_mod _
  have hb : n ≤ 140737488355328 := by omega
  clear hA hB hC e hn
  have pAB := pairE_of va vb (by omega)
  have pBA := pairE_of vb va (by omega)
  have pAC := pairE_of va vc (by omega)
  have pBC := pairE_of vb vc (by omega)
  have lx : (xorL A B).length = n := by rw [xorL_length (by omega), la]
  have vx : vld (xorL A B) = true := vld_of (xor_le A B (vld_le va) (vld_le vb))
  have pXB := pairE_of vx vb (by omega)
  have d1 := Distance_f A B (by omega) (by omega)
  have d2 := Distance_f B A (by omega) (by omega)
  have d3 := Distance_f A C (by omega) (by omega)
  have d4 := Distance_f B C (by omega) (by omega)
  have x1 := Xor_f A B (by omega) (by omega)
  have x2 := Xor_f (xorL A B) B (by omega) (by omega)
  have w1 := Weight_f (xorL A B) (by omega)
  have b1 := Burst_f A B (by omega) (by omega)
  rw [if_pos pAB] at d1 x1 b1
  rw [if_pos pBA] at d2
  rw [if_pos pAC] at d3
  rw [if_pos pBC] at d4
  rw [if_pos pXB, xor_back A B (by omega)] at x2
  rw [if_pos vx, weight_xor A B (vld_le va) (vld_le vb)] at w1
  rw [dist_comm B A] at d2
  refine Ev.bind d1 (Ev.bind d2 (Ev.bind d3 (Ev.bind d4 (Ev.bind x1 (Ev.bind w1 ?_)))))
  have dle := dist_le A B
  have dle2 := dist_le B C
  have tri := dist_tri A B C (by omega)
  have hgt : ¬ ((dist A C : Int) > (dist A B : Int) + (dist B C : Int)) := by omega
  have heq : ((((dist A B : Nat) : Int) == 0) != ((strOfNums (ints A)).toList == (strOfNums (ints B)).toList)) = false := by
    rw [bne_eq_false_iff_eq]
    by_cases h : A = B
    · subst h
      have := (dist_zero A A rfl).2 rfl
      rw [this]
      simp
    · have h1 : dist A B ≠ 0 := fun h2 => h ((dist_zero A B (by omega)).1 h2)
      rw [beq_eq_false_iff_ne.2 (show ((dist A B : Nat) : Int) ≠ 0 by omega), beq_eq_false_iff_ne.2 (fun h2 => h (str_inj (le1_lt va) (le1_lt vb) h2))]
  have wadd : wrap64 ((dist A B : Int) + (dist B C : Int)) = (dist A B : Int) + (dist B C : Int) := w64 (by omega) (by omega)
  have z0 : wrap64 (0 + 0) = 0 := w64 (by omega) (by omega)
  simp only [outpostlaw01_num.f, Option.bind_some, z0, wadd, hgt, heq, if_true, if_false, Bool.false_eq_true]
  refine Ev.bind knows_f ?_
  refine Ev.succ ?_
  simp only [outpostlaw01_BitrowMetric.j0]
  clear wadd
  simp only [Bool.not_true, Bool.false_eq_true, if_false]
  refine Ev.bind x2 (Ev.bind b1 ?_)
  have z0 : wrap64 (0 + 0) = 0 := w64 (by omega) (by omega)
  simp only [outpostlaw01_num.f, Option.bind_some, z0, if_true]
  by_cases h0 : dist A B = 0
  · have en := ends_none 0 A B none h0
    rw [en, h0]
    simp only [at_, long_]
    exact Ev.now true
  · obtain ⟨f, l, he, g2, g3, _, g5, g6, g7⟩ := ends_some 0 A B none (by omega) (fun f l h => by cases h) (by omega)
    obtain ⟨k1, k2, k3, k4⟩ := g5 rfl
    rw [he]
    have ea : at_ (some (f, l)) = f := rfl
    have el : long_ (some (f, l)) = l - f + 1 := rfl
    rw [ea, el]
    have j1 : ¬ (((l - f + 1 : Nat) : Int) < (dist A B : Int)) := by omega
    have j2 : ((((l - f + 1 : Nat) : Int) == 0) != (((dist A B : Nat) : Int) == 0)) = false := by
      rw [beq_eq_false_iff_ne.2 (show ((l - f + 1 : Nat) : Int) ≠ 0 by omega), beq_eq_false_iff_ne.2 (show ((dist A B : Nat) : Int) ≠ 0 by omega)]
      rfl
    have j3 : ¬ (((l - f + 1 : Nat) : Int) = 0) := by omega
    have j5 : (f : Int) ≥ 0 := by omega
    have j6 : ((l + 1 : Nat) : Int) ≤ (n : Int) := by omega
    have j8 : (f : Int) ≤ (n : Int) := by omega
    have j9 : (0 : Int) ≤ ((l + 1 : Nat) : Int) := by omega
    have j4 : wrap64 ((f : Int) + ((l - f + 1 : Nat) : Int)) = ((l + 1 : Nat) : Int) := by rw [w64 (by omega) (by omega)]; omega
    rw [Nat.sub_zero] at k3 g6
    simp only [j1, j2, j3, j4, j5, j6, j8, j9, if_true, if_false, Bool.false_eq_true, ints_length, la, lb, Int.toNat_natCast, ints_take, ints_drop, k3, g6, beq_self_eq_true]
    exact Ev.now true
end Go.Proofs.Ytgebmeojmenomaa.Pure
