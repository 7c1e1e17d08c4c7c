/- For all rows of bytes and numbers, of bulk at most 1048576 together: there and back: packing, numbers, order, weaving, shuffling. The plain law of BitrowBack's second form. -/
import Derived.Test.YtgebmeojmenomaaBkUpBitrowBack
import Derived.Test.YtgebmeojmenomaaBkQBack
import Derived.Test.YtgebmeojmenomaaBkQBit4
import Derived.Test.YtgebmeojmenomaaBkQShuf
import Derived.Test.YtgebmeojmenomaaBkQWeave
namespace Go.Proofs.Ytgebmeojmenomaa.Pure
open Go.RowKit Go.Proofs.Ytgebmeojmenomaa.P Go.Proofs.YtgebmeojmenomaaW.PrintWords Go.Proofs.YtgebmeojmenomaaW.PrintLast Go.Proofs.YtgebmeojmenomaaW.PrintMore Go.Proofs.YtgebmeojmenomaaW.Q
set_option linter.unusedVariables false
set_option linter.unusedSimpArgs false
theorem z00 : wrap64 (0 + 0) = 0 := w64 (by omega) (by omega)
theorem back_j3 (X : List Nat) (hX : ∀ x ∈ X, x < 256) (hl : X.length ≤ 1048576) : Ev (fun k => outpostlaw01_BitrowBack.j3 k (ints X) false) true := by
  refine Ev.succ ?_
  simp only [outpostlaw01_BitrowBack.j3, Bool.false_eq_true, if_false]
  have r1 : bitrow_Reverse.f (ints X) = some (ints X).reverse := by unfold bitrow_Reverse.f; rw [if_pos (by rw [ints_length]; omega)]
  have r2 : bitrow_Reverse.f (ints X).reverse = some (ints X) := by unfold bitrow_Reverse.f; rw [if_pos (by rw [List.length_reverse, ints_length]; omega), List.reverse_reverse]
  have u := Unweave_f X 1 X.length (by omega) (by omega) (by omega) (by omega)
  have e1 : unwL X 1 X.length = [X] := by
    simp only [unwL, List.range_one, List.map_cons, List.map_nil, Nat.mul_one, Nat.add_zero]
    congr 1
    refine getD_ext (by simp) fun i hi => ?_
    rw [map_range_getD _ (by simpa using hi)]
  have u2 : bitrow_Unweave.f (ints X) 1 = some (intss [X], 0) := by rw [← e1]; exact u
  rw [r1]
  simp only [Option.bind_some]
  rw [r2]
  simp only [Option.bind_some]
  rw [u2]
  simp only [Option.bind_some]
  have hw := Weave_f [X] X.length (fun j hj => by
    have : j = 0 := by simp at hj; exact hj
    subst this
    rfl) (by simp; omega) (by simp) (by simp) (by omega)
  have e2 : weaveL [X] X.length = X := by
    refine getD_ext (by simp [weaveL]) fun i hi => ?_
    rw [weaveL, map_range_getD _ (by simpa [weaveL] using hi)]
    simp [Nat.mod_one]
  rw [e2] at hw
  refine Ev.bind hw ?_
  have l1 : ((intss [X]).length : Int) = 1 := rfl
  simp only [outpostlaw01_num.f, Option.bind_some, z00, if_true, l1, beq_self_eq_true]
  exact Ev.now true
theorem back_j2 (X : List Nat) (rows : Int) (hr1 : -9223372036854775808 ≤ rows) (hr2 : rows ≤ 9223372036854775807) (hX : ∀ x ∈ X, x < 256) (hl : X.length ≤ 1048576) : Ev (fun k => outpostlaw01_BitrowBack.j2 k (ints X) rows false) true := by
  refine Ev.succ ?_
  simp only [outpostlaw01_BitrowBack.j2, Bool.false_eq_true, if_false]
  obtain ⟨r', hr, h1, h2⟩ := within_f rows 1 64 hr1 hr2 (by omega) (by omega) (by omega)
  obtain ⟨r, rfl⟩ : ∃ r : Nat, r' = (r : Int) := ⟨r'.toNat, by omega⟩
  have a1 : shfA X (r : Int) = (ints (shufL X (cols X.length r)), 0) := by unfold shfA; rw [if_neg (by omega), if_neg (by omega), Int.toNat_natCast]
  have a2 : ushA X (r : Int) = (ints (unshL X (cols X.length r)), 0) := by unfold ushA; rw [if_neg (by omega), if_neg (by omega), Int.toNat_natCast]
  have a3 : ushA (shufL X (cols X.length r)) (r : Int) = (ints X, 0) := by
    unfold ushA
    rw [if_neg (by omega), if_neg (by omega), Int.toNat_natCast, shufL_length]
    by_cases h0 : X.length = 0
    · rw [List.length_eq_zero_iff] at h0
      subst h0
      rfl
    · obtain ⟨h4, h5⟩ := cols_pos (n := X.length) (rows := r) (by omega) (by omega)
      rw [unsh_shuf X h4 h5]
  have a4 : shfA (unshL X (cols X.length r)) (r : Int) = (ints X, 0) := by
    unfold shfA
    rw [if_neg (by omega), if_neg (by omega), Int.toNat_natCast, unshL_length]
    by_cases h0 : X.length = 0
    · rw [List.length_eq_zero_iff] at h0
      subst h0
      rfl
    · obtain ⟨h4, h5⟩ := cols_pos (n := X.length) (rows := r) (by omega) (by omega)
      rw [shuf_unsh X h4 h5]
  have f1 := Shuffle_f X (r : Int) (by omega)
  have f2 := Unshuffle_f X (r : Int) (by omega)
  have f3 := Unshuffle_f (shufL X (cols X.length r)) (r : Int) (by rw [shufL_length]; omega)
  have f4 := Shuffle_f (unshL X (cols X.length r)) (r : Int) (by rw [unshL_length]; omega)
  rw [a1] at f1
  rw [a2] at f2
  rw [a3] at f3
  rw [a4] at f4
  have nx := back_j3 X hX hl
  simp only [hr, Option.bind_some, f1, f2, f3, f4, outpostlaw01_num.f, z00, if_true, bne_self_eq_false]
  exact nx
theorem back_j1 (X : List Nat) (v n : Nat) (rows : Int) (hn : n ≤ 64) (hv : v < 2 ^ n) (hr1 : -9223372036854775808 ≤ rows) (hr2 : rows ≤ 9223372036854775807) (hX : ∀ x ∈ X, x < 256) (hl : X.length ≤ 1048576) : Ev (fun k => outpostlaw01_BitrowBack.j1 k (ints X) (v : Int) (n : Int) rows) true := by
  refine Ev.succ ?_
  simp only [outpostlaw01_BitrowBack.j1]
  have hv2 : v < 18446744073709551616 := by
    have : 2 ^ n ≤ 2 ^ 64 := Nat.pow_le_pow_right (by omega) hn
    omega
  have f1 := Row_f v (n : Int) hv2
  have a1 : rowR v (n : Int) = (ints (rowL v n), 0) := by
    unfold rowR
    rw [Int.toNat_natCast, if_neg (by omega), Nat.div_eq_of_lt hv, if_neg (by omega)]
  rw [a1] at f1
  refine Ev.bind f1 ?_
  have f2 := Number_f (rowL v n) (by rw [rowL_length]; omega)
  rw [if_pos (vld_le1 (rowL_le v n)), rowL_length, if_neg (by omega), number_row n v hv] at f2
  refine Ev.bind f2 ?_
  have nx := back_j2 X rows hr1 hr2 hX hl
  simp only [outpostlaw01_num.f, Option.bind_some, z00, if_true, ints_length, rowL_length, bne_self_eq_false]
  exact nx
theorem BitrowBackUpto : bitrowBackUpto.UPure := by
  intro l0 l1 v n rows hm0 hs0 hw0 hm1 hs1 hw1 g2 g3 g4
  obtain ⟨B, rfl, hB⟩ := bytes_of hw0
  obtain ⟨X, rfl, hX⟩ := bytes_of hw1
  rw [ints_length] at hs0 hs1
  have i64 : ∀ a : Int, (Lit.int .i64 a).wf = true → -9223372036854775808 ≤ a ∧ a ≤ 9223372036854775807 := fun a h => by simpa [Lit.wf, IntKind.min, IntKind.max, IntKind.signed, IntKind.bits] using h
  have b3 := i64 n g3
  have b4 := i64 rows g4
  have b2 : 0 ≤ v ∧ v ≤ 18446744073709551615 := by simpa [Lit.wf, IntKind.min, IntKind.max, IntKind.signed, IntKind.bits] using g2
  obtain ⟨v, rfl⟩ : ∃ q : Nat, v = (q : Int) := ⟨v.toNat, by omega⟩
  refine Ev.rounds (g := fun k => outpostlaw01_BitrowBack.f k (ints B) (ints X) (v : Int) n rows) ?_
  unfold outpostlaw01_BitrowBack.f
  refine Ev.bind (bits_f B (by omega) hB) ?_
  have ha : ∀ x ∈ B.map (· % 2), x ≤ 1 := by
    intro x hx
    obtain ⟨y, _, rfl⟩ := List.mem_map.1 hx
    omega
  have hal : (B.map (· % 2)).length = B.length := by simp
  generalize B.map (· % 2) = A at ha hal
  have f1 := Pack_f A (by omega)
  rw [if_pos (vld_le1 ha)] at f1
  have f2 := Unpack_f (pack A) (A.length : Int) (by rw [pack_len]; omega) (pack_lt ha) (by omega)
  have a2 : unp (pack A) (A.length : Int) = (ints A, 0) := by
    unfold unp
    rw [if_neg (by omega), pack_len, if_neg (by omega), Int.toNat_natCast, unpack_pack ha]
  rw [a2] at f2
  have f3 := Unpack_f X ((8 * X.length : Nat) : Int) (by omega) hX (by omega)
  have a3 : unp X ((8 * X.length : Nat) : Int) = (ints (unpack X (8 * X.length)), 0) := by
    unfold unp
    rw [if_neg (by omega), if_neg (by omega), Int.toNat_natCast]
  rw [a3] at f3
  have f4 := Pack_f (unpack X (8 * X.length)) (by rw [unpack_length]; omega)
  rw [if_pos (vld_le1 (unpack_le _ _)), pack_unpack hX] at f4
  obtain ⟨m', hm, m1, m2⟩ := within_f n 0 64 b3.1 b3.2 (by omega) (by omega) (by omega)
  obtain ⟨m, rfl⟩ : ∃ q : Nat, m' = (q : Int) := ⟨m'.toNat, by omega⟩
  have hm64 : m ≤ 64 := by omega
  have hv64 : v < 2 ^ 64 := by omega
  have nx1 : m < 64 → Ev (fun k => outpostlaw01_BitrowBack.j1 k (ints X) ((v % 2 ^ m : Nat) : Int) (m : Int) rows) true := fun h => back_j1 X _ m rows hm64 (Nat.mod_lt _ (Nat.pow_pos (by omega))) b4.1 b4.2 hX hs1
  have nx2 : m = 64 → Ev (fun k => outpostlaw01_BitrowBack.j1 k (ints X) (v : Int) (m : Int) rows) true := fun h => back_j1 X v m rows hm64 (by rw [h]; exact hv64) b4.1 b4.2 hX hs1
  have hmd : m < 64 ∨ m = 64 := by omega
  have sh : m < 64 → shl .u64 1 (IntKind.u64.wrap (m : Int)) = ((2 ^ m : Nat) : Int) ∧ (0 : Int) ≤ IntKind.u64.wrap (m : Int) ∧ ¬ (((2 ^ m : Nat) : Int) = 0) ∧ (m : Int) < 64 := by
    intro h
    have hp : 0 < 2 ^ m := Nat.pow_pos (by omega)
    have hlt : 2 ^ m < 2 ^ 64 := Nat.pow_lt_pow_right (by omega) h
    rw [wu64 (by omega) (by omega)]
    refine ⟨?_, by omega, by omega, by omega⟩
    unfold shl
    rw [show min (m : Int).toNat IntKind.u64.bits = m by simp [IntKind.bits]; omega, Int.one_mul, show (2 : Int) ^ m = ((2 ^ m : Nat) : Int) by simp, wu64 (by omega) (by omega)]
  have tm : Int.tmod (v : Int) ((2 ^ m : Nat) : Int) = ((v % 2 ^ m : Nat) : Int) := tmod_nat _ _
  have e8 : wrap64 (8 * ((ints X).length : Int)) = ((8 * X.length : Nat) : Int) := by rw [ints_length, w64 (by omega) (by omega)]; omega
  rw [e8]
  refine Ev.bind f1 ?_
  simp only [ints_length]
  refine Ev.bind f2 (Ev.bind f3 (Ev.bind f4 ?_))
  simp only [outpostlaw01_num.f, Option.bind_some, z00, if_true]
  refine Ev.bind knows_f ?_
  refine Ev.succ ?_
  simp only [outpostlaw01_BitrowBack.j0, Bool.not_true, Bool.false_eq_true, if_false, hm, Option.bind_some]
  rcases hmd with h | h
  · obtain ⟨s1, s2, s3, s4⟩ := sh h
    simp only [s1, s2, s3, s4, if_true, if_false, tm]
    exact nx1 h
  · have s5 : ¬ ((m : Int) < 64) := by rw [h]; decide
    simp only [s5, if_false]
    exact nx2 h
end Go.Proofs.Ytgebmeojmenomaa.Pure
