/- Rows as numbers, and numbers as rows, as plain functions. -/
import Derived.Test.YtgebmeojmenomaaBkQBit1
import Derived.Test.YtgebmeojmenomaaBkPx4
import Derived.Test.YtgebmeojmenomaaBkPx5
set_option linter.unusedVariables false
set_option linter.unusedSimpArgs false
namespace Go.Proofs.YtgebmeojmenomaaW.Q
open Go.RowKit Go.Proofs.YtgebmeojmenomaaW.PrintWords Go.Proofs.YtgebmeojmenomaaW.PrintLast Go.Proofs.YtgebmeojmenomaaW.PrintMore Go.Proofs.Ytgebmeojmenomaa.P
theorem RWeight_l0 (B : List Nat) (hB : B.length ≤ 140737488355328) (hb : ∀ x ∈ B, x ≤ 1) (d : Nat) : ∀ (k i n : Nat), n ≤ i → i + d = B.length → d < k → outpostref01_Weight.l0 k (ints B) (n : Int) (i : Int) = some (((n + weight (B.drop i) : Nat) : Int), 0) := by
  induction d with
  | zero =>
    intro k i n hn hi hk
    obtain ⟨k, rfl⟩ : ∃ m, k = m + 1 := ⟨k - 1, by omega⟩
    simp only [outpostref01_Weight.l0]
    rw [ints_length, if_neg (by omega), List.drop_eq_nil_of_le (by omega)]
    rfl
  | succ d ih =>
    intro k i n hn hi hk
    obtain ⟨k, rfl⟩ : ∃ m, k = m + 1 := ⟨k - 1, by omega⟩
    have hx := getD_le1 hb i
    simp only [outpostref01_Weight.l0]
    rw [ints_length, if_pos (by omega), if_pos (by omega), rd_ints, w64 (n := ((B.getD i 0 : Nat) : Int)) (by omega) (by omega), w64s (by omega), show wrap64 ((n : Int) + ((B.getD i 0 : Nat) : Int)) = ((n + B.getD i 0 : Nat) : Int) by (rw [w64 (by omega) (by omega)]; omega),
      ih k (i + 1) _ (by omega) (by omega) (by omega), drop_get (B := B) (i := i) (by omega), show weight (B.getD i 0 :: B.drop (i + 1)) = B.getD i 0 + weight (B.drop (i + 1)) from by simp [weight], Nat.add_assoc]
theorem RWeight_f (B : List Nat) (hB : B.length ≤ 140737488355328) : Ev (fun k => outpostref01_Weight.f k (ints B)) (if vld B = true then ((weight B : Int), 0) else (0, 10)) := by
  unfold outpostref01_Weight.f
  refine Ev.bind (RValid_f B hB) ?_
  by_cases h : vld B = true
  · rw [if_pos h]
    refine Ev.intro (B.length + 1) fun k hk => ?_
    rw [if_pos h]
    have := RWeight_l0 B hB (vld_le h) B.length k 0 0 (by omega) (by omega) (by omega)
    rw [List.drop_zero, Nat.zero_add] at this
    exact this
  · rw [if_neg h]
    refine Ev.intro 0 fun k hk => ?_
    rw [if_neg h]
/-- A row of bits as a number, v being what stands ahead. -/
def number (v : Nat) : List Nat → Nat
  | [] => v
  | x :: B => number (2 * v + x) B
theorem number_lt (B : List Nat) (hb : ∀ x ∈ B, x ≤ 1) : ∀ v : Nat, number v B < (v + 1) * 2 ^ B.length := by
  induction B with
  | nil => intro v; simp [number]
  | cons x B ih =>
    intro v
    have hx := hb x List.mem_cons_self
    have h := ih (fun y hy => hb y (List.mem_cons_of_mem _ hy)) (2 * v + x)
    rw [number, List.length_cons, Nat.pow_succ]
    have h2 : (2 * v + x + 1) * 2 ^ B.length ≤ (2 * (v + 1)) * 2 ^ B.length := Nat.mul_le_mul_right _ (by omega)
    have e : (v + 1) * (2 ^ B.length * 2) = (2 * (v + 1)) * 2 ^ B.length := by rw [Nat.mul_comm (2 ^ B.length) 2, ← Nat.mul_assoc, Nat.mul_comm (v + 1) 2]
    omega
theorem or_bit (v x : Nat) (hx : x ≤ 1) : 2 * v ||| x = 2 * v + x := nat_join 1 _ _ (by omega) (by omega)
theorem Number_step (v x : Nat) (hx : x ≤ 1) (hv : 2 * v + x < 18446744073709551616) : Go.bits .or .u64 (IntKind.u64.wrap ((v : Int) * 2)) (IntKind.u64.wrap (x : Int)) = ((2 * v + x : Nat) : Int) := by
  rw [wu64 (n := (v : Int) * 2) (by omega) (by omega), wu64 (n := (x : Int)) (by omega) (by omega), show (v : Int) * 2 = ((2 * v : Nat) : Int) by omega, u64_or_nat _ _ (by omega) (by omega), or_bit v x hx]
theorem number_bound {i : Nat} (h : i ≤ 63) {v x : Nat} (hv : v < 2 ^ i) (hx : x ≤ 1) : 2 * v + x < 18446744073709551616 ∧ 2 * v + x < 2 ^ (i + 1) := by
  have h1 : 2 ^ (i + 1) ≤ 2 ^ 64 := Nat.pow_le_pow_right (by omega) (by omega)
  have h2 : 2 ^ (i + 1) = 2 * 2 ^ i := by rw [Nat.pow_succ]; omega
  omega
theorem Number_l0 (B : List Nat) (hB : B.length ≤ 64) (hb : ∀ x ∈ B, x ≤ 1) (d : Nat) : ∀ (k i v : Nat), v < 2 ^ i → i + d = B.length → d < k → bitrow_Number.l0 k (v : Int) (ints B) (B.length : Int) (i : Int) = some ((number v (B.drop i) : Int), 0) := by
  induction d with
  | zero =>
    intro k i v hv hi hk
    obtain ⟨k, rfl⟩ : ∃ m, k = m + 1 := ⟨k - 1, by omega⟩
    simp only [bitrow_Number.l0]
    rw [if_neg (by omega), List.drop_eq_nil_of_le (by omega)]
    rfl
  | succ d ih =>
    intro k i v hv hi hk
    obtain ⟨k, rfl⟩ : ∃ m, k = m + 1 := ⟨k - 1, by omega⟩
    have hx := getD_le1 hb i
    obtain ⟨b1, b2⟩ := number_bound (i := i) (by omega) hv hx
    simp only [bitrow_Number.l0]
    rw [if_pos (by omega), if_pos (by omega), if_pos (by rw [ints_length]; omega), rd_ints, Number_step _ _ hx b1, w64s (by omega), ih k (i + 1) _ b2 (by omega) (by omega), drop_get (B := B) (i := i) (by omega), number]
theorem Number_f (B : List Nat) (hB : B.length ≤ 140737488355328) : Ev (fun k => bitrow_Number.f k (ints B)) (if vld B = true then (if B.length > 64 then (0, 6) else ((number 0 B : Int), 0)) else (0, 10)) := by
  unfold bitrow_Number.f
  refine Ev.bind (Valid_f B hB) ?_
  by_cases h : vld B = true
  · rw [if_pos h]
    refine Ev.intro (B.length + 1) fun k hk => ?_
    rw [if_pos h, ints_length]
    by_cases h2 : B.length > 64
    · rw [if_pos (by omega), if_pos h2]
    · rw [if_neg (by omega), if_neg h2]
      exact Number_l0 B (by omega) (vld_le h) B.length k 0 0 (by decide) (by omega) (by omega)
  · rw [if_neg h]
    refine Ev.intro 0 fun k hk => ?_
    rw [if_neg h]
theorem RNumber_step (v x : Nat) (hx : x ≤ 1) (hv : 2 * v + x < 18446744073709551616) : IntKind.u64.wrap ((IntKind.u64.wrap (2 * (v : Int))) + (IntKind.u64.wrap (x : Int))) = ((2 * v + x : Nat) : Int) := by
  rw [wu64 (n := 2 * (v : Int)) (by omega) (by omega), wu64 (n := (x : Int)) (by omega) (by omega), wu64 (by omega) (by omega)]
  omega
theorem RNumber_l0 (B : List Nat) (hB : B.length ≤ 64) (hb : ∀ x ∈ B, x ≤ 1) (d : Nat) : ∀ (k i v : Nat), v < 2 ^ i → i + d = B.length → d < k → outpostref01_Number.l0 k (ints B) (v : Int) (i : Int) = some ((number v (B.drop i) : Int), 0) := by
  induction d with
  | zero =>
    intro k i v hv hi hk
    obtain ⟨k, rfl⟩ : ∃ m, k = m + 1 := ⟨k - 1, by omega⟩
    simp only [outpostref01_Number.l0]
    rw [ints_length, if_neg (by omega), List.drop_eq_nil_of_le (by omega)]
    rfl
  | succ d ih =>
    intro k i v hv hi hk
    obtain ⟨k, rfl⟩ : ∃ m, k = m + 1 := ⟨k - 1, by omega⟩
    have hx := getD_le1 hb i
    obtain ⟨b1, b2⟩ := number_bound (i := i) (by omega) hv hx
    simp only [outpostref01_Number.l0]
    rw [ints_length, if_pos (by omega), if_pos (by omega), rd_ints, RNumber_step _ _ hx b1, w64s (by omega), ih k (i + 1) _ b2 (by omega) (by omega), drop_get (B := B) (i := i) (by omega), number]
theorem RNumber_f (B : List Nat) (hB : B.length ≤ 140737488355328) : Ev (fun k => outpostref01_Number.f k (ints B)) (if vld B = true then (if B.length > 64 then (0, 6) else ((number 0 B : Int), 0)) else (0, 10)) := by
  unfold outpostref01_Number.f
  refine Ev.bind (RValid_f B hB) ?_
  by_cases h : vld B = true
  · rw [if_pos h]
    refine Ev.intro (B.length + 1) fun k hk => ?_
    rw [if_pos h, ints_length]
    by_cases h2 : B.length > 64
    · rw [if_pos (by omega), if_pos h2]
    · rw [if_neg (by omega), if_neg h2]
      exact RNumber_l0 B (by omega) (vld_le h) B.length k 0 0 (by decide) (by omega) (by omega)
  · rw [if_neg h]
    refine Ev.intro 0 fun k hk => ?_
    rw [if_neg h]
/-- The n lowest bits of v, the highest one first. -/
def rowL (v n : Nat) : List Nat := (List.range n).map fun i => v / 2 ^ (n - 1 - i) % 2
theorem rowL_length (v n : Nat) : (rowL v n).length = n := by simp [rowL]
theorem rowL_get (v n i : Nat) (h : i < n) : (rowL v n)[i]'(by rw [rowL_length]; exact h) = v / 2 ^ (n - 1 - i) % 2 := by simp [rowL]
theorem shr64 (x n : Nat) (hn : n ≤ 64) : shr .u64 (x : Int) (n : Int) = ((x / 2 ^ n : Nat) : Int) := by
  unfold shr
  rw [show min (n : Int).toNat IntKind.u64.bits = n by simp [IntKind.bits]; omega]
  simp
theorem fill_step2 {L out : List Nat} {i v : Nat} (hi : i < L.length) (hl : out.length = L.length) (h : out.take i = L.take i) (hv : L[i] = v) : (out.set i v).take (i + 1) = L.take (i + 1) := by
  rw [List.take_succ_eq_append_getElem (by rw [List.length_set]; omega), List.take_succ_eq_append_getElem hi, List.getElem_set_self, List.take_set_of_le (Nat.le_refl _), h, hv]
theorem Row_l0 (v n : Nat) (hv : v < 18446744073709551616) (hn : n ≤ 64) (d : Nat) : ∀ (k i : Nat) (out : List Nat), out.length = n → out.take i = (rowL v n).take i → i + d = n → d < k →
    bitrow_Row.l0 k (v : Int) (n : Int) (ints out) (n : Int) (i : Int) = some (ints (rowL v n), 0) := by
  induction d with
  | zero =>
    intro k i out ho ht hi hk
    obtain ⟨k, rfl⟩ : ∃ m, k = m + 1 := ⟨k - 1, by omega⟩
    simp only [bitrow_Row.l0]
    rw [List.take_of_length_le (by omega), List.take_of_length_le (by rw [rowL_length]; omega)] at ht
    rw [if_neg (by omega), ht]
  | succ d ih =>
    intro k i out ho ht hi hk
    obtain ⟨k, rfl⟩ : ∃ m, k = m + 1 := ⟨k - 1, by omega⟩
    have e : wrap64 (wrap64 ((n : Int) - 1) - (i : Int)) = ((n - 1 - i : Nat) : Int) := by
      rw [w64 (n := (n : Int) - 1) (by omega) (by omega), w64 (by omega) (by omega)]
      omega
    have hq : v / 2 ^ (n - 1 - i) < 18446744073709551616 := Nat.lt_of_le_of_lt (Nat.div_le_self _ _) hv
    have e2 : (((v / 2 ^ (n - 1 - i) &&& 1 : Nat) : Int) % 256) = ((v / 2 ^ (n - 1 - i) % 2 : Nat) : Int) := by
      rw [nat_mask1]; omega
    simp only [bitrow_Row.l0]
    rw [if_pos (by omega), e, if_pos (by omega), if_pos (by omega), if_pos (by rw [ints_length]; omega), shr64 _ _ (by omega), show (1 : Int) = ((1 : Nat) : Int) from rfl, u64_and_nat _ _ hq (by decide), e2, set_ints, show ((1 : Nat) : Int) = 1 from rfl, w64s (by omega)]
    exact ih k (i + 1) _ (by rw [List.length_set]; exact ho) (fill_step2 (by rw [rowL_length]; omega) (by rw [rowL_length]; exact ho) ht (rowL_get v n i (by omega))) (by omega) (by omega)
theorem ref_take {out : List Nat} {L : List Nat} {i v : Nat} (hi : i < out.length) (hl : out.length = L.length) (h : out.drop (i + 1) = L.drop (i + 1)) (hv : L[i]'(by omega) = v) : (out.set i v).drop i = L.drop i := by
  rw [List.drop_eq_getElem_cons (by rw [List.length_set]; exact hi), List.drop_eq_getElem_cons (show i < L.length by omega), List.getElem_set_self, hv, List.drop_set_of_lt (by omega), h]
/-- The reference lays the last bit first; what is left of the number tells whether it was too great. -/
theorem RRow_l0 (v n : Nat) (hv : v < 18446744073709551616) (hn : n ≤ 64) (d : Nat) : ∀ (k : Nat) (out : List Nat), d ≤ n → out.length = n → out.drop d = (rowL v n).drop d → d < k →
    outpostref01_Row.l0 k ((v / 2 ^ (n - d) : Nat) : Int) (ints out) ((d : Int) - 1) = some (if v / 2 ^ n > 0 then ([], 11) else (ints (rowL v n), 0)) := by
  induction d with
  | zero =>
    intro k out hd ho ht hk
    obtain ⟨k, rfl⟩ : ∃ m, k = m + 1 := ⟨k - 1, by omega⟩
    simp only [outpostref01_Row.l0]
    rw [List.drop_zero, List.drop_zero] at ht
    rw [if_neg (by omega), Nat.sub_zero, ht]
    by_cases h : v / 2 ^ n > 0
    · rw [if_pos (by omega), if_pos h]
    · rw [if_neg (by omega), if_neg h]
  | succ d ih =>
    intro k out hd ho ht hk
    obtain ⟨k, rfl⟩ : ∃ m, k = m + 1 := ⟨k - 1, by omega⟩
    have hq : v / 2 ^ (n - (d + 1)) < 18446744073709551616 := Nat.lt_of_le_of_lt (Nat.div_le_self _ _) hv
    have e1 : ((d + 1 : Nat) : Int) - 1 = (d : Int) := by omega
    have e2 : IntKind.u64.wrap (Int.tdiv ((v / 2 ^ (n - (d + 1)) : Nat) : Int) 2) = ((v / 2 ^ (n - d) : Nat) : Int) := by
      rw [show (2 : Int) = ((2 : Nat) : Int) from rfl, tdiv_nat, Nat.div_div_eq_div_mul, ← Nat.pow_succ, show (n - (d + 1)).succ = n - d by omega]
      have h9 : v / 2 ^ (n - d) < 18446744073709551616 := Nat.lt_of_le_of_lt (Nat.div_le_self _ _) hv
      generalize v / 2 ^ (n - d) = q at h9 ⊢
      exact wu64 (by omega) (by omega)
    have e3 : Int.tmod ((v / 2 ^ (n - (d + 1)) : Nat) : Int) 2 % 256 = ((v / 2 ^ (n - (d + 1)) % 2 : Nat) : Int) := by
      rw [show (2 : Int) = ((2 : Nat) : Int) from rfl, tmod_nat]
      omega
    simp only [outpostref01_Row.l0]
    rw [e1, if_pos (by omega), if_pos (by omega), if_pos (by rw [ints_length]; omega), e2, e3, set_ints, w64 (n := (d : Int) - 1) (by omega) (by omega)]
    refine ih k _ (by omega) (by rw [List.length_set]; exact ho) ?_ (by omega)
    refine ref_take (by omega) (by rw [rowL_length]; exact ho) ht ?_
    rw [rowL_get v n d (by omega), show n - 1 - d = n - (d + 1) by omega]
def rowR (v : Nat) (n : Int) : List Int × Int := if n < 0 ∨ n > 64 then ([], 1) else if v / 2 ^ n.toNat > 0 then ([], 11) else (ints (rowL v n.toNat), 0)
theorem small64 {v : Nat} (hv : v < 18446744073709551616) : v / 2 ^ 64 = 0 := Nat.div_eq_of_lt hv
theorem Row_f (v : Nat) (n : Int) (hv : v < 18446744073709551616) : Ev (fun k => bitrow_Row.f k (v : Int) n) (rowR v n) := by
  unfold bitrow_Row.f rowR
  by_cases h0 : n < 0
  · rw [if_pos (Or.inl h0)]
    refine Ev.intro 1 fun k hk => ?_
    obtain ⟨k, rfl⟩ : ∃ m, k = m + 1 := ⟨k - 1, by omega⟩
    rw [if_pos h0]
    simp only [bitrow_Row.j0, if_true]
  · obtain ⟨m, rfl⟩ := Int.eq_ofNat_of_zero_le (show 0 ≤ n by omega)
    refine Ev.intro (m + 4) fun k hk => ?_
    obtain ⟨k, rfl⟩ : ∃ m, k = m + 3 := ⟨k - 3, by omega⟩
    rw [if_neg h0]
    by_cases h1 : m > 64
    · rw [if_pos (Or.inr (by omega)), decide_eq_true (by omega)]
      simp only [bitrow_Row.j0, if_true]
    · rw [if_neg (by omega), decide_eq_false (by omega), Int.toNat_natCast]
      simp only [bitrow_Row.j0, Bool.false_eq_true, if_false]
      have key : bitrow_Row.j1 (k + 1 + 1) (v : Int) (m : Int) (decide (v / 2 ^ m > 0)) = some (if v / 2 ^ m > 0 then (([] : List Int), (11 : Int)) else (ints (rowL v m), 0)) := by
        simp only [bitrow_Row.j1]
        by_cases h2 : v / 2 ^ m > 0
        · rw [if_pos (by simpa using h2), if_pos h2]
        · rw [if_neg (by simpa using h2), if_neg h2, if_pos (by omega), Int.toNat_natCast, if_pos (by omega), ← ints_replicate]
          exact Row_l0 v m hv (by omega) m (k + 1) 0 _ (by simp) (by simp) (by omega) (by omega)
      by_cases h3 : m < 64
      · rw [if_pos (by omega), if_pos (by omega), shr64 _ _ (by omega), ← key]
        congr 1
        generalize v / 2 ^ m = q
        by_cases h2 : q > 0
        · rw [decide_eq_true h2, bne_iff_ne]; omega
        · rw [decide_eq_false h2, bne_eq_false_iff_eq]; omega
      · obtain rfl : m = 64 := by omega
        rw [if_neg (show ¬ ((64 : Nat) : Int) < 64 by decide), ← key]
        congr 1
        rw [small64 hv]; rfl
theorem RRow_f (v : Nat) (n : Int) (hv : v < 18446744073709551616) : Ev (fun k => outpostref01_Row.f k (v : Int) n) (rowR v n) := by
  unfold outpostref01_Row.f rowR
  by_cases h0 : n < 0
  · rw [if_pos (Or.inl h0)]
    refine Ev.intro 1 fun k hk => ?_
    obtain ⟨k, rfl⟩ : ∃ m, k = m + 1 := ⟨k - 1, by omega⟩
    rw [if_pos h0]
    simp only [outpostref01_Row.j0, if_true]
  · obtain ⟨m, rfl⟩ := Int.eq_ofNat_of_zero_le (show 0 ≤ n by omega)
    refine Ev.intro (m + 4) fun k hk => ?_
    obtain ⟨k, rfl⟩ : ∃ m, k = m + 3 := ⟨k - 3, by omega⟩
    rw [if_neg h0]
    by_cases h1 : m > 64
    · rw [if_pos (Or.inr (by omega)), decide_eq_true (by omega)]
      simp only [outpostref01_Row.j0, if_true]
    · rw [if_neg (by omega), decide_eq_false (by omega), Int.toNat_natCast]
      simp only [outpostref01_Row.j0, Bool.false_eq_true, if_false]
      rw [if_pos (by omega), Int.toNat_natCast, if_pos (by omega), ← ints_replicate, w64 (n := (m : Int) - 1) (by omega) (by omega)]
      have := RRow_l0 v m hv (by omega) m (k + 2) (List.replicate m 0) (Nat.le_refl _) (by simp) (by rw [List.drop_eq_nil_of_le (by simp), List.drop_eq_nil_of_le (by rw [rowL_length]; omega)]) (by omega)
      rw [Nat.sub_self, Nat.pow_zero, Nat.div_one] at this
      exact this
end Go.Proofs.YtgebmeojmenomaaW.Q
