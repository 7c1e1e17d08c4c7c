/- For every spec, string, place and mask: a sealed string is taken; with a burst of at most as many bits as the sum has, it is refused. The plain law of CrcBursts. -/
import Derived.Test.YtejlmodoghglbaaCbPx13
import Derived.Test.YtejlmodoghglbaaCbQCrcP
import Derived.Test.YtejlmodoghglbaaCbQCrcB
import Derived.Test.YtejlmodoghglbaaCbQBase
import Derived.Test.YtejlmodoghglbaaCbQEv
namespace Go.Proofs.Ytejlmodoghglbaa.Pure
open Go.RowKit Go.Proofs.Ytejlmodoghglbaa.P Go.Proofs.YtejlmodoghglbaaW.PrintWords Go.Proofs.YtejlmodoghglbaaW.PrintLast Go.Proofs.YtejlmodoghglbaaW.PrintMore Go.Proofs.YtejlmodoghglbaaW.Q
set_option linter.unusedVariables false
set_option linter.unusedSimpArgs false
theorem flip_f (W P I O : Int) (R : Bool) (Z : List Nat) (hZ : ∀ x ∈ Z, x < 256) (k : Nat) (hk : k < 8 * Z.length) (hl : Z.length ≤ 140737488355328) :
    outpostlaw03_flip.f W P I O R (ints Z) (k : Int) = some (ints (Z.set (k / 8) (Z.getD (k / 8) 0 ^^^ 2 ^ (if R then k % 8 else 7 - k % 8)))) := by
  have d := div8 k (by omega)
  have s := sub7 k
  have t : Int.tmod (k : Int) 8 = ((k % 8 : Nat) : Int) := tmod_nat k 8
  have c1 : (0 : Int) ≤ ((k / 8 : Nat) : Int) := by omega
  have c2 : ((k / 8 : Nat) : Int) < ((ints Z).length : Int) := by rw [ints_length]; omega
  have g := getD_lt hZ (k / 8)
  have sh : ∀ q : Nat, q < 8 → (0 : Int) ≤ IntKind.u64.wrap (q : Int) ∧ shl .u8 1 (IntKind.u64.wrap (q : Int)) = ((2 ^ q : Nat) : Int) := by
    intro q hq
    have : q = 0 ∨ q = 1 ∨ q = 2 ∨ q = 3 ∨ q = 4 ∨ q = 5 ∨ q = 6 ∨ q = 7 := by omega
    rcases this with rfl | rfl | rfl | rfl | rfl | rfl | rfl | rfl <;> decide +kernel
  unfold outpostlaw03_flip.f
  cases R
  · have hq : 7 - k % 8 < 8 := by omega
    obtain ⟨w1, w2⟩ := sh (7 - k % 8) hq
    have hp : 2 ^ (7 - k % 8) < 256 := Nat.lt_of_lt_of_le (Nat.pow_lt_pow_right (by omega) hq) (by decide)
    simp only [Bool.false_eq_true, if_false, d, s, c1, c2, if_true, w1, w2, rd_ints]
    rw [bxor8 _ _ g hp, set_ints]
  · have hq : k % 8 < 8 := by omega
    obtain ⟨w1, w2⟩ := sh (k % 8) hq
    have hp : 2 ^ (k % 8) < 256 := Nat.lt_of_lt_of_le (Nat.pow_lt_pow_right (by omega) hq) (by decide)
    simp only [if_true, d, t, c1, c2, w1, w2, rd_ints]
    rw [bxor8 _ _ g hp, set_ints]
theorem mask_bit (m j : Nat) (hm : m < 4294967296) (hj : j < 32) : (0 : Int) ≤ IntKind.u64.wrap (j : Int) ∧ Go.bits .and .u32 (shr .u32 (m : Int) (IntKind.u64.wrap (j : Int))) 1 = ((m / 2 ^ j % 2 : Nat) : Int) := by
  have w : IntKind.u64.wrap (j : Int) = (j : Int) := wu64 (by omega) (by omega)
  rw [w]
  refine ⟨by omega, ?_⟩
  unfold shr
  rw [show min (j : Int).toNat IntKind.u32.bits = j by simp [IntKind.bits]; omega, show (m : Int) / 2 ^ j = ((m / 2 ^ j : Nat) : Int) by simp, show (1 : Int) = ((1 : Nat) : Int) from rfl, Crc.band32 _ _ (Nat.lt_of_le_of_lt (Nat.div_le_self _ _) hm) (by omega), Nat.and_one_is_mod]
/-- What stands before the end of the loop. -/
structure Bur (R : Bool) (X Z : List Nat) (mask at_ i : Nat) (flag : Bool) : Prop where
  len : Z.length = X.length
  byt : ∀ x ∈ Z, x < 256
  bit : ∀ p, p < 8 * X.length → Crc.sb R Z p = (Crc.sb R X p ^^ (decide (at_ ≤ p ∧ p < at_ + i) && mask.testBit (p - at_)))
  no : flag = false → Z = X
  yes : flag = true → ∃ j, j < i ∧ mask.testBit j = true
theorem unsealed_own {R : Bool} {W P I O : Nat} (hs : Crc.okN W P I O) (B : List Nat) : Crc.unsealed R W P I O (B ++ Crc.layl R (W / 8) (Crc.crc R W P I O B)) = (ints B, 0) := by
  have hl : (B ++ Crc.layl R (W / 8) (Crc.crc R W P I O B)).length = B.length + W / 8 := by rw [List.length_append, Crc.layl_length]
  unfold Crc.unsealed
  rw [hl, if_neg (by omega), Nat.add_sub_cancel, List.take_left, List.drop_left, if_pos rfl]
  rfl
theorem bur_end {W P I O : Nat} {R : Bool} (hs : Crc.okN W P I O) (B X Z : List Nat) (hX : X = B ++ Crc.layl R (W / 8) (Crc.crc R W P I O B)) (hB : ∀ x ∈ B, x < 256) (hl : X.length < 140737488355328) (mask at_ i : Nat) (hi : i ≤ W) (hb : at_ + i ≤ 8 * X.length) (flag : Bool) (h : Bur R X Z mask at_ i flag) (x2 x3 x13 x16 : Int) :
    Ev (fun k => outpostlaw03_CrcBursts.j3 k (ints B) x2 x3 x13 (ints Z) flag x16 false W P I O R) true := by
  refine Ev.succ ?_
  have hXb : ∀ x ∈ X, x < 256 := by
    rw [hX]
    intro x hx
    rcases List.mem_append.1 hx with h1 | h1
    · exact hB x h1
    · exact Crc.layl_lt R _ _ x h1
  have uf : crc_Unseal.f W P I O R (ints Z) = some (Crc.unsealed R W P I O Z) := Crc.Unseal_f (R := R) hs Z h.byt (by rw [h.len]; exact hl)
  have hlx : X.length = B.length + W / 8 := by rw [hX, List.length_append, Crc.layl_length]
  cases flag with
  | false =>
    have e := h.no rfl
    subst e
    rw [hX, unsealed_own hs B, ← hX] at uf
    simp only [outpostlaw03_CrcBursts.j3, Bool.false_eq_true, if_false, uf, Option.bind_some, outpostlaw03_num.f, if_true, beq_self_eq_true]
    exact Ev.now true
  | true =>
    have hu : Crc.unsealed R W P I O Z = ([], 32) := by
      unfold Crc.unsealed
      have c1 : ¬ Z.length < W / 8 := by rw [h.len, hlx]; omega
      rw [if_neg c1]
      by_cases c2 : Crc.layl R (W / 8) (Crc.crc R W P I O (Z.take (Z.length - W / 8))) = Z.drop (Z.length - W / 8)
      · exfalso
        have r1 := Crc.regs_unsealed (R := R) hs c1 c2
        have r2 := Crc.regs_sealed (R := R) hs B
        rw [← hX] at r2
        obtain ⟨j, hj, hm⟩ := h.yes rfl
        have := Crc.burst (R := R) hs h.len hXb h.byt (r1.trans r2.symm) at_ i hi hb (fun j => mask.testBit j) h.bit j hj
        rw [hm] at this
        cases this
      · rw [if_neg c2]
    rw [hu] at uf
    simp only [outpostlaw03_CrcBursts.j3, Bool.false_eq_true, if_false, uf, Option.bind_some, outpostlaw03_num.f, if_true]
    exact Ev.now true
theorem mask_one (mask at_ i p : Nat) : (decide (at_ ≤ p ∧ p < at_ + (i + 1)) && mask.testBit (p - at_)) = ((decide (at_ ≤ p ∧ p < at_ + i) && mask.testBit (p - at_)) ^^ (decide (p = at_ + i) && mask.testBit i)) := by
  by_cases e : p = at_ + i
  · subst e
    have n1 : ¬ (at_ ≤ at_ + i ∧ at_ + i < at_ + i) := by omega
    have n2 : at_ ≤ at_ + i ∧ at_ + i < at_ + (i + 1) := by omega
    have n3 : at_ + i - at_ = i := by omega
    rw [decide_eq_true n2, decide_eq_false n1, n3, Bool.true_and, Bool.false_and, decide_eq_true rfl, Bool.true_and, Bool.false_xor]
  · rw [decide_eq_false e, Bool.false_and, Bool.xor_false]
    by_cases c : at_ ≤ p ∧ p < at_ + i
    · rw [decide_eq_true c, decide_eq_true (show at_ ≤ p ∧ p < at_ + (i + 1) by omega)]
    · rw [decide_eq_false c, decide_eq_false (show ¬ (at_ ≤ p ∧ p < at_ + (i + 1)) by omega)]
theorem bur_loop {W P I O : Nat} {R : Bool} (hs : Crc.okN W P I O) (B X : List Nat) (hX : X = B ++ Crc.layl R (W / 8) (Crc.crc R W P I O B)) (hB : ∀ x ∈ B, x < 256) (hl : X.length < 140737488355328) (mask at_ : Nat) (hm : mask < 4294967296) (ha : at_ < 8 * X.length) :
    ∀ (d i : Nat) (Z : List Nat) (flag : Bool), i + d = W → at_ + i ≤ 8 * X.length → Bur R X Z mask at_ i flag → Ev (fun k => outpostlaw03_CrcBursts.l0 k (ints B) (at_ : Int) (mask : Int) ((8 * X.length : Nat) : Int) (ints Z) flag (i : Int) W P I O R) true := by
  have hW : W ≤ 32 := by have := hs.1; omega
  intro d
  induction d with
  | zero =>
    intro i Z flag hi hb h
    have nx := bur_end (R := R) hs B X Z hX hB hl mask at_ i (by omega) hb flag h (at_ : Int) (mask : Int) ((8 * X.length : Nat) : Int) (i : Int)
    refine Ev.succ ?_
    have c0 : ¬ ((i : Int) < (W : Int)) := by omega
    simp only [outpostlaw03_CrcBursts.l0, c0, if_false]
    exact nx
  | succ d ih =>
    intro i Z flag hi hb h
    refine Ev.succ ?_
    have c0 : (i : Int) < (W : Int) := by omega
    have hw1 := Aside0.mk (show wrap64 ((at_ : Int) + (i : Int)) = ((at_ + i : Nat) : Int) by rw [w64 (by omega) (by omega)]; omega)
    by_cases hc : at_ + i < 8 * X.length
    · have c1 : decide (((at_ + i : Nat) : Int) < ((8 * X.length : Nat) : Int)) = true := decide_eq_true (by omega)
      have hi32 : i < 32 := by omega
      have hw2 := Aside0.mk (show wrap64 ((i : Int) + 1) = ((i + 1 : Nat) : Int) from w64s (by omega))
      have hbit := fun p => mask_one mask at_ i p
      by_cases ht : mask / 2 ^ i % 2 = 1
      · have tb : mask.testBit i = true := by rw [Nat.testBit_eq_decide_div_mod_eq, ht]; rfl
        have fl := flip_f W P I O R Z h.byt (at_ + i) (by rw [h.len]; exact hc) (by rw [h.len]; omega)
        have hk : (at_ + i) / 8 < Z.length := by rw [h.len]; omega
        have g := getD_lt h.byt ((at_ + i) / 8)
        have hq : (if R then (at_ + i) % 8 else 7 - (at_ + i) % 8) < 8 := by split <;> omega
        have hp : 2 ^ (if R then (at_ + i) % 8 else 7 - (at_ + i) % 8) < 256 := Nat.lt_of_lt_of_le (Nat.pow_lt_pow_right (by omega) hq) (by decide)
        have nx := ih (i + 1) (Z.set ((at_ + i) / 8) (Z.getD ((at_ + i) / 8) 0 ^^^ 2 ^ (if R then (at_ + i) % 8 else 7 - (at_ + i) % 8))) true (by omega) (by omega)
          ⟨by rw [List.length_set]; exact h.len, set_lt h.byt (Nat.xor_lt_two_pow (n := 8) g hp), fun p hpp => by rw [Crc.sb_flip R Z _ p hk, h.bit p hpp, hbit p, tb, Bool.and_true, Bool.xor_assoc], fun h0 => (Bool.noConfusion h0), fun _ => ⟨i, by omega, tb⟩⟩
        have e1 : ((mask / 2 ^ i % 2 : Nat) : Int) = 1 := by omega
        obtain ⟨b1, b2⟩ := mask_bit mask i hm hi32
        have w1 := hw1.out
        have w2 := hw2.out
        simp only [outpostlaw03_CrcBursts.l0, c0, if_true, w1, c1]
        refine Ev.succ ?_
        simp only [outpostlaw03_CrcBursts.j3, if_true, b1, b2, e1, w1, fl, Option.bind_some, w2]
        exact nx
      · have tb : mask.testBit i = false := by rw [Nat.testBit_eq_decide_div_mod_eq, show mask / 2 ^ i % 2 = 0 by omega]; rfl
        have nx := ih (i + 1) Z flag (by omega) (by omega)
          ⟨h.len, h.byt, fun p hpp => by rw [h.bit p hpp, hbit p, tb, Bool.and_false, Bool.xor_false], h.no, fun hy => by
            obtain ⟨j, hj, hm2⟩ := h.yes hy
            exact ⟨j, by omega, hm2⟩⟩
        have e1 : ¬ (((mask / 2 ^ i % 2 : Nat) : Int) = 1) := by omega
        obtain ⟨b1, b2⟩ := mask_bit mask i hm hi32
        have w1 := hw1.out
        have w2 := hw2.out
        simp only [outpostlaw03_CrcBursts.l0, c0, if_true, w1, c1]
        refine Ev.succ ?_
        simp only [outpostlaw03_CrcBursts.j3, if_true, b1, b2, e1, if_false, w2]
        exact nx
    · have c1 : decide (((at_ + i : Nat) : Int) < ((8 * X.length : Nat) : Int)) = false := decide_eq_false (by omega)
      have nx := bur_end (R := R) hs B X Z hX hB hl mask at_ i (by omega) hb flag h (at_ : Int) (mask : Int) ((8 * X.length : Nat) : Int) (i : Int)
      have w1 := hw1.out
      simp only [outpostlaw03_CrcBursts.l0, c0, if_true, w1, c1]
      exact nx
theorem place_of (a : Int) (n : Nat) (h0 : 0 < n) (h1 : n ≤ 4611686018427387903) : ∃ q : Nat, q < n ∧ Int.tmod (wrap64 (Int.tmod a (n : Int) + (n : Int))) (n : Int) = (q : Int) := by
  have b1 := Int.tmod_lt_of_pos a (show (0 : Int) < (n : Int) by omega)
  have b2 : -(n : Int) < Int.tmod a (n : Int) := by
    rw [Int.tmod_eq_emod]
    have := Int.emod_nonneg a (show (n : Int) ≠ 0 by omega)
    split <;> simp <;> omega
  have e1 : wrap64 (Int.tmod a (n : Int) + (n : Int)) = Int.tmod a (n : Int) + (n : Int) := w64 (by omega) (by omega)
  rw [e1, Int.tmod_eq_emod_of_nonneg (by omega)]
  have d1 := Int.emod_nonneg (Int.tmod a (n : Int) + (n : Int)) (show (n : Int) ≠ 0 by omega)
  have d2 := Int.emod_lt_of_pos (Int.tmod a (n : Int) + (n : Int)) (show (0 : Int) < (n : Int) by omega)
  exact ⟨((Int.tmod a (n : Int) + (n : Int)) % (n : Int)).toNat, by omega, by omega⟩
theorem Ev.pos {α : Type} {c : Prop} [Decidable c] {a b : Nat → Option α} {r : α} (h : c) (k : Ev a r) : Ev (fun n => if c then a n else b n) r := Ev.congr (fun n => if_pos h) k
theorem Ev.neg {α : Type} {c : Prop} [Decidable c] {a b : Nat → Option α} {r : α} (h : ¬ c) (k : Ev b r) : Ev (fun n => if c then a n else b n) r := Ev.congr (fun n => if_neg h) k
theorem Ev.const {α : Type} {o : Option α} {a : α} (h : o = some a) : Ev (fun _ => o) a := ⟨0, fun _ _ => h⟩
theorem CrcBursts : outpostlaw03_CrcBursts.Pure := by
  intro a0 a1 a2 a3 R l1 a m g0 g1 g2 g3 m1 s1 w1 g4 g5
  obtain ⟨B, rfl, hB⟩ := bytes_of w1
  rw [ints_length] at s1
  have ha := Crc.wf_i64 g4
  have hm := Crc.wf_u32 g5
  obtain ⟨m, rfl⟩ : ∃ n : Nat, m = (n : Int) := ⟨m.toNat, by omega⟩
  obtain ⟨W, P, I, O, hs, hg⟩ := Crc.Good_f a0 a1 a2 a3 R (Crc.wf_i64 g0) (Crc.wf_u32 g1) (Crc.wf_u32 g2) (Crc.wf_u32 g3)
  have hW : 8 ≤ W ∧ W ≤ 32 := by have := hs.1; omega
  refine Ev.rounds (g := fun k => outpostlaw03_CrcBursts.f k a0 a1 a2 a3 R (ints B) a (m : Int)) ?_
  obtain ⟨X, hX⟩ : ∃ X, X = B ++ Crc.layl R (W / 8) (Crc.crc R W P I O B) := ⟨_, rfl⟩
  have hlx : X.length = B.length + W / 8 := by rw [hX, List.length_append, Crc.layl_length]
  have se : crc_Seal.f W P I O R (ints B) = some (ints X, 0) := by rw [hX]; exact Crc.Seal_f (R := R) hs B hB (by omega)
  have uf : crc_Unseal.f W P I O R (ints X) = some (ints B, 0) := by
    have hXb : ∀ x ∈ X, x < 256 := by
      rw [hX]
      intro x hx
      rcases List.mem_append.1 hx with h1 | h1
      · exact hB x h1
      · exact Crc.layl_lt R _ _ x h1
    have := Crc.Unseal_f (R := R) hs X hXb (by omega)
    rw [hX, unsealed_own hs B, ← hX] at this
    exact this
  have C1 : Aside0 (((ints X).length : Int) = wrap64 (((ints B).length : Int) + wrap64 (Int.tdiv (W : Int) 8))) := ⟨by
    rw [div8 W (by omega), ints_length, ints_length, w64 (by omega) (by omega)]
    omega⟩
  have c2 : (0 : Int) ≤ ((ints B).length : Int) := by omega
  have c3 : ((ints B).length : Int) ≤ ((ints X).length : Int) := by rw [ints_length, ints_length]; omega
  have c4 : (ints X).take ((ints B).length : Int).toNat = ints B := by
    rw [Int.toNat_natCast, ints_length, ints_take, hX, List.take_left]
  have W8 : Aside0 (wrap64 (8 * ((ints X).length : Int)) = ((8 * X.length : Nat) : Int)) := ⟨by rw [ints_length, w64 (by omega) (by omega)]; omega⟩
  have c5 : ¬ (((8 * X.length : Nat) : Int) = 0) := by omega
  obtain ⟨q, hq, hq2⟩ := place_of a (8 * X.length) (by omega) (by omega)
  have Hq2 := Aside0.mk hq2
  clear hq2
  have c6 : ([] : List Int).length + (ints X).length < 140737488355328 := by rw [ints_length]; simp only [List.length_nil]; omega
  have nx := bur_loop (R := R) hs B X hX hB (by omega) m q (by omega) hq W 0 X false (by omega) (by omega) ⟨rfl, by
    rw [hX]
    intro x hx
    rcases List.mem_append.1 hx with h1 | h1
    · exact hB x h1
    · exact Crc.layl_lt R _ _ x h1, fun p _ => by simp [show ¬ (q ≤ p ∧ p < q) by omega], fun _ => rfl, fun h => by cases h⟩
  have z0 : ((0 : Nat) : Int) = 0 := rfl
  have c1 := C1.out
  have w8 := W8.out
  have hq2 := Hq2.out
  rw [z0] at nx
  unfold outpostlaw03_CrcBursts.f
  refine Ev.bind (Ev.const hg) ?_
  refine Ev.bind (Ev.const se) ?_
  refine Ev.bind (a := (0 : Int)) (Ev.const rfl) ?_
  refine Ev.pos rfl ?_
  refine Ev.pos c1 ?_
  refine Ev.pos c2 ?_
  refine Ev.pos c3 ?_
  refine Ev.pos (congrArg (fun z => (strOfNums z).toList) c4) ?_
  refine Ev.bind (Ev.const Crc.knows_f) ?_
  show Ev (fun k => outpostlaw03_CrcBursts.j0 k (ints B) a (m : Int) (ints X) false W P I O R) true
  refine Ev.succ ?_
  unfold outpostlaw03_CrcBursts.j0
  refine Ev.neg (by decide) ?_
  refine Ev.bind (Ev.const uf) ?_
  refine Ev.bind (a := (0 : Int)) (Ev.const rfl) ?_
  refine Ev.pos rfl ?_
  have e0 : ((strOfNums (ints B)).toList != (strOfNums (ints B)).toList) = false := by simp only [bne_self_eq_false]
  refine Ev.congr (f := fun k => outpostlaw03_CrcBursts.j1 k (ints B) a (m : Int) (ints X) false W P I O R) (fun n => by
    show outpostlaw03_CrcBursts.j1 n (ints B) a (m : Int) (ints X) ((strOfNums (ints B)).toList != (strOfNums (ints B)).toList) W P I O R = _
    rw [e0]) ?_
  refine Ev.succ ?_
  unfold outpostlaw03_CrcBursts.j1
  refine Ev.neg (by decide) ?_
  rw [w8]
  refine Ev.neg c5 ?_
  refine Ev.bind (a := ([] : List Int)) (Ev.const rfl) ?_
  refine Ev.pos c6 ?_
  rw [hq2]
  exact nx
end Go.Proofs.Ytejlmodoghglbaa.Pure
