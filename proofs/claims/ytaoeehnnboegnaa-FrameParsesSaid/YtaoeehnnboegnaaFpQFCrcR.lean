/- The document's check sums, in plain words. -/
import Derived.Test.YtaoeehnnboegnaaFpPx6
import Derived.Test.YtaoeehnnboegnaaFpPx7
import Derived.Test.YtaoeehnnboegnaaFpPx14
import Derived.Test.YtaoeehnnboegnaaFpQFCrcP
import Derived.Test.YtaoeehnnboegnaaFpQCrcB
import Derived.Test.YtaoeehnnboegnaaFpQBase
import Derived.Test.YtaoeehnnboegnaaFpQEv
import Derived.Lib.Bytes
set_option linter.unusedVariables false
set_option linter.unusedSimpArgs false
namespace Go.Proofs.Ytaoeehnnboegnaa.Crc
open Go.RowKit Go.Proofs.Ytaoeehnnboegnaa.P Go.Proofs.YtaoeehnnboegnaaW.PrintWords Go.Proofs.YtaoeehnnboegnaaW.PrintLast Go.Proofs.YtaoeehnnboegnaaW.PrintMore
open Go.Proofs.YtaoeehnnboegnaaW.Q (Ev.succ w64 w64s wu64 div8 tmod_nat replicate_lt)
theorem feed_eq {W P c : Nat} {b : Bool} (hW : 0 < W) : feed W P c b = if b = c.testBit (W - 1) then 2 * c % 2 ^ W else (2 * c % 2 ^ W) ^^^ P := by
  obtain ⟨w, rfl⟩ : ∃ w, W = w + 1 := ⟨W - 1, by omega⟩
  have e : 2 * (c ^^^ (if b = true then 2 ^ (w + 1 - 1) else 0)) % 2 ^ (w + 1) = 2 * c % 2 ^ (w + 1) := by
    rw [two_xor, xor_mod]
    cases b
    · simp
    · simp only [if_true, Nat.add_sub_cancel]
      rw [show 2 * 2 ^ w = 2 ^ (w + 1) by rw [Nat.pow_succ]; omega, Nat.mod_self, Nat.xor_zero]
  unfold feed stp
  rw [e, Nat.testBit_xor, Nat.add_sub_cancel]
  cases b <;> cases h : c.testBit w <;> simp [h, Nat.testBit_two_pow_self]
theorem refstep_f {W P c : Nat} (I O : Int) (R b : Bool) (hW : W = 8 ∨ W = 16 ∨ W = 24 ∨ W = 32) (hP : P < 2 ^ W) (hc : c < 2 ^ W) : outpostref03_step.f (W : Int) (P : Int) I O R (c : Int) ((if b then 1 else 0 : Nat) : Int) = some ((feed W P c b : Nat) : Int) := by
  have hw : 2 ^ W ≤ 2 ^ 32 := Nat.pow_le_pow_right (by omega) (by omega)
  have hp : 0 < 2 ^ W := Nat.pow_pos (by omega)
  have e1 : IntKind.u64.wrap (wrap64 ((W : Int) - 1)) = ((W - 1 : Nat) : Int) := by rw [w64 (by omega) (by omega), wu64 (by omega) (by omega)]; omega
  have e2 : IntKind.u64.wrap (W : Int) = (W : Int) := wu64 (by omega) (by omega)
  have e3 : shl .u64 1 (W : Int) = ((2 ^ W : Nat) : Int) := by
    unfold shl
    rw [show min (W : Int).toNat IntKind.u64.bits = W by simp [IntKind.bits]; omega, Int.one_mul, show (2 : Int) ^ W = ((2 ^ W : Nat) : Int) by simp, wu64 (by omega) (by omega)]
  have e4 : shr .u64 (c : Int) ((W - 1 : Nat) : Int) = ((c / 2 ^ (W - 1) : Nat) : Int) := by
    unfold shr
    rw [show min ((W - 1 : Nat) : Int).toNat IntKind.u64.bits = W - 1 by simp [IntKind.bits]; omega]
    simp
  have e5 : Go.bits .and .u64 ((c / 2 ^ (W - 1) : Nat) : Int) 1 = ((c / 2 ^ (W - 1) % 2 : Nat) : Int) := by
    rw [show (1 : Int) = ((1 : Nat) : Int) from rfl, u64_and_nat _ _ (Nat.lt_of_le_of_lt (Nat.div_le_self _ _) (by omega)) (by omega), Nat.and_one_is_mod]
  have e6 : IntKind.u64.wrap (2 * (c : Int)) = ((2 * c : Nat) : Int) := by rw [wu64 (by omega) (by omega)]; omega
  have e7 : Int.tmod ((2 * c : Nat) : Int) ((2 ^ W : Nat) : Int) = ((2 * c % 2 ^ W : Nat) : Int) := tmod_nat _ _
  have e8 : IntKind.u64.wrap (P : Int) = (P : Int) := wu64 (by omega) (by omega)
  have c1 : (0 : Int) ≤ ((W - 1 : Nat) : Int) := by omega
  have c2 : (0 : Int) ≤ (W : Int) := by omega
  have c3 : ¬ (((2 ^ W : Nat) : Int) = 0) := by omega
  have hm := Nat.mod_lt (2 * c) hp
  have e9 : Go.bits .xor .u64 ((2 * c % 2 ^ W : Nat) : Int) (P : Int) = (((2 * c % 2 ^ W) ^^^ P : Nat) : Int) := u64_xor_nat _ _ (by omega) (by omega)
  unfold outpostref03_step.f
  rw [feed_eq (by omega), Nat.testBit_eq_decide_div_mod_eq]
  simp only [e1, e2, e3, e4, e5, e6, e7, e8, e9, c1, c2, c3, if_true, if_false]
  have hr := Nat.mod_two_eq_zero_or_one (c / 2 ^ (W - 1))
  cases b <;> rcases hr with h | h <;> simp [h]
theorem byte_bit (x q : Nat) (hx : x < 256) (hq : q < 8) : (0 : Int) ≤ IntKind.u64.wrap (q : Int) ∧ IntKind.u64.wrap (Go.bits .and .u8 (shr .u8 (x : Int) (IntKind.u64.wrap (q : Int))) 1) = ((if x.testBit q then 1 else 0 : Nat) : Int) := by
  have w : IntKind.u64.wrap (q : Int) = (q : Int) := wu64 (by omega) (by omega)
  rw [w]
  refine ⟨by omega, ?_⟩
  unfold shr
  rw [show min (q : Int).toNat IntKind.u8.bits = q by simp [IntKind.bits]; omega, show (x : Int) / 2 ^ q = ((x / 2 ^ q : Nat) : Int) by simp, show (1 : Int) = ((1 : Nat) : Int) from rfl, u8_and_nat _ _ (Nat.lt_of_le_of_lt (Nat.div_le_self _ _) hx) (by omega), Nat.and_one_is_mod, Nat.testBit_eq_decide_div_mod_eq]
  rcases Nat.mod_two_eq_zero_or_one (x / 2 ^ q) with h | h <;> simp [h] <;> decide +kernel
theorem bitsOf_drop (R : Bool) (x j : Nat) (h : j < 8) : (bitsOf R x).drop j = x.testBit (if R then j else 7 - j) :: (bitsOf R x).drop (j + 1) := by
  have hl := bitsOf_length R x
  rw [List.drop_eq_getElem_cons (by omega)]
  have := bitsOf_get R x j h
  rw [List.getElem?_eq_getElem (by omega)] at this
  rw [Option.some.inj this]
theorem through_l1 {W P I O : Nat} {R : Bool} (hs : okN W P I O) (B : List Nat) (hB : ∀ x ∈ B, x < 256) (hl : B.length < 140737488355328) (i : Nat) (hi : i < B.length) (r : Int) :
    ∀ (d j c : Nat), j + d = 8 → c < 2 ^ W → Ev (fun k => outpostref03_through.l0 k ((feeds W P c ((bitsOf R (B.getD i 0)).drop j) : Nat) : Int) (ints B) ((i + 1 : Nat) : Int) W P I O R) r → Ev (fun k => outpostref03_through.l1 k (c : Int) (ints B) (i : Int) (j : Int) W P I O R) r := by
  have hx := getD_lt hB i
  intro d
  induction d with
  | zero =>
    intro j c hj hc h
    have ej : j = 8 := by omega
    subst ej
    refine Ev.succ ?_
    have c0 : ¬ (((8 : Nat) : Int) < 8) := by omega
    have w : wrap64 ((i : Int) + 1) = ((i + 1 : Nat) : Int) := w64s (by omega)
    rw [List.drop_of_length_le (by rw [bitsOf_length]; exact Nat.le_refl _)] at h
    simp only [outpostref03_through.l1, c0, if_false, w]
    exact h
  | succ d ih =>
    intro j c hj hc h
    refine Ev.succ ?_
    have c0 : (j : Int) < 8 := by omega
    have c1 : (0 : Int) ≤ (i : Int) := by omega
    have c2 : (i : Int) < ((ints B).length : Int) := by rw [ints_length]; omega
    have w2 : wrap64 ((j : Int) + 1) = ((j + 1 : Nat) : Int) := w64s (by omega)
    have w7 : wrap64 (7 - (j : Int)) = ((7 - j : Nat) : Int) := by rw [w64 (by omega) (by omega)]; omega
    rw [bitsOf_drop R _ j (by omega)] at h
    simp only [feeds] at h
    cases R
    · obtain ⟨b1, b2⟩ := byte_bit (B.getD i 0) (7 - j) hx (by omega)
      have st := refstep_f (I : Int) (O : Int) false ((B.getD i 0).testBit (7 - j)) hs.1 hs.2.1 hc
      have nx := ih (j + 1) (feed W P c ((B.getD i 0).testBit (7 - j))) (by omega) (feed_lt hs.2.1) h
      simp only [outpostref03_through.l1, c0, if_true, Bool.false_eq_true, if_false, c1, c2, w7, b1, rd_ints, b2, st, Option.bind_some, w2]
      exact nx
    · obtain ⟨b1, b2⟩ := byte_bit (B.getD i 0) j hx (by omega)
      have st := refstep_f (I : Int) (O : Int) true ((B.getD i 0).testBit j) hs.1 hs.2.1 hc
      have nx := ih (j + 1) (feed W P c ((B.getD i 0).testBit j)) (by omega) (feed_lt hs.2.1) h
      simp only [outpostref03_through.l1, c0, if_true, c1, c2, b1, rd_ints, b2, st, Option.bind_some, w2]
      exact nx
theorem through_l0 {W P I O : Nat} {R : Bool} (hs : okN W P I O) (B : List Nat) (hB : ∀ x ∈ B, x < 256) (hl : B.length < 140737488355328) :
    ∀ (d i c : Nat), i + d = B.length → c < 2 ^ W → Ev (fun k => outpostref03_through.l0 k (c : Int) (ints B) (i : Int) W P I O R) ((regs R W P c (B.drop i) : Nat) : Int) := by
  intro d
  induction d with
  | zero =>
    intro i c hi hc
    refine Ev.succ ?_
    have c0 : ¬ ((i : Int) < ((ints B).length : Int)) := by rw [ints_length]; omega
    rw [List.drop_of_length_le (by omega)]
    simp only [outpostref03_through.l0, c0, if_false, regs]
    exact Ev.now _
  | succ d ih =>
    intro i c hi hc
    refine Ev.succ ?_
    have c0 : (i : Int) < ((ints B).length : Int) := by rw [ints_length]; omega
    have nx := ih (i + 1) (feeds W P c (bitsOf R (B.getD i 0))) (by omega) (feeds_lt hs.2.1 _ hc)
    have l1 := through_l1 (R := R) hs B hB hl i (by omega) _ 8 0 c (by omega) hc (by rw [List.drop_zero]; exact nx)
    rw [drop_get (by omega)]
    simp only [outpostref03_through.l0, c0, if_true, regs]
    exact l1
theorem val_snoc (t : List Bool) (b : Bool) : val (t ++ [b]) = 2 * val t + (if b then 1 else 0) := by
  induction t with
  | nil => cases b <;> simp [val]
  | cons a t ih =>
    simp only [List.cons_append, val, ih, List.length_append, List.length_cons, List.length_nil]
    rw [Nat.pow_succ]
    cases a <;> simp <;> omega
theorem lob_snoc : ∀ (n x : Nat), lob x (n + 1) = lob x n ++ [x.testBit n]
  | 0, x => by simp [lob]
  | n + 1, x => by
    have h := lob_snoc n (x / 2)
    rw [show lob x (n + 2) = x.testBit 0 :: lob (x / 2) (n + 1) from rfl, h, show lob x (n + 1) = x.testBit 0 :: lob (x / 2) n from rfl, Nat.testBit_succ]
    rfl
theorem mirrored_l0 {W : Nat} (P I O : Int) (R : Bool) (hW : W ≤ 32) (c : Nat) (hc : c < 2 ^ 32) : ∀ (d i : Nat), i + d = W → Ev (fun k => outpostref03_mirrored.l0 k (c : Int) ((val (lob c i) : Nat) : Int) (i : Int) W P I O R) ((rev c W : Nat) : Int) := by
  intro d
  induction d with
  | zero =>
    intro i hi
    have ei : i = W := by omega
    subst ei
    refine Ev.succ ?_
    have c0 : ¬ ((i : Int) < (i : Int)) := by omega
    simp only [outpostref03_mirrored.l0, c0, if_false]
    exact Ev.now _
  | succ d ih =>
    intro i hi
    refine Ev.succ ?_
    have c0 : (i : Int) < (W : Int) := by omega
    have w : IntKind.u64.wrap (i : Int) = (i : Int) := wu64 (by omega) (by omega)
    have c1 : (0 : Int) ≤ (i : Int) := by omega
    have e4 : shr .u64 (c : Int) (i : Int) = ((c / 2 ^ i : Nat) : Int) := by
      unfold shr
      rw [show min (i : Int).toNat IntKind.u64.bits = i by simp [IntKind.bits]; omega]
      simp
    have e5 : Go.bits .and .u64 ((c / 2 ^ i : Nat) : Int) 1 = ((c / 2 ^ i % 2 : Nat) : Int) := by
      rw [show (1 : Int) = ((1 : Nat) : Int) from rfl, u64_and_nat _ _ (Nat.lt_of_le_of_lt (Nat.div_le_self _ _) (by omega)) (by omega), Nat.and_one_is_mod]
    have hv := val_lt (lob c i)
    rw [lob_length] at hv
    have hv2 : 2 ^ i ≤ 2 ^ 32 := Nat.pow_le_pow_right (by omega) (by omega)
    have hm : c / 2 ^ i % 2 < 2 := Nat.mod_lt _ (by omega)
    have e6 : IntKind.u64.wrap (IntKind.u64.wrap (2 * ((val (lob c i) : Nat) : Int)) + ((c / 2 ^ i % 2 : Nat) : Int)) = ((val (lob c (i + 1)) : Nat) : Int) := by
      rw [lob_snoc, val_snoc, wu64 (n := 2 * _) (by omega) (by omega), wu64 (by omega) (by omega), Nat.testBit_eq_decide_div_mod_eq]
      rcases Nat.mod_two_eq_zero_or_one (c / 2 ^ i) with h | h <;> simp [h]
    have nx := ih (i + 1) (by omega)
    have w2 : wrap64 ((i : Int) + 1) = ((i + 1 : Nat) : Int) := w64s (by omega)
    simp only [outpostref03_mirrored.l0, c0, if_true, w, c1, e4, e5, e6, w2]
    exact nx
theorem told_f {W P I O : Nat} {R : Bool} (hs : okN W P I O) (c : Nat) (hc : c < 2 ^ W) : Ev (fun k => outpostref03_told.f k W P I O R (c : Int)) ((turn R W c ^^^ O : Nat) : Int) := by
  have hW : W ≤ 32 := by have := hs.1; omega
  have hw : 2 ^ W ≤ 2 ^ 32 := Nat.pow_le_pow_right (by omega) hW
  have ht : turn R W c < 2 ^ W := turn_lt hc
  have hO := hs.2.2.2.1
  have m : Ev (fun k => outpostref03_mirrored.f k W P I O R (c : Int)) ((turn R W c : Nat) : Int) := by
    cases R
    · simp only [outpostref03_mirrored.f, Bool.false_eq_true, if_false, turn]
      exact Ev.now _
    · have nx := mirrored_l0 (W := W) (P : Int) (I : Int) (O : Int) true hW c (by omega) W 0 (by omega)
      simp only [outpostref03_mirrored.f, if_true, turn]
      exact nx
  unfold outpostref03_told.f
  refine Ev.bind m ?_
  have e : Go.bits .xor .u32 (((turn R W c : Nat) : Int) % 4294967296) (O : Int) = ((turn R W c ^^^ O : Nat) : Int) := by
    rw [Int.emod_eq_of_lt (by omega) (by omega), bxor32 _ _ (by omega) (by omega)]
  simp only [e]
  exact Ev.now _

theorem refCheck_ok {W P I O : Nat} (R : Bool) (hs : okN W P I O) : Ev (fun k => outpostref03_Check.f k W P I O R) 0 := by
  have hw : 2 ^ W ≤ 2 ^ 32 := Nat.pow_le_pow_right (by omega) (by have := hs.1; omega)
  obtain ⟨h1, h2, h3, h4, h5⟩ := hs
  have := refCheck_ev (a0 := W) (a1 := P) (a2 := I) (a3 := O) R ⟨by omega, by omega⟩ ⟨by omega, by omega⟩ ⟨by omega, by omega⟩
  rwa [if_pos ((okI_nat W P I O).2 ⟨h1, h2, h3, h4, h5⟩)] at this
/-- The document's sum. -/
theorem refSum_f {W P I O : Nat} {R : Bool} (hs : okN W P I O) (B : List Nat) (hB : ∀ x ∈ B, x < 256) (hl : B.length < 140737488355328) : Ev (fun k => outpostref03_Sum.f k W P I O R (ints B)) (((crc R W P I O B : Nat) : Int), 0) := by
  have hw : 2 ^ W ≤ 2 ^ 32 := Nat.pow_le_pow_right (by omega) (by have := hs.1; omega)
  have hI := hs.2.2.1
  unfold outpostref03_Sum.f
  refine Ev.bind (refCheck_ok R hs) ?_
  simp only [if_true]
  have w : IntKind.u64.wrap (I : Int) = (I : Int) := wu64 (by omega) (by omega)
  have t := through_l0 (R := R) hs B hB hl B.length 0 I (by omega) hI
  rw [List.drop_zero] at t
  have t2 : Ev (fun k => outpostref03_through.f k W P I O R (IntKind.u64.wrap (I : Int)) (ints B)) ((regs R W P I B : Nat) : Int) := by
    rw [w]
    exact t
  refine Ev.bind t2 ?_
  refine Ev.bind (told_f (R := R) hs _ (regs_lt hs.2.1 B hI)) ?_
  exact Ev.now _
/-- The document's bytes of a sum. -/
theorem laid_l0 {W P I O : Nat} {R : Bool} (m v : Nat) (hm : m ≤ 4) (hv : v < 2 ^ 32) : ∀ (d i : Nat) (T : List Nat), i + d = m → T.length = m → (∀ j, j < i → T.getD j 0 = layc R m v j) → Ev (fun k => outpostref03_Laid.l0 k (v : Int) (m : Int) (ints T) (i : Int) W P I O R) (ints (layl R m v)) := by
  intro d
  induction d with
  | zero =>
    intro i T hi hT hV
    refine Ev.succ ?_
    have c0 : ¬ ((i : Int) < (m : Int)) := by omega
    have e : T = layl R m v := getD_ext (by rw [hT, layl_length]) (fun j hj => by rw [hV j (by omega), layl_getD R m v j (by omega)])
    simp only [outpostref03_Laid.l0, c0, if_false, e]
    exact Ev.now _
  | succ d ih =>
    intro i T hi hT hV
    refine Ev.succ ?_
    have c0 : (i : Int) < (m : Int) := by omega
    have c1 : (0 : Int) ≤ (i : Int) := by omega
    have c2 : (i : Int) < ((ints T).length : Int) := by rw [ints_length]; omega
    have sh : ∀ q : Nat, q ≤ 32 → (0 : Int) ≤ IntKind.u64.wrap (q : Int) ∧ shr .u32 (v : Int) (IntKind.u64.wrap (q : Int)) % 256 = ((v / 2 ^ q % 256 : Nat) : Int) := by
      intro q hq
      have w : IntKind.u64.wrap (q : Int) = (q : Int) := wu64 (by omega) (by omega)
      rw [w]
      refine ⟨by omega, ?_⟩
      unfold shr
      rw [show min (q : Int).toNat IntKind.u32.bits = q by simp [IntKind.bits]; omega]
      simp
    have w2 : wrap64 ((i : Int) + 1) = ((i + 1 : Nat) : Int) := w64s (by omega)
    have nx := ih (i + 1) (T.set i (layc R m v i)) (by omega) (by rw [List.length_set]; exact hT) (fun j hj => by
      by_cases e : i = j
      · subst e
        rw [List.getD_eq_getElem?_getD, List.getElem?_set_self (by omega)]
        rfl
      · rw [List.getD_eq_getElem?_getD, List.getElem?_set_ne e, ← List.getD_eq_getElem?_getD]
        exact hV j (by omega))
    have si : (ints T).set (i : Int).toNat ((layc R m v i : Nat) : Int) = ints (T.set i (layc R m v i)) := by simp [ints, List.map_set]
    cases R
    · have e1 : wrap64 (8 * wrap64 (wrap64 ((m : Int) - 1) - (i : Int))) = ((8 * (m - 1 - i) : Nat) : Int) := by rw [w64 (n := (m : Int) - 1) (by omega) (by omega), w64 (n := (m : Int) - 1 - (i : Int)) (by omega) (by omega), w64 (by omega) (by omega)]; omega
      obtain ⟨b1, b2⟩ := sh (8 * (m - 1 - i)) (by omega)
      have lc : ((v / 2 ^ (8 * (m - 1 - i)) % 256 : Nat) : Int) = ((layc false m v i : Nat) : Int) := rfl
      simp only [outpostref03_Laid.l0, c0, if_true, Bool.false_eq_true, if_false, e1, b1, c1, c2, b2, lc, si, w2]
      exact nx
    · have e1 : wrap64 (8 * (i : Int)) = ((8 * i : Nat) : Int) := by rw [w64 (by omega) (by omega)]; omega
      obtain ⟨b1, b2⟩ := sh (8 * i) (by omega)
      have lc : ((v / 2 ^ (8 * i) % 256 : Nat) : Int) = ((layc true m v i : Nat) : Int) := rfl
      simp only [outpostref03_Laid.l0, c0, if_true, e1, b1, c1, c2, b2, lc, si, w2]
      exact nx
theorem refLaid_f {W P I O : Nat} {R : Bool} (hs : okN W P I O) (v : Nat) (hv : v < 2 ^ 32) : Ev (fun k => outpostref03_Laid.f k W P I O R (v : Int)) (ints (layl R (W / 8) v)) := by
  have hW : W ≤ 32 := by have := hs.1; omega
  have d := div8 W (by omega)
  have c1 : (0 : Int) ≤ ((W / 8 : Nat) : Int) := by omega
  have c2 : W / 8 ≤ 281474976710656 := by omega
  have nx := laid_l0 (W := W) (P := P) (I := I) (O := O) (R := R) (W / 8) v (by omega) hv (W / 8) 0 (List.replicate (W / 8) 0) (by omega) (by simp) (fun j hj => by omega)
  have e : ints (List.replicate (W / 8) 0) = List.replicate (W / 8) 0 := by simp [ints]
  rw [e] at nx
  simp only [outpostref03_Laid.f, d, c1, if_true, Int.toNat_natCast, c2]
  exact nx
/-- The document's Seal. -/
theorem refSeal_of {W P I O : Nat} {R : Bool} (v : Int) (B : List Int) (N : Nat) (hc : B.length < N) (Z : List Int) (hZ : B.length + Z.length < N) (hl : Ev (fun k => outpostref03_Laid.f k W P I O R v) Z) (sm : Ev (fun k => outpostref03_Sum.f k W P I O R B) (v, 0)) (hN : 140737488355328 = N) :
   Ev (fun k => outpostref03_Seal.f k W P I O R B) (B ++ Z, 0) := by
  unfold outpostref03_Seal.f
  rw [hN]
  refine Ev.bind sm ?_
  have c1 : ([] : List Int).length + B.length < N := by simp only [List.length_nil]; omega
  refine Ev.congr (f := fun n => (outpostref03_Laid.f n W P I O R v).bind fun t190 => if ([] ++ B : List Int).length + t190.length < N then some (([] ++ B : List Int) ++ t190, 0) else none) (fun n => ?_) ?_
  · rw [if_pos (show ((v, 0) : Int × Int).snd = (0 : Int) from rfl), Option.bind_some, if_pos c1, Option.bind_some]
  refine Ev.bind hl ?_
  refine Ev.congr (f := fun n => some (B ++ Z, 0)) (fun n => ?_) (Ev.now _)
  rw [List.nil_append, if_pos hZ]
theorem refSeal_f {W P I O : Nat} {R : Bool} (hs : okN W P I O) (B : List Nat) (hB : ∀ x ∈ B, x < 256) (hl : B.length + 8 < 140737488355328) : Ev (fun k => outpostref03_Seal.f k W P I O R (ints B)) (ints (B ++ layl R (W / 8) (crc R W P I O B)), 0) := by
  have hW : W ≤ 32 := by have := hs.1; omega
  have hw : 2 ^ W ≤ 2 ^ 32 := Nat.pow_le_pow_right (by omega) hW
  have hc := crc_lt (R := R) hs B
  have e : ints (B ++ layl R (W / 8) (crc R W P I O B)) = ints B ++ ints (layl R (W / 8) (crc R W P I O B)) := by simp [ints]
  rw [e]
  exact refSeal_of _ _ 140737488355328 (by rw [ints_length]; omega) _ (by rw [ints_length, ints_length, layl_length]; omega) (refLaid_f (R := R) hs _ (by omega)) (refSum_f (R := R) hs B hB (by omega)) rfl

/-- The document's Unseal. -/
theorem refUnseal_f {W P I O : Nat} {R : Bool} (hs : okN W P I O) (B : List Nat) (hB : ∀ x ∈ B, x < 256) (hl : B.length < 140737488355328) : Ev (fun k => outpostref03_Unseal.f k W P I O R (ints B)) (unsealed R W P I O B) := by
  have hW : 8 ≤ W ∧ W ≤ 32 := by have := hs.1; omega
  have hw : 2 ^ W ≤ 2 ^ 32 := Nat.pow_le_pow_right (by omega) hW.2
  unfold outpostref03_Unseal.f
  refine Ev.bind (refCheck_ok R hs) ?_
  have c1 : 8 ≤ (W : Int) ∧ (W : Int) ≤ 32 ∧ (ints B).length < 140737488355328 := ⟨by omega, by omega, by rw [ints_length]; exact hl⟩
  simp only [if_true, c1, Int.toNat_natCast, and_self]
  unfold unsealed
  by_cases h1 : B.length < W / 8
  · have h1' : (ints B).length < W / 8 := by rw [ints_length]; exact h1
    simp only [h1, h1', if_true]
    exact Ev.now _
  · have h1' : ¬ (ints B).length < W / 8 := by rw [ints_length]; exact h1
    simp only [h1, h1', if_false]
    have tk : (ints B).take ((ints B).length - W / 8) = ints (B.take (B.length - W / 8)) := by rw [ints_length, ints_take]
    have dr : (ints B).drop ((ints B).length - W / 8) = ints (B.drop (B.length - W / 8)) := by rw [ints_length]; simp [ints, List.map_drop]
    rw [tk, dr]
    have hT : ∀ x ∈ B.take (B.length - W / 8), x < 256 := fun x hx => hB x (List.mem_of_mem_take hx)
    refine Ev.bind (refSum_f (R := R) hs _ hT (by rw [List.length_take]; omega)) ?_
    refine Ev.bind (refLaid_f (R := R) hs _ (by have := crc_lt (R := R) hs (B.take (B.length - W / 8)); omega)) ?_
    have si := str_inj (A := layl R (W / 8) (crc R W P I O (B.take (B.length - W / 8)))) (B := B.drop (B.length - W / 8)) (layl_lt R _ _) (fun x hx => hB x (List.mem_of_mem_drop hx))
    by_cases h2 : layl R (W / 8) (crc R W P I O (B.take (B.length - W / 8))) = B.drop (B.length - W / 8)
    · have h2' := si.2 h2
      simp only [h2', if_true, h2]
      exact Ev.now _
    · have h2' : ¬ _ := fun h => h2 (si.1 h)
      simp only [h2', if_false, h2]
      exact Ev.now _
end Go.Proofs.Ytaoeehnnboegnaa.Crc
