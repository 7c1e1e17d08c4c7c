/- Frames: there and back, one bit turned, unlike frames. -/
import Derived.Test.YtaoeehnnboegnaaFpPx11
import Derived.Test.YtaoeehnnboegnaaFpPx11
import Derived.Test.YtaoeehnnboegnaaFpPx8
import Derived.Test.YtaoeehnnboegnaaFpQFrmB
set_option linter.unusedVariables false
set_option linter.unusedSimpArgs false
namespace Go.Proofs.Ytaoeehnnboegnaa.Frm
open Go.RowKit Go.Proofs.Ytaoeehnnboegnaa.P Go.Proofs.YtaoeehnnboegnaaW.PrintWords Go.Proofs.YtaoeehnnboegnaaW.PrintLast Go.Proofs.YtaoeehnnboegnaaW.PrintMore Go.Proofs.YtaoeehnnboegnaaW.Q
open Go.Proofs.Ytaoeehnnboegnaa.Crc (okI okI_nat okN okI_width layl crc unsealed layl_length layl_lt sb regs regs_sealed regs_unsealed burst)
theorem vld_zero {b a0 a1 a2 a3 K S : Int} {m : Nat} (h : vldE b a0 a1 a2 a3 K S m = 0) : chk b a0 a1 a2 a3 = 0 ∧ kdE K S m = 0 ∧ (m : Int) ≤ b := by
  unfold vldE at h
  split at h
  · rename_i h0
    split at h
    · rename_i h1
      rw [h1] at h
      exact absurd h (by decide)
    · split at h
      · exact absurd h (by decide)
      · exact ⟨h0, h, by omega⟩
  · rename_i h0
    exact absurd h h0
theorem kd_zero {K S : Int} {m : Nat} (h : kdE K S m = 0) : K = 1 ∨ K = 2 := by
  unfold kdE at h
  split at h
  · exact Or.inl (by assumption)
  · split at h
    · exact Or.inr (by assumption)
    · exact absurd h (by decide)
theorem vld_of {n W P I O : Nat} {K S : Int} {m : Nat} (hn : n ≤ 64) (hs : okN W P I O) (h : kdE K S m = 0) (hm : m ≤ n) : vldE n W P I O K S m = 0 := by
  unfold vldE
  rw [if_pos (chk_ok hn hs), if_neg (by rw [h]; decide), if_neg (by omega)]
  exact h
theorem num_four {S : Nat} (h : S < 4294967296) : num4 (S / 16777216 % 256) (S / 65536 % 256) (S / 256 % 256) (S % 256) = S := by
  unfold num4
  omega
theorem zer_zeros (n : Nat) : zer (List.replicate n 0) = true := by
  unfold zer
  rw [List.all_eq_true]
  intro x hx
  rw [List.mem_replicate] at hx
  exact decide_eq_true hx.2
theorem zer_eq : ∀ {Z : List Nat}, zer Z = true → Z = List.replicate Z.length 0
  | [], _ => rfl
  | x :: Z, h => by
    rw [zer_cons, Bool.and_eq_true, decide_eq_true_eq] at h
    rw [List.length_cons, List.replicate_succ, ← zer_eq h.2, h.1]
theorem body_cons (K S A n : Nat) (D : List Nat) : body K S A D n = K :: (S / 16777216 % 256) :: (S / 65536 % 256) :: (S / 256 % 256) :: (S % 256) :: (A / 16777216 % 256) :: (A / 65536 % 256) :: (A / 256 % 256) :: (A % 256) :: D.length :: (D ++ List.replicate (n - D.length) 0) := by
  simp [body, hd, four]
theorem tld_body {K S A n : Nat} {D : List Nat} (hS : S < 4294967296) (hA : A < 4294967296) (hl : D.length ≤ n) (hk : kdE K S D.length = 0) : tldL n (body K S A D n) = ((K : Int), (S : Int), (A : Int), ints D, 0) := by
  rw [body_cons]
  show tldE K (num4 (S / 16777216 % 256) (S / 65536 % 256) (S / 256 % 256) (S % 256)) (num4 (A / 16777216 % 256) (A / 65536 % 256) (A / 256 % 256) (A % 256)) n D.length (D ++ List.replicate (n - D.length) 0) = _
  rw [num_four hS, num_four hA]
  unfold tldE
  have hK := kd_zero hk
  rw [if_neg (by omega), if_neg (by omega), List.drop_left' rfl, if_pos (zer_zeros _), List.take_left' rfl]
  unfold endE
  rw [ints_length, if_pos hk]
theorem bits_length (X : List Nat) : (bitsOfB X).length = 8 * X.length := unpack_length _ _
theorem unsealed_sld (R : Bool) (W P I O : Nat) (B : List Nat) : unsealed R W P I O (sld R W P I O B) = (ints B, 0) := by
  have hl := sld_length R W P I O B
  have e : (sld R W P I O B).length - W / 8 = B.length := by omega
  unfold unsealed
  rw [if_neg (by omega), e]
  have ht : (sld R W P I O B).take B.length = B := List.take_left' rfl
  have hd : (sld R W P I O B).drop B.length = layl R (W / 8) (crc R W P I O B) := List.drop_left' rfl
  rw [ht, hd, if_pos rfl]
  rfl
theorem parse_built {n W P I O K S A : Nat} {R : Bool} {D : List Nat} (hs : okN W P I O) (hK : K < 256) (hS : S < 4294967296) (hA : A < 4294967296) (hD : ∀ x ∈ D, x < 256) (hl : D.length ≤ n) (hn : n ≤ 64) (hk : kdE K S D.length = 0) :
    parE n W P I O R (bitsOfB (sld R W P I O (body K S A D n))) = ((K : Int), (S : Int), (A : Int), ints D, 0) := by
  have hb := body_lt (S := S) (A := A) (n := n) hK hD (by omega)
  have hx := sld_lt (R := R) (W := W) (P := P) (I := I) (O := O) hb
  have hlx := sld_length R W P I O (body K S A D n)
  rw [body_length hl] at hlx
  have hp : pack (bitsOfB (sld R W P I O (body K S A D n))) = sld R W P I O (body K S A D n) := pack_unpack hx
  have hW := hs.1
  unfold parE
  rw [if_pos (by rw [bits_length, hlx]; omega), if_pos (show vld (bitsOfB (sld R W P I O (body K S A D n))) = true from vld_le1 (unpack_le _ _)), hp, unsealed_sld, if_pos rfl]
  have ht : (sld R W P I O (body K S A D n)).take (10 + n) = body K S A D n := List.take_left' (body_length hl)
  rw [ht]
  exact tld_body hS hA hl hk
/-- What is read is built again. -/
theorem built_parse {n W P I O : Nat} {R : Bool} (hs : okN W P I O) (hn : n ≤ 64) {B : List Nat} (h : (parE n W P I O R B).2.2.2.2 = 0) :
    ∃ (K S A : Nat) (D : List Nat), parE n W P I O R B = ((K : Int), (S : Int), (A : Int), ints D, 0) ∧ K < 256 ∧ (∀ x ∈ D, x < 256) ∧ D.length ≤ n ∧ kdE K S D.length = 0 ∧ bitsOfB (sld R W P I O (body K S A D n)) = B := by
  unfold parE at h ⊢
  by_cases h1 : B.length = 8 * (10 + n) + W
  rotate_left
  · rw [if_neg h1] at h
    exact absurd h (by decide)
  rw [if_pos h1] at h ⊢
  by_cases h2 : vld B = true
  rotate_left
  · rw [if_neg h2] at h
    exact absurd h (by decide)
  rw [if_pos h2] at h ⊢
  by_cases h3 : (unsealed R W P I O (pack B)).2 = 0
  rotate_left
  · rw [if_neg h3] at h
    exact absurd h h3
  rw [if_pos h3] at h ⊢
  have hb1 := vld_le h2
  have hp := pack_lt hb1
  obtain ⟨l1, l2⟩ := pack_len8 hs h1
  obtain ⟨u1, u2, u3⟩ := unsealed_ok h3
  rw [l2] at u3
  have lt : ((pack B).take (10 + n)).length = 10 + n := by rw [List.length_take]; omega
  have hY2 : ∀ x ∈ (pack B).take (10 + n), x < 256 := fun x hx => hp x (List.mem_of_mem_take hx)
  obtain ⟨b0, b1, b2, b3, b4, b5, b6, b7, b8, b9, t, hY, ht⟩ := ten_of lt
  rw [hY] at h hY2 u3 ⊢
  change (tldE b0 (num4 b1 b2 b3 b4) (num4 b5 b6 b7 b8) n b9 t).2.2.2.2 = 0 at h
  show ∃ (K S A : Nat) (D : List Nat), tldE b0 (num4 b1 b2 b3 b4) (num4 b5 b6 b7 b8) n b9 t = _ ∧ _
  simp only [List.forall_mem_cons] at hY2
  obtain ⟨g0, g1, g2, g3, g4, g5, g6, g7, g8, g9, hb⟩ := hY2
  unfold tldE at h ⊢
  by_cases c1 : b0 ≠ 1 ∧ b0 ≠ 2
  · rw [if_pos c1] at h
    exact absurd h (by decide)
  rw [if_neg c1] at h ⊢
  by_cases c2 : b9 > n
  · rw [if_pos c2] at h
    exact absurd h (by decide)
  rw [if_neg c2] at h ⊢
  by_cases c3 : zer (t.drop b9) = true
  rotate_left
  · rw [if_neg c3] at h
    exact absurd h (by decide)
  rw [if_pos c3] at h ⊢
  have hlen : (t.take b9).length = b9 := by rw [List.length_take]; omega
  unfold endE at h ⊢
  rw [ints_length, hlen] at h ⊢
  by_cases c4 : kdE b0 ((num4 b1 b2 b3 b4 : Nat) : Int) b9 = 0
  rotate_left
  · rw [if_neg c4] at h
    exact absurd h c4
  rw [if_pos c4]
  refine ⟨b0, num4 b1 b2 b3 b4, num4 b5 b6 b7 b8, t.take b9, rfl, g0, fun x hx => hb x (List.mem_of_mem_take hx), by omega, by rw [hlen]; exact c4, ?_⟩
  have f1 : ∀ a b c d : Nat, a < 256 → b < 256 → c < 256 → d < 256 → num4 a b c d / 16777216 % 256 = a ∧ num4 a b c d / 65536 % 256 = b ∧ num4 a b c d / 256 % 256 = c ∧ num4 a b c d % 256 = d := by
    intro a b c d ha hb hc hd
    unfold num4
    omega
  obtain ⟨q1, q2, q3, q4⟩ := f1 b1 b2 b3 b4 g1 g2 g3 g4
  obtain ⟨q5, q6, q7, q8⟩ := f1 b5 b6 b7 b8 g5 g6 g7 g8
  have hz : t.take b9 ++ List.replicate (n - b9) 0 = t := by
    have e := zer_eq c3
    rw [List.length_drop, ht] at e
    rw [← e, List.take_append_drop]
  have hbody : body b0 (num4 b1 b2 b3 b4) (num4 b5 b6 b7 b8) (t.take b9) n = (pack B).take (10 + n) := by
    rw [body_cons, q1, q2, q3, q4, q5, q6, q7, q8, hlen, hz, hY]
  have hsl : sld R W P I O ((pack B).take (10 + n)) = pack B := by
    unfold sld
    rw [hY, u3, ← hY, List.take_append_drop]
  rw [hbody, hsl]
  unfold bitsOfB
  rw [show 8 * (pack B).length = B.length by rw [l1, h1]; have := hs.1; omega]
  exact unpack_pack hb1
/-! ### Same -/
theorem Same_f {K S A K' S' A' : Int} {D D' : List Nat} (hD : ∀ x ∈ D, x < 256) (hD' : ∀ x ∈ D', x < 256) : outpostref24_Same.f K S A (ints D) K' S' A' (ints D') = some (decide (K = K' ∧ S = S' ∧ A = A' ∧ D = D')) := by
  unfold outpostref24_Same.f
  by_cases h1 : K = K'
  · rw [if_pos h1]
    by_cases h2 : S = S'
    · rw [if_pos h2]
      by_cases h3 : A = A'
      · rw [if_pos h3]
        by_cases h4 : D = D'
        · subst h4
          rw [beq_self_eq_true, decide_eq_true ⟨h1, h2, h3, rfl⟩]
        · rw [decide_eq_false (fun h => h4 h.2.2.2), (show ((strOfNums (ints D)).toList == (strOfNums (ints D')).toList) = false from beq_eq_false_iff_ne.mpr (fun h => h4 ((Crc.str_inj hD hD').1 h)))]
      · rw [if_neg h3, decide_eq_false (fun h => h3 h.2.2.1)]
    · rw [if_neg h2, decide_eq_false (fun h => h2 h.2.1)]
  · rw [if_neg h1, decide_eq_false (fun h => h1 h.1)]
theorem Same_self (K S A : Int) (D : List Int) : outpostref24_Same.f K S A D K S A D = some true := by
  unfold outpostref24_Same.f
  rw [if_pos rfl, if_pos rfl, if_pos rfl, beq_self_eq_true]
/-! ### One bit -/
/-- A place in the order in which the sum goes. -/
def qp (R : Bool) (p : Nat) : Nat := if R then 8 * (p / 8) + (7 - p % 8) else p
theorem qp_qp (R : Bool) (p : Nat) : qp R (qp R p) = p := by
  cases R <;> simp [qp]
  omega
theorem qp_lt {R : Bool} {p n : Nat} (h : p < 8 * n) : qp R p < 8 * n := by
  cases R <;> simp [qp]
  · exact h
  · omega
theorem sb_bit (R : Bool) (Z : List Nat) (p : Nat) : sb R Z p = decide (bitAt Z (qp R p) = 1) := by
  unfold sb bitAt
  rw [Nat.testBit_eq_decide_div_mod_eq]
  cases R with
  | false => simp [qp]
  | true =>
    have e1 : qp true p / 8 = p / 8 := by simp [qp]; omega
    have e2 : 7 - qp true p % 8 = p % 8 := by simp [qp]; omega
    rw [e1, e2]
    simp
theorem turned {n W P I O : Nat} {R : Bool} {Y : List Nat} (hs : okN W P I O) (hY : ∀ x ∈ Y, x < 256) (hly : Y.length = 10 + n) {i : Nat} (hi : i < (bitsOfB (sld R W P I O Y)).length) :
    parE n W P I O R ((bitsOfB (sld R W P I O Y)).set i ((bitsOfB (sld R W P I O Y)).getD i 0 ^^^ 1)) = none_ 32 := by
  have hx := sld_lt (R := R) (W := W) (P := P) (I := I) (O := O) hY
  have hlx := sld_length R W P I O Y
  have hrx := regs_sealed (R := R) hs Y
  have hW := hs.1
  change regs R W P I (sld R W P I O Y) = _ at hrx
  generalize hX : sld R W P I O Y = X at hi hx hlx hrx ⊢
  rw [bits_length] at hi
  have hB1 : ∀ x ∈ bitsOfB X, x ≤ 1 := unpack_le _ _
  have hg1 : ∀ j, (bitsOfB X).getD j 0 ≤ 1 := getD_le1 hB1
  have ht1 : (bitsOfB X).getD i 0 ^^^ 1 ≤ 1 := by
    have := hg1 i
    rcases (show (bitsOfB X).getD i 0 = 0 ∨ (bitsOfB X).getD i 0 = 1 by omega) with h | h <;> rw [h] <;> decide
  obtain ⟨B', hB'⟩ : ∃ B', B' = (bitsOfB X).set i ((bitsOfB X).getD i 0 ^^^ 1) := ⟨_, rfl⟩
  rw [← hB']
  have hb' : ∀ x ∈ B', x ≤ 1 := by
    intro x hx
    rw [hB'] at hx
    rcases List.mem_or_eq_of_mem_set hx with h | h
    · exact hB1 x h
    · rw [h]
      exact ht1
  have hl' : B'.length = 8 * X.length := by rw [hB', List.length_set, bits_length]
  have hpl : (pack B').length = X.length := by rw [pack_len, hl']; omega
  have bit' : ∀ j, j < 8 * X.length → bitAt (pack B') j = if j = i then bitAt X j ^^^ 1 else bitAt X j := by
    intro j hj
    rw [pack_bit hb' (by omega), hB']
    have hu : (bitsOfB X).getD j 0 = bitAt X j := unpack_getD hj
    by_cases e : j = i
    · subst e
      rw [if_pos rfl, getD_set_self (by rw [bits_length]; exact hj), hu]
    · rw [if_neg e, show ((bitsOfB X).set i ((bitsOfB X).getD i 0 ^^^ 1)).getD j 0 = (bitsOfB X).getD j 0 by rw [List.getD_eq_getElem?_getD, List.getElem?_set_ne (fun h => e h.symm), ← List.getD_eq_getElem?_getD], hu]
  have hsb : ∀ p, p < 8 * X.length → sb R (pack B') p = (sb R X p ^^ (decide (qp R i ≤ p ∧ p < qp R i + 1) && (fun _ => true) (p - qp R i))) := by
    intro p hp
    rw [sb_bit, sb_bit, bit' _ (qp_lt hp)]
    by_cases e : qp R p = i
    · have e2 : qp R i = p := by rw [← e, qp_qp]
      rw [if_pos e, decide_eq_true (show qp R i ≤ p ∧ p < qp R i + 1 by omega)]
      have hle := bitAt_le X (qp R p)
      rcases (show bitAt X (qp R p) = 0 ∨ bitAt X (qp R p) = 1 by omega) with h | h <;> rw [h] <;> simp
    · have e2 : ¬ (qp R i ≤ p ∧ p < qp R i + 1) := fun h => e (by rw [show p = qp R i by omega, qp_qp])
      rw [if_neg e, decide_eq_false e2]
      simp
  have hne : (unsealed R W P I O (pack B')).2 ≠ 0 := by
    intro h
    obtain ⟨_, u2, u3⟩ := unsealed_ok h
    have hr := regs_unsealed (R := R) hs u2 u3
    have := burst (R := R) hs hpl hx (pack_lt hb') (hr.trans hrx.symm) (qp R i) 1 (by omega) (by have := qp_lt (R := R) hi; omega) (fun _ => true) hsb 0 (by omega)
    exact absurd this (by decide)
  have h32 : (unsealed R W P I O (pack B')).2 = 32 := by
    unfold unsealed at hne ⊢
    rw [if_neg (show ¬ (pack B').length < W / 8 by rw [hpl, hlx]; omega)] at hne ⊢
    split
    · rename_i g
      rw [if_pos g] at hne
      exact absurd rfl hne
    · rfl
  unfold parE
  rw [if_pos (by rw [hl', hlx, hly]; omega), if_pos (vld_le1 hb'), if_neg hne, h32]
theorem two_ok : okN 16 4129 65535 0 := by
  refine ⟨Or.inr (Or.inl rfl), ?_, ?_, ?_, ?_⟩ <;> decide
end Go.Proofs.Ytaoeehnnboegnaa.Frm
