/- Frames: what the document's Parse comes to. -/
import Derived.Test.YtaoeehnnboegnaaFpPx15
import Derived.Test.YtaoeehnnboegnaaFpQFrmB
import Derived.Test.YtaoeehnnboegnaaFpQFBitR
import Derived.Test.YtaoeehnnboegnaaFpQFCrcR
set_option linter.unusedVariables false
set_option linter.unusedSimpArgs false
namespace Go.Proofs.Ytaoeehnnboegnaa.Frm
open Go.RowKit Go.Proofs.Ytaoeehnnboegnaa.P Go.Proofs.YtaoeehnnboegnaaW.PrintWords Go.Proofs.YtaoeehnnboegnaaW.PrintLast Go.Proofs.YtaoeehnnboegnaaW.PrintMore Go.Proofs.YtaoeehnnboegnaaW.Q
open Go.Proofs.Ytaoeehnnboegnaa.Crc (okI okI_nat okN okI_width layl crc unsealed layl_length layl_lt bor32)
theorem number_f {a b c d : Nat} {t : List Nat} (ha : a < 256) (hb : b < 256) (hc : c < 256) (hd : d < 256) : outpostref24_number.f (ints (a :: b :: c :: d :: t)) = some ((num4 a b c d : Nat) : Int) := by
  have hl : (ints (a :: b :: c :: d :: t)).length = t.length + 4 := by simp [ints]
  unfold outpostref24_number.f
  rw [if_pos (by omega), if_pos (by omega), if_pos (by omega), if_pos (by omega)]
  rw [← or_num ha hb hc hd]
  rfl
/-! ### The document's -/
theorem rtold_l0 (B t : List Nat) (m : Nat) (hm : m ≤ t.length) (ht : t.length ≤ 64) (hB : B.length = 10) (K S A : Int) (hK : K = 1 ∨ K = 2) :
    ∀ (d i : Nat), i + d = t.length → m ≤ i → Ev (fun k => outpostref24_Parse.l0 k (ints (B ++ t)) (m : Int) ((10 + i : Nat) : Int) K S A) (if zer (t.drop i) = true then endE K S A (ints (t.take m)) else none_ 240) := by
  have hl : (ints (B ++ t)).length = 10 + t.length := by rw [ints_length, List.length_append]; omega
  have hw : wrap64 (10 + (m : Int)) = ((10 + m : Nat) : Int) := by rw [w64 (by omega) (by omega)]; omega
  have e1 : ((ints (B ++ t)).take (10 + m)).drop 10 = ints (t.take m) := by
    rw [ints_take, ints_drop]
    congr 1
    rw [show 10 + m = B.length + m by omega, List.take_length_add_append, show (10 : Nat) = B.length by omega, List.drop_left']
    rfl
  intro d
  induction d with
  | zero =>
    intro i hi hmi
    have hz : zer (t.drop i) = true := by rw [List.drop_eq_nil_of_le (by omega)]; rfl
    rw [if_pos hz]
    refine Ev.succ ?_
    simp only [outpostref24_Parse.l0]
    refine evN (by rw [hl]; omega) ?_
    rw [hw, Int.toNat_natCast, e1]
    have hlen : (ints (t.take m)).length = m := by rw [ints_length, List.length_take]; omega
    have fin : Ev (fun k : Nat => (if (10 : Int) ≤ ((10 + m : Nat) : Int) then (if ((10 + m : Nat) : Int) ≤ ((ints (B ++ t)).length : Int) then ((some (ints (t.take m) : List Int)).bind fun y410 => (if ([] : List Int).length + y410.length < 140737488355328 then (some (K, S, A, (([] : List Int) ++ y410), 0)) else (none))) else (none)) else (none)) : Nat → Option Res) (K, S, A, ints (t.take m), 0) := by
      refine evP (by omega) ?_
      refine evP (by rw [hl]; omega) ?_
      refine evB rfl ?_
      refine evP (by rw [hlen, List.length_nil]; omega) ?_
      exact Ev.now _
    rcases hK with rfl | rfl
    · refine evP rfl ?_
      by_cases hS : S = 0
      · refine evP hS ?_
        subst hS
        by_cases h0 : (m : Int) > 0
        · rw [show endE 1 0 A (ints (t.take m)) = none_ 240 by unfold endE; rw [show kdE 1 0 (ints (t.take m)).length = 240 by rw [hlen]; unfold kdE; rw [if_pos rfl, if_pos rfl, if_pos h0]]; rfl]
          exact evP h0 (Ev.now _)
        · rw [show endE 1 0 A (ints (t.take m)) = (1, 0, A, ints (t.take m), 0) by unfold endE; rw [show kdE 1 0 (ints (t.take m)).length = 0 by rw [hlen]; unfold kdE; rw [if_pos rfl, if_pos rfl, if_neg h0]]; rfl]
          exact evN h0 fin
      · rw [show endE 1 S A (ints (t.take m)) = none_ 240 by unfold endE kdE; simp [hS]]
        exact evN hS (Ev.now _)
    · refine evN (by decide) ?_
      rw [show endE 2 S A (ints (t.take m)) = (2, S, A, ints (t.take m), 0) by unfold endE kdE; simp]
      exact fin
  | succ d ih =>
    intro i hi hmi
    have hd := drop_get (B := t) (i := i) (by omega)
    refine Ev.succ ?_
    simp only [outpostref24_Parse.l0]
    refine evP (by rw [hl]; omega) ?_
    refine evP (by omega) ?_
    rw [rd_ints, w64s (by omega)]
    have hg : (B ++ t).getD (10 + i) 0 = t.getD i 0 := by
      rw [List.getD_eq_getElem?_getD, List.getElem?_append_right (by omega), show 10 + i - B.length = i by omega, ← List.getD_eq_getElem?_getD]
    rw [hg, hd, zer_cons]
    by_cases h : t.getD i 0 = 0
    · refine evP (by omega) ?_
      rw [show (decide (t.getD i 0 = 0) && zer (t.drop (i + 1))) = zer (t.drop (i + 1)) by rw [decide_eq_true h, Bool.true_and]]
      exact ih (i + 1) (by omega) (by omega)
    · refine evN (by omega) ?_
      rw [show (decide (t.getD i 0 = 0) && zer (t.drop (i + 1))) = false by rw [decide_eq_false h, Bool.false_and], if_neg Bool.false_ne_true]
      exact Ev.now _
theorem rtold_j0 {n m : Nat} (hn : n ≤ 64) (W P I O : Int) (R : Bool) (K S A : Int) (x : Bool) (hx : x = false → K = 1 ∨ K = 2) (hdr t : List Nat) (hh : hdr.length = 10) (ht : t.length = n) :
    Ev (fun k => outpostref24_Parse.j0 k (ints (hdr ++ t)) (m : Int) x n W P I O R K S A) (if x = true then none_ 241 else if m > n then none_ 6 else if zer (t.drop m) = true then endE K S A (ints (t.take m)) else none_ 240) := by
  refine Ev.succ ?_
  simp only [outpostref24_Parse.j0]
  cases x with
  | true => exact Ev.now _
  | false =>
    rw [if_neg (by decide)]
    refine evN (by decide) ?_
    by_cases h : m > n
    · rw [if_pos h]
      exact evP (by omega) (Ev.now _)
    rw [if_neg h]
    refine evN (by omega) ?_
    have hw : wrap64 (10 + (m : Int)) = ((10 + m : Nat) : Int) := by rw [w64 (by omega) (by omega)]; omega
    rw [hw]
    exact rtold_l0 hdr t m (by omega) (by omega) hh K S A (hx rfl) (t.length - m) m (by omega) (by omega)
/-- What the document does with bytes whose sum is right. -/
def rtoldF (k : Nat) (n W P I O : Int) (R : Bool) (X : List Int) : Option Res := if 0 < (X.length : Int) then (if (1 : Int) ≤ 5 then (if 5 ≤ (X.length : Int) then ((outpostref24_number.f ((X.take 5).drop 1)).bind fun t401 => (if (5 : Int) ≤ 9 then (if 9 ≤ (X.length : Int) then ((outpostref24_number.f ((X.take 9).drop 5)).bind fun t406 => (if 9 < (X.length : Int) then (if (wrap64 (rd X 0)) = 1 then (outpostref24_Parse.j0 k X (wrap64 (rd X 9)) false n W P I O R (wrap64 (rd X 0)) t401 t406) else (outpostref24_Parse.j0 k X (wrap64 (rd X 9)) ((wrap64 (rd X 0)) != 2) n W P I O R (wrap64 (rd X 0)) t401 t406)) else (none))) else (none)) else (none))) else (none)) else (none)) else (none)
theorem rtold_ev {n b0 b1 b2 b3 b4 b5 b6 b7 b8 b9 : Nat} {t : List Nat} (hn : n ≤ 64) (ht : t.length = n) (W P I O : Int) (R : Bool) (hb : ∀ x ∈ b0 :: b1 :: b2 :: b3 :: b4 :: b5 :: b6 :: b7 :: b8 :: b9 :: t, x < 256) :
    Ev (fun k => rtoldF k n W P I O R (ints (b0 :: b1 :: b2 :: b3 :: b4 :: b5 :: b6 :: b7 :: b8 :: b9 :: t))) (tldE b0 (num4 b1 b2 b3 b4) (num4 b5 b6 b7 b8) n b9 t) := by
  simp only [List.forall_mem_cons] at hb
  obtain ⟨h0, h1, h2, h3, h4, h5, h6, h7, h8, h9, hb⟩ := hb
  obtain ⟨X, hX⟩ : ∃ X, X = ints (b0 :: b1 :: b2 :: b3 :: b4 :: b5 :: b6 :: b7 :: b8 :: b9 :: t) := ⟨_, rfl⟩
  rw [← hX]
  have hl : X.length = 10 + n := by rw [hX]; simp [ints]; omega
  have d1 : outpostref24_number.f ((X.take 5).drop 1) = some ((num4 b1 b2 b3 b4 : Nat) : Int) := by
    rw [show (X.take 5).drop 1 = ints [b1, b2, b3, b4] by rw [hX]; rfl]
    exact number_f h1 h2 h3 h4
  have d5 : outpostref24_number.f ((X.take 9).drop 5) = some ((num4 b5 b6 b7 b8 : Nat) : Int) := by
    rw [show (X.take 9).drop 5 = ints [b5, b6, b7, b8] by rw [hX]; rfl]
    exact number_f h5 h6 h7 h8
  have r0 : wrap64 (rd X 0) = (b0 : Int) := by rw [hX]; exact rd0 b0 _ h0
  have r9 : wrap64 (rd X 9) = (b9 : Int) := by rw [hX]; exact rd9 _ _ _ _ _ _ _ _ _ _ _ h9
  have J := fun x hx => rtold_j0 (n := n) (m := b9) hn W P I O R b0 ((num4 b1 b2 b3 b4 : Nat) : Int) ((num4 b5 b6 b7 b8 : Nat) : Int) x hx [b0, b1, b2, b3, b4, b5, b6, b7, b8, b9] t rfl ht
  rw [show ints ([b0, b1, b2, b3, b4, b5, b6, b7, b8, b9] ++ t) = X from hX.symm] at J
  clear hX
  generalize hS : num4 b1 b2 b3 b4 = S at *
  generalize hA : num4 b5 b6 b7 b8 = A at *
  unfold rtoldF
  refine evP (by omega) ?_
  refine evP (by omega) ?_
  refine evP (by omega) ?_
  refine evB d1 ?_
  refine evP (by omega) ?_
  refine evP (by omega) ?_
  refine evB d5 ?_
  refine evP (by omega) ?_
  rw [r0, r9]
  by_cases k1 : b0 = 1
  · refine evP (by omega) ?_
    have e : tldE b0 S A n b9 t = (if false = true then none_ 241 else if b9 > n then none_ 6 else if zer (t.drop b9) = true then endE b0 (S : Int) (A : Int) (ints (t.take b9)) else none_ 240) := by
      unfold tldE
      rw [if_neg (show ¬ (b0 ≠ 1 ∧ b0 ≠ 2) by omega), if_neg (show ¬ (false = true) by decide)]
    rw [e]
    exact J false (fun _ => Or.inl (by omega))
  · refine evN (by omega) ?_
    have e : tldE b0 S A n b9 t = (if ((b0 : Int) != 2) = true then none_ 241 else if b9 > n then none_ 6 else if zer (t.drop b9) = true then endE b0 (S : Int) (A : Int) (ints (t.take b9)) else none_ 240) := by
      unfold tldE
      by_cases k2 : b0 = 2
      · subst k2
        rw [if_neg (show ¬ ((2 : Nat) ≠ 1 ∧ (2 : Nat) ≠ 2) by omega), if_neg (show ¬ ((((2 : Nat) : Int) != 2) = true) by decide)]
      · rw [if_pos ⟨by omega, by omega⟩, if_pos (by rw [bne_iff_ne]; omega)]
    rw [e]
    exact J _ (fun hx => Or.inr (by simpa using hx))
theorem RParse_bad {b a0 a1 a2 a3 : Int} {R : Bool} (h1 : u32 a1) (h2 : u32 a2) (h3 : u32 a3) (B : List Int) (h0 : chk b a0 a1 a2 a3 ≠ 0) : Ev (fun k => outpostref24_Parse.f k b a0 a1 a2 a3 R B) (none_ (chk b a0 a1 a2 a3)) := by
  unfold outpostref24_Parse.f
  have hL := RLength_ev b a0 a1 a2 a3 R h1 h2 h3
  rw [show lenE b a0 a1 a2 a3 = (0, chk b a0 a1 a2 a3) from if_neg h0] at hL
  refine Ev.bind hL ?_
  exact evN h0 (Ev.now _)
theorem RParse_ev {n W P I O : Nat} {R : Bool} (hn : n ≤ 64) (hs : okN W P I O) (B : List Nat) (hB : ∀ x ∈ B, x < 256) (hl : B.length ≤ 140737488355328) : Ev (fun k => outpostref24_Parse.f k n W P I O R (ints B)) (parE n W P I O R B) := by
  unfold outpostref24_Parse.f
  obtain ⟨s1, s2, s3⟩ := spec_u32 hs
  have hL := RLength_ev n W P I O R s1 s2 s3
  rw [len_ok hn hs] at hL
  refine Ev.bind hL ?_
  refine evP rfl ?_
  by_cases h1 : B.length = 8 * (10 + n) + W
  · have hv := RValid_f B hl
    have hk := RPack_f B hl
    by_cases h2 : vld B = true
    · rw [if_pos h2] at hk
      rw [h2] at hv
      have hb1 := vld_le h2
      have hp := pack_lt hb1
      obtain ⟨l1, l2⟩ := pack_len8 hs h1
      have hU := Crc.refUnseal_f (R := R) hs (pack B) hp (by rw [l1]; have := hs.1; omega)
      refine evP (by rw [ints_length, h1]) (Ev.bind hv (evP rfl (Ev.bind hk ?_)))
      by_cases h3 : (unsealed R W P I O (pack B)).2 = 0
      · rw [show parE n W P I O R B = tldL n ((pack B).take (10 + n)) by unfold parE; rw [if_pos h1, if_pos h2, if_pos h3]]
        obtain ⟨u1, _, _⟩ := unsealed_ok h3
        rw [u1, l2] at hU
        have lt : ((pack B).take (10 + n)).length = 10 + n := by rw [List.length_take]; omega
        obtain ⟨b0, b1, b2, b3, b4, b5, b6, b7, b8, b9, t, hY, ht⟩ := ten_of lt
        have hT := rtold_ev (b0 := b0) (b1 := b1) (b2 := b2) (b3 := b3) (b4 := b4) (b5 := b5) (b6 := b6) (b7 := b7) (b8 := b8) (b9 := b9) hn ht W P I O R (by rw [← hY]; exact fun x hx => hp x (List.mem_of_mem_take hx))
        rw [← hY] at hT
        have e : tldL n ((pack B).take (10 + n)) = tldE b0 (num4 b1 b2 b3 b4) (num4 b5 b6 b7 b8) n b9 t := by rw [hY]; rfl
        rw [e]
        exact Ev.bind hU (evP rfl hT)
      · rw [show parE n W P I O R B = none_ (unsealed R W P I O (pack B)).2 by unfold parE; rw [if_pos h1, if_pos h2, if_neg h3]]
        exact Ev.bind hU (evN h3 (Ev.now _))
    · rw [show vld B = false by simpa using h2] at hv
      rw [show parE n W P I O R B = none_ 10 by unfold parE; rw [if_pos h1, if_neg h2]]
      exact evP (by rw [ints_length, h1]) (Ev.bind hv (evN (by decide) (Ev.now _)))
  · rw [show parE n W P I O R B = none_ 5 by unfold parE; rw [if_neg h1]]
    exact evN (by rw [ints_length]; omega) (Ev.now _)
end Go.Proofs.Ytaoeehnnboegnaa.Frm
