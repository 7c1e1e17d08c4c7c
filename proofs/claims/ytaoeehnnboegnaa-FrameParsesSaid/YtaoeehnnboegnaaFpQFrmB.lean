/- Frames: what Parse comes to, the program's and the document's. -/
import Derived.Test.YtaoeehnnboegnaaFpPx11
import Derived.Test.YtaoeehnnboegnaaFpQFrmA
set_option linter.unusedVariables false
set_option linter.unusedSimpArgs false
namespace Go.Proofs.Ytaoeehnnboegnaa.Frm
open Go.RowKit Go.Proofs.Ytaoeehnnboegnaa.P Go.Proofs.YtaoeehnnboegnaaW.PrintWords Go.Proofs.YtaoeehnnboegnaaW.PrintLast Go.Proofs.YtaoeehnnboegnaaW.PrintMore Go.Proofs.YtaoeehnnboegnaaW.Q
open Go.Proofs.Ytaoeehnnboegnaa.Crc (okI okI_nat okN okI_width layl crc unsealed layl_length layl_lt bor32)
/-- A number of four bytes. -/
def num4 (a b c d : Nat) : Nat := a * 16777216 + b * 65536 + c * 256 + d
theorem or_num {a b c d : Nat} (ha : a < 256) (hb : b < 256) (hc : c < 256) (hd : d < 256) :
    Go.bits .or .u32 (Go.bits .or .u32 (Go.bits .or .u32 (((a : Int) % 4294967296 * 16777216) % 4294967296) (((b : Int) % 4294967296 * 65536) % 4294967296)) (((c : Int) % 4294967296 * 256) % 4294967296)) ((d : Int) % 4294967296) = ((num4 a b c d : Nat) : Int) := by
  have e1 : ((a : Int) % 4294967296 * 16777216) % 4294967296 = ((a * 16777216 : Nat) : Int) := by omega
  have e2 : ((b : Int) % 4294967296 * 65536) % 4294967296 = ((b * 65536 : Nat) : Int) := by omega
  have e3 : ((c : Int) % 4294967296 * 256) % 4294967296 = ((c * 256 : Nat) : Int) := by omega
  have e4 : (d : Int) % 4294967296 = ((d : Nat) : Int) := by omega
  have o1 : a * 16777216 ||| b * 65536 = a * 16777216 + b * 65536 := by
    have h := Nat.two_pow_add_eq_or_of_lt (i := 24) (b := b * 65536) (by omega) a
    rw [show (2 : Nat) ^ 24 * a = a * 16777216 by omega] at h
    exact h.symm
  have o2 : (a * 16777216 + b * 65536) ||| c * 256 = a * 16777216 + b * 65536 + c * 256 := by
    have h := Nat.two_pow_add_eq_or_of_lt (i := 16) (b := c * 256) (by omega) (a * 256 + b)
    rw [show (2 : Nat) ^ 16 * (a * 256 + b) = a * 16777216 + b * 65536 by omega] at h
    exact h.symm
  have o3 : (a * 16777216 + b * 65536 + c * 256) ||| d = a * 16777216 + b * 65536 + c * 256 + d := by
    have h := Nat.two_pow_add_eq_or_of_lt (i := 8) (b := d) (by omega) (a * 65536 + b * 256 + c)
    rw [show (2 : Nat) ^ 8 * (a * 65536 + b * 256 + c) = a * 16777216 + b * 65536 + c * 256 by omega] at h
    exact h.symm
  rw [e1, e2, e3, e4, bor32 _ _ (by omega) (by omega), o1, bor32 _ _ (by omega) (by omega), o2, bor32 _ _ (by omega) (by omega), o3]
  rfl
theorem read_f {a b c d : Nat} {t : List Nat} (ha : a < 256) (hb : b < 256) (hc : c < 256) (hd : d < 256) : frame_read.f (ints (a :: b :: c :: d :: t)) = some ((num4 a b c d : Nat) : Int) := by
  have hl : (ints (a :: b :: c :: d :: t)).length = t.length + 4 := by simp [ints]
  unfold frame_read.f
  rw [if_pos (by omega), if_pos (by omega), if_pos (by omega), if_pos (by omega)]
  rw [← or_num ha hb hc hd]
  rfl
abbrev Res := Int × Int × Int × List Int × Int
def none_ (e : Int) : Res := (0, 0, 0, [], e)
/-- The frame of bytes. -/
def zer (Z : List Nat) : Bool := Z.all (fun x => decide (x = 0))
theorem zer_cons (x : Nat) (Z : List Nat) : zer (x :: Z) = (decide (x = 0) && zer Z) := rfl
def endE (K S A : Int) (D : List Int) : Res := if kdE K S D.length = 0 then (K, S, A, D, 0) else none_ (kdE K S D.length)
def tldE (K S A n m : Nat) (t : List Nat) : Res :=
  if K ≠ 1 ∧ K ≠ 2 then none_ 241 else if m > n then none_ 6 else if zer (t.drop m) = true then endE K S A (ints (t.take m)) else none_ 240
theorem told_l0 (Z : List Nat) (hZ : Z.length ≤ 1000) (K S A : Int) (D : List Int) : ∀ (d i : Nat), i + d = Z.length → Ev (fun k => frame_told.l0 k (ints Z) (Z.length : Int) (i : Int) K S A D) (if zer (Z.drop i) = true then endE K S A D else none_ 240) := by
  intro d
  induction d with
  | zero =>
    intro i hi
    have hz : zer (Z.drop i) = true := by rw [List.drop_eq_nil_of_le (by omega)]; rfl
    rw [if_pos hz]
    refine Ev.succ ?_
    simp only [frame_told.l0]
    refine evN (by omega) ?_
    refine evB (kinded_f K S A D) ?_
    by_cases h : kdE K S D.length = 0
    · rw [show endE K S A D = (K, S, A, D, 0) from if_pos h]
      exact evP h (Ev.now _)
    · rw [show endE K S A D = none_ (kdE K S D.length) from if_neg h]
      exact evN h (Ev.now _)
  | succ d ih =>
    intro i hi
    have hd := drop_get (B := Z) (i := i) (by omega)
    refine Ev.succ ?_
    simp only [frame_told.l0]
    refine evP (by omega) ?_
    refine evP (by omega) ?_
    refine evP (by rw [ints_length]; omega) ?_
    rw [rd_ints, w64s (by omega)]
    rw [hd, zer_cons]
    by_cases h : Z.getD i 0 = 0
    · refine evP (by omega) ?_
      rw [show (decide (Z.getD i 0 = 0) && zer (Z.drop (i + 1))) = zer (Z.drop (i + 1)) by rw [decide_eq_true h, Bool.true_and]]
      exact ih (i + 1) (by omega)
    · refine evN (by omega) ?_
      rw [show (decide (Z.getD i 0 = 0) && zer (Z.drop (i + 1))) = false by rw [decide_eq_false h, Bool.false_and], if_neg Bool.false_ne_true]
      exact Ev.now _
theorem told_j0 {n m : Nat} (hn : n ≤ 64) (W P I O : Int) (R : Bool) (K S A : Int) (x : Bool) (hdr t : List Nat) (hh : hdr.length = 10) (ht : t.length = n) :
    Ev (fun k => frame_told.j0 k (ints (hdr ++ t)) (m : Int) x n W P I O R K S A) (if x = true then none_ 241 else if m > n then none_ 6 else if zer (t.drop m) = true then endE K S A (ints (t.take m)) else none_ 240) := by
  refine Ev.succ ?_
  simp only [frame_told.j0]
  cases x with
  | true => exact Ev.now _
  | false =>
    rw [if_neg (by decide)]
    refine evN (by decide) ?_
    by_cases h : m > n
    · rw [if_pos h]
      exact evP (by omega) (Ev.now _)
    rw [if_neg h]
    refine evN (by omega) ?_
    have hw : wrap64 (10 + (m : Int)) = ((10 + m : Nat) : Int) := by rw [w64 (by omega) (by omega)]; omega
    rw [hw, Int.toNat_natCast]
    have hl : (ints (hdr ++ t)).length = 10 + n := by rw [ints_length, List.length_append]; omega
    have e1 : ((ints (hdr ++ t)).take (10 + m)).drop 10 = ints (t.take m) := by
      rw [ints_take, ints_drop]
      congr 1
      rw [show 10 + m = hdr.length + m by omega, List.take_length_add_append, show (10 : Nat) = hdr.length by omega, List.drop_left']
      rfl
    have e2 : (ints (hdr ++ t)).drop (10 + m) = ints (t.drop m) := by
      rw [ints_drop]
      congr 1
      rw [show 10 + m = hdr.length + m by omega, List.drop_length_add_append]
    refine evP (by omega) ?_
    refine evP (by rw [hl]; omega) ?_
    rw [e1, e2]
    refine evP (by rw [ints_length, List.length_take, List.length_nil]; omega) ?_
    refine evP (by omega) ?_
    rw [ints_length, List.nil_append]
    exact told_l0 (t.drop m) (by rw [List.length_drop]; omega) K S A (ints (t.take m)) (t.drop m).length 0 (by omega)
theorem rd0 (b0 : Nat) (t : List Nat) (h : b0 < 256) : wrap64 (rd (ints (b0 :: t)) 0) = (b0 : Int) := by
  have e : rd (ints (b0 :: t)) 0 = (b0 : Int) := rfl
  rw [e]
  exact w64 (by omega) (by omega)
theorem rd9 (b0 b1 b2 b3 b4 b5 b6 b7 b8 b9 : Nat) (t : List Nat) (h : b9 < 256) : wrap64 (rd (ints (b0 :: b1 :: b2 :: b3 :: b4 :: b5 :: b6 :: b7 :: b8 :: b9 :: t)) 9) = (b9 : Int) := by
  have e : rd (ints (b0 :: b1 :: b2 :: b3 :: b4 :: b5 :: b6 :: b7 :: b8 :: b9 :: t)) 9 = (b9 : Int) := rfl
  rw [e]
  exact w64 (by omega) (by omega)
theorem told_ev {n b0 b1 b2 b3 b4 b5 b6 b7 b8 b9 : Nat} {t : List Nat} (hn : n ≤ 64) (ht : t.length = n) (W P I O : Int) (R : Bool) (hb : ∀ x ∈ b0 :: b1 :: b2 :: b3 :: b4 :: b5 :: b6 :: b7 :: b8 :: b9 :: t, x < 256) :
    Ev (fun k => frame_told.f k n W P I O R (ints (b0 :: b1 :: b2 :: b3 :: b4 :: b5 :: b6 :: b7 :: b8 :: b9 :: t))) (tldE b0 (num4 b1 b2 b3 b4) (num4 b5 b6 b7 b8) n b9 t) := by
  simp only [List.forall_mem_cons] at hb
  obtain ⟨h0, h1, h2, h3, h4, h5, h6, h7, h8, h9, hb⟩ := hb
  obtain ⟨X, hX⟩ : ∃ X, X = ints (b0 :: b1 :: b2 :: b3 :: b4 :: b5 :: b6 :: b7 :: b8 :: b9 :: t) := ⟨_, rfl⟩
  rw [← hX]
  have hl : X.length = 10 + n := by rw [hX]; simp [ints]; omega
  have d1 : frame_read.f (X.drop 1) = some ((num4 b1 b2 b3 b4 : Nat) : Int) := by
    rw [show X.drop 1 = ints (b1 :: b2 :: b3 :: b4 :: b5 :: b6 :: b7 :: b8 :: b9 :: t) by rw [hX]; rfl]
    exact read_f h1 h2 h3 h4
  have d5 : frame_read.f (X.drop 5) = some ((num4 b5 b6 b7 b8 : Nat) : Int) := by
    rw [show X.drop 5 = ints (b5 :: b6 :: b7 :: b8 :: b9 :: t) by rw [hX]; rfl]
    exact read_f h5 h6 h7 h8
  have r0 : wrap64 (rd X 0) = (b0 : Int) := by rw [hX]; exact rd0 b0 _ h0
  have r9 : wrap64 (rd X 9) = (b9 : Int) := by rw [hX]; exact rd9 _ _ _ _ _ _ _ _ _ _ _ h9
  have J := fun x => told_j0 (n := n) (m := b9) hn W P I O R b0 ((num4 b1 b2 b3 b4 : Nat) : Int) ((num4 b5 b6 b7 b8 : Nat) : Int) x [b0, b1, b2, b3, b4, b5, b6, b7, b8, b9] t rfl ht
  rw [show ints ([b0, b1, b2, b3, b4, b5, b6, b7, b8, b9] ++ t) = X from hX.symm] at J
  clear hX
  generalize hS : num4 b1 b2 b3 b4 = S at *
  generalize hA : num4 b5 b6 b7 b8 = A at *
  unfold frame_told.f
  refine evP (by omega) ?_
  refine evP (by omega) ?_
  refine evB d1 ?_
  refine evP (by omega) ?_
  refine evB d5 ?_
  refine evP (by omega) ?_
  rw [r0, r9]
  by_cases k1 : b0 = 1
  · refine evP (by omega) ?_
    have e : tldE b0 S A n b9 t = (if false = true then none_ 241 else if b9 > n then none_ 6 else if zer (t.drop b9) = true then endE b0 (S : Int) (A : Int) (ints (t.take b9)) else none_ 240) := by
      unfold tldE
      rw [if_neg (show ¬ (b0 ≠ 1 ∧ b0 ≠ 2) by omega), if_neg (show ¬ (false = true) by decide)]
    rw [e]
    exact J false
  · refine evN (by omega) ?_
    have e : tldE b0 S A n b9 t = (if ((b0 : Int) != 2) = true then none_ 241 else if b9 > n then none_ 6 else if zer (t.drop b9) = true then endE b0 (S : Int) (A : Int) (ints (t.take b9)) else none_ 240) := by
      unfold tldE
      by_cases k2 : b0 = 2
      · subst k2
        rw [if_neg (show ¬ ((2 : Nat) ≠ 1 ∧ (2 : Nat) ≠ 2) by omega), if_neg (show ¬ ((((2 : Nat) : Int) != 2) = true) by decide)]
      · rw [if_pos ⟨by omega, by omega⟩, if_pos (by rw [bne_iff_ne]; omega)]
    rw [e]
    exact J _
/-! ### Parse -/
/-- The frame of bytes, ten of them and more. -/
def tldL (n : Nat) (Y : List Nat) : Res := tldE (Y.getD 0 0) (num4 (Y.getD 1 0) (Y.getD 2 0) (Y.getD 3 0) (Y.getD 4 0)) (num4 (Y.getD 5 0) (Y.getD 6 0) (Y.getD 7 0) (Y.getD 8 0)) n (Y.getD 9 0) (Y.drop 10)
theorem ten_of {Y : List Nat} {n : Nat} (h : Y.length = 10 + n) : ∃ b0 b1 b2 b3 b4 b5 b6 b7 b8 b9 t, Y = b0 :: b1 :: b2 :: b3 :: b4 :: b5 :: b6 :: b7 :: b8 :: b9 :: t ∧ t.length = n := by
  match Y, h with
  | b0 :: b1 :: b2 :: b3 :: b4 :: b5 :: b6 :: b7 :: b8 :: b9 :: t, h => exact ⟨_, _, _, _, _, _, _, _, _, _, _, rfl, by simp at h; omega⟩
  | [], h | [_], h | [_, _], h | [_, _, _], h | [_, _, _, _], h | [_, _, _, _, _], h | [_, _, _, _, _, _], h | [_, _, _, _, _, _, _], h | [_, _, _, _, _, _, _, _], h | [_, _, _, _, _, _, _, _, _], h => simp at h; omega
theorem unsealed_ok {R : Bool} {W P I O : Nat} {X : List Nat} (h : (unsealed R W P I O X).2 = 0) : unsealed R W P I O X = (ints (X.take (X.length - W / 8)), 0) ∧ ¬ X.length < W / 8 ∧ layl R (W / 8) (crc R W P I O (X.take (X.length - W / 8))) = X.drop (X.length - W / 8) := by
  unfold unsealed at h ⊢
  split
  · rename_i g
    rw [if_pos g] at h
    exact absurd h (by decide)
  · rename_i g
    rw [if_neg g] at h
    split
    · rename_i g2
      exact ⟨rfl, g, g2⟩
    · rename_i g2
      rw [if_neg g2] at h
      exact absurd h (by decide)
def parE (n W P I O : Nat) (R : Bool) (B : List Nat) : Res :=
  if B.length = 8 * (10 + n) + W then (if vld B = true then (if (unsealed R W P I O (pack B)).2 = 0 then tldL n ((pack B).take (10 + n)) else none_ (unsealed R W P I O (pack B)).2) else none_ 10) else none_ 5
theorem Parse_bad {b a0 a1 a2 a3 : Int} {R : Bool} (B : List Int) (h0 : chk b a0 a1 a2 a3 ≠ 0) : Ev (fun k => frame_Parse.f k b a0 a1 a2 a3 R B) (none_ (chk b a0 a1 a2 a3)) := by
  unfold frame_Parse.f
  have hL := Length_ev b a0 a1 a2 a3 R
  rw [show lenE b a0 a1 a2 a3 = (0, chk b a0 a1 a2 a3) from if_neg h0] at hL
  refine Ev.bind hL ?_
  exact evN h0 (Ev.now _)
theorem len_ok {n W P I O : Nat} (hn : n ≤ 64) (hs : okN W P I O) : lenE n W P I O = (((8 * (10 + n) + W : Nat) : Int), 0) := by
  have hW : W ≤ 32 := by rcases hs.1 with h | h | h | h <;> omega
  unfold lenE
  rw [if_pos (chk_ok hn hs), w64 (n := 10 + (n : Int)) (by omega) (by omega), w64 (n := 8 * (10 + (n : Int))) (by omega) (by omega), w64 (by omega) (by omega)]
  congr 1
theorem spec_u32 {W P I O : Nat} (hs : okN W P I O) : u32 (P : Int) ∧ u32 (I : Int) ∧ u32 (O : Int) := by
  have p32 : (2 : Nat) ^ W ≤ 4294967296 := by rcases hs.1 with h | h | h | h <;> subst h <;> decide
  have h1 := hs.2.1
  have h2 := hs.2.2.1
  have h3 := hs.2.2.2.1
  exact ⟨⟨by omega, by omega⟩, ⟨by omega, by omega⟩, ⟨by omega, by omega⟩⟩
theorem pack_len8 {B : List Nat} {n W P I O : Nat} (hs : okN W P I O) (h : B.length = 8 * (10 + n) + W) : (pack B).length = 10 + n + W / 8 ∧ (pack B).length - W / 8 = 10 + n := by
  rw [pack_len]
  have := hs.1
  omega
theorem Parse_ev {n W P I O : Nat} {R : Bool} (hn : n ≤ 64) (hs : okN W P I O) (B : List Nat) (hB : ∀ x ∈ B, x < 256) (hl : B.length ≤ 140737488355328) : Ev (fun k => frame_Parse.f k n W P I O R (ints B)) (parE n W P I O R B) := by
  unfold frame_Parse.f
  have hL := Length_ev n W P I O R
  rw [len_ok hn hs] at hL
  refine Ev.bind hL ?_
  refine evP rfl ?_
  by_cases h1 : B.length = 8 * (10 + n) + W
  · have hk := Pack_f B hl
    by_cases h2 : vld B = true
    · rw [if_pos h2] at hk
      have hb1 := vld_le h2
      have hp := pack_lt hb1
      obtain ⟨l1, l2⟩ := pack_len8 hs h1
      by_cases h3 : (unsealed R W P I O (pack B)).2 = 0
      · rw [show parE n W P I O R B = tldL n ((pack B).take (10 + n)) by unfold parE; rw [if_pos h1, if_pos h2, if_pos h3]]
        obtain ⟨u1, _, _⟩ := unsealed_ok h3
        have hU := Crc.Unseal_f (R := R) hs (pack B) hp (by rw [l1]; have := hs.1; omega)
        rw [u1, l2] at hU
        have lt : ((pack B).take (10 + n)).length = 10 + n := by rw [List.length_take]; omega
        obtain ⟨b0, b1, b2, b3, b4, b5, b6, b7, b8, b9, t, hY, ht⟩ := ten_of lt
        have hT := told_ev (b0 := b0) (b1 := b1) (b2 := b2) (b3 := b3) (b4 := b4) (b5 := b5) (b6 := b6) (b7 := b7) (b8 := b8) (b9 := b9) hn ht W P I O R (by rw [← hY]; exact fun x hx => hp x (List.mem_of_mem_take hx))
        rw [← hY] at hT
        have e : tldL n ((pack B).take (10 + n)) = tldE b0 (num4 b1 b2 b3 b4) (num4 b5 b6 b7 b8) n b9 t := by rw [hY]; rfl
        rw [e]
        exact evP (by rw [ints_length, h1]) (Ev.bind hk (evP rfl (evB hU (evP rfl (Ev.bind hT (Ev.now _))))))
      · rw [show parE n W P I O R B = none_ (unsealed R W P I O (pack B)).2 by unfold parE; rw [if_pos h1, if_pos h2, if_neg h3]]
        have hU := Crc.Unseal_f (R := R) hs (pack B) hp (by rw [l1]; have := hs.1; omega)
        exact evP (by rw [ints_length, h1]) (Ev.bind hk (evP rfl (evB hU (evN h3 (Ev.now _)))))
    · rw [if_neg h2] at hk
      rw [show parE n W P I O R B = none_ 10 by unfold parE; rw [if_pos h1, if_neg h2]]
      exact evP (by rw [ints_length, h1]) (Ev.bind hk (evN (by decide) (Ev.now _)))
  · rw [show parE n W P I O R B = none_ 5 by unfold parE; rw [if_neg h1]]
    exact evN (by rw [ints_length]; omega) (Ev.now _)
end Go.Proofs.Ytaoeehnnboegnaa.Frm
