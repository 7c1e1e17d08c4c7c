/- For every spec and three strings, cut to one length: the sum of what they are added up to is their sums added up. The plain law of CrcLinear. -/
import Derived.Test.YtejlmodoghglbaaClPx6
import Derived.Test.YtejlmodoghglbaaClQCrcP
import Derived.Test.YtejlmodoghglbaaClQCrcM
import Derived.Test.YtejlmodoghglbaaClQBase
import Derived.Test.YtejlmodoghglbaaClQEv
namespace Go.Proofs.Ytejlmodoghglbaa.Pure
open Go.RowKit Go.Proofs.Ytejlmodoghglbaa.P Go.Proofs.YtejlmodoghglbaaW.PrintWords Go.Proofs.YtejlmodoghglbaaW.PrintLast Go.Proofs.YtejlmodoghglbaaW.PrintMore Go.Proofs.YtejlmodoghglbaaW.Q
theorem addB_getD : ∀ (A B : List Nat), A.length = B.length → ∀ j, j < A.length → (Crc.addB A B).getD j 0 = A.getD j 0 ^^^ B.getD j 0
  | x :: A, y :: B, h, 0, _ => rfl
  | x :: A, y :: B, h, j + 1, hj => by
    simp only [Crc.addB, List.getD_cons_succ]
    exact addB_getD A B (by simpa using h) j (by simpa using hj)
  | [], _, _, j, hj => by simp at hj
  | x :: A, [], h, _, _ => by simp at h
theorem take_getD {A : List Nat} {n j : Nat} (h : j < n) : (A.take n).getD j 0 = A.getD j 0 := by
  rw [List.getD_eq_getElem?_getD, List.getD_eq_getElem?_getD, List.getElem?_take_of_lt h]
theorem lin_end {W P I O : Nat} {R : Bool} (hs : Crc.okN W P I O) (A B C : List Nat) (hA : ∀ x ∈ A, x < 256) (hB : ∀ x ∈ B, x < 256) (hC : ∀ x ∈ C, x < 256) (n : Nat) (h1 : n ≤ A.length) (h2 : n ≤ B.length) (h3 : n ≤ C.length) (T : List Nat) (hT : T.length = n)
    (hV : ∀ j, j < n → T.getD j 0 = A.getD j 0 ^^^ B.getD j 0 ^^^ C.getD j 0) : Crc.crc R W P I O T = Crc.crc R W P I O (A.take n) ^^^ Crc.crc R W P I O (B.take n) ^^^ Crc.crc R W P I O (C.take n) := by
  have la : (A.take n).length = n := by rw [List.length_take]; omega
  have lb : (B.take n).length = n := by rw [List.length_take]; omega
  have lc : (C.take n).length = n := by rw [List.length_take]; omega
  have lab : (Crc.addB (A.take n) (B.take n)).length = n := by rw [Crc.addB_length _ _ (by omega), la]
  have e : T = Crc.addB (Crc.addB (A.take n) (B.take n)) (C.take n) := by
    refine Crc.getD_ext (by rw [Crc.addB_length _ _ (by omega), lab, hT]) fun j hj => ?_
    rw [hT] at hj
    rw [hV j hj, addB_getD _ _ (by omega) j (by omega), addB_getD _ _ (by omega) j (by omega), take_getD hj, take_getD hj, take_getD hj]
  rw [e]
  exact Crc.crc_three (by have := hs.1; omega) (by omega) (by omega) (fun x hx => hA x (List.mem_of_mem_take hx)) (fun x hx => hB x (List.mem_of_mem_take hx)) (fun x hx => hC x (List.mem_of_mem_take hx))
theorem lin_loop {W P I O : Nat} {R : Bool} (hs : Crc.okN W P I O) (A B C : List Nat) (hA : ∀ x ∈ A, x < 256) (hB : ∀ x ∈ B, x < 256) (hC : ∀ x ∈ C, x < 256) (n : Nat) (h1 : n ≤ A.length) (h2 : n ≤ B.length) (h3 : n ≤ C.length) (hn : n ≤ 140737488351232) :
    ∀ (d i : Nat) (T : List Nat), i + d = n → T.length = n → (∀ x ∈ T, x < 256) → (∀ j, j < i → T.getD j 0 = A.getD j 0 ^^^ B.getD j 0 ^^^ C.getD j 0) → Ev (fun k => outpostlaw03_CrcLinear.l0 k (ints A) (ints B) (ints C) (n : Int) (ints T) (i : Int) W P I O R) true := by
  intro d
  induction d with
  | zero =>
    intro i T hi hT hb hV
    have ei : i = n := by omega
    subst ei
    refine Ev.succ ?_
    have c0 : ¬ ((i : Int) < (i : Int)) := by omega
    have c1 : (0 : Int) ≤ (i : Int) := by omega
    have ca : (i : Int) ≤ ((ints A).length : Int) := by rw [ints_length]; omega
    have cb : (i : Int) ≤ ((ints B).length : Int) := by rw [ints_length]; omega
    have cc : (i : Int) ≤ ((ints C).length : Int) := by rw [ints_length]; omega
    have sa : crc_Sum.f W P I O R (ints (A.take i)) = some (((Crc.crc R W P I O (A.take i) : Nat) : Int), 0) := Crc.Sum_f (R := R) hs (A.take i) (fun x hx => hA x (List.mem_of_mem_take hx))
    have sb : crc_Sum.f W P I O R (ints (B.take i)) = some (((Crc.crc R W P I O (B.take i) : Nat) : Int), 0) := Crc.Sum_f (R := R) hs (B.take i) (fun x hx => hB x (List.mem_of_mem_take hx))
    have sc : crc_Sum.f W P I O R (ints (C.take i)) = some (((Crc.crc R W P I O (C.take i) : Nat) : Int), 0) := Crc.Sum_f (R := R) hs (C.take i) (fun x hx => hC x (List.mem_of_mem_take hx))
    have st : crc_Sum.f W P I O R (ints T) = some (((Crc.crc R W P I O T : Nat) : Int), 0) := Crc.Sum_f (R := R) hs T hb
    have ha := Crc.crc_lt (R := R) hs (A.take i)
    have hb2 := Crc.crc_lt (R := R) hs (B.take i)
    have hc2 := Crc.crc_lt (R := R) hs (C.take i)
    have hw : 2 ^ W ≤ 2 ^ 32 := Nat.pow_le_pow_right (by omega) (by have := hs.1; omega)
    have key := lin_end (R := R) hs A B C hA hB hC i h1 h2 h3 T hT (fun j hj => hV j hj)
    have z : wrap64 (wrap64 (wrap64 (0 + 0) + 0) + 0) = 0 := by decide +kernel
    have e : Go.bits .xor .u32 (Go.bits .xor .u32 ((Crc.crc R W P I O (A.take i) : Nat) : Int) ((Crc.crc R W P I O (B.take i) : Nat) : Int)) ((Crc.crc R W P I O (C.take i) : Nat) : Int) = ((Crc.crc R W P I O T : Nat) : Int) := by
      rw [Crc.bxor32 _ _ (by omega) (by omega), Crc.bxor32 _ _ (Nat.xor_lt_two_pow (n := 32) (by omega) (by omega)) (by omega), key]
    simp only [outpostlaw03_CrcLinear.l0, c0, c1, ca, cb, cc, if_true, if_false, Int.toNat_natCast, ints_take, sa, sb, sc, st, Option.bind_some, outpostlaw03_num.f, z, e, Crc.knows_f]
    exact Ev.now true
  | succ d ih =>
    intro i T hi hT hb hV
    refine Ev.succ ?_
    have hi2 : i ≤ 9223372036854775806 := by omega
    have c0 : (i : Int) < (n : Int) := by omega
    have c1 : (0 : Int) ≤ (i : Int) := by omega
    have ca : (i : Int) < ((ints A).length : Int) := by rw [ints_length]; omega
    have cb : (i : Int) < ((ints B).length : Int) := by rw [ints_length]; omega
    have cc : (i : Int) < ((ints C).length : Int) := by rw [ints_length]; omega
    have ct : (i : Int) < ((ints T).length : Int) := by rw [ints_length]; omega
    have ga := getD_lt hA i
    have gb := getD_lt hB i
    have gc := getD_lt hC i
    have gx : A.getD i 0 ^^^ B.getD i 0 < 256 := Nat.xor_lt_two_pow (n := 8) ga gb
    have gy : A.getD i 0 ^^^ B.getD i 0 ^^^ C.getD i 0 < 256 := Nat.xor_lt_two_pow (n := 8) gx gc
    have e : Go.bits .xor .u8 (Go.bits .xor .u8 (rd (ints A) (i : Int)) (rd (ints B) (i : Int))) (rd (ints C) (i : Int)) = ((A.getD i 0 ^^^ B.getD i 0 ^^^ C.getD i 0 : Nat) : Int) := by
      rw [rd_ints, rd_ints, rd_ints, bxor8 _ _ ga gb, bxor8 _ _ gx gc]
    have nx := ih (i + 1) (T.set i (A.getD i 0 ^^^ B.getD i 0 ^^^ C.getD i 0)) (by omega) (by rw [List.length_set]; exact hT) (set_lt hb gy) (fun j hj => ?_)
    · have w : wrap64 ((i : Int) + 1) = ((i + 1 : Nat) : Int) := w64s hi2
      simp only [outpostlaw03_CrcLinear.l0, c0, c1, ca, cb, cc, ct, if_true, e, w, set_ints]
      exact nx
    by_cases ej : i = j
    · subst ej
      rw [List.getD_eq_getElem?_getD, List.getElem?_set_self (by omega)]
      rfl
    · rw [List.getD_eq_getElem?_getD, List.getElem?_set_ne ej, ← List.getD_eq_getElem?_getD]
      exact hV j (by omega)
theorem CrcLinear : outpostlaw03_CrcLinear.Pure := by
  intro a0 a1 a2 a3 R l1 l2 l3 g0 g1 g2 g3 m1 s1 w1 m2 s2 w2 m3 s3 w3
  obtain ⟨A, rfl, hA⟩ := bytes_of w1
  obtain ⟨B, rfl, hB⟩ := bytes_of w2
  obtain ⟨C, rfl, hC⟩ := bytes_of w3
  rw [ints_length] at s1 s2 s3
  obtain ⟨W, P, I, O, hs, hg⟩ := Crc.Good_f a0 a1 a2 a3 R (Crc.wf_i64 g0) (Crc.wf_u32 g1) (Crc.wf_u32 g2) (Crc.wf_u32 g3)
  refine Ev.rounds (g := fun k => outpostlaw03_CrcLinear.f k a0 a1 a2 a3 R (ints A) (ints B) (ints C)) ?_
  obtain ⟨n, hn⟩ : ∃ n : Nat, n = min (min A.length B.length) C.length := ⟨_, rfl⟩
  have e : mn (mn ((ints A).length : Int) ((ints B).length : Int)) ((ints C).length : Int) = (n : Int) := by
    rw [ints_length, ints_length, ints_length, hn]
    unfold mn
    split <;> split <;> omega
  have c1 : (0 : Int) ≤ (n : Int) := by omega
  have c2 : n ≤ 281474976710656 := by omega
  simp only [outpostlaw03_CrcLinear.f, hg, Option.bind_some, e, c1, c2, if_true, Int.toNat_natCast]
  have := lin_loop (R := R) hs A B C hA hB hC n (by omega) (by omega) (by omega) (by omega) n 0 (List.replicate n 0) (by omega) (by simp) (replicate_lt n) (fun j hj => by omega)
  rw [ints_replicate] at this
  exact this
end Go.Proofs.Ytejlmodoghglbaa.Pure
