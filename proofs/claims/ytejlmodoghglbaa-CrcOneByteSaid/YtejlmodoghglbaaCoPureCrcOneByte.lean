/- For every spec and string: one byte alone that is another one makes another sum; what Unseal takes Seal makes. The plain law of CrcOneByte. -/
import Derived.Test.YtejlmodoghglbaaCoPx14
import Derived.Test.YtejlmodoghglbaaCoQCrcP
import Derived.Test.YtejlmodoghglbaaCoQCrcM
import Derived.Test.YtejlmodoghglbaaCoQBase
import Derived.Test.YtejlmodoghglbaaCoQEv
namespace Go.Proofs.Ytejlmodoghglbaa.Pure
open Go.RowKit Go.Proofs.Ytejlmodoghglbaa.P Go.Proofs.YtejlmodoghglbaaW.PrintWords Go.Proofs.YtejlmodoghglbaaW.PrintLast Go.Proofs.YtejlmodoghglbaaW.PrintMore Go.Proofs.YtejlmodoghglbaaW.Q
theorem one_j2 {W P I O : Nat} {R : Bool} (hs : Crc.okN W P I O) (B : List Nat) (hB : ∀ x ∈ B, x < 256) (hl : B.length ≤ 140737488351232) (a c : Int) (ha : -9223372036854775808 ≤ a ∧ a ≤ 9223372036854775807) (hc : 0 ≤ c ∧ c < 256) (b : Bool) (hb : b = false → B.length ≠ 0 ∧ c ≠ 0) :
    Ev (fun k => outpostlaw03_CrcOneByte.j2 k (ints B) a c ((Crc.crc R W P I O B : Nat) : Int) b W P I O R) true := by
  refine Ev.succ ?_
  cases b with
  | true =>
    simp only [outpostlaw03_CrcOneByte.j2, if_true]
    exact Ev.now true
  | false =>
    obtain ⟨h0, hc0⟩ := hb rfl
    obtain ⟨c, rfl⟩ : ∃ n : Nat, c = (n : Int) := ⟨c.toNat, by omega⟩
    have c1 : ([] : List Int).length + (ints B).length < 140737488355328 := by rw [ints_length]; simp only [List.length_nil]; omega
    have c2 : ¬ (((ints B).length : Int) = 0) := by rw [ints_length]; omega
    obtain ⟨q, hq, hq2⟩ : ∃ q : Nat, q < B.length ∧ Int.tmod (wrap64 (Int.tmod a ((ints B).length : Int) + ((ints B).length : Int))) ((ints B).length : Int) = (q : Int) := by
      rw [ints_length]
      have b1 := Int.tmod_lt_of_pos a (show (0 : Int) < (B.length : Int) by omega)
      have b2 : -(B.length : Int) < Int.tmod a (B.length : Int) := by
        rw [Int.tmod_eq_emod]
        have := Int.emod_nonneg a (show (B.length : Int) ≠ 0 by omega)
        split <;> simp <;> omega
      have e1 : wrap64 (Int.tmod a (B.length : Int) + (B.length : Int)) = Int.tmod a (B.length : Int) + (B.length : Int) := w64 (by omega) (by omega)
      rw [e1, Int.tmod_eq_emod_of_nonneg (by omega)]
      have d1 := Int.emod_nonneg (Int.tmod a (B.length : Int) + (B.length : Int)) (show (B.length : Int) ≠ 0 by omega)
      have d2 := Int.emod_lt_of_pos (Int.tmod a (B.length : Int) + (B.length : Int)) (show (0 : Int) < (B.length : Int) by omega)
      exact ⟨((Int.tmod a (B.length : Int) + (B.length : Int)) % (B.length : Int)).toNat, by omega, by omega⟩
    have c3 : (0 : Int) ≤ (q : Int) := by omega
    have c4 : (q : Int) < (([] ++ ints B : List Int).length : Int) := by rw [List.nil_append, ints_length]; omega
    have gq := getD_lt hB q
    have hx : B.getD q 0 ^^^ c < 256 := Nat.xor_lt_two_pow (n := 8) gq (by omega)
    have e2 : ([] ++ ints B).set (q : Int).toNat (Go.bits .xor .u8 (rd ([] ++ ints B) (q : Int)) (c : Int)) = ints (B.set q (B.getD q 0 ^^^ c)) := by
      rw [List.nil_append, rd_ints, bxor8 _ _ gq (by omega), set_ints]
    have sf : crc_Sum.f W P I O R (ints (B.set q (B.getD q 0 ^^^ c))) = some (((Crc.crc R W P I O (B.set q (B.getD q 0 ^^^ c)) : Nat) : Int), 0) := Crc.Sum_f (R := R) hs _ (set_lt hB hx)
    have ne : (((Crc.crc R W P I O (B.set q (B.getD q 0 ^^^ c)) : Nat) : Int) != ((Crc.crc R W P I O B : Nat) : Int)) = true := by
      refine bne_iff_ne.2 fun h => ?_
      have h2 : Crc.crc R W P I O (B.set q (B.getD q 0 ^^^ c)) = Crc.crc R W P I O B := by omega
      have s1 : B.set q (B.getD q 0 ^^^ c) = B.take q ++ (B.getD q 0 ^^^ c) :: B.drop (q + 1) := List.set_eq_take_append_cons_drop.trans (if_pos hq)
      have s2 : B = B.take q ++ B.getD q 0 :: B.drop (q + 1) := by
        rw [← drop_get hq, List.take_append_drop]
      rw [s1] at h2
      have h3 : Crc.crc R W P I O (B.take q ++ (B.getD q 0 ^^^ c) :: B.drop (q + 1)) = Crc.crc R W P I O (B.take q ++ B.getD q 0 :: B.drop (q + 1)) := by rw [← s2]; exact h2
      have h4 := Crc.crc_one hs (fun z hz => hB z (List.mem_of_mem_take hz)) (fun z hz => hB z (List.mem_of_mem_drop hz)) hx gq h3
      have h5 : c = 0 := by
        have := congrArg (B.getD q 0 ^^^ ·) h4
        simpa only [← Nat.xor_assoc, Nat.xor_self, Nat.zero_xor] using this
      omega
    simp only [outpostlaw03_CrcOneByte.j2, Bool.false_eq_true, if_false, Option.bind_some, c1, c2, if_true, hq2, c3, c4, e2, sf, outpostlaw03_num.f, ne]
    exact Ev.now true
theorem one_j1 {W P I O : Nat} {R : Bool} (hs : Crc.okN W P I O) (B : List Nat) (hB : ∀ x ∈ B, x < 256) (hl : B.length ≤ 140737488351232) (a c : Int) (ha : -9223372036854775808 ≤ a ∧ a ≤ 9223372036854775807) (hc : 0 ≤ c ∧ c < 256) :
    Ev (fun k => outpostlaw03_CrcOneByte.j1 k (ints B) a c ((Crc.crc R W P I O B : Nat) : Int) W P I O R) true := by
  refine Ev.succ ?_
  by_cases h0 : ((ints B).length : Int) = 0
  · have nx := one_j2 (R := R) hs B hB hl a c ha hc true (fun h => by cases h)
    simp only [outpostlaw03_CrcOneByte.j1, h0, if_true]
    exact nx
  · have nx := one_j2 (R := R) hs B hB hl a c ha hc (c == 0) (fun h => ⟨by rw [ints_length] at h0; omega, by simpa using h⟩)
    simp only [outpostlaw03_CrcOneByte.j1, h0, if_false]
    exact nx
theorem CrcOneByte : outpostlaw03_CrcOneByte.Pure := by
  intro a0 a1 a2 a3 R l1 a c g0 g1 g2 g3 m1 s1 w1 g4 g5
  obtain ⟨B, rfl, hB⟩ := bytes_of w1
  rw [ints_length] at s1
  have ha := Crc.wf_i64 g4
  have hc : 0 ≤ c ∧ c < 256 := by
    have : 0 ≤ c ∧ c ≤ 255 := by simpa [Lit.wf, IntKind.min, IntKind.max, IntKind.signed, IntKind.bits] using g5
    omega
  obtain ⟨W, P, I, O, hs, hg⟩ := Crc.Good_f a0 a1 a2 a3 R (Crc.wf_i64 g0) (Crc.wf_u32 g1) (Crc.wf_u32 g2) (Crc.wf_u32 g3)
  refine Ev.rounds (g := fun k => outpostlaw03_CrcOneByte.f k a0 a1 a2 a3 R (ints B) a c) ?_
  have sf : crc_Sum.f W P I O R (ints B) = some (((Crc.crc R W P I O B : Nat) : Int), 0) := Crc.Sum_f (R := R) hs B hB
  have uf : crc_Unseal.f W P I O R (ints B) = some (Crc.unsealed R W P I O B) := Crc.Unseal_f (R := R) hs B hB (by omega)
  have nx := one_j1 (R := R) hs B hB (by omega) a c ha hc
  simp only [outpostlaw03_CrcOneByte.f, hg, Option.bind_some, sf, uf, outpostlaw03_num.f, if_true, Crc.knows_f, Bool.not_true]
  refine Ev.succ ?_
  simp only [outpostlaw03_CrcOneByte.j0, Bool.false_eq_true, if_false, outpostlaw03_num.f, Option.bind_some]
  unfold Crc.unsealed
  by_cases h1 : B.length < W / 8
  · simp only [h1, if_true, show ¬ ((31 : Int) = 0) by omega, if_false]
    exact nx
  · by_cases h2 : Crc.layl R (W / 8) (Crc.crc R W P I O (B.take (B.length - W / 8))) = B.drop (B.length - W / 8)
    · have hl : (B.take (B.length - W / 8)).length + 8 < 140737488355328 := by rw [List.length_take]; omega
      have se := Crc.Seal_f (R := R) hs (B.take (B.length - W / 8)) (fun x hx => hB x (List.mem_of_mem_take hx)) hl
      rw [h2, List.take_append_drop] at se
      have se2 : crc_Seal.f W P I O R (Crc.ints (B.take (B.length - W / 8))) = some (ints B, 0) := se
      simp only [h1, if_false, h2, if_true, se2, Option.bind_some, outpostlaw03_num.f]
      exact nx
    · simp only [h1, if_false, h2, show ¬ ((32 : Int) = 0) by omega]
      exact nx
end Go.Proofs.Ytejlmodoghglbaa.Pure
