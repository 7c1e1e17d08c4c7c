/- Every Sum, Seal and Unseal is the document's, for every spec and string. The plain law of CrcSums. -/
import Derived.Test.YtejlmodoghglbaaCmPx11
import Derived.Test.YtejlmodoghglbaaCmQCrcR
namespace Go.Proofs.Ytejlmodoghglbaa.Crc
open Go.RowKit Go.Proofs.Ytejlmodoghglbaa.P Go.Proofs.YtejlmodoghglbaaW.PrintWords Go.Proofs.YtejlmodoghglbaaW.PrintLast Go.Proofs.YtejlmodoghglbaaW.PrintMore
open Go.Proofs.YtejlmodoghglbaaW.Q (Ev.succ w64 w64s wu64)
theorem spoil_ev : ∀ (d i : Nat) (T : List Int), i + d = T.length → T.length < 140737488355328 → ∃ T', Ev (fun k => outpostlaw01_Spoil.l0 k T (i : Int)) T' := by
  intro d
  induction d with
  | zero =>
    intro i T hi hl
    refine ⟨T, Ev.succ ?_⟩
    have c0 : ¬ ((i : Int) < (T.length : Int)) := by omega
    simp only [outpostlaw01_Spoil.l0, c0, if_false]
    exact Ev.now _
  | succ d ih =>
    intro i T hi hl
    have c0 : ((i : Int) < (T.length : Int)) := by omega
    have c1 : (0 : Int) ≤ (i : Int) := by omega
    have w2 : wrap64 ((i : Int) + 1) = ((i + 1 : Nat) : Int) := w64s (by omega)
    obtain ⟨T', h⟩ := ih (i + 1) (T.set (i : Int).toNat (Go.bits .xor .u8 (rd T (i : Int)) 85)) (by rw [List.length_set]; omega) (by rw [List.length_set]; omega)
    refine ⟨T', Ev.succ ?_⟩
    simp only [outpostlaw01_Spoil.l0, c0, c1, if_true, w2]
    exact h
theorem sums_j0 {a0 a1 a2 a3 : Int} {R : Bool} (T X Y u : List Int) (e : Int) (hl : T.length < 140737488355328) (hc : crc_Unseal.f a0 a1 a2 a3 R X = some (u, e)) (hr : Ev (fun k => outpostref03_Unseal.f k a0 a1 a2 a3 R X) (u, e)) :
    Ev (fun k => outpostlaw03_sums.j0 k T X Y X Y false a0 a1 a2 a3 R) true := by
  refine Ev.succ ?_
  obtain ⟨T', hT⟩ := spoil_ev T.length 0 T (by omega) hl
  simp only [outpostlaw03_sums.j0, Bool.false_eq_true, if_false, hc, Option.bind_some, outpostlaw03_num.f, if_true]
  refine Ev.bind (g := fun k => outpostlaw01_Spoil.f k T) hT ?_
  refine Ev.bind hr ?_
  simp only [if_true, beq_self_eq_true]
  exact Ev.now _
theorem sums_of {a0 a1 a2 a3 : Int} {R : Bool} (B X Y u : List Int) (s e1 e2 e3 e : Int) (hl : B.length + 8 < 140737488355328) (hS : crc_Sum.f a0 a1 a2 a3 R B = some (s, e1)) (hX : crc_Seal.f a0 a1 a2 a3 R B = some (X, e2)) (hY : crc_Unseal.f a0 a1 a2 a3 R B = some (Y, e3)) (hU : crc_Unseal.f a0 a1 a2 a3 R X = some (u, e))
    (rS : Ev (fun k => outpostref03_Sum.f k a0 a1 a2 a3 R B) (s, e1)) (rX : Ev (fun k => outpostref03_Seal.f k a0 a1 a2 a3 R B) (X, e2)) (rY : Ev (fun k => outpostref03_Unseal.f k a0 a1 a2 a3 R B) (Y, e3)) (rU : Ev (fun k => outpostref03_Unseal.f k a0 a1 a2 a3 R X) (u, e)) :
    Ev (fun k => outpostlaw03_sums.f k a0 a1 a2 a3 R B) true := by
  have nx := sums_j0 B X Y u e (by omega) hU rU
  have ll : outpostlaw01_Lent.f B = some B := by unfold outpostlaw01_Lent.f; rw [if_pos hl]
  have st : outpostlaw01_Stays.f B B = some true := by unfold outpostlaw01_Stays.f; rw [if_pos rfl]
  simp only [outpostlaw03_sums.f, ll, st, Option.bind_some, hS, hX, hY, outpostlaw03_num.f]
  refine Ev.bind rS ?_
  refine Ev.bind rX ?_
  refine Ev.bind rY ?_
  simp only [if_true, Bool.not_true]
  exact nx
theorem refSum_bad {a0 a1 a2 a3 : Int} (R : Bool) (h1 : 0 ≤ a1 ∧ a1 < 4294967296) (h2 : 0 ≤ a2 ∧ a2 < 4294967296) (h3 : 0 ≤ a3 ∧ a3 < 4294967296) (hk : ¬ okI a0 a1 a2 a3 = true) (B : List Int) : Ev (fun k => outpostref03_Sum.f k a0 a1 a2 a3 R B) (0, 30) := by
  have h := refCheck_ev (a0 := a0) R h1 h2 h3
  rw [if_neg hk] at h
  unfold outpostref03_Sum.f
  refine Ev.bind h ?_
  have c : ¬ ((30 : Int) = 0) := by decide
  simp only [c, if_false]
  exact Ev.now _
theorem refSeal_bad {a0 a1 a2 a3 : Int} (R : Bool) (h1 : 0 ≤ a1 ∧ a1 < 4294967296) (h2 : 0 ≤ a2 ∧ a2 < 4294967296) (h3 : 0 ≤ a3 ∧ a3 < 4294967296) (hk : ¬ okI a0 a1 a2 a3 = true) (B : List Int) : Ev (fun k => outpostref03_Seal.f k a0 a1 a2 a3 R B) ([], 30) := by
  have h := refSum_bad R h1 h2 h3 hk B
  unfold outpostref03_Seal.f
  refine Ev.bind h ?_
  have c : ¬ ((30 : Int) = 0) := by decide
  simp only [c, if_false]
  exact Ev.now _
theorem refUnseal_bad {a0 a1 a2 a3 : Int} (R : Bool) (h1 : 0 ≤ a1 ∧ a1 < 4294967296) (h2 : 0 ≤ a2 ∧ a2 < 4294967296) (h3 : 0 ≤ a3 ∧ a3 < 4294967296) (hk : ¬ okI a0 a1 a2 a3 = true) (B : List Int) : Ev (fun k => outpostref03_Unseal.f k a0 a1 a2 a3 R B) ([], 30) := by
  have h := refCheck_ev (a0 := a0) R h1 h2 h3
  rw [if_neg hk] at h
  unfold outpostref03_Unseal.f
  refine Ev.bind h ?_
  have c : ¬ ((30 : Int) = 0) := by decide
  simp only [c, if_false]
  exact Ev.now _
theorem sums_ev {a0 a1 a2 a3 : Int} (R : Bool) (h1 : 0 ≤ a1 ∧ a1 < 4294967296) (h2 : 0 ≤ a2 ∧ a2 < 4294967296) (h3 : 0 ≤ a3 ∧ a3 < 4294967296) (B : List Nat) (hB : ∀ x ∈ B, x < 256) (hl : B.length ≤ 140737488351232) :
    Ev (fun k => outpostlaw03_sums.f k a0 a1 a2 a3 R (ints B)) true := by
  by_cases hk : okI a0 a1 a2 a3 = true
  · have hw := okI_width hk
    obtain ⟨W, rfl⟩ := Int.eq_ofNat_of_zero_le (show 0 ≤ a0 by omega)
    obtain ⟨P, rfl⟩ := Int.eq_ofNat_of_zero_le h1.1
    obtain ⟨I, rfl⟩ := Int.eq_ofNat_of_zero_le h2.1
    obtain ⟨O, rfl⟩ := Int.eq_ofNat_of_zero_le h3.1
    have hs := (okI_nat W P I O).1 hk
    have hX : ∀ x ∈ B ++ layl R (W / 8) (crc R W P I O B), x < 256 := fun x hx => by
      rcases List.mem_append.1 hx with h | h
      · exact hB x h
      · exact layl_lt R _ _ x h
    have hXl : (B ++ layl R (W / 8) (crc R W P I O B)).length < 140737488355328 := by
      rw [List.length_append, layl_length]
      have := hs.1
      omega
    obtain ⟨u, e⟩ : ∃ z, z = unsealed R W P I O (B ++ layl R (W / 8) (crc R W P I O B)) := ⟨_, rfl⟩
    have i1 := Unseal_f (R := R) hs B hB (by omega)
    have i2 := Unseal_f (R := R) hs _ hX hXl
    have r1 := refUnseal_f (R := R) hs B hB (by omega)
    have r2 := refUnseal_f (R := R) hs _ hX hXl
    exact sums_of (ints B) _ _ _ _ _ _ _ _ (by rw [ints_length]; omega) (Sum_f (R := R) hs B hB) (Seal_f (R := R) hs B hB (by omega)) i1 i2 (refSum_f (R := R) hs B hB (by omega)) (refSeal_f (R := R) hs B hB (by omega)) r1 r2
  · have s1 : crc_Sum.f a0 a1 a2 a3 R (ints B) = some (0, 30) := by unfold crc_Sum.f; rw [if_neg hk]
    have s2 : crc_Seal.f a0 a1 a2 a3 R (ints B) = some ([], 30) := by unfold crc_Seal.f; rw [if_neg hk]
    have s3 : ∀ C, crc_Unseal.f a0 a1 a2 a3 R C = some ([], 30) := fun C => by unfold crc_Unseal.f; rw [if_neg hk]
    exact sums_of (ints B) _ _ _ _ _ _ _ _ (by rw [ints_length]; omega) s1 s2 (s3 _) (s3 _) (refSum_bad R h1 h2 h3 hk _) (refSeal_bad R h1 h2 h3 hk _) (refUnseal_bad R h1 h2 h3 hk _) (refUnseal_bad R h1 h2 h3 hk _)
end Go.Proofs.Ytejlmodoghglbaa.Crc
namespace Go.Proofs.Ytejlmodoghglbaa.Pure
open Go.RowKit Go.Proofs.Ytejlmodoghglbaa.P Go.Proofs.YtejlmodoghglbaaW.PrintWords Go.Proofs.YtejlmodoghglbaaW.PrintLast Go.Proofs.YtejlmodoghglbaaW.PrintMore
theorem CrcSums : outpostlaw03_CrcSums.Pure := by
  intro a0 a1 a2 a3 R l1 g0 g1 g2 g3 m1 s1 w1
  obtain ⟨B, rfl, hB⟩ := Crc.bytes_of (Crc.wf_u8s w1)
  rw [Crc.ints_length] at s1
  obtain ⟨W, P, I, O, hs, hg⟩ := Crc.Good_f a0 a1 a2 a3 R (Crc.wf_i64 g0) (Crc.wf_u32 g1) (Crc.wf_u32 g2) (Crc.wf_u32 g3)
  have hw : 2 ^ W ≤ 2 ^ 32 := Nat.pow_le_pow_right (by omega) (by have := hs.1; omega)
  refine Go.Proofs.YtejlmodoghglbaaW.PrintWords.Ev.rounds (g := fun k => outpostlaw03_CrcSums.f k a0 a1 a2 a3 R (Crc.ints B)) ?_
  have e1 := Crc.sums_ev (a0 := a0) R (Crc.wf_u32 g1) (Crc.wf_u32 g2) (Crc.wf_u32 g3) B hB (by omega)
  have e2 := Crc.sums_ev (a0 := W) (a1 := P) (a2 := I) (a3 := O) R ⟨by omega, by have := hs.2.1; omega⟩ ⟨by omega, by have := hs.2.2.1; omega⟩ ⟨by omega, by have := hs.2.2.2.1; omega⟩ B hB (by omega)
  unfold outpostlaw03_CrcSums.f
  refine Ev.bind e1 ?_
  simp only [if_true, hg, Option.bind_some]
  refine Ev.bind e2 ?_
  simp only [if_true, Crc.knows_f, Option.bind_some]
  exact Ev.now _
end Go.Proofs.Ytejlmodoghglbaa.Pure
