/- Frames: the laws' own helpers. -/
import Derived.Test.YtaoeehnnboegnaaFpPx12
import Derived.Test.YtaoeehnnboegnaaFpPx13
import Derived.Test.YtaoeehnnboegnaaFpPx11
import Derived.Test.YtaoeehnnboegnaaFpPx8
import Derived.Test.YtaoeehnnboegnaaFpQFrmL
set_option linter.unusedVariables false
set_option linter.unusedSimpArgs false
namespace Go.Proofs.Ytaoeehnnboegnaa.Frm
open Go.RowKit Go.Proofs.Ytaoeehnnboegnaa.P Go.Proofs.YtaoeehnnboegnaaW.PrintWords Go.Proofs.YtaoeehnnboegnaaW.PrintLast Go.Proofs.YtaoeehnnboegnaaW.PrintMore Go.Proofs.YtaoeehnnboegnaaW.Q
open Go.Proofs.Ytaoeehnnboegnaa.Crc (okI okI_nat okN okI_width layl crc unsealed layl_length layl_lt sb regs regs_sealed regs_unsealed burst)
/-! ### The laws' own helpers -/
theorem own_f {D : List Nat} (h : D.length ≤ 140737488351232) : outpostlaw24_own.f (ints D) = some (ints D) := by
  unfold outpostlaw24_own.f
  rw [ints_length, if_pos (by omega)]
theorem kept_f (D : List Int) : outpostlaw24_kept.f D D = some true := by
  unfold outpostlaw24_kept.f
  rw [if_pos rfl]
theorem grown_l1 : ∀ (d i : Nat) (X : List Int), i + d = 64 → X.length + d < 140737488355328 → Ev (fun k => outpostlaw24_grown.l1 k X (i : Int)) () := by
  intro d
  induction d with
  | zero =>
    intro i X hi hl
    refine Ev.succ ?_
    simp only [outpostlaw24_grown.l1]
    exact evN (by omega) (Ev.now _)
  | succ d ih =>
    intro i X hi hl
    refine Ev.succ ?_
    simp only [outpostlaw24_grown.l1]
    refine evP (by omega) (evP (by omega) ?_)
    rw [w64s (by omega)]
    exact ih (i + 1) (X ++ [78]) (by omega) (by rw [List.length_append, List.length_singleton]; omega)
theorem grown_l0 : ∀ (d i : Nat) (X : List Int), i + d = X.length → X.length + 64 < 140737488355328 → Ev (fun k => outpostlaw24_grown.l0 k X (i : Int)) () := by
  intro d
  induction d with
  | zero =>
    intro i X hi hl
    refine Ev.succ ?_
    simp only [outpostlaw24_grown.l0]
    exact evN (by omega) (grown_l1 64 0 X (by omega) (by omega))
  | succ d ih =>
    intro i X hi hl
    refine Ev.succ ?_
    simp only [outpostlaw24_grown.l0]
    refine evP (by omega) (evP (by omega) ?_)
    rw [w64s (by omega)]
    exact ih (i + 1) _ (by rw [List.length_set]; omega) (by rw [List.length_set]; omega)
theorem grown_ev (X : List Int) (h : X.length + 64 < 140737488355328) : Ev (fun k => outpostlaw24_grown.f k X) () := grown_l0 X.length 0 X (by omega) h
theorem live_ev : Ev (fun k => outpostlaw24_live.f k) true := outpostlaw24_live.ev
/-- A row of bytes that came in. -/
theorem bytes_in {l : List Int} (h : ∀ x ∈ l, (Lit.int .u8 x).wf = true) (hl : l.length * 1 ≤ 140737488351232) : ∃ D : List Nat, l = ints D ∧ (∀ x ∈ D, x < 256) ∧ D.length ≤ 140737488351232 := by
  obtain ⟨D, rfl, hD⟩ := bytes_of h
  exact ⟨D, rfl, hD, by rw [ints_length] at hl; omega⟩
theorem u32_in {a : Int} (h : (Lit.int .u32 a).wf = true) : u32 a := Crc.wf_u32 h
theorem nat32 {a : Int} (h : u32 a) : ∃ n : Nat, a = n ∧ n < 4294967296 := by
  obtain ⟨n, rfl⟩ := Int.eq_ofNat_of_zero_le h.1
  exact ⟨n, rfl, by have := h.2; omega⟩
end Go.Proofs.Ytaoeehnnboegnaa.Frm
