/- Frames: every Build and Parse at once, with the document's. -/
import Derived.Test.YtaoeehnnboegnaaFbQFrmD
import Derived.Test.YtaoeehnnboegnaaFbQFrmAR
set_option linter.unusedVariables false
set_option linter.unusedSimpArgs false
namespace Go.Proofs.Ytaoeehnnboegnaa.Frm
open Go.RowKit Go.Proofs.Ytaoeehnnboegnaa.P Go.Proofs.YtaoeehnnboegnaaW.PrintWords Go.Proofs.YtaoeehnnboegnaaW.PrintLast Go.Proofs.YtaoeehnnboegnaaW.PrintMore Go.Proofs.YtaoeehnnboegnaaW.Q
open Go.Proofs.Ytaoeehnnboegnaa.Crc (okI okI_nat okN okI_width layl crc unsealed)
theorem build_all (b a0 a1 a2 a3 : Int) (R : Bool) (K S A : Int) (D : List Nat) (h1 : u32 a1) (h2 : u32 a2) (h3 : u32 a3) (hS : u32 S) (hA : u32 A) (hD : ∀ x ∈ D, x < 256) :
    (vldE b a0 a1 a2 a3 K S D.length ≠ 0 ∧ Ev (fun k => frame_Build.f k b a0 a1 a2 a3 R K S A (ints D)) ([], vldE b a0 a1 a2 a3 K S D.length) ∧ Ev (fun k => outpostref24_Build.f k b a0 a1 a2 a3 R K S A (ints D)) ([], vldE b a0 a1 a2 a3 K S D.length)) ∨
    (vldE b a0 a1 a2 a3 K S D.length = 0 ∧ ∃ n W P I O k s a : Nat, Fine b a0 a1 a2 a3 R K S A D n W P I O k s a ∧ Ev (fun q => frame_Build.f q b a0 a1 a2 a3 R K S A (ints D)) (ints (bitsOfB (sld R W P I O (body k s a D n))), 0) ∧ Ev (fun q => outpostref24_Build.f q b a0 a1 a2 a3 R K S A (ints D)) (ints (bitsOfB (sld R W P I O (body k s a D n))), 0)) := by
  by_cases hv : vldE b a0 a1 a2 a3 K S D.length = 0
  · refine Or.inr ⟨hv, ?_⟩
    obtain ⟨hc, hk, hl⟩ := vld_zero hv
    obtain ⟨n, W, P, I, O, rfl, rfl, rfl, rfl, rfl, hn, hs⟩ := chk_zero h1 h2 h3 hc
    obtain ⟨s, rfl, hs32⟩ := nat32 hS
    obtain ⟨a, rfl, ha32⟩ := nat32 hA
    have hK := kd_zero hk
    obtain ⟨k, rfl⟩ := Int.eq_ofNat_of_zero_le (show 0 ≤ K by omega)
    have hk2 : k < 256 := by omega
    exact ⟨n, W, P, I, O, k, s, a, ⟨rfl, rfl, rfl, rfl, rfl, rfl, rfl, rfl, hn, hs, hk2, hs32, ha32, by omega, hk⟩, Build_ev hn hs hk2 hD (by omega) hv, RBuild_ev hn hs hk2 hD (by omega) hv⟩
  · refine Or.inl ⟨hv, ?_, ?_⟩
    · have h := Build_bad (b := b) (a0 := a0) (a1 := a1) (a2 := a2) (a3 := a3) (K := K) (S := S) (A := A) (R := R) (D := ints D) (by rw [ints_length]; exact hv)
      rw [ints_length] at h
      exact h
    · have h := RBuild_bad (b := b) (a0 := a0) (a1 := a1) (a2 := a2) (a3 := a3) (K := K) (S := S) (A := A) (R := R) (D := ints D) h1 h2 h3 (by rw [ints_length]; exact hv)
      rw [ints_length] at h
      exact h
end Go.Proofs.Ytaoeehnnboegnaa.Frm
