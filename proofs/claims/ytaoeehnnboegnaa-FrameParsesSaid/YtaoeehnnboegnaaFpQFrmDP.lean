/- Frames: every Build and Parse at once, with the document's. -/
import Derived.Test.YtaoeehnnboegnaaFpQFrmD
import Derived.Test.YtaoeehnnboegnaaFpQFrmBR
set_option linter.unusedVariables false
set_option linter.unusedSimpArgs false
namespace Go.Proofs.Ytaoeehnnboegnaa.Frm
open Go.RowKit Go.Proofs.Ytaoeehnnboegnaa.P Go.Proofs.YtaoeehnnboegnaaW.PrintWords Go.Proofs.YtaoeehnnboegnaaW.PrintLast Go.Proofs.YtaoeehnnboegnaaW.PrintMore Go.Proofs.YtaoeehnnboegnaaW.Q
open Go.Proofs.Ytaoeehnnboegnaa.Crc (okI okI_nat okN okI_width layl crc unsealed)
theorem parse_all (b a0 a1 a2 a3 : Int) (R : Bool) (B : List Nat) (h1 : u32 a1) (h2 : u32 a2) (h3 : u32 a3) (hB : ∀ x ∈ B, x < 256) (hl : B.length ≤ 140737488351232) :
    ∃ r : Res, Ev (fun k => frame_Parse.f k b a0 a1 a2 a3 R (ints B)) r ∧ Ev (fun k => outpostref24_Parse.f k b a0 a1 a2 a3 R (ints B)) r ∧ r.2.2.2.1.length ≤ 1000 ∧
      (r.2.2.2.2 = 0 → ∃ n W P I O : Nat, b = n ∧ a0 = W ∧ a1 = P ∧ a2 = I ∧ a3 = O ∧ n ≤ 64 ∧ okN W P I O ∧ r = parE n W P I O R B) := by
  by_cases hc : chk b a0 a1 a2 a3 = 0
  · obtain ⟨n, W, P, I, O, rfl, rfl, rfl, rfl, rfl, hn, hs⟩ := chk_zero h1 h2 h3 hc
    exact ⟨_, Parse_ev hn hs B hB (by omega), RParse_ev hn hs B hB (by omega), par_data hn B, fun _ => ⟨n, W, P, I, O, rfl, rfl, rfl, rfl, rfl, hn, hs, rfl⟩⟩
  · exact ⟨_, Parse_bad (ints B) hc, RParse_bad h1 h2 h3 (ints B) hc, Nat.zero_le _, fun h => absurd h hc⟩
end Go.Proofs.Ytaoeehnnboegnaa.Frm
