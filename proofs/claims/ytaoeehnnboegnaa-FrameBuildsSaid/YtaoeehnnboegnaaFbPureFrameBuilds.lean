/- Every format and frame: whether they may be, how long, which bits: as the document says. The plain law of FrameBuilds. -/
import Derived.Test.YtaoeehnnboegnaaFbPx91
import Derived.Test.YtaoeehnnboegnaaFbQFrmDB
set_option linter.unusedVariables false
set_option linter.unusedSimpArgs false
namespace Go.Proofs.Ytaoeehnnboegnaa.Pure
open Go.RowKit Go.Proofs.Ytaoeehnnboegnaa.P Go.Proofs.YtaoeehnnboegnaaW.PrintWords Go.Proofs.YtaoeehnnboegnaaW.PrintLast Go.Proofs.YtaoeehnnboegnaaW.PrintMore Go.Proofs.YtaoeehnnboegnaaW.Q Go.Proofs.Ytaoeehnnboegnaa.Frm
open Go.Proofs.Ytaoeehnnboegnaa.Crc (okN)
theorem builds_j0 (X : List Int) (D : List Int) (K S A : Int) (hX : X.length ≤ 1000000) : Ev (fun k => outpostlaw24_FrameBuilds.j0 k X X X false K S A D K S A D) true := by
  refine Ev.succ ?_
  simp only [outpostlaw24_FrameBuilds.j0]
  refine evN (by decide) ?_
  refine Ev.bind (grown_ev X (by omega)) ?_
  refine evP trivial ?_
  exact evB (kept_f D) (Ev.now _)
theorem FrameBuilds : outpostlaw24_FrameBuilds.Pure := by
  intro a0_0 a0_1 a0_2 a0_3 a0_4 a0_5 a1_0 a1_1 a1_2 l1_3 w0 w1 w2 w3 w4 v0 v1 v2 hm hl hw
  obtain ⟨D, rfl, hD, hlD⟩ := bytes_in hw hl
  have h1 := u32_in w2
  have h2 := u32_in w3
  have h3 := u32_in w4
  have hS := u32_in v1
  have hA := u32_in v2
  have hV := Valid_ev a0_0 a0_1 a0_2 a0_3 a0_4 a0_5 a1_0 a1_1 a1_2 (ints D)
  have hRV := RValid_ev a0_0 a0_1 a0_2 a0_3 a0_4 a0_5 h1 h2 h3 a1_0 a1_1 a1_2 (ints D)
  obtain ⟨X, e, hX, hB, hRB⟩ : ∃ (X : List Int) (e : Int), X.length ≤ 1000000 ∧ Ev (fun k => frame_Build.f k a0_0 a0_1 a0_2 a0_3 a0_4 a0_5 a1_0 a1_1 a1_2 (ints D)) (X, e) ∧ Ev (fun k => outpostref24_Build.f k a0_0 a0_1 a0_2 a0_3 a0_4 a0_5 a1_0 a1_1 a1_2 (ints D)) (X, e) := by
    rcases build_all a0_0 a0_1 a0_2 a0_3 a0_4 a0_5 a1_0 a1_1 a1_2 D h1 h2 h3 hS hA hD with ⟨_, g1, g2⟩ | ⟨_, n, W, P, I, O, k, s, a, F, g1, g2⟩
    · exact ⟨_, _, Nat.zero_le _, g1, g2⟩
    · refine ⟨_, _, ?_, g1, g2⟩
      rw [ints_length, bits_length, sld_length, body_length F.hl]
      have := F.hn
      have := F.hs.1
      omega
  refine Ev.rounds ?_
  unfold outpostlaw24_FrameBuilds.f
  refine evB (own_f hlD) ?_
  refine Ev.bind hB ?_
  refine Ev.bind hB ?_
  refine Ev.bind hRB ?_
  refine Ev.bind (Length_ev _ _ _ _ _ _) ?_
  refine Ev.bind (RLength_ev _ _ _ _ _ _ h1 h2 h3) ?_
  refine Ev.bind (Check_ev _ _ _ _ _ _) ?_
  refine evB rfl ?_
  refine Ev.bind (RCheck_ev _ _ _ _ _ _ h1 h2 h3) ?_
  refine evP rfl ?_
  refine Ev.bind hV ?_
  refine evB rfl ?_
  refine Ev.bind hRV ?_
  refine evP rfl (evP rfl (evP rfl ?_))
  refine evB rfl (evP rfl (evP rfl ?_))
  refine evB rfl (evP rfl ?_)
  refine evB (kept_f _) (evP rfl ?_)
  refine Ev.bind live_ev ?_
  exact builds_j0 X (ints D) a1_0 a1_1 a1_2 hX
end Go.Proofs.Ytaoeehnnboegnaa.Pure
