/- Every row of bits as a frame: as the document says. The plain law of FrameParses. -/
import Derived.Test.YtaoeehnnboegnaaFpPx92
import Derived.Test.YtaoeehnnboegnaaFpQFrmDP
set_option linter.unusedVariables false
set_option linter.unusedSimpArgs false
namespace Go.Proofs.Ytaoeehnnboegnaa.Pure
open Go.RowKit Go.Proofs.Ytaoeehnnboegnaa.P Go.Proofs.YtaoeehnnboegnaaW.PrintWords Go.Proofs.YtaoeehnnboegnaaW.PrintLast Go.Proofs.YtaoeehnnboegnaaW.PrintMore Go.Proofs.YtaoeehnnboegnaaW.Q Go.Proofs.Ytaoeehnnboegnaa.Frm
open Go.Proofs.Ytaoeehnnboegnaa.Crc (okN)
theorem parses_j0 (L : List Int) (r : Res) (hX : r.2.2.2.1.length ≤ 1000) : Ev (fun k => outpostlaw24_FrameParses.j0 k L L false r.1 r.2.1 r.2.2.1 r.2.2.2.1 r.1 r.2.1 r.2.2.1 r.2.2.2.1 r.1 r.2.1 r.2.2.1 r.2.2.2.1) true := by
  refine Ev.succ ?_
  simp only [outpostlaw24_FrameParses.j0]
  refine evN (by decide) ?_
  refine Ev.bind (grown_ev r.2.2.2.1 (by omega)) ?_
  refine evB (Same_self _ _ _ _) (evP rfl ?_)
  exact evB (kept_f L) (Ev.now _)
theorem FrameParses : outpostlaw24_FrameParses.Pure := by
  intro a0_0 a0_1 a0_2 a0_3 a0_4 a0_5 l1 w0 w1 w2 w3 w4 hm hl hw
  obtain ⟨B, rfl, hB, hlB⟩ := bytes_in hw hl
  have h1 := u32_in w2
  have h2 := u32_in w3
  have h3 := u32_in w4
  obtain ⟨r, hP, hRP, hr, _⟩ := parse_all a0_0 a0_1 a0_2 a0_3 a0_4 a0_5 B h1 h2 h3 hB hlB
  refine Ev.rounds ?_
  unfold outpostlaw24_FrameParses.f
  refine evB (own_f hlB) ?_
  refine Ev.bind hP ?_
  refine Ev.bind hP ?_
  refine Ev.bind hRP ?_
  refine evB (Same_self _ _ _ _) (evP rfl ?_)
  refine evB (Same_self _ _ _ _) (evP rfl ?_)
  refine evB rfl (evP rfl ?_)
  refine evB (kept_f _) (evP rfl ?_)
  refine Ev.bind live_ev ?_
  exact parses_j0 (ints B) r hr
end Go.Proofs.Ytaoeehnnboegnaa.Pure
