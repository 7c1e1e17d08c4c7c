/- A frame that is built is read again; what is read is built again. The plain law of FrameBack. -/
import Derived.Test.YtaoeehnnboegnaaFkPx90
import Derived.Test.YtaoeehnnboegnaaFkQFrmD
set_option linter.unusedVariables false
set_option linter.unusedSimpArgs false
namespace Go.Proofs.Ytaoeehnnboegnaa.Pure
open Go.RowKit Go.Proofs.Ytaoeehnnboegnaa.P Go.Proofs.YtaoeehnnboegnaaW.PrintWords Go.Proofs.YtaoeehnnboegnaaW.PrintLast Go.Proofs.YtaoeehnnboegnaaW.PrintMore Go.Proofs.YtaoeehnnboegnaaW.Q Go.Proofs.Ytaoeehnnboegnaa.Frm
open Go.Proofs.Ytaoeehnnboegnaa.Crc (okN)
theorem back_j0 (b a0 a1 a2 a3 : Int) (R : Bool) (B : List Nat) (h1 : u32 a1) (h2 : u32 a2) (h3 : u32 a3) (hB : ∀ x ∈ B, x < 256) (hl : B.length ≤ 140737488351232) : Ev (fun k => outpostlaw24_FrameBack.j0 k (ints B) b a0 a1 a2 a3 R) true := by
  refine Ev.succ ?_
  simp only [outpostlaw24_FrameBack.j0]
  refine evB (own_f hl) ?_
  obtain ⟨r, hP, _, hr⟩ := parse_p b a0 a1 a2 a3 R B h1 h2 h3 hB hl
  refine Ev.bind hP ?_
  refine evB rfl ?_
  by_cases h0 : r.2.2.2.2 = 0
  · refine evP h0 ?_
    obtain ⟨n, W, P, I, O, rfl, rfl, rfl, rfl, rfl, hn, hs, rfl⟩ := hr h0
    obtain ⟨K, S, A, D, e, hK, hD, hlD, hk, hb⟩ := built_parse hs hn h0
    have hBd := Build_ev (R := R) (A := A) hn hs hK hD hlD (vld_of hn hs hk hlD)
    rw [hb] at hBd
    rw [e]
    refine Ev.bind hBd ?_
    refine evB rfl (evP rfl (evP rfl ?_))
    exact Ev.bind live_ev (Ev.now _)
  · refine evN h0 ?_
    exact Ev.bind live_ev (Ev.now _)
theorem FrameBack : outpostlaw24_FrameBack.Pure := by
  intro a0_0 a0_1 a0_2 a0_3 a0_4 a0_5 a1_0 a1_1 a1_2 l1_3 l2 w0 w1 w2 w3 w4 v0 v1 v2 hm hl hw hm2 hl2 hw2
  obtain ⟨D, rfl, hD, hlD⟩ := bytes_in hw hl
  obtain ⟨B, rfl, hB, hlB⟩ := bytes_in hw2 hl2
  have h1 := u32_in w2
  have h2 := u32_in w3
  have h3 := u32_in w4
  have hS := u32_in v1
  have hA := u32_in v2
  have hj := back_j0 a0_0 a0_1 a0_2 a0_3 a0_4 a0_5 B h1 h2 h3 hB hlB
  refine Ev.rounds ?_
  unfold outpostlaw24_FrameBack.f
  rcases build_p a0_0 a0_1 a0_2 a0_3 a0_4 a0_5 a1_0 a1_1 a1_2 D h1 h2 h3 hS hA hD with ⟨g0, g1⟩ | ⟨g0, n, W, P, I, O, k, s, a, F, g1⟩
  · refine Ev.bind g1 ?_
    refine evB rfl ?_
    exact evN g0 hj
  · have hV := Valid_ev a0_0 a0_1 a0_2 a0_3 a0_4 a0_5 a1_0 a1_1 a1_2 (ints D)
    rw [ints_length, g0] at hV
    have hp := parse_built (R := a0_5) (A := a) F.hs F.hk F.hS F.hA hD F.hl F.hn F.hd
    have hlen : (bitsOfB (sld a0_5 W P I O (body k s a D n))).length ≤ 1000000 := by
      rw [bits_length, sld_length, body_length F.hl]
      have := F.hn
      have := F.hs.1
      omega
    have hP := Parse_ev (R := a0_5) F.hn F.hs (bitsOfB (sld a0_5 W P I O (body k s a D n))) (bits_lt _) (by omega)
    rw [hp] at hP
    rw [← F.eb, ← F.e0, ← F.e1, ← F.e2, ← F.e3, ← F.eK, ← F.eS, ← F.eA] at hP
    refine Ev.bind g1 ?_
    refine evB rfl (evP rfl ?_)
    refine Ev.bind hP ?_
    refine evB rfl (evP rfl ?_)
    refine evB (Same_self _ _ _ _) (evP rfl ?_)
    refine Ev.bind hV ?_
    refine evB rfl (evP rfl ?_)
    exact hj
end Go.Proofs.Ytaoeehnnboegnaa.Pure
