/- Frames of one format have one length; unlike ones have unlike bits. The plain law of FrameUnlike. -/
import Derived.Test.YtaoeehnnboegnaaFuPx18
import Derived.Test.YtaoeehnnboegnaaFuQFrmD
set_option linter.unusedVariables false
set_option linter.unusedSimpArgs false
namespace Go.Proofs.Ytaoeehnnboegnaa.Pure
open Go.RowKit Go.Proofs.Ytaoeehnnboegnaa.P Go.Proofs.YtaoeehnnboegnaaW.PrintWords Go.Proofs.YtaoeehnnboegnaaW.PrintLast Go.Proofs.YtaoeehnnboegnaaW.PrintMore Go.Proofs.YtaoeehnnboegnaaW.Q Go.Proofs.Ytaoeehnnboegnaa.Frm
open Go.Proofs.Ytaoeehnnboegnaa.Crc (okN)
theorem unlike_no (X Y : List Int) (e f1 f2 b a0 a1 a2 a3 : Int) (R : Bool) (K S A K' S' A' : Int) (D D' : List Int) (h1 : u32 a1) (h2 : u32 a2) (h3 : u32 a3) (he : vldE b a0 a1 a2 a3 K S D.length = e) : Ev (fun k => outpostlaw24_FrameUnlike.j0 k X e Y f1 f2 true b a0 a1 a2 a3 R K S A D K' S' A' D') true := by
  refine Ev.succ ?_
  simp only [outpostlaw24_FrameUnlike.j0]
  refine evP trivial (evB rfl ?_)
  have hV := RValid_ev b a0 a1 a2 a3 R h1 h2 h3 K S A D
  rw [he] at hV
  refine Ev.bind hV ?_
  refine evP (beq_self_eq_true _) ?_
  exact Ev.bind live_ev (Ev.now _)
theorem FrameUnlike : outpostlaw24_FrameUnlike.Pure := by
  intro a0_0 a0_1 a0_2 a0_3 a0_4 a0_5 a1_0 a1_1 a1_2 l1_3 b1_0 b1_1 b1_2 l2_3 w0 w1 w2 w3 w4 v0 v1 v2 hm hl hw x0 x1 x2 hm2 hl2 hw2
  obtain ⟨D, rfl, hD, hlD⟩ := bytes_in hw hl
  obtain ⟨D', rfl, hD', hlD'⟩ := bytes_in hw2 hl2
  have h1 := u32_in w2
  have h2 := u32_in w3
  have h3 := u32_in w4
  have hS := u32_in v1
  have hA := u32_in v2
  have hS' := u32_in x1
  have hA' := u32_in x2
  have hL := Length_ev a0_0 a0_1 a0_2 a0_3 a0_4 a0_5
  refine Ev.rounds ?_
  unfold outpostlaw24_FrameUnlike.f
  rcases build_p a0_0 a0_1 a0_2 a0_3 a0_4 a0_5 a1_0 a1_1 a1_2 D h1 h2 h3 hS hA hD with ⟨g0, g1⟩ | ⟨g0, n, W, P, I, O, k, s, a, F, g1⟩
  · obtain ⟨Y, hY⟩ : ∃ Y, Ev (fun k => frame_Build.f k a0_0 a0_1 a0_2 a0_3 a0_4 a0_5 b1_0 b1_1 b1_2 (ints D')) Y := by
      rcases build_p a0_0 a0_1 a0_2 a0_3 a0_4 a0_5 b1_0 b1_1 b1_2 D' h1 h2 h3 hS' hA' hD' with ⟨_, q1⟩ | ⟨_, _, _, _, _, _, _, _, _, _, q1⟩ <;> exact ⟨_, q1⟩
    refine Ev.bind g1 (Ev.bind hY (Ev.bind hL ?_))
    refine evB rfl (evN g0 ?_)
    exact unlike_no _ _ _ _ _ _ _ _ _ _ _ _ _ _ _ _ _ _ _ h1 h2 h3 (by rw [ints_length])
  · rcases build_p a0_0 a0_1 a0_2 a0_3 a0_4 a0_5 b1_0 b1_1 b1_2 D' h1 h2 h3 hS' hA' hD' with ⟨q0, q1⟩ | ⟨q0, n', W', P', I', O', k', s', a', F', q1⟩
    · refine Ev.bind g1 (Ev.bind q1 (Ev.bind hL ?_))
      refine evB rfl (evP rfl (evB rfl ?_))
      rw [bne_iff_ne.mpr q0]
      exact unlike_no _ _ _ _ _ _ _ _ _ _ _ _ _ _ _ _ _ _ _ h1 h2 h3 (by rw [ints_length]; exact g0)
    obtain rfl : n' = n := by have := F.eb; have := F'.eb; omega
    obtain rfl : W' = W := by have := F.e0; have := F'.e0; omega
    obtain rfl : P' = P := by have := F.e1; have := F'.e1; omega
    obtain rfl : I' = I := by have := F.e2; have := F'.e2; omega
    obtain rfl : O' = O := by have := F.e3; have := F'.e3; omega
    have p1 := parse_built (R := a0_5) (A := a) F.hs F.hk F.hS F.hA hD F.hl F.hn F.hd
    have p2 := parse_built (R := a0_5) (A := a') F.hs F'.hk F'.hS F'.hA hD' F'.hl F.hn F'.hd
    have l1 : (bitsOfB (sld a0_5 W' P' I' O' (body k s a D n'))).length = 8 * (10 + n') + W' := by
      rw [bits_length, sld_length, body_length F.hl]
      have := F.hs.1
      omega
    have l2 : (bitsOfB (sld a0_5 W' P' I' O' (body k' s' a' D' n'))).length = 8 * (10 + n') + W' := by
      rw [bits_length, sld_length, body_length F'.hl]
      have := F.hs.1
      omega
    have hb1 := bits_lt (sld a0_5 W' P' I' O' (body k s a D n'))
    have hb2 := bits_lt (sld a0_5 W' P' I' O' (body k' s' a' D' n'))
    have same : bitsOfB (sld a0_5 W' P' I' O' (body k s a D n')) = bitsOfB (sld a0_5 W' P' I' O' (body k' s' a' D' n')) ↔ (a1_0 = b1_0 ∧ a1_1 = b1_1 ∧ a1_2 = b1_2 ∧ D = D') := by
      constructor
      · intro h
        rw [h, p2] at p1
        simp only [Prod.mk.injEq] at p1
        obtain ⟨z1, z2, z3, z4, _⟩ := p1
        rw [F.eK, F.eS, F.eA, F'.eK, F'.eS, F'.eA]
        exact ⟨z1.symm, z2.symm, z3.symm, (ints_inj z4).symm⟩
      · rintro ⟨z1, z2, z3, rfl⟩
        obtain rfl : k = k' := by have := F.eK; have := F'.eK; omega
        obtain rfl : s = s' := by have := F.eS; have := F'.eS; omega
        obtain rfl : a = a' := by have := F.eA; have := F'.eA; omega
        rfl
    have hL2 : Ev (fun q => frame_Length.f q a0_0 a0_1 a0_2 a0_3 a0_4 a0_5) (((8 * (10 + n') + W' : Nat) : Int), 0) := by
      rw [← len_ok F.hn F.hs, ← F.eb, ← F.e0, ← F.e1, ← F.e2, ← F.e3]
      exact hL
    generalize bitsOfB (sld a0_5 W' P' I' O' (body k s a D n')) = B1 at g1 l1 hb1 same
    generalize bitsOfB (sld a0_5 W' P' I' O' (body k' s' a' D' n')) = B2 at q1 l2 hb2 same
    refine Ev.bind g1 (Ev.bind q1 (Ev.bind hL2 ?_))
    refine evB rfl (evP rfl (evB rfl ?_))
    rw [show ((0 : Int) != 0) = false from rfl]
    refine Ev.succ ?_
    simp only [outpostlaw24_FrameUnlike.j0]
    refine evN (by decide) (evB rfl (evP rfl ?_))
    refine evP (by rw [ints_length, l1]) (evP (by rw [ints_length, l2]) ?_)
    refine evB (Same_f hD hD') ?_
    have hq : ((strOfNums (ints B1)).toList == (strOfNums (ints B2)).toList) = decide (a1_0 = b1_0 ∧ a1_1 = b1_1 ∧ a1_2 = b1_2 ∧ D = D') := by
      by_cases h : B1 = B2
      · rw [decide_eq_true (same.1 h), h, beq_self_eq_true]
      · rw [decide_eq_false (fun z => h (same.2 z))]
        exact beq_eq_false_iff_ne.mpr (fun z => h ((Crc.str_inj hb1 hb2).1 z))
    refine evP (by rw [hq, beq_self_eq_true]) ?_
    exact Ev.bind live_ev (Ev.now _)
end Go.Proofs.Ytaoeehnnboegnaa.Pure
