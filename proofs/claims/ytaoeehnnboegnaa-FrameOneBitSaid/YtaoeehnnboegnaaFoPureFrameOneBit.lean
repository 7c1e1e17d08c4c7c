/- One bit of a frame that is turned is told. The plain law of FrameOneBit. -/
import Derived.Test.YtaoeehnnboegnaaFoPx17
import Derived.Test.YtaoeehnnboegnaaFoQFrmD
set_option linter.unusedVariables false
set_option linter.unusedSimpArgs false
namespace Go.Proofs.Ytaoeehnnboegnaa.Pure
open Go.RowKit Go.Proofs.Ytaoeehnnboegnaa.P Go.Proofs.YtaoeehnnboegnaaW.PrintWords Go.Proofs.YtaoeehnnboegnaaW.PrintLast Go.Proofs.YtaoeehnnboegnaaW.PrintMore Go.Proofs.YtaoeehnnboegnaaW.Q Go.Proofs.Ytaoeehnnboegnaa.Frm
open Go.Proofs.Ytaoeehnnboegnaa.Crc (okN)
theorem onebit_no (at_ e b a0 a1 a2 a3 : Int) (X : List Int) (R : Bool) (K S A : Int) (D : List Int) (h1 : u32 a1) (h2 : u32 a2) (h3 : u32 a3) (he : vldE b a0 a1 a2 a3 K S D.length = e) : Ev (fun k => outpostlaw24_FrameOneBit.j0 k at_ X e true b a0 a1 a2 a3 R K S A D) true := by
  refine Ev.succ ?_
  simp only [outpostlaw24_FrameOneBit.j0]
  refine evP trivial (evB rfl ?_)
  have hV := RValid_ev b a0 a1 a2 a3 R h1 h2 h3 K S A D
  rw [he] at hV
  refine Ev.bind hV ?_
  refine evP (beq_self_eq_true _) ?_
  exact Ev.bind live_ev (Ev.now _)
theorem FrameOneBit : outpostlaw24_FrameOneBit.Pure := by
  intro a0_0 a0_1 a0_2 a0_3 a0_4 a0_5 a1_0 a1_1 a1_2 l1_3 at_ w0 w1 w2 w3 w4 v0 v1 v2 hm hl hw wa
  obtain ⟨D, rfl, hD, hlD⟩ := bytes_in hw hl
  have h1 := u32_in w2
  have h2 := u32_in w3
  have h3 := u32_in w4
  have hS := u32_in v1
  have hA := u32_in v2
  refine Ev.rounds ?_
  unfold outpostlaw24_FrameOneBit.f
  rcases build_p a0_0 a0_1 a0_2 a0_3 a0_4 a0_5 a1_0 a1_1 a1_2 D h1 h2 h3 hS hA hD with ⟨g0, g1⟩ | ⟨g0, n, W, P, I, O, k, s, a, F, g1⟩
  · refine Ev.bind g1 ?_
    refine evB rfl (evN g0 ?_)
    exact onebit_no at_ _ _ _ _ _ _ _ _ _ _ _ _ h1 h2 h3 (by rw [ints_length])
  · refine Ev.bind g1 ?_
    refine evB rfl (evP rfl ?_)
    have no := fun X => onebit_no at_ 0 a0_0 a0_1 a0_2 a0_3 a0_4 X a0_5 a1_0 a1_1 a1_2 (ints D) h1 h2 h3 (by rw [ints_length]; exact g0)
    by_cases c1 : at_ < 0
    · exact evP c1 (no _)
    refine evN c1 ?_
    have hbl := body_length (K := k) (S := s) (A := a) F.hl
    have hb := body_lt (S := s) (A := a) (n := n) F.hk hD (by have := F.hl; have := F.hn; omega)
    have ht := fun i hi => turned (R := a0_5) (W := W) (P := P) (I := I) (O := O) (n := n) F.hs hb hbl (i := i) hi
    have hlen : (bitsOfB (sld a0_5 W P I O (body k s a D n))).length ≤ 1000000 := by
      rw [bits_length, sld_length, hbl]
      have := F.hn
      have := F.hs.1
      omega
    have hb1 := bits_lt (sld a0_5 W P I O (body k s a D n))
    generalize bitsOfB (sld a0_5 W P I O (body k s a D n)) = B at ht hlen hb1 ⊢
    by_cases c2 : at_ ≥ ((ints B).length : Int)
    · rw [show decide (at_ ≥ (((ints B, (0 : Int)).1).length : Int)) = true from decide_eq_true c2]
      exact no _
    rw [show decide (at_ ≥ (((ints B, (0 : Int)).1).length : Int)) = false from decide_eq_false c2]
    obtain ⟨i, rfl⟩ := Int.eq_ofNat_of_zero_le (show 0 ≤ at_ by omega)
    rw [ints_length] at c2
    have hi : i < B.length := by omega
    refine Ev.succ ?_
    simp only [outpostlaw24_FrameOneBit.j0]
    refine evN (by decide) (evP (by omega) (evP (by rw [ints_length]; omega) ?_))
    have e : (ints B).set ((i : Int)).toNat (Go.bits .xor .u8 (rd (ints B) (i : Int)) 1) = ints (B.set i (B.getD i 0 ^^^ 1)) := by
      rw [rd_ints, show (1 : Int) = ((1 : Nat) : Int) from rfl, bxor8 _ _ (getD_lt hb1 i) (by decide), set_ints]
    rw [e]
    have h8 : B.getD i 0 ^^^ 1 < 256 := Nat.xor_lt_two_pow (n := 8) (getD_lt hb1 i) (by decide)
    have hP := Parse_ev (R := a0_5) F.hn F.hs (B.set i (B.getD i 0 ^^^ 1)) (set_lt hb1 h8) (by rw [List.length_set]; omega)
    rw [ht i hi, ← F.eb, ← F.e0, ← F.e1, ← F.e2, ← F.e3] at hP
    refine Ev.bind hP ?_
    refine evB rfl (evP rfl ?_)
    refine evB (Same_self 0 0 0 []) (evP rfl ?_)
    exact Ev.bind live_ev (Ev.now _)
end Go.Proofs.Ytaoeehnnboegnaa.Pure
