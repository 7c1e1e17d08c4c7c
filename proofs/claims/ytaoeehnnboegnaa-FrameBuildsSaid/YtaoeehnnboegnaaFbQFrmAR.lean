/- Frames: what the document's Build comes to. -/
import Derived.Test.YtaoeehnnboegnaaFbPx7
import Derived.Test.YtaoeehnnboegnaaFbQFrmA
import Derived.Test.YtaoeehnnboegnaaFbQFBitR
import Derived.Test.YtaoeehnnboegnaaFbQFCrcR
set_option linter.unusedVariables false
set_option linter.unusedSimpArgs false
namespace Go.Proofs.Ytaoeehnnboegnaa.Frm
open Go.RowKit Go.Proofs.Ytaoeehnnboegnaa.P Go.Proofs.YtaoeehnnboegnaaW.PrintWords Go.Proofs.YtaoeehnnboegnaaW.PrintLast Go.Proofs.YtaoeehnnboegnaaW.PrintMore Go.Proofs.YtaoeehnnboegnaaW.Q
open Go.Proofs.Ytaoeehnnboegnaa.Crc (okI okI_nat okN okI_width layl crc unsealed layl_length layl_lt)
theorem RBuild_bad {b a0 a1 a2 a3 K S A : Int} {R : Bool} {D : List Int} (h1 : u32 a1) (h2 : u32 a2) (h3 : u32 a3) (hv : vldE b a0 a1 a2 a3 K S D.length ≠ 0) : Ev (fun k => outpostref24_Build.f k b a0 a1 a2 a3 R K S A D) ([], vldE b a0 a1 a2 a3 K S D.length) := by
  unfold outpostref24_Build.f
  refine Ev.bind (RValid_ev b a0 a1 a2 a3 R h1 h2 h3 K S A D) ?_
  exact evN hv (Ev.now _)
theorem RBuild_l0 {n W P I O : Nat} {R : Bool} (hn : n ≤ 64) (hs : okN W P I O) (H : List Nat) (hH : ∀ x ∈ H, x < 256) (m : Nat) (hm : H.length = 10 + m) (hmn : m ≤ n) :
    ∀ (d j : Nat), m + j + d = n → Ev (fun k => outpostref24_Build.l0 k (ints (H ++ List.replicate j 0)) n W P I O R) (ints (bitsOfB (sld R W P I O (H ++ List.replicate (n - m) 0))), 0) := by
  have hW : W / 8 ≤ 4 := by rcases hs.1 with h | h | h | h <;> omega
  have hw : wrap64 (10 + (n : Int)) = ((10 + n : Nat) : Int) := by rw [w64 (by omega) (by omega)]; omega
  intro d
  induction d with
  | zero =>
    intro j hj
    obtain rfl : j = n - m := by omega
    have hl : (ints (H ++ List.replicate (n - m) 0)).length = 10 + n := by rw [ints_length, List.length_append, List.length_replicate]; omega
    have hb : ∀ x ∈ H ++ List.replicate (n - m) 0, x < 256 := by
      intro x hx
      rcases List.mem_append.1 hx with h | h
      · exact hH x h
      · rw [List.mem_replicate] at h
        omega
    refine Ev.succ ?_
    simp only [outpostref24_Build.l0]
    refine evN (by rw [hw, hl]; omega) ?_
    rw [ints_length] at hl
    generalize hB : H ++ List.replicate (n - m) 0 = B at hl hb
    refine Ev.bind (Crc.refSeal_f hs B hb (by omega)) ?_
    have lx := sld_length R W P I O B
    have hu := RUnpack_f (sld R W P I O B) ((8 * (sld R W P I O B).length : Nat) : Int) (by omega) (sld_lt hb) (by omega)
    have hw2 : wrap64 (8 * ((ints (sld R W P I O B)).length : Int)) = ((8 * (sld R W P I O B).length : Nat) : Int) := by
      rw [ints_length, w64 (by omega) (by omega)]
      omega
    have hu2 : unp (sld R W P I O B) ((8 * (sld R W P I O B).length : Nat) : Int) = (ints (bitsOfB (sld R W P I O B)), 0) := by
      unfold unp
      rw [if_neg (by omega), if_neg (by omega), Int.toNat_natCast]
      rfl
    rw [hu2, ← hw2] at hu
    exact Ev.bind hu (Ev.now _)
  | succ d ih =>
    intro j hj
    have hl : (ints (H ++ List.replicate j 0)).length = 10 + m + j := by rw [ints_length, List.length_append, List.length_replicate]; omega
    refine Ev.succ ?_
    simp only [outpostref24_Build.l0]
    refine evP (by rw [hw, hl]; omega) ?_
    refine evP (by rw [hl]; omega) ?_
    have e : ints (H ++ List.replicate j 0) ++ [0] = ints (H ++ List.replicate (j + 1) 0) := by
      rw [List.replicate_succ', ← List.append_assoc, ints_append (H ++ List.replicate j 0)]
      rfl
    rw [e]
    exact ih (j + 1) (by omega)
theorem RBuild_ev {n W P I O K S A : Nat} {R : Bool} {D : List Nat} (hn : n ≤ 64) (hs : okN W P I O) (hK : K < 256) (hD : ∀ x ∈ D, x < 256) (hl : D.length ≤ n) (hv : vldE n W P I O K S D.length = 0) :
    Ev (fun k => outpostref24_Build.f k n W P I O R K S A (ints D)) (ints (bitsOfB (sld R W P I O (body K S A D n))), 0) := by
  unfold outpostref24_Build.f
  have hP : P < 2 ^ W := hs.2.1
  have p32 : (2 : Nat) ^ W ≤ 4294967296 := by rcases hs.1 with h | h | h | h <;> subst h <;> decide
  have hV := RValid_ev n W P I O R ⟨by omega, by omega⟩ ⟨by omega, by have := hs.2.2.1; omega⟩ ⟨by omega, by have := hs.2.2.2.1; omega⟩ K S A (ints D)
  rw [ints_length, hv] at hV
  refine Ev.bind hV ?_
  refine evP rfl ?_
  refine evB rfl ?_
  refine evB (show outpostref24_four.f (S : Int) = some (ints (four S)) by rw [ints_four]; rfl) ?_
  have l4 : ∀ x, (ints (four x)).length = 4 := fun x => by rw [ints_length]; rfl
  refine evP (by rw [l4]; simp) ?_
  refine evB rfl ?_
  refine evB (show outpostref24_four.f (A : Int) = some (ints (four A)) by rw [ints_four]; rfl) ?_
  refine evP (by rw [List.length_append, l4, l4]; simp) ?_
  refine evB rfl ?_
  refine evP (by rw [List.length_append, List.length_append, l4, l4]; simp) ?_
  refine evB rfl ?_
  have hk : (K : Int) % 256 = K := by omega
  have hm : ((ints D).length : Int) % 256 = ((D.length : Nat) : Int) := by rw [ints_length]; omega
  refine evP (by rw [List.length_append, List.length_append, List.length_append, l4, l4, ints_length]; simp; omega) ?_
  have e : [(K : Int) % 256] ++ ints (four S) ++ ints (four A) ++ [((ints D).length : Int) % 256] ++ ints D = ints (hd K S A D ++ List.replicate 0 0) := by
    rw [hk, hm]
    simp [hd, ints]
  rw [e]
  exact RBuild_l0 hn hs (hd K S A D) (hd_lt hK hD (by omega)) D.length (hd_length K S A D) hl (n - D.length) 0 (by omega)
end Go.Proofs.Ytaoeehnnboegnaa.Frm
