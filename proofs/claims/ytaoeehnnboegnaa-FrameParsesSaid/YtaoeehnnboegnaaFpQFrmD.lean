/- Frames: every Build and Parse at once, the program's and the document's. -/
import Derived.Test.YtaoeehnnboegnaaFpQFrmC
set_option linter.unusedVariables false
set_option linter.unusedSimpArgs false
namespace Go.Proofs.Ytaoeehnnboegnaa.Frm
open Go.RowKit Go.Proofs.Ytaoeehnnboegnaa.P Go.Proofs.YtaoeehnnboegnaaW.PrintWords Go.Proofs.YtaoeehnnboegnaaW.PrintLast Go.Proofs.YtaoeehnnboegnaaW.PrintMore Go.Proofs.YtaoeehnnboegnaaW.Q
open Go.Proofs.Ytaoeehnnboegnaa.Crc (okI okI_nat okN okI_width layl crc unsealed)
/-- What is known of a frame that may be. -/
structure Fine (b a0 a1 a2 a3 : Int) (R : Bool) (K S A : Int) (D : List Nat) (n W P I O k s a : Nat) : Prop where
  eb : b = n
  e0 : a0 = W
  e1 : a1 = P
  e2 : a2 = I
  e3 : a3 = O
  eK : K = k
  eS : S = s
  eA : A = a
  hn : n ≤ 64
  hs : okN W P I O
  hk : k < 256
  hS : s < 4294967296
  hA : a < 4294967296
  hl : D.length ≤ n
  hd : kdE k s D.length = 0
theorem build_p (b a0 a1 a2 a3 : Int) (R : Bool) (K S A : Int) (D : List Nat) (h1 : u32 a1) (h2 : u32 a2) (h3 : u32 a3) (hS : u32 S) (hA : u32 A) (hD : ∀ x ∈ D, x < 256) :
    (vldE b a0 a1 a2 a3 K S D.length ≠ 0 ∧ Ev (fun k => frame_Build.f k b a0 a1 a2 a3 R K S A (ints D)) ([], vldE b a0 a1 a2 a3 K S D.length)) ∨
    (vldE b a0 a1 a2 a3 K S D.length = 0 ∧ ∃ n W P I O k s a : Nat, Fine b a0 a1 a2 a3 R K S A D n W P I O k s a ∧ Ev (fun q => frame_Build.f q b a0 a1 a2 a3 R K S A (ints D)) (ints (bitsOfB (sld R W P I O (body k s a D n))), 0)) := by
  by_cases hv : vldE b a0 a1 a2 a3 K S D.length = 0
  · refine Or.inr ⟨hv, ?_⟩
    obtain ⟨hc, hk, hl⟩ := vld_zero hv
    obtain ⟨n, W, P, I, O, rfl, rfl, rfl, rfl, rfl, hn, hs⟩ := chk_zero h1 h2 h3 hc
    obtain ⟨s, rfl, hs32⟩ := nat32 hS
    obtain ⟨a, rfl, ha32⟩ := nat32 hA
    have hK := kd_zero hk
    obtain ⟨k, rfl⟩ := Int.eq_ofNat_of_zero_le (show 0 ≤ K by omega)
    have hk2 : k < 256 := by omega
    exact ⟨n, W, P, I, O, k, s, a, ⟨rfl, rfl, rfl, rfl, rfl, rfl, rfl, rfl, hn, hs, hk2, hs32, ha32, by omega, hk⟩, Build_ev hn hs hk2 hD (by omega) hv⟩
  · refine Or.inl ⟨hv, ?_⟩
    have h := Build_bad (b := b) (a0 := a0) (a1 := a1) (a2 := a2) (a3 := a3) (K := K) (S := S) (A := A) (R := R) (D := ints D) (by rw [ints_length]; exact hv)
    rw [ints_length] at h
    exact h
theorem tld_data (n : Nat) (Y : List Nat) (hY : Y.length ≤ 1000) : (tldL n Y).2.2.2.1.length ≤ 1000 := by
  unfold tldL tldE
  split
  · exact Nat.zero_le _
  split
  · exact Nat.zero_le _
  split
  · unfold endE
    split
    · show (ints _).length ≤ 1000
      rw [ints_length, List.length_take, List.length_drop]
      omega
    · exact Nat.zero_le _
  · exact Nat.zero_le _
theorem par_data {n W P I O : Nat} {R : Bool} (hn : n ≤ 64) (B : List Nat) : (parE n W P I O R B).2.2.2.1.length ≤ 1000 := by
  unfold parE
  split
  · split
    · split
      · exact tld_data n _ (by rw [List.length_take]; omega)
      · exact Nat.zero_le _
    · exact Nat.zero_le _
  · exact Nat.zero_le _
theorem parse_p (b a0 a1 a2 a3 : Int) (R : Bool) (B : List Nat) (h1 : u32 a1) (h2 : u32 a2) (h3 : u32 a3) (hB : ∀ x ∈ B, x < 256) (hl : B.length ≤ 140737488351232) :
    ∃ r : Res, Ev (fun k => frame_Parse.f k b a0 a1 a2 a3 R (ints B)) r ∧ r.2.2.2.1.length ≤ 1000 ∧
      (r.2.2.2.2 = 0 → ∃ n W P I O : Nat, b = n ∧ a0 = W ∧ a1 = P ∧ a2 = I ∧ a3 = O ∧ n ≤ 64 ∧ okN W P I O ∧ r = parE n W P I O R B) := by
  by_cases hc : chk b a0 a1 a2 a3 = 0
  · obtain ⟨n, W, P, I, O, rfl, rfl, rfl, rfl, rfl, hn, hs⟩ := chk_zero h1 h2 h3 hc
    exact ⟨_, Parse_ev hn hs B hB (by omega), par_data hn B, fun _ => ⟨n, W, P, I, O, rfl, rfl, rfl, rfl, rfl, hn, hs, rfl⟩⟩
  · exact ⟨_, Parse_bad (ints B) hc, Nat.zero_le _, fun h => absurd h hc⟩
theorem bits_lt (X : List Nat) : ∀ x ∈ bitsOfB X, x < 256 := fun x hx => by have := unpack_le _ _ x hx; omega
end Go.Proofs.Ytaoeehnnboegnaa.Frm
