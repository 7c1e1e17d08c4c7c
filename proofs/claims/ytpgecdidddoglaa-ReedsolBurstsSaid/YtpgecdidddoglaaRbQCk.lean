/- Polynomials over two elements of degree 3 to 8: what is asked of each. -/
import Derived.Test.YtpgecdidddoglaaRbPx2
import Derived.Test.YtpgecdidddoglaaRbPx5
import Derived.Test.YtpgecdidddoglaaRbQAux
namespace Go.Proofs.Ytpgecdidddoglaa.P
def ckQ : Option (Bool × Int) → Option (Bool × Int) → Bool → Bool
  | some (b,e),some (b',_),g => b == b' && e == 0 && (!b || g)
  | _,_,_ => false
def ckP (p sz : Nat) : Bool := ckQ (poly_Primitive.f 600 (p : Int)) (r2_Primitive.f 600 (p : Int)) (Gal.good p sz)
theorem ckQ_of {x y : Option (Bool × Int)} {g : Bool} (h : ckQ x y g = true) : ∃ b e,x = some (b,0) ∧ y = some (b,e) ∧ (b = true → g = true) := by
  rcases x with _ | ⟨b,e⟩
  · cases y <;> cases h
  rcases y with _ | ⟨b',e'⟩
  · cases h
  simp only [ckQ,Bool.and_eq_true,beq_iff_eq,Bool.or_eq_true,Bool.not_eq_true'] at h
  obtain ⟨⟨rfl,rfl⟩,h3⟩ := h
  refine ⟨b,e',rfl,rfl,fun hb => ?_⟩
  subst hb
  rcases h3 with h3 | h3
  · cases h3
  · exact h3
end Go.Proofs.Ytpgecdidddoglaa.P
