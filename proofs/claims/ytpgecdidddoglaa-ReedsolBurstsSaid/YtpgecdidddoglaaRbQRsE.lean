/- Reedsol: the law's elements (data out of any bytes). -/
import Derived.Test.YtpgecdidddoglaaRbPx9
import Derived.Test.YtpgecdidddoglaaRbQRsT
import Derived.Test.YtpgecdidddoglaaRbPx16
set_option linter.unusedVariables false
set_option linter.unusedSimpArgs false
namespace Go.Proofs.Ytpgecdidddoglaa.GalP
open Go.RowKit Go.Proofs.Ytpgecdidddoglaa.P Go.Proofs.YtpgecdidddoglaaW.PrintWords Go.Proofs.YtpgecdidddoglaaW.PrintLast Go.Proofs.YtpgecdidddoglaaW.PrintMore Go.Proofs.YtpgecdidddoglaaW.Q
open Go.Proofs.Ytpgecdidddoglaa.Gal
theorem num_id (x : Int) : l4_num.f x = some x := rfl
theorem el_one {m : Nat} (h8 : 2 ^ m ≤ 256) (h0 : 0 < 2 ^ m) {W : List Nat} (hW : ∀ x ∈ W,x < 256) (i : Nat) : Int.tmod (wrap64 (rd (ints W) (i : Int))) ((2 ^ m : Nat) : Int) % 256 = ((W.getD i 0 % 2 ^ m : Nat) : Int) := by
  have hx : W.getD i 0 < 256 := getD_lt hW i
  have hm : W.getD i 0 % 2 ^ m < 2 ^ m := Nat.mod_lt _ h0
  rw [rd_ints,w64 (by omega) (by omega),tmod_nat]
  generalize W.getD i 0 % 2 ^ m = z at hm ⊢
  omega
theorem mn_nat (a b : Nat) : mn (a : Int) (b : Int) = ((min b a : Nat) : Int) := by
  unfold mn
  split <;> omega
end Go.Proofs.Ytpgecdidddoglaa.GalP
