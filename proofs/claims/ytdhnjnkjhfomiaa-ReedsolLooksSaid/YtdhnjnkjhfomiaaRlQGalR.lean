/- Fields: what the document's Two, Inv, Pow, Log say, in plain words. -/
import Derived.Test.YtdhnjnkjhfomiaaRlQGalM
set_option linter.unusedVariables false
set_option linter.unusedSimpArgs false
namespace Go.Proofs.Ytdhnjnkjhfomiaa.GalP
open Go.RowKit Go.Proofs.Ytdhnjnkjhfomiaa.P Go.Proofs.YtdhnjnkjhfomiaaW.PrintWords Go.Proofs.YtdhnjnkjhfomiaaW.PrintLast Go.Proofs.YtdhnjnkjhfomiaaW.PrintMore Go.Proofs.YtdhnjnkjhfomiaaW.Q
open Go.Proofs.Ytdhnjnkjhfomiaa.Gal
theorem pw_one {m p : Nat} (F : Fi m p) : pw p (2 ^ m) 1 = 2 := by
  have h8 := F.sz8
  show stp p (2 ^ m) 1 = 2
  unfold stp
  rw [if_neg (by omega)]
end Go.Proofs.Ytdhnjnkjhfomiaa.GalP
