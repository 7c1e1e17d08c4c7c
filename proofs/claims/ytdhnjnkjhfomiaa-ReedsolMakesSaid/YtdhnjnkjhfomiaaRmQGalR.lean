/- Fields: what the document's Two, Inv, Pow, Log say, in plain words. -/
import Derived.Test.YtdhnjnkjhfomiaaRmQGalM
set_option linter.unusedVariables false
set_option linter.unusedSimpArgs false
namespace Go.Proofs.Ytdhnjnkjhfomiaa.GalP
open Go.RowKit P YtdhnjnkjhfomiaaW.PrintWords YtdhnjnkjhfomiaaW.PrintLast YtdhnjnkjhfomiaaW.PrintMore YtdhnjnkjhfomiaaW.Q
open Gal
theorem pw_one {m p : Nat} (F : Fi m p) : pw p (2 ^ m) 1 = 2 := by
  have h8 := F.sz8
  show stp p (2 ^ m) 1 = 2
  unfold stp
  rw [if_neg (by omega)]
end Go.Proofs.Ytdhnjnkjhfomiaa.GalP
