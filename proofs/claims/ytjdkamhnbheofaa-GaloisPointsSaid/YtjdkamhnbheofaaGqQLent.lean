/- Words for rows that are lent: a slice with marks behind it, in the same memory. No program in sight. -/
import Derived.Test.YtjdkamhnbheofaaGqWAll
set_option linter.unusedVariables false
set_option linter.unusedSimpArgs false
namespace Go.Proofs.YtjdkamhnbheofaaW.PrintWords
open Go.RowKit
namespace Kd
/-- What stands behind a lent row. -/
def marks : List Int := [200, 201, 202, 203, 204, 205, 206, 207]
/-- A lent row: the marks lie behind it, within its room. -/
def L (d : Kd Int) (e : Nat) (w : World) (base : Nat) (ok : Nat → Prop) (v : Value) (xs : List Int) : Prop :=
  ∃ g cap, v = .slice (some ⟨g, 0, none⟩) xs.length cap ∧ d.R e w base ok (.slice (some ⟨g, 0, none⟩) (xs ++ marks).length cap) (xs ++ marks)
section
variable {d : Kd Int} {e e' : Nat} {w w1 W w' W2 : World} {base base' : Nat} {ok ok' : Nat → Prop} {u v : Value} {xs : List Int} {m g : Nat} {N : Nat} {S : Nat → Prop} {o : Obj}
end
end Kd
end Go.Proofs.YtjdkamhnbheofaaW.PrintWords
