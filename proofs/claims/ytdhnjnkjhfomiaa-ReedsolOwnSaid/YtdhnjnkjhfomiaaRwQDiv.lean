/- Words: a row of one's own whose room is its length, cut from the front with its length as the new room ('a = a[1:len(a):len(a)]'). No program in sight. -/
import Derived.Test.YtdhnjnkjhfomiaaRwQLent
import Derived.Test.YtdhnjnkjhfomiaaRwWAll
set_option linter.unusedVariables false
set_option linter.unusedSimpArgs false
namespace Go.Proofs.YtdhnjnkjhfomiaaW.PrintWords
open Go.RowKit
namespace Kd
def Tight (v : Value) : Prop := ∃ A n,v = .slice A n n
def Z {α : Type} (d : Kd α) (e : Nat) (w : World) (base : Nat) (ok : Nat → Prop) (v : Value) (xs : List α) : Prop := d.Q e w base ok v xs ∧ Tight v
section
variable {α : Type} {d : Kd α} {e base : Nat} {ok ok' : Nat → Prop} {w w1 W : World} {v : Value} {xs : List α}
end
section
variable {α : Type} {enc : α → Value} {h1 : ∀ x,(enc x).oneCell' = true} {e base g o n cap : Nat} {ok : Nat → Prop} {W : World} {xs : List α}
end
section
variable {P : Program} {ops : Array Oper} {rest : List Oper} {o : Oper} {a : Act} {W : World} {Q : Exit → Act → World → Prop} {α : Type}
end
end Kd
end Go.Proofs.YtdhnjnkjhfomiaaW.PrintWords
