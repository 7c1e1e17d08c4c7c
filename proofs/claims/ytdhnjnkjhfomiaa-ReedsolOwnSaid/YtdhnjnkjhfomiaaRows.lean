/-
  No cell of these rows narrows 'for every input' (looked for: loops, veiled, ifaces, maps, wideKeys, modest, calm, conditions, laid).
  DERIVED. THE GIVEN ROWS OF THIS SEAT. 6 by the template 'for every input the law returns true; each argument reads behind the call as it read before'; 0 by the template 'total and deterministic' (their statements: YtdhnjnkjhfomiaaTotals.lean).
  GIVEN WITH THE SEED: the statements are not yours to turn. If you find one false, say at which input.
  Laid BY PROGRAM, IN A SANDBOX (cutbox-rows.mjs): the forced cells as the released guide's own fill.sh prints them over the translation 36a6ba0444100ef1… (all of the seat's roots in one cut). By AI agents, Wed Nov 11 2026. No macro, syntax, notation, axiom, sorry.
-/
import Derived.Test.YtdhnjnkjhfomiaaChecked
import GoSem.Claim
import GoSem.ClaimJoined
import GoSem.ClaimMapViews
import Derived.JoinedTies
import Derived.KernelRfl
namespace Go.Proofs.Ytdhnjnkjhfomiaa
/- THE CELL 'sum', in the pinned program and in every row, IS THE sha256 OF THE DUMP (.gsa) THAT YtdhnjnkjhfomiaaProg.lean LOADS. Nothing in Lean hashes anything: it is a label: what it is worth is what the hold of that sum in a sandbox is worth. -/
noncomputable def Try.pinned : Pinned := { name := "ytdhnjnkjhfomiaa", sum := "36a6ba0444100ef15c3650cc6c045f5b72ea6d751d660c1a4f2e9604c31f6434", checked := Try.checked }
namespace Rows
def none {H : Type} : Left H := { results := [], args := [] }

/-- 'outpostlaw33.ReedsolLooks': WHATEVER THE INPUT: true; the input reads as it did. -/
def reedsolLooksSpec : ChangeSpec := { name := "reedsolLooks", fn := fun _ => fun
  | [d1, d2] => { results := [.lit (.bool true)], args := [d1, d2] }
  | _ => none }
def reedsolLooksRow : OpenClaim := { program := "ytdhnjnkjhfomiaa", sum := "36a6ba0444100ef15c3650cc6c045f5b72ea6d751d660c1a4f2e9604c31f6434", func := "outpost/outpostlaw33.ReedsolLooks", spec := "reedsolLooks", unfollowed := true, recurses := true, apart := false }
def ReedsolLooksSaid : Prop := reedsolLooksRow.holds Try.pinned (OpenSpec.ofChange reedsolLooksSpec)

/-- ITS FALSE NEIGHBOUR: 'it returns false'. Refute it at one input. -/
def reedsolLooksWrong : ChangeSpec := { name := "reedsolLooks", fn := fun _ => fun
  | [d1, d2] => { results := [.lit (.bool false)], args := [d1, d2] }
  | _ => none }
def ReedsolLooksWrongFalsely : Prop := reedsolLooksRow.holds Try.pinned (OpenSpec.ofChange reedsolLooksWrong)

/-- 'outpostlaw33.ReedsolMakes': WHATEVER THE INPUT: true; the input reads as it did. -/
def reedsolMakesSpec : ChangeSpec := { name := "reedsolMakes", fn := fun _ => fun
  | [d1, d2] => { results := [.lit (.bool true)], args := [d1, d2] }
  | _ => none }
def reedsolMakesRow : OpenClaim := { program := "ytdhnjnkjhfomiaa", sum := "36a6ba0444100ef15c3650cc6c045f5b72ea6d751d660c1a4f2e9604c31f6434", func := "outpost/outpostlaw33.ReedsolMakes", spec := "reedsolMakes", unfollowed := true, recurses := true, apart := false }
def ReedsolMakesSaid : Prop := reedsolMakesRow.holds Try.pinned (OpenSpec.ofChange reedsolMakesSpec)

/-- ITS FALSE NEIGHBOUR: 'it returns false'. Refute it at one input. -/
def reedsolMakesWrong : ChangeSpec := { name := "reedsolMakes", fn := fun _ => fun
  | [d1, d2] => { results := [.lit (.bool false)], args := [d1, d2] }
  | _ => none }
def ReedsolMakesWrongFalsely : Prop := reedsolMakesRow.holds Try.pinned (OpenSpec.ofChange reedsolMakesWrong)

/-- 'outpostlaw33.ReedsolAdds': WHATEVER THE INPUT: true; the input reads as it did. -/
def reedsolAddsSpec : ChangeSpec := { name := "reedsolAdds", fn := fun _ => fun
  | [d1, d2, d3] => { results := [.lit (.bool true)], args := [d1, d2, d3] }
  | _ => none }
def reedsolAddsRow : OpenClaim := { program := "ytdhnjnkjhfomiaa", sum := "36a6ba0444100ef15c3650cc6c045f5b72ea6d751d660c1a4f2e9604c31f6434", func := "outpost/outpostlaw33.ReedsolAdds", spec := "reedsolAdds", unfollowed := true, recurses := true, apart := false }
def ReedsolAddsSaid : Prop := reedsolAddsRow.holds Try.pinned (OpenSpec.ofChange reedsolAddsSpec)

/-- ITS FALSE NEIGHBOUR: 'it returns false'. Refute it at one input. -/
def reedsolAddsWrong : ChangeSpec := { name := "reedsolAdds", fn := fun _ => fun
  | [d1, d2, d3] => { results := [.lit (.bool false)], args := [d1, d2, d3] }
  | _ => none }
def ReedsolAddsWrongFalsely : Prop := reedsolAddsRow.holds Try.pinned (OpenSpec.ofChange reedsolAddsWrong)

/-- 'outpostlaw33.ReedsolApart': WHATEVER THE INPUT: true; the input reads as it did. -/
def reedsolApartSpec : ChangeSpec := { name := "reedsolApart", fn := fun _ => fun
  | [d1, d2, d3] => { results := [.lit (.bool true)], args := [d1, d2, d3] }
  | _ => none }
def reedsolApartRow : OpenClaim := { program := "ytdhnjnkjhfomiaa", sum := "36a6ba0444100ef15c3650cc6c045f5b72ea6d751d660c1a4f2e9604c31f6434", func := "outpost/outpostlaw33.ReedsolApart", spec := "reedsolApart", unfollowed := true, recurses := true, apart := false }
def ReedsolApartSaid : Prop := reedsolApartRow.holds Try.pinned (OpenSpec.ofChange reedsolApartSpec)

/-- ITS FALSE NEIGHBOUR: 'it returns false'. Refute it at one input. -/
def reedsolApartWrong : ChangeSpec := { name := "reedsolApart", fn := fun _ => fun
  | [d1, d2, d3] => { results := [.lit (.bool false)], args := [d1, d2, d3] }
  | _ => none }
def ReedsolApartWrongFalsely : Prop := reedsolApartRow.holds Try.pinned (OpenSpec.ofChange reedsolApartWrong)

/-- 'outpostlaw33.ReedsolOwn': WHATEVER THE INPUT: true; the input reads as it did. -/
def reedsolOwnSpec : ChangeSpec := { name := "reedsolOwn", fn := fun _ => fun
  | [d1, d2] => { results := [.lit (.bool true)], args := [d1, d2] }
  | _ => none }
def reedsolOwnRow : OpenClaim := { program := "ytdhnjnkjhfomiaa", sum := "36a6ba0444100ef15c3650cc6c045f5b72ea6d751d660c1a4f2e9604c31f6434", func := "outpost/outpostlaw33.ReedsolOwn", spec := "reedsolOwn", unfollowed := true, recurses := true, apart := false }
def ReedsolOwnSaid : Prop := reedsolOwnRow.holds Try.pinned (OpenSpec.ofChange reedsolOwnSpec)

/-- ITS FALSE NEIGHBOUR: 'it returns false'. Refute it at one input. -/
def reedsolOwnWrong : ChangeSpec := { name := "reedsolOwn", fn := fun _ => fun
  | [d1, d2] => { results := [.lit (.bool false)], args := [d1, d2] }
  | _ => none }
def ReedsolOwnWrongFalsely : Prop := reedsolOwnRow.holds Try.pinned (OpenSpec.ofChange reedsolOwnWrong)

/-- 'outpostlaw33.ReedsolHonest': WHATEVER THE INPUT: true; the input reads as it did. -/
def reedsolHonestSpec : ChangeSpec := { name := "reedsolHonest", fn := fun _ => fun
  | [d1, d2, d3] => { results := [.lit (.bool true)], args := [d1, d2, d3] }
  | _ => none }
def reedsolHonestRow : OpenClaim := { program := "ytdhnjnkjhfomiaa", sum := "36a6ba0444100ef15c3650cc6c045f5b72ea6d751d660c1a4f2e9604c31f6434", func := "outpost/outpostlaw33.ReedsolHonest", spec := "reedsolHonest", unfollowed := true, recurses := true, apart := false }
def ReedsolHonestSaid : Prop := reedsolHonestRow.holds Try.pinned (OpenSpec.ofChange reedsolHonestSpec)

/-- ITS FALSE NEIGHBOUR: 'it returns false'. Refute it at one input. -/
def reedsolHonestWrong : ChangeSpec := { name := "reedsolHonest", fn := fun _ => fun
  | [d1, d2, d3] => { results := [.lit (.bool false)], args := [d1, d2, d3] }
  | _ => none }
def ReedsolHonestWrongFalsely : Prop := reedsolHonestRow.holds Try.pinned (OpenSpec.ofChange reedsolHonestWrong)

/- THE SECOND FORM. 'bulk': how many values and letters a reading holds, each counted each time it is reached (what is shared counts as often as it is met; a slice's spare places count too). A statement '..UptoSaid' is the law's where the arguments, and the package variables that the reading takes, are together of bulk at most 1048576: NARROWER than '..Said'. Prove '..Said' where nothing that the law and all that it calls make is longer than what came in: it says more and counts as full. Else prove '..UptoSaid'. A law counts once. -/
mutual
def uptoBulk {H : Type} : DataW H → Nat
  | .lit (.string bytes) => bytes.length + 1
  | .lit _ => 1
  | .nil => 1
  | .ptr d => uptoBulk d + 1
  | .slice elems spare => uptoBulkAll elems + uptoBulkAll spare + 1
  | .agg parts => uptoBulkAll parts + 1
  | .iface _ d => uptoBulk d + 1
  | .map entries => uptoBulkEntries entries + 1
  | .held _ => 1
def uptoBulkAll {H : Type} : List (DataW H) → Nat
  | [] => 0
  | d :: r => uptoBulk d + uptoBulkAll r
def uptoBulkEntries {H : Type} : List (Lit × DataW H) → Nat
  | [] => 0
  | x :: r => uptoBulkEntry x + uptoBulkEntries r
def uptoBulkEntry {H : Type} : Lit × DataW H → Nat
  | (.string bytes, d) => bytes.length + uptoBulk d + 1
  | (_, d) => uptoBulk d + 1
 end
def uptoSmall : (H : Type) → List (DataW H) → Bool := fun _ ds => decide (uptoBulkAll ds ≤ 1048576)
def OpenSpec.upto (s : _root_.Go.ChangeSpec) : _root_.Go.OpenSpec := { _root_.Go.OpenSpec.ofChange s with cond := some uptoSmall }

/-- 'outpostlaw33.ReedsolLooks', WHERE WHAT IT READS IS OF BULK AT MOST 1048576: true; the input reads as it did. -/
def reedsolLooksUptoRow : OpenClaim := { program := "ytdhnjnkjhfomiaa", sum := "36a6ba0444100ef15c3650cc6c045f5b72ea6d751d660c1a4f2e9604c31f6434", func := "outpost/outpostlaw33.ReedsolLooks", spec := "reedsolLooks", unfollowed := true, recurses := true, apart := false, narrowed := true }
def ReedsolLooksUptoSaid : Prop := reedsolLooksUptoRow.holds Try.pinned (OpenSpec.upto reedsolLooksSpec)

/-- 'outpostlaw33.ReedsolMakes', WHERE WHAT IT READS IS OF BULK AT MOST 1048576: true; the input reads as it did. -/
def reedsolMakesUptoRow : OpenClaim := { program := "ytdhnjnkjhfomiaa", sum := "36a6ba0444100ef15c3650cc6c045f5b72ea6d751d660c1a4f2e9604c31f6434", func := "outpost/outpostlaw33.ReedsolMakes", spec := "reedsolMakes", unfollowed := true, recurses := true, apart := false, narrowed := true }
def ReedsolMakesUptoSaid : Prop := reedsolMakesUptoRow.holds Try.pinned (OpenSpec.upto reedsolMakesSpec)

/-- 'outpostlaw33.ReedsolAdds', WHERE WHAT IT READS IS OF BULK AT MOST 1048576: true; the input reads as it did. -/
def reedsolAddsUptoRow : OpenClaim := { program := "ytdhnjnkjhfomiaa", sum := "36a6ba0444100ef15c3650cc6c045f5b72ea6d751d660c1a4f2e9604c31f6434", func := "outpost/outpostlaw33.ReedsolAdds", spec := "reedsolAdds", unfollowed := true, recurses := true, apart := false, narrowed := true }
def ReedsolAddsUptoSaid : Prop := reedsolAddsUptoRow.holds Try.pinned (OpenSpec.upto reedsolAddsSpec)

/-- 'outpostlaw33.ReedsolApart', WHERE WHAT IT READS IS OF BULK AT MOST 1048576: true; the input reads as it did. -/
def reedsolApartUptoRow : OpenClaim := { program := "ytdhnjnkjhfomiaa", sum := "36a6ba0444100ef15c3650cc6c045f5b72ea6d751d660c1a4f2e9604c31f6434", func := "outpost/outpostlaw33.ReedsolApart", spec := "reedsolApart", unfollowed := true, recurses := true, apart := false, narrowed := true }
def ReedsolApartUptoSaid : Prop := reedsolApartUptoRow.holds Try.pinned (OpenSpec.upto reedsolApartSpec)

/-- 'outpostlaw33.ReedsolOwn', WHERE WHAT IT READS IS OF BULK AT MOST 1048576: true; the input reads as it did. -/
def reedsolOwnUptoRow : OpenClaim := { program := "ytdhnjnkjhfomiaa", sum := "36a6ba0444100ef15c3650cc6c045f5b72ea6d751d660c1a4f2e9604c31f6434", func := "outpost/outpostlaw33.ReedsolOwn", spec := "reedsolOwn", unfollowed := true, recurses := true, apart := false, narrowed := true }
def ReedsolOwnUptoSaid : Prop := reedsolOwnUptoRow.holds Try.pinned (OpenSpec.upto reedsolOwnSpec)

/-- 'outpostlaw33.ReedsolHonest', WHERE WHAT IT READS IS OF BULK AT MOST 1048576: true; the input reads as it did. -/
def reedsolHonestUptoRow : OpenClaim := { program := "ytdhnjnkjhfomiaa", sum := "36a6ba0444100ef15c3650cc6c045f5b72ea6d751d660c1a4f2e9604c31f6434", func := "outpost/outpostlaw33.ReedsolHonest", spec := "reedsolHonest", unfollowed := true, recurses := true, apart := false, narrowed := true }
def ReedsolHonestUptoSaid : Prop := reedsolHonestUptoRow.holds Try.pinned (OpenSpec.upto reedsolHonestSpec)

end Rows
end Go.Proofs.Ytdhnjnkjhfomiaa
