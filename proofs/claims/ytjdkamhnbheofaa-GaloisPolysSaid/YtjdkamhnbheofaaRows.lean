/-
  No cell of these rows narrows 'for every input' (looked for: loops, veiled, ifaces, maps, wideKeys, modest, calm, conditions, laid).
  DERIVED. THE GIVEN ROWS OF THIS SEAT. 5 by the template 'for every input the law returns true; each argument reads behind the call as it read before'; 0 by the template 'total and deterministic' (their statements: YtjdkamhnbheofaaTotals.lean).
  GIVEN WITH THE SEED: the statements are not yours to turn. If you find one false, say at which input.
  Laid BY PROGRAM, IN A SANDBOX (cutbox-rows.mjs): the forced cells as the released guide's own fill.sh prints them over the translation 73accd97454e0554… (all of the seat's roots in one cut). By AI agents, Wed Nov 11 2026. No macro, syntax, notation, axiom, sorry.
-/
import Derived.Test.YtjdkamhnbheofaaChecked
import GoSem.Claim
import GoSem.ClaimJoined
import GoSem.ClaimMapViews
import Derived.JoinedTies
import Derived.KernelRfl
namespace Go.Proofs.Ytjdkamhnbheofaa
/- THE CELL 'sum', in the pinned program and in every row, IS THE sha256 OF THE DUMP (.gsa) THAT YtjdkamhnbheofaaProg.lean LOADS. Nothing in Lean hashes anything: it is a label: what it is worth is what the hold of that sum in a sandbox is worth. -/
noncomputable def Try.pinned : Pinned := { name := "ytjdkamhnbheofaa", sum := "73accd97454e0554ee26d922306cce56fd5a246123c7b62c8f2677e231ac6ad2", checked := Try.checked }
namespace Rows
def none {H : Type} : Left H := { results := [], args := [] }

/-- 'outpostlaw32.GaloisThrough': WHATEVER THE INPUT: true; the input reads as it did. -/
def galoisThroughSpec : ChangeSpec := { name := "galoisThrough", fn := fun _ => fun
  | [d1, d2, d3] => { results := [.lit (.bool true)], args := [d1, d2, d3] }
  | _ => none }
def galoisThroughRow : OpenClaim := { program := "ytjdkamhnbheofaa", sum := "73accd97454e0554ee26d922306cce56fd5a246123c7b62c8f2677e231ac6ad2", func := "outpost/outpostlaw32.GaloisThrough", spec := "galoisThrough", unfollowed := true, recurses := true, apart := false }
def GaloisThroughSaid : Prop := galoisThroughRow.holds Try.pinned (OpenSpec.ofChange galoisThroughSpec)

/-- ITS FALSE NEIGHBOUR: 'it returns false'. Refute it at one input. -/
def galoisThroughWrong : ChangeSpec := { name := "galoisThrough", fn := fun _ => fun
  | [d1, d2, d3] => { results := [.lit (.bool false)], args := [d1, d2, d3] }
  | _ => none }
def GaloisThroughWrongFalsely : Prop := galoisThroughRow.holds Try.pinned (OpenSpec.ofChange galoisThroughWrong)

/-- 'outpostlaw32.GaloisDegrees': WHATEVER THE INPUT: true; the input reads as it did. -/
def galoisDegreesSpec : ChangeSpec := { name := "galoisDegrees", fn := fun _ => fun
  | [d1, d2, d3] => { results := [.lit (.bool true)], args := [d1, d2, d3] }
  | _ => none }
def galoisDegreesRow : OpenClaim := { program := "ytjdkamhnbheofaa", sum := "73accd97454e0554ee26d922306cce56fd5a246123c7b62c8f2677e231ac6ad2", func := "outpost/outpostlaw32.GaloisDegrees", spec := "galoisDegrees", unfollowed := true, recurses := true, apart := false }
def GaloisDegreesSaid : Prop := galoisDegreesRow.holds Try.pinned (OpenSpec.ofChange galoisDegreesSpec)

/-- ITS FALSE NEIGHBOUR: 'it returns false'. Refute it at one input. -/
def galoisDegreesWrong : ChangeSpec := { name := "galoisDegrees", fn := fun _ => fun
  | [d1, d2, d3] => { results := [.lit (.bool false)], args := [d1, d2, d3] }
  | _ => none }
def GaloisDegreesWrongFalsely : Prop := galoisDegreesRow.holds Try.pinned (OpenSpec.ofChange galoisDegreesWrong)

/-- 'outpostlaw32.GaloisPolys': WHATEVER THE INPUT: true; the input reads as it did. -/
def galoisPolysSpec : ChangeSpec := { name := "galoisPolys", fn := fun _ => fun
  | [d1, d2, d3, d4] => { results := [.lit (.bool true)], args := [d1, d2, d3, d4] }
  | _ => none }
def galoisPolysRow : OpenClaim := { program := "ytjdkamhnbheofaa", sum := "73accd97454e0554ee26d922306cce56fd5a246123c7b62c8f2677e231ac6ad2", func := "outpost/outpostlaw32.GaloisPolys", spec := "galoisPolys", unfollowed := true, recurses := true, apart := false }
def GaloisPolysSaid : Prop := galoisPolysRow.holds Try.pinned (OpenSpec.ofChange galoisPolysSpec)

/-- ITS FALSE NEIGHBOUR: 'it returns false'. Refute it at one input. -/
def galoisPolysWrong : ChangeSpec := { name := "galoisPolys", fn := fun _ => fun
  | [d1, d2, d3, d4] => { results := [.lit (.bool false)], args := [d1, d2, d3, d4] }
  | _ => none }
def GaloisPolysWrongFalsely : Prop := galoisPolysRow.holds Try.pinned (OpenSpec.ofChange galoisPolysWrong)

/-- 'outpostlaw32.GaloisRoots': WHATEVER THE INPUT: true; the input reads as it did. -/
def galoisRootsSpec : ChangeSpec := { name := "galoisRoots", fn := fun _ => fun
  | [d1, d2, d3] => { results := [.lit (.bool true)], args := [d1, d2, d3] }
  | _ => none }
def galoisRootsRow : OpenClaim := { program := "ytjdkamhnbheofaa", sum := "73accd97454e0554ee26d922306cce56fd5a246123c7b62c8f2677e231ac6ad2", func := "outpost/outpostlaw32.GaloisRoots", spec := "galoisRoots", unfollowed := true, recurses := true, apart := false }
def GaloisRootsSaid : Prop := galoisRootsRow.holds Try.pinned (OpenSpec.ofChange galoisRootsSpec)

/-- ITS FALSE NEIGHBOUR: 'it returns false'. Refute it at one input. -/
def galoisRootsWrong : ChangeSpec := { name := "galoisRoots", fn := fun _ => fun
  | [d1, d2, d3] => { results := [.lit (.bool false)], args := [d1, d2, d3] }
  | _ => none }
def GaloisRootsWrongFalsely : Prop := galoisRootsRow.holds Try.pinned (OpenSpec.ofChange galoisRootsWrong)

/-- 'outpostlaw32.GaloisPoints': WHATEVER THE INPUT: true; the input reads as it did. -/
def galoisPointsSpec : ChangeSpec := { name := "galoisPoints", fn := fun _ => fun
  | [d1, d2, d3] => { results := [.lit (.bool true)], args := [d1, d2, d3] }
  | _ => none }
def galoisPointsRow : OpenClaim := { program := "ytjdkamhnbheofaa", sum := "73accd97454e0554ee26d922306cce56fd5a246123c7b62c8f2677e231ac6ad2", func := "outpost/outpostlaw32.GaloisPoints", spec := "galoisPoints", unfollowed := true, recurses := true, apart := false }
def GaloisPointsSaid : Prop := galoisPointsRow.holds Try.pinned (OpenSpec.ofChange galoisPointsSpec)

/-- ITS FALSE NEIGHBOUR: 'it returns false'. Refute it at one input. -/
def galoisPointsWrong : ChangeSpec := { name := "galoisPoints", fn := fun _ => fun
  | [d1, d2, d3] => { results := [.lit (.bool false)], args := [d1, d2, d3] }
  | _ => none }
def GaloisPointsWrongFalsely : Prop := galoisPointsRow.holds Try.pinned (OpenSpec.ofChange galoisPointsWrong)

/- THE SECOND FORM. 'bulk': how many values and letters a reading holds, each counted each time it is reached (what is shared counts as often as it is met; a slice's spare places count too). A statement '..UptoSaid' is the law's where the arguments, and the package variables that the reading takes, are together of bulk at most 1048576: NARROWER than '..Said'. Prove '..Said' where nothing that the law and all that it calls make is longer than what came in: it says more and counts as full. Else prove '..UptoSaid'. A law counts once. -/
mutual
def uptoBulk {H : Type} : DataW H → Nat
  | .lit (.string bytes) => bytes.length + 1
  | .lit _ => 1
  | .nil => 1
  | .ptr d => uptoBulk d + 1
  | .slice elems spare => uptoBulkAll elems + uptoBulkAll spare + 1
  | .agg parts => uptoBulkAll parts + 1
  | .iface _ d => uptoBulk d + 1
  | .map entries => uptoBulkEntries entries + 1
  | .held _ => 1
def uptoBulkAll {H : Type} : List (DataW H) → Nat
  | [] => 0
  | d :: r => uptoBulk d + uptoBulkAll r
def uptoBulkEntries {H : Type} : List (Lit × DataW H) → Nat
  | [] => 0
  | x :: r => uptoBulkEntry x + uptoBulkEntries r
def uptoBulkEntry {H : Type} : Lit × DataW H → Nat
  | (.string bytes, d) => bytes.length + uptoBulk d + 1
  | (_, d) => uptoBulk d + 1
 end
def uptoSmall : (H : Type) → List (DataW H) → Bool := fun _ ds => decide (uptoBulkAll ds ≤ 1048576)
def OpenSpec.upto (s : _root_.Go.ChangeSpec) : _root_.Go.OpenSpec := { _root_.Go.OpenSpec.ofChange s with cond := some uptoSmall }

/-- 'outpostlaw32.GaloisThrough', WHERE WHAT IT READS IS OF BULK AT MOST 1048576: true; the input reads as it did. -/
def galoisThroughUptoRow : OpenClaim := { program := "ytjdkamhnbheofaa", sum := "73accd97454e0554ee26d922306cce56fd5a246123c7b62c8f2677e231ac6ad2", func := "outpost/outpostlaw32.GaloisThrough", spec := "galoisThrough", unfollowed := true, recurses := true, apart := false, narrowed := true }
def GaloisThroughUptoSaid : Prop := galoisThroughUptoRow.holds Try.pinned (OpenSpec.upto galoisThroughSpec)

/-- 'outpostlaw32.GaloisDegrees', WHERE WHAT IT READS IS OF BULK AT MOST 1048576: true; the input reads as it did. -/
def galoisDegreesUptoRow : OpenClaim := { program := "ytjdkamhnbheofaa", sum := "73accd97454e0554ee26d922306cce56fd5a246123c7b62c8f2677e231ac6ad2", func := "outpost/outpostlaw32.GaloisDegrees", spec := "galoisDegrees", unfollowed := true, recurses := true, apart := false, narrowed := true }
def GaloisDegreesUptoSaid : Prop := galoisDegreesUptoRow.holds Try.pinned (OpenSpec.upto galoisDegreesSpec)

/-- 'outpostlaw32.GaloisPolys', WHERE WHAT IT READS IS OF BULK AT MOST 1048576: true; the input reads as it did. -/
def galoisPolysUptoRow : OpenClaim := { program := "ytjdkamhnbheofaa", sum := "73accd97454e0554ee26d922306cce56fd5a246123c7b62c8f2677e231ac6ad2", func := "outpost/outpostlaw32.GaloisPolys", spec := "galoisPolys", unfollowed := true, recurses := true, apart := false, narrowed := true }
def GaloisPolysUptoSaid : Prop := galoisPolysUptoRow.holds Try.pinned (OpenSpec.upto galoisPolysSpec)

/-- 'outpostlaw32.GaloisRoots', WHERE WHAT IT READS IS OF BULK AT MOST 1048576: true; the input reads as it did. -/
def galoisRootsUptoRow : OpenClaim := { program := "ytjdkamhnbheofaa", sum := "73accd97454e0554ee26d922306cce56fd5a246123c7b62c8f2677e231ac6ad2", func := "outpost/outpostlaw32.GaloisRoots", spec := "galoisRoots", unfollowed := true, recurses := true, apart := false, narrowed := true }
def GaloisRootsUptoSaid : Prop := galoisRootsUptoRow.holds Try.pinned (OpenSpec.upto galoisRootsSpec)

/-- 'outpostlaw32.GaloisPoints', WHERE WHAT IT READS IS OF BULK AT MOST 1048576: true; the input reads as it did. -/
def galoisPointsUptoRow : OpenClaim := { program := "ytjdkamhnbheofaa", sum := "73accd97454e0554ee26d922306cce56fd5a246123c7b62c8f2677e231ac6ad2", func := "outpost/outpostlaw32.GaloisPoints", spec := "galoisPoints", unfollowed := true, recurses := true, apart := false, narrowed := true }
def GaloisPointsUptoSaid : Prop := galoisPointsUptoRow.holds Try.pinned (OpenSpec.upto galoisPointsSpec)

end Rows
end Go.Proofs.Ytjdkamhnbheofaa
