/-
  No cell of these rows narrows 'for every input' (looked for: loops, veiled, ifaces, maps, wideKeys, modest, calm, conditions, laid).
  DERIVED. THE GIVEN ROWS OF THIS SEAT. 11 by the template 'for every input the law returns true; each argument reads behind the call as it read before'; 0 by the template 'total and deterministic' (their statements: YtgebmeojmenomaaTotals.lean).
  GIVEN WITH THE SEED: the statements are not yours to turn. If you find one false, say at which input.
  Laid BY PROGRAM, IN A SANDBOX (cutbox-rows.mjs): the forced cells as the released guide's own fill.sh prints them over the translation 4de12f2d0e1ceeb6… (all of the seat's roots in one cut). By AI agents, Wed Nov 11 2026. No macro, syntax, notation, axiom, sorry.
-/
import Derived.Test.YtgebmeojmenomaaChecked
import GoSem.Claim
import GoSem.ClaimJoined
import GoSem.ClaimMapViews
import Derived.JoinedTies
import Derived.KernelRfl
namespace Go.Proofs.Ytgebmeojmenomaa
/- THE CELL 'sum', in the pinned program and in every row, IS THE sha256 OF THE DUMP (.gsa) THAT YtgebmeojmenomaaProg.lean LOADS. Nothing in Lean hashes anything: it is a label: what it is worth is what the hold of that sum in a sandbox is worth. -/
noncomputable def Try.pinned : Pinned := { name := "ytgebmeojmenomaa", sum := "4de12f2d0e1ceeb65e0ca1863343298612474f47d66e3ac03652d214fa1776e9", checked := Try.checked }
namespace Rows
def none {H : Type} : Left H := { results := [], args := [] }

/-- 'outpostlaw01.BitrowPacks': WHATEVER THE INPUT: true; the input reads as it did. -/
def bitrowPacksSpec : ChangeSpec := { name := "bitrowPacks", fn := fun _ => fun
  | [d] => { results := [.lit (.bool true)], args := [d] }
  | _ => none }
def bitrowPacksRow : OpenClaim := { program := "ytgebmeojmenomaa", sum := "4de12f2d0e1ceeb65e0ca1863343298612474f47d66e3ac03652d214fa1776e9", func := "outpost/outpostlaw01.BitrowPacks", spec := "bitrowPacks", apart := false }
def BitrowPacksSaid : Prop := bitrowPacksRow.holds Try.pinned (OpenSpec.ofChange bitrowPacksSpec)

/-- ITS FALSE NEIGHBOUR: 'it returns false'. Refute it at one input. -/
def bitrowPacksWrong : ChangeSpec := { name := "bitrowPacks", fn := fun _ => fun
  | [d] => { results := [.lit (.bool false)], args := [d] }
  | _ => none }
def BitrowPacksWrongFalsely : Prop := bitrowPacksRow.holds Try.pinned (OpenSpec.ofChange bitrowPacksWrong)

/-- 'outpostlaw01.BitrowUnpacks': WHATEVER THE INPUT: true; the input reads as it did. -/
def bitrowUnpacksSpec : ChangeSpec := { name := "bitrowUnpacks", fn := fun _ => fun
  | [d1, d2] => { results := [.lit (.bool true)], args := [d1, d2] }
  | _ => none }
def bitrowUnpacksRow : OpenClaim := { program := "ytgebmeojmenomaa", sum := "4de12f2d0e1ceeb65e0ca1863343298612474f47d66e3ac03652d214fa1776e9", func := "outpost/outpostlaw01.BitrowUnpacks", spec := "bitrowUnpacks", apart := false }
def BitrowUnpacksSaid : Prop := bitrowUnpacksRow.holds Try.pinned (OpenSpec.ofChange bitrowUnpacksSpec)

/-- ITS FALSE NEIGHBOUR: 'it returns false'. Refute it at one input. -/
def bitrowUnpacksWrong : ChangeSpec := { name := "bitrowUnpacks", fn := fun _ => fun
  | [d1, d2] => { results := [.lit (.bool false)], args := [d1, d2] }
  | _ => none }
def BitrowUnpacksWrongFalsely : Prop := bitrowUnpacksRow.holds Try.pinned (OpenSpec.ofChange bitrowUnpacksWrong)

/-- 'outpostlaw01.BitrowSpreads': WHATEVER THE INPUT: true; the input reads as it did. -/
def bitrowSpreadsSpec : ChangeSpec := { name := "bitrowSpreads", fn := fun _ => fun
  | [d1, d2, d3, d4] => { results := [.lit (.bool true)], args := [d1, d2, d3, d4] }
  | _ => none }
def bitrowSpreadsRow : OpenClaim := { program := "ytgebmeojmenomaa", sum := "4de12f2d0e1ceeb65e0ca1863343298612474f47d66e3ac03652d214fa1776e9", func := "outpost/outpostlaw01.BitrowSpreads", spec := "bitrowSpreads", unfollowed := true, recurses := true, apart := false }
def BitrowSpreadsSaid : Prop := bitrowSpreadsRow.holds Try.pinned (OpenSpec.ofChange bitrowSpreadsSpec)

/-- ITS FALSE NEIGHBOUR: 'it returns false'. Refute it at one input. -/
def bitrowSpreadsWrong : ChangeSpec := { name := "bitrowSpreads", fn := fun _ => fun
  | [d1, d2, d3, d4] => { results := [.lit (.bool false)], args := [d1, d2, d3, d4] }
  | _ => none }
def BitrowSpreadsWrongFalsely : Prop := bitrowSpreadsRow.holds Try.pinned (OpenSpec.ofChange bitrowSpreadsWrong)

/-- 'outpostlaw01.BitrowNumbers': WHATEVER THE INPUT: true; the input reads as it did. -/
def bitrowNumbersSpec : ChangeSpec := { name := "bitrowNumbers", fn := fun _ => fun
  | [d1, d2, d3] => { results := [.lit (.bool true)], args := [d1, d2, d3] }
  | _ => none }
def bitrowNumbersRow : OpenClaim := { program := "ytgebmeojmenomaa", sum := "4de12f2d0e1ceeb65e0ca1863343298612474f47d66e3ac03652d214fa1776e9", func := "outpost/outpostlaw01.BitrowNumbers", spec := "bitrowNumbers", apart := false }
def BitrowNumbersSaid : Prop := bitrowNumbersRow.holds Try.pinned (OpenSpec.ofChange bitrowNumbersSpec)

/-- ITS FALSE NEIGHBOUR: 'it returns false'. Refute it at one input. -/
def bitrowNumbersWrong : ChangeSpec := { name := "bitrowNumbers", fn := fun _ => fun
  | [d1, d2, d3] => { results := [.lit (.bool false)], args := [d1, d2, d3] }
  | _ => none }
def BitrowNumbersWrongFalsely : Prop := bitrowNumbersRow.holds Try.pinned (OpenSpec.ofChange bitrowNumbersWrong)

/-- 'outpostlaw01.BitrowShuffles': WHATEVER THE INPUT: true; the input reads as it did. -/
def bitrowShufflesSpec : ChangeSpec := { name := "bitrowShuffles", fn := fun _ => fun
  | [d1, d2] => { results := [.lit (.bool true)], args := [d1, d2] }
  | _ => none }
def bitrowShufflesRow : OpenClaim := { program := "ytgebmeojmenomaa", sum := "4de12f2d0e1ceeb65e0ca1863343298612474f47d66e3ac03652d214fa1776e9", func := "outpost/outpostlaw01.BitrowShuffles", spec := "bitrowShuffles", unfollowed := true, recurses := true, apart := false }
def BitrowShufflesSaid : Prop := bitrowShufflesRow.holds Try.pinned (OpenSpec.ofChange bitrowShufflesSpec)

/-- ITS FALSE NEIGHBOUR: 'it returns false'. Refute it at one input. -/
def bitrowShufflesWrong : ChangeSpec := { name := "bitrowShuffles", fn := fun _ => fun
  | [d1, d2] => { results := [.lit (.bool false)], args := [d1, d2] }
  | _ => none }
def BitrowShufflesWrongFalsely : Prop := bitrowShufflesRow.holds Try.pinned (OpenSpec.ofChange bitrowShufflesWrong)

/-- 'outpostlaw01.BitrowWoven': WHATEVER THE INPUT: true; the input reads as it did. -/
def bitrowWovenSpec : ChangeSpec := { name := "bitrowWoven", fn := fun _ => fun
  | [d1, d2] => { results := [.lit (.bool true)], args := [d1, d2] }
  | _ => none }
def bitrowWovenRow : OpenClaim := { program := "ytgebmeojmenomaa", sum := "4de12f2d0e1ceeb65e0ca1863343298612474f47d66e3ac03652d214fa1776e9", func := "outpost/outpostlaw01.BitrowWoven", spec := "bitrowWoven", apart := false }
def BitrowWovenSaid : Prop := bitrowWovenRow.holds Try.pinned (OpenSpec.ofChange bitrowWovenSpec)

/-- ITS FALSE NEIGHBOUR: 'it returns false'. Refute it at one input. -/
def bitrowWovenWrong : ChangeSpec := { name := "bitrowWoven", fn := fun _ => fun
  | [d1, d2] => { results := [.lit (.bool false)], args := [d1, d2] }
  | _ => none }
def BitrowWovenWrongFalsely : Prop := bitrowWovenRow.holds Try.pinned (OpenSpec.ofChange bitrowWovenWrong)

/-- 'outpostlaw01.BitrowPairs': WHATEVER THE INPUT: true; the input reads as it did. -/
def bitrowPairsSpec : ChangeSpec := { name := "bitrowPairs", fn := fun _ => fun
  | [d1, d2] => { results := [.lit (.bool true)], args := [d1, d2] }
  | _ => none }
def bitrowPairsRow : OpenClaim := { program := "ytgebmeojmenomaa", sum := "4de12f2d0e1ceeb65e0ca1863343298612474f47d66e3ac03652d214fa1776e9", func := "outpost/outpostlaw01.BitrowPairs", spec := "bitrowPairs", apart := false }
def BitrowPairsSaid : Prop := bitrowPairsRow.holds Try.pinned (OpenSpec.ofChange bitrowPairsSpec)

/-- ITS FALSE NEIGHBOUR: 'it returns false'. Refute it at one input. -/
def bitrowPairsWrong : ChangeSpec := { name := "bitrowPairs", fn := fun _ => fun
  | [d1, d2] => { results := [.lit (.bool false)], args := [d1, d2] }
  | _ => none }
def BitrowPairsWrongFalsely : Prop := bitrowPairsRow.holds Try.pinned (OpenSpec.ofChange bitrowPairsWrong)

/-- 'outpostlaw01.BitrowMetric': WHATEVER THE INPUT: true; the input reads as it did. -/
def bitrowMetricSpec : ChangeSpec := { name := "bitrowMetric", fn := fun _ => fun
  | [d1, d2, d3] => { results := [.lit (.bool true)], args := [d1, d2, d3] }
  | _ => none }
def bitrowMetricRow : OpenClaim := { program := "ytgebmeojmenomaa", sum := "4de12f2d0e1ceeb65e0ca1863343298612474f47d66e3ac03652d214fa1776e9", func := "outpost/outpostlaw01.BitrowMetric", spec := "bitrowMetric", apart := false }
def BitrowMetricSaid : Prop := bitrowMetricRow.holds Try.pinned (OpenSpec.ofChange bitrowMetricSpec)

/-- ITS FALSE NEIGHBOUR: 'it returns false'. Refute it at one input. -/
def bitrowMetricWrong : ChangeSpec := { name := "bitrowMetric", fn := fun _ => fun
  | [d1, d2, d3] => { results := [.lit (.bool false)], args := [d1, d2, d3] }
  | _ => none }
def BitrowMetricWrongFalsely : Prop := bitrowMetricRow.holds Try.pinned (OpenSpec.ofChange bitrowMetricWrong)

/-- 'outpostlaw01.BitrowWeaves': WHATEVER THE INPUT: true; the input reads as it did. -/
def bitrowWeavesSpec : ChangeSpec := { name := "bitrowWeaves", fn := fun _ => fun
  | [d1, d2, d3] => { results := [.lit (.bool true)], args := [d1, d2, d3] }
  | _ => none }
def bitrowWeavesRow : OpenClaim := { program := "ytgebmeojmenomaa", sum := "4de12f2d0e1ceeb65e0ca1863343298612474f47d66e3ac03652d214fa1776e9", func := "outpost/outpostlaw01.BitrowWeaves", spec := "bitrowWeaves", apart := false }
def BitrowWeavesSaid : Prop := bitrowWeavesRow.holds Try.pinned (OpenSpec.ofChange bitrowWeavesSpec)

/-- ITS FALSE NEIGHBOUR: 'it returns false'. Refute it at one input. -/
def bitrowWeavesWrong : ChangeSpec := { name := "bitrowWeaves", fn := fun _ => fun
  | [d1, d2, d3] => { results := [.lit (.bool false)], args := [d1, d2, d3] }
  | _ => none }
def BitrowWeavesWrongFalsely : Prop := bitrowWeavesRow.holds Try.pinned (OpenSpec.ofChange bitrowWeavesWrong)

/-- 'outpostlaw01.BitrowBack': WHATEVER THE INPUT: true; the input reads as it did. -/
def bitrowBackSpec : ChangeSpec := { name := "bitrowBack", fn := fun _ => fun
  | [d1, d2, d3, d4, d5] => { results := [.lit (.bool true)], args := [d1, d2, d3, d4, d5] }
  | _ => none }
def bitrowBackRow : OpenClaim := { program := "ytgebmeojmenomaa", sum := "4de12f2d0e1ceeb65e0ca1863343298612474f47d66e3ac03652d214fa1776e9", func := "outpost/outpostlaw01.BitrowBack", spec := "bitrowBack", unfollowed := true, recurses := true, apart := false }
def BitrowBackSaid : Prop := bitrowBackRow.holds Try.pinned (OpenSpec.ofChange bitrowBackSpec)

/-- ITS FALSE NEIGHBOUR: 'it returns false'. Refute it at one input. -/
def bitrowBackWrong : ChangeSpec := { name := "bitrowBack", fn := fun _ => fun
  | [d1, d2, d3, d4, d5] => { results := [.lit (.bool false)], args := [d1, d2, d3, d4, d5] }
  | _ => none }
def BitrowBackWrongFalsely : Prop := bitrowBackRow.holds Try.pinned (OpenSpec.ofChange bitrowBackWrong)

/-- 'outpostlaw01.BitrowOwn': WHATEVER THE INPUT: true; the input reads as it did. -/
def bitrowOwnSpec : ChangeSpec := { name := "bitrowOwn", fn := fun _ => fun
  | [d1, d2, d3, d4] => { results := [.lit (.bool true)], args := [d1, d2, d3, d4] }
  | _ => none }
def bitrowOwnRow : OpenClaim := { program := "ytgebmeojmenomaa", sum := "4de12f2d0e1ceeb65e0ca1863343298612474f47d66e3ac03652d214fa1776e9", func := "outpost/outpostlaw01.BitrowOwn", spec := "bitrowOwn", unfollowed := true, recurses := true, apart := false }
def BitrowOwnSaid : Prop := bitrowOwnRow.holds Try.pinned (OpenSpec.ofChange bitrowOwnSpec)

/-- ITS FALSE NEIGHBOUR: 'it returns false'. Refute it at one input. -/
def bitrowOwnWrong : ChangeSpec := { name := "bitrowOwn", fn := fun _ => fun
  | [d1, d2, d3, d4] => { results := [.lit (.bool false)], args := [d1, d2, d3, d4] }
  | _ => none }
def BitrowOwnWrongFalsely : Prop := bitrowOwnRow.holds Try.pinned (OpenSpec.ofChange bitrowOwnWrong)

/- THE SECOND FORM. 'bulk': how many values and letters a reading holds, each counted each time it is reached (what is shared counts as often as it is met; a slice's spare places count too). A statement '..UptoSaid' is the law's where the arguments, and the package variables that the reading takes, are together of bulk at most 1048576: NARROWER than '..Said'. Prove '..Said' where nothing that the law and all that it calls make is longer than what came in: it says more and counts as full. Else prove '..UptoSaid'. A law counts once. -/
mutual
def uptoBulk {H : Type} : DataW H → Nat
  | .lit (.string bytes) => bytes.length + 1
  | .lit _ => 1
  | .nil => 1
  | .ptr d => uptoBulk d + 1
  | .slice elems spare => uptoBulkAll elems + uptoBulkAll spare + 1
  | .agg parts => uptoBulkAll parts + 1
  | .iface _ d => uptoBulk d + 1
  | .map entries => uptoBulkEntries entries + 1
  | .held _ => 1
def uptoBulkAll {H : Type} : List (DataW H) → Nat
  | [] => 0
  | d :: r => uptoBulk d + uptoBulkAll r
def uptoBulkEntries {H : Type} : List (Lit × DataW H) → Nat
  | [] => 0
  | x :: r => uptoBulkEntry x + uptoBulkEntries r
def uptoBulkEntry {H : Type} : Lit × DataW H → Nat
  | (.string bytes, d) => bytes.length + uptoBulk d + 1
  | (_, d) => uptoBulk d + 1
 end
def uptoSmall : (H : Type) → List (DataW H) → Bool := fun _ ds => decide (uptoBulkAll ds ≤ 1048576)
def OpenSpec.upto (s : _root_.Go.ChangeSpec) : _root_.Go.OpenSpec := { _root_.Go.OpenSpec.ofChange s with cond := some uptoSmall }

/-- 'outpostlaw01.BitrowPacks', WHERE WHAT IT READS IS OF BULK AT MOST 1048576: true; the input reads as it did. -/
def bitrowPacksUptoRow : OpenClaim := { program := "ytgebmeojmenomaa", sum := "4de12f2d0e1ceeb65e0ca1863343298612474f47d66e3ac03652d214fa1776e9", func := "outpost/outpostlaw01.BitrowPacks", spec := "bitrowPacks", apart := false, narrowed := true }
def BitrowPacksUptoSaid : Prop := bitrowPacksUptoRow.holds Try.pinned (OpenSpec.upto bitrowPacksSpec)

/-- 'outpostlaw01.BitrowUnpacks', WHERE WHAT IT READS IS OF BULK AT MOST 1048576: true; the input reads as it did. -/
def bitrowUnpacksUptoRow : OpenClaim := { program := "ytgebmeojmenomaa", sum := "4de12f2d0e1ceeb65e0ca1863343298612474f47d66e3ac03652d214fa1776e9", func := "outpost/outpostlaw01.BitrowUnpacks", spec := "bitrowUnpacks", apart := false, narrowed := true }
def BitrowUnpacksUptoSaid : Prop := bitrowUnpacksUptoRow.holds Try.pinned (OpenSpec.upto bitrowUnpacksSpec)

/-- 'outpostlaw01.BitrowSpreads', WHERE WHAT IT READS IS OF BULK AT MOST 1048576: true; the input reads as it did. -/
def bitrowSpreadsUptoRow : OpenClaim := { program := "ytgebmeojmenomaa", sum := "4de12f2d0e1ceeb65e0ca1863343298612474f47d66e3ac03652d214fa1776e9", func := "outpost/outpostlaw01.BitrowSpreads", spec := "bitrowSpreads", unfollowed := true, recurses := true, apart := false, narrowed := true }
def BitrowSpreadsUptoSaid : Prop := bitrowSpreadsUptoRow.holds Try.pinned (OpenSpec.upto bitrowSpreadsSpec)

/-- 'outpostlaw01.BitrowNumbers', WHERE WHAT IT READS IS OF BULK AT MOST 1048576: true; the input reads as it did. -/
def bitrowNumbersUptoRow : OpenClaim := { program := "ytgebmeojmenomaa", sum := "4de12f2d0e1ceeb65e0ca1863343298612474f47d66e3ac03652d214fa1776e9", func := "outpost/outpostlaw01.BitrowNumbers", spec := "bitrowNumbers", apart := false, narrowed := true }
def BitrowNumbersUptoSaid : Prop := bitrowNumbersUptoRow.holds Try.pinned (OpenSpec.upto bitrowNumbersSpec)

/-- 'outpostlaw01.BitrowShuffles', WHERE WHAT IT READS IS OF BULK AT MOST 1048576: true; the input reads as it did. -/
def bitrowShufflesUptoRow : OpenClaim := { program := "ytgebmeojmenomaa", sum := "4de12f2d0e1ceeb65e0ca1863343298612474f47d66e3ac03652d214fa1776e9", func := "outpost/outpostlaw01.BitrowShuffles", spec := "bitrowShuffles", unfollowed := true, recurses := true, apart := false, narrowed := true }
def BitrowShufflesUptoSaid : Prop := bitrowShufflesUptoRow.holds Try.pinned (OpenSpec.upto bitrowShufflesSpec)

/-- 'outpostlaw01.BitrowWoven', WHERE WHAT IT READS IS OF BULK AT MOST 1048576: true; the input reads as it did. -/
def bitrowWovenUptoRow : OpenClaim := { program := "ytgebmeojmenomaa", sum := "4de12f2d0e1ceeb65e0ca1863343298612474f47d66e3ac03652d214fa1776e9", func := "outpost/outpostlaw01.BitrowWoven", spec := "bitrowWoven", apart := false, narrowed := true }
def BitrowWovenUptoSaid : Prop := bitrowWovenUptoRow.holds Try.pinned (OpenSpec.upto bitrowWovenSpec)

/-- 'outpostlaw01.BitrowPairs', WHERE WHAT IT READS IS OF BULK AT MOST 1048576: true; the input reads as it did. -/
def bitrowPairsUptoRow : OpenClaim := { program := "ytgebmeojmenomaa", sum := "4de12f2d0e1ceeb65e0ca1863343298612474f47d66e3ac03652d214fa1776e9", func := "outpost/outpostlaw01.BitrowPairs", spec := "bitrowPairs", apart := false, narrowed := true }
def BitrowPairsUptoSaid : Prop := bitrowPairsUptoRow.holds Try.pinned (OpenSpec.upto bitrowPairsSpec)

/-- 'outpostlaw01.BitrowMetric', WHERE WHAT IT READS IS OF BULK AT MOST 1048576: true; the input reads as it did. -/
def bitrowMetricUptoRow : OpenClaim := { program := "ytgebmeojmenomaa", sum := "4de12f2d0e1ceeb65e0ca1863343298612474f47d66e3ac03652d214fa1776e9", func := "outpost/outpostlaw01.BitrowMetric", spec := "bitrowMetric", apart := false, narrowed := true }
def BitrowMetricUptoSaid : Prop := bitrowMetricUptoRow.holds Try.pinned (OpenSpec.upto bitrowMetricSpec)

/-- 'outpostlaw01.BitrowWeaves', WHERE WHAT IT READS IS OF BULK AT MOST 1048576: true; the input reads as it did. -/
def bitrowWeavesUptoRow : OpenClaim := { program := "ytgebmeojmenomaa", sum := "4de12f2d0e1ceeb65e0ca1863343298612474f47d66e3ac03652d214fa1776e9", func := "outpost/outpostlaw01.BitrowWeaves", spec := "bitrowWeaves", apart := false, narrowed := true }
def BitrowWeavesUptoSaid : Prop := bitrowWeavesUptoRow.holds Try.pinned (OpenSpec.upto bitrowWeavesSpec)

/-- 'outpostlaw01.BitrowBack', WHERE WHAT IT READS IS OF BULK AT MOST 1048576: true; the input reads as it did. -/
def bitrowBackUptoRow : OpenClaim := { program := "ytgebmeojmenomaa", sum := "4de12f2d0e1ceeb65e0ca1863343298612474f47d66e3ac03652d214fa1776e9", func := "outpost/outpostlaw01.BitrowBack", spec := "bitrowBack", unfollowed := true, recurses := true, apart := false, narrowed := true }
def BitrowBackUptoSaid : Prop := bitrowBackUptoRow.holds Try.pinned (OpenSpec.upto bitrowBackSpec)

/-- 'outpostlaw01.BitrowOwn', WHERE WHAT IT READS IS OF BULK AT MOST 1048576: true; the input reads as it did. -/
def bitrowOwnUptoRow : OpenClaim := { program := "ytgebmeojmenomaa", sum := "4de12f2d0e1ceeb65e0ca1863343298612474f47d66e3ac03652d214fa1776e9", func := "outpost/outpostlaw01.BitrowOwn", spec := "bitrowOwn", unfollowed := true, recurses := true, apart := false, narrowed := true }
def BitrowOwnUptoSaid : Prop := bitrowOwnUptoRow.holds Try.pinned (OpenSpec.upto bitrowOwnSpec)

end Rows
end Go.Proofs.Ytgebmeojmenomaa
