/-
  No cell of these rows narrows 'for every input' (looked for: loops, veiled, ifaces, maps, wideKeys, modest, calm, conditions, laid).
  DERIVED. THE GIVEN ROWS OF THIS SEAT. 4 by the template 'for every input the law returns true; each argument reads behind the call as it read before'; 0 by the template 'total and deterministic' (their statements: YtpgecdidddoglaaTotals.lean).
  GIVEN WITH THE SEED: the statements are not yours to turn. If you find one false, say at which input.
  Laid BY PROGRAM, IN A SANDBOX (cutbox-rows.mjs): the forced cells as the released guide's own fill.sh prints them over the translation 3674ca544c41e855… (all of the seat's roots in one cut). By AI agents, Wed Nov 11 2026. No macro, syntax, notation, axiom, sorry.
-/
import Derived.Test.YtpgecdidddoglaaChecked
import GoSem.Claim
import GoSem.ClaimJoined
import GoSem.ClaimMapViews
import Derived.JoinedTies
import Derived.KernelRfl
namespace Go.Proofs.Ytpgecdidddoglaa
/- THE CELL 'sum', in the pinned program and in every row, IS THE sha256 OF THE DUMP (.gsa) THAT YtpgecdidddoglaaProg.lean LOADS. Nothing in Lean hashes anything: it is a label: what it is worth is what the hold of that sum in a sandbox is worth. -/
noncomputable def Try.pinned : Pinned := { name := "ytpgecdidddoglaa", sum := "3674ca544c41e855b847b641879e995ba1867e92fed3a64f7f5b7a550b215f9e", checked := Try.checked }
namespace Rows
def none {H : Type} : Left H := { results := [], args := [] }

/-- 'outpostlaw33.ReedsolMends': WHATEVER THE INPUT: true; the input reads as it did. -/
def reedsolMendsSpec : ChangeSpec := { name := "reedsolMends", fn := fun _ => fun
  | [d1, d2, d3] => { results := [.lit (.bool true)], args := [d1, d2, d3] }
  | _ => none }
def reedsolMendsRow : OpenClaim := { program := "ytpgecdidddoglaa", sum := "3674ca544c41e855b847b641879e995ba1867e92fed3a64f7f5b7a550b215f9e", func := "outpost/outpostlaw33.ReedsolMends", spec := "reedsolMends", unfollowed := true, recurses := true, apart := false }
def ReedsolMendsSaid : Prop := reedsolMendsRow.holds Try.pinned (OpenSpec.ofChange reedsolMendsSpec)

/-- ITS FALSE NEIGHBOUR: 'it returns false'. Refute it at one input. -/
def reedsolMendsWrong : ChangeSpec := { name := "reedsolMends", fn := fun _ => fun
  | [d1, d2, d3] => { results := [.lit (.bool false)], args := [d1, d2, d3] }
  | _ => none }
def ReedsolMendsWrongFalsely : Prop := reedsolMendsRow.holds Try.pinned (OpenSpec.ofChange reedsolMendsWrong)

/-- 'outpostlaw33.ReedsolBursts': WHATEVER THE INPUT: true; the input reads as it did. -/
def reedsolBurstsSpec : ChangeSpec := { name := "reedsolBursts", fn := fun _ => fun
  | [d1, d2, d3, d4, d5, d6] => { results := [.lit (.bool true)], args := [d1, d2, d3, d4, d5, d6] }
  | _ => none }
def reedsolBurstsRow : OpenClaim := { program := "ytpgecdidddoglaa", sum := "3674ca544c41e855b847b641879e995ba1867e92fed3a64f7f5b7a550b215f9e", func := "outpost/outpostlaw33.ReedsolBursts", spec := "reedsolBursts", unfollowed := true, recurses := true, apart := false }
def ReedsolBurstsSaid : Prop := reedsolBurstsRow.holds Try.pinned (OpenSpec.ofChange reedsolBurstsSpec)

/-- ITS FALSE NEIGHBOUR: 'it returns false'. Refute it at one input. -/
def reedsolBurstsWrong : ChangeSpec := { name := "reedsolBursts", fn := fun _ => fun
  | [d1, d2, d3, d4, d5, d6] => { results := [.lit (.bool false)], args := [d1, d2, d3, d4, d5, d6] }
  | _ => none }
def ReedsolBurstsWrongFalsely : Prop := reedsolBurstsRow.holds Try.pinned (OpenSpec.ofChange reedsolBurstsWrong)

/-- 'outpostlaw33.ReedsolStripes': WHATEVER THE INPUT: true; the input reads as it did. -/
def reedsolStripesSpec : ChangeSpec := { name := "reedsolStripes", fn := fun _ => fun
  | [d1, d2, d3, d4] => { results := [.lit (.bool true)], args := [d1, d2, d3, d4] }
  | _ => none }
def reedsolStripesRow : OpenClaim := { program := "ytpgecdidddoglaa", sum := "3674ca544c41e855b847b641879e995ba1867e92fed3a64f7f5b7a550b215f9e", func := "outpost/outpostlaw33.ReedsolStripes", spec := "reedsolStripes", unfollowed := true, recurses := true, apart := false }
def ReedsolStripesSaid : Prop := reedsolStripesRow.holds Try.pinned (OpenSpec.ofChange reedsolStripesSpec)

/-- ITS FALSE NEIGHBOUR: 'it returns false'. Refute it at one input. -/
def reedsolStripesWrong : ChangeSpec := { name := "reedsolStripes", fn := fun _ => fun
  | [d1, d2, d3, d4] => { results := [.lit (.bool false)], args := [d1, d2, d3, d4] }
  | _ => none }
def ReedsolStripesWrongFalsely : Prop := reedsolStripesRow.holds Try.pinned (OpenSpec.ofChange reedsolStripesWrong)

/-- 'outpostlaw33.ReedsolDecodes': WHATEVER THE INPUT: true; the input reads as it did. -/
def reedsolDecodesSpec : ChangeSpec := { name := "reedsolDecodes", fn := fun _ => fun
  | [d1, d2, d3] => { results := [.lit (.bool true)], args := [d1, d2, d3] }
  | _ => none }
def reedsolDecodesRow : OpenClaim := { program := "ytpgecdidddoglaa", sum := "3674ca544c41e855b847b641879e995ba1867e92fed3a64f7f5b7a550b215f9e", func := "outpost/outpostlaw33.ReedsolDecodes", spec := "reedsolDecodes", unfollowed := true, recurses := true, apart := false }
def ReedsolDecodesSaid : Prop := reedsolDecodesRow.holds Try.pinned (OpenSpec.ofChange reedsolDecodesSpec)

/-- ITS FALSE NEIGHBOUR: 'it returns false'. Refute it at one input. -/
def reedsolDecodesWrong : ChangeSpec := { name := "reedsolDecodes", fn := fun _ => fun
  | [d1, d2, d3] => { results := [.lit (.bool false)], args := [d1, d2, d3] }
  | _ => none }
def ReedsolDecodesWrongFalsely : Prop := reedsolDecodesRow.holds Try.pinned (OpenSpec.ofChange reedsolDecodesWrong)

/- THE SECOND FORM. 'bulk': how many values and letters a reading holds, each counted each time it is reached (what is shared counts as often as it is met; a slice's spare places count too). A statement '..UptoSaid' is the law's where the arguments, and the package variables that the reading takes, are together of bulk at most 1048576: NARROWER than '..Said'. Prove '..Said' where nothing that the law and all that it calls make is longer than what came in: it says more and counts as full. Else prove '..UptoSaid'. A law counts once. -/
mutual
def uptoBulk {H : Type} : DataW H → Nat
  | .lit (.string bytes) => bytes.length + 1
  | .lit _ => 1
  | .nil => 1
  | .ptr d => uptoBulk d + 1
  | .slice elems spare => uptoBulkAll elems + uptoBulkAll spare + 1
  | .agg parts => uptoBulkAll parts + 1
  | .iface _ d => uptoBulk d + 1
  | .map entries => uptoBulkEntries entries + 1
  | .held _ => 1
def uptoBulkAll {H : Type} : List (DataW H) → Nat
  | [] => 0
  | d :: r => uptoBulk d + uptoBulkAll r
def uptoBulkEntries {H : Type} : List (Lit × DataW H) → Nat
  | [] => 0
  | x :: r => uptoBulkEntry x + uptoBulkEntries r
def uptoBulkEntry {H : Type} : Lit × DataW H → Nat
  | (.string bytes, d) => bytes.length + uptoBulk d + 1
  | (_, d) => uptoBulk d + 1
 end
def uptoSmall : (H : Type) → List (DataW H) → Bool := fun _ ds => decide (uptoBulkAll ds ≤ 1048576)
def OpenSpec.upto (s : _root_.Go.ChangeSpec) : _root_.Go.OpenSpec := { _root_.Go.OpenSpec.ofChange s with cond := some uptoSmall }

/-- 'outpostlaw33.ReedsolMends', WHERE WHAT IT READS IS OF BULK AT MOST 1048576: true; the input reads as it did. -/
def reedsolMendsUptoRow : OpenClaim := { program := "ytpgecdidddoglaa", sum := "3674ca544c41e855b847b641879e995ba1867e92fed3a64f7f5b7a550b215f9e", func := "outpost/outpostlaw33.ReedsolMends", spec := "reedsolMends", unfollowed := true, recurses := true, apart := false, narrowed := true }
def ReedsolMendsUptoSaid : Prop := reedsolMendsUptoRow.holds Try.pinned (OpenSpec.upto reedsolMendsSpec)

/-- 'outpostlaw33.ReedsolBursts', WHERE WHAT IT READS IS OF BULK AT MOST 1048576: true; the input reads as it did. -/
def reedsolBurstsUptoRow : OpenClaim := { program := "ytpgecdidddoglaa", sum := "3674ca544c41e855b847b641879e995ba1867e92fed3a64f7f5b7a550b215f9e", func := "outpost/outpostlaw33.ReedsolBursts", spec := "reedsolBursts", unfollowed := true, recurses := true, apart := false, narrowed := true }
def ReedsolBurstsUptoSaid : Prop := reedsolBurstsUptoRow.holds Try.pinned (OpenSpec.upto reedsolBurstsSpec)

/-- 'outpostlaw33.ReedsolStripes', WHERE WHAT IT READS IS OF BULK AT MOST 1048576: true; the input reads as it did. -/
def reedsolStripesUptoRow : OpenClaim := { program := "ytpgecdidddoglaa", sum := "3674ca544c41e855b847b641879e995ba1867e92fed3a64f7f5b7a550b215f9e", func := "outpost/outpostlaw33.ReedsolStripes", spec := "reedsolStripes", unfollowed := true, recurses := true, apart := false, narrowed := true }
def ReedsolStripesUptoSaid : Prop := reedsolStripesUptoRow.holds Try.pinned (OpenSpec.upto reedsolStripesSpec)

/-- 'outpostlaw33.ReedsolDecodes', WHERE WHAT IT READS IS OF BULK AT MOST 1048576: true; the input reads as it did. -/
def reedsolDecodesUptoRow : OpenClaim := { program := "ytpgecdidddoglaa", sum := "3674ca544c41e855b847b641879e995ba1867e92fed3a64f7f5b7a550b215f9e", func := "outpost/outpostlaw33.ReedsolDecodes", spec := "reedsolDecodes", unfollowed := true, recurses := true, apart := false, narrowed := true }
def ReedsolDecodesUptoSaid : Prop := reedsolDecodesUptoRow.holds Try.pinned (OpenSpec.upto reedsolDecodesSpec)

end Rows
end Go.Proofs.Ytpgecdidddoglaa
