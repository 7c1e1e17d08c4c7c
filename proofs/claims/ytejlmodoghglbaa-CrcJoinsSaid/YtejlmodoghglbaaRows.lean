/-
  No cell of these rows narrows 'for every input' (looked for: loops, veiled, ifaces, maps, wideKeys, modest, calm, conditions, laid).
  DERIVED. THE GIVEN ROWS OF THIS SEAT. 10 by the template 'for every input the law returns true; each argument reads behind the call as it read before'; 0 by the template 'total and deterministic' (their statements: YtejlmodoghglbaaTotals.lean).
  GIVEN WITH THE SEED: the statements are not yours to turn. If you find one false, say at which input.
  Laid BY PROGRAM, IN A SANDBOX (cutbox-rows.mjs): the forced cells as the released guide's own fill.sh prints them over the translation 69534a445d6efb4b… (all of the seat's roots in one cut). By AI agents, Wed Nov 11 2026. No macro, syntax, notation, axiom, sorry.
-/
import Derived.Test.YtejlmodoghglbaaChecked
import GoSem.Claim
import GoSem.ClaimJoined
import GoSem.ClaimMapViews
import Derived.JoinedTies
import Derived.KernelRfl
namespace Go.Proofs.Ytejlmodoghglbaa
/- THE CELL 'sum', in the pinned program and in every row, IS THE sha256 OF THE DUMP (.gsa) THAT YtejlmodoghglbaaProg.lean LOADS. Nothing in Lean hashes anything: it is a label: what it is worth is what the hold of that sum in a sandbox is worth. -/
noncomputable def Try.pinned : Pinned := { name := "ytejlmodoghglbaa", sum := "69534a445d6efb4b10ff5fc919c05b56ceabc45620dae96d3305f8c9d125d645", checked := Try.checked }
namespace Rows
def none {H : Type} : Left H := { results := [], args := [] }

/-- 'outpostlaw03.CrcSpecs': WHATEVER THE INPUT: true; the input reads as it did. -/
def crcSpecsSpec : ChangeSpec := { name := "crcSpecs", fn := fun _ => fun
  | [d1, d2] => { results := [.lit (.bool true)], args := [d1, d2] }
  | _ => none }
def crcSpecsRow : OpenClaim := { program := "ytejlmodoghglbaa", sum := "69534a445d6efb4b10ff5fc919c05b56ceabc45620dae96d3305f8c9d125d645", func := "outpost/outpostlaw03.CrcSpecs", spec := "crcSpecs", unfollowed := true, recurses := true, apart := false }
def CrcSpecsSaid : Prop := crcSpecsRow.holds Try.pinned (OpenSpec.ofChange crcSpecsSpec)

/-- ITS FALSE NEIGHBOUR: 'it returns false'. Refute it at one input. -/
def crcSpecsWrong : ChangeSpec := { name := "crcSpecs", fn := fun _ => fun
  | [d1, d2] => { results := [.lit (.bool false)], args := [d1, d2] }
  | _ => none }
def CrcSpecsWrongFalsely : Prop := crcSpecsRow.holds Try.pinned (OpenSpec.ofChange crcSpecsWrong)

/-- 'outpostlaw03.CrcLinear': WHATEVER THE INPUT: true; the input reads as it did. -/
def crcLinearSpec : ChangeSpec := { name := "crcLinear", fn := fun _ => fun
  | [d1, d2, d3, d4] => { results := [.lit (.bool true)], args := [d1, d2, d3, d4] }
  | _ => none }
def crcLinearRow : OpenClaim := { program := "ytejlmodoghglbaa", sum := "69534a445d6efb4b10ff5fc919c05b56ceabc45620dae96d3305f8c9d125d645", func := "outpost/outpostlaw03.CrcLinear", spec := "crcLinear", unfollowed := true, recurses := true, apart := false }
def CrcLinearSaid : Prop := crcLinearRow.holds Try.pinned (OpenSpec.ofChange crcLinearSpec)

/-- ITS FALSE NEIGHBOUR: 'it returns false'. Refute it at one input. -/
def crcLinearWrong : ChangeSpec := { name := "crcLinear", fn := fun _ => fun
  | [d1, d2, d3, d4] => { results := [.lit (.bool false)], args := [d1, d2, d3, d4] }
  | _ => none }
def CrcLinearWrongFalsely : Prop := crcLinearRow.holds Try.pinned (OpenSpec.ofChange crcLinearWrong)

/-- 'outpostlaw03.CrcSums': WHATEVER THE INPUT: true; the input reads as it did. -/
def crcSumsSpec : ChangeSpec := { name := "crcSums", fn := fun _ => fun
  | [d1, d2] => { results := [.lit (.bool true)], args := [d1, d2] }
  | _ => none }
def crcSumsRow : OpenClaim := { program := "ytejlmodoghglbaa", sum := "69534a445d6efb4b10ff5fc919c05b56ceabc45620dae96d3305f8c9d125d645", func := "outpost/outpostlaw03.CrcSums", spec := "crcSums", unfollowed := true, recurses := true, apart := false }
def CrcSumsSaid : Prop := crcSumsRow.holds Try.pinned (OpenSpec.ofChange crcSumsSpec)

/-- ITS FALSE NEIGHBOUR: 'it returns false'. Refute it at one input. -/
def crcSumsWrong : ChangeSpec := { name := "crcSums", fn := fun _ => fun
  | [d1, d2] => { results := [.lit (.bool false)], args := [d1, d2] }
  | _ => none }
def CrcSumsWrongFalsely : Prop := crcSumsRow.holds Try.pinned (OpenSpec.ofChange crcSumsWrong)

/-- 'outpostlaw03.CrcBursts': WHATEVER THE INPUT: true; the input reads as it did. -/
def crcBurstsSpec : ChangeSpec := { name := "crcBursts", fn := fun _ => fun
  | [d1, d2, d3, d4] => { results := [.lit (.bool true)], args := [d1, d2, d3, d4] }
  | _ => none }
def crcBurstsRow : OpenClaim := { program := "ytejlmodoghglbaa", sum := "69534a445d6efb4b10ff5fc919c05b56ceabc45620dae96d3305f8c9d125d645", func := "outpost/outpostlaw03.CrcBursts", spec := "crcBursts", unfollowed := true, recurses := true, apart := false }
def CrcBurstsSaid : Prop := crcBurstsRow.holds Try.pinned (OpenSpec.ofChange crcBurstsSpec)

/-- ITS FALSE NEIGHBOUR: 'it returns false'. Refute it at one input. -/
def crcBurstsWrong : ChangeSpec := { name := "crcBursts", fn := fun _ => fun
  | [d1, d2, d3, d4] => { results := [.lit (.bool false)], args := [d1, d2, d3, d4] }
  | _ => none }
def CrcBurstsWrongFalsely : Prop := crcBurstsRow.holds Try.pinned (OpenSpec.ofChange crcBurstsWrong)

/-- 'outpostlaw03.CrcOneByte': WHATEVER THE INPUT: true; the input reads as it did. -/
def crcOneByteSpec : ChangeSpec := { name := "crcOneByte", fn := fun _ => fun
  | [d1, d2, d3, d4] => { results := [.lit (.bool true)], args := [d1, d2, d3, d4] }
  | _ => none }
def crcOneByteRow : OpenClaim := { program := "ytejlmodoghglbaa", sum := "69534a445d6efb4b10ff5fc919c05b56ceabc45620dae96d3305f8c9d125d645", func := "outpost/outpostlaw03.CrcOneByte", spec := "crcOneByte", unfollowed := true, recurses := true, apart := false }
def CrcOneByteSaid : Prop := crcOneByteRow.holds Try.pinned (OpenSpec.ofChange crcOneByteSpec)

/-- ITS FALSE NEIGHBOUR: 'it returns false'. Refute it at one input. -/
def crcOneByteWrong : ChangeSpec := { name := "crcOneByte", fn := fun _ => fun
  | [d1, d2, d3, d4] => { results := [.lit (.bool false)], args := [d1, d2, d3, d4] }
  | _ => none }
def CrcOneByteWrongFalsely : Prop := crcOneByteRow.holds Try.pinned (OpenSpec.ofChange crcOneByteWrong)

/-- 'outpostlaw03.CrcOwn': WHATEVER THE INPUT: true; the input reads as it did. -/
def crcOwnSpec : ChangeSpec := { name := "crcOwn", fn := fun _ => fun
  | [d1, d2] => { results := [.lit (.bool true)], args := [d1, d2] }
  | _ => none }
def crcOwnRow : OpenClaim := { program := "ytejlmodoghglbaa", sum := "69534a445d6efb4b10ff5fc919c05b56ceabc45620dae96d3305f8c9d125d645", func := "outpost/outpostlaw03.CrcOwn", spec := "crcOwn", unfollowed := true, recurses := true, apart := false }
def CrcOwnSaid : Prop := crcOwnRow.holds Try.pinned (OpenSpec.ofChange crcOwnSpec)

/-- ITS FALSE NEIGHBOUR: 'it returns false'. Refute it at one input. -/
def crcOwnWrong : ChangeSpec := { name := "crcOwn", fn := fun _ => fun
  | [d1, d2] => { results := [.lit (.bool false)], args := [d1, d2] }
  | _ => none }
def CrcOwnWrongFalsely : Prop := crcOwnRow.holds Try.pinned (OpenSpec.ofChange crcOwnWrong)

/-- 'outpostlaw03.CrcNil': WHATEVER THE INPUT: true; the input reads as it did. -/
def crcNilSpec : ChangeSpec := { name := "crcNil", fn := fun _ => fun
  | [] => { results := [.lit (.bool true)], args := [] }
  | _ => none }
def crcNilRow : OpenClaim := { program := "ytejlmodoghglbaa", sum := "69534a445d6efb4b10ff5fc919c05b56ceabc45620dae96d3305f8c9d125d645", func := "outpost/outpostlaw03.CrcNil", spec := "crcNil", unfollowed := true, recurses := true, apart := false }
def CrcNilSaid : Prop := crcNilRow.holds Try.pinned (OpenSpec.ofChange crcNilSpec)

/-- ITS FALSE NEIGHBOUR: 'it returns false'. Refute it at one input. -/
def crcNilWrong : ChangeSpec := { name := "crcNil", fn := fun _ => fun
  | [] => { results := [.lit (.bool false)], args := [] }
  | _ => none }
def CrcNilWrongFalsely : Prop := crcNilRow.holds Try.pinned (OpenSpec.ofChange crcNilWrong)

/-- 'outpostlaw03.CrcTables': WHATEVER THE INPUT: true; the input reads as it did. -/
def crcTablesSpec : ChangeSpec := { name := "crcTables", fn := fun _ => fun
  | [d1, d2] => { results := [.lit (.bool true)], args := [d1, d2] }
  | _ => none }
def crcTablesRow : OpenClaim := { program := "ytejlmodoghglbaa", sum := "69534a445d6efb4b10ff5fc919c05b56ceabc45620dae96d3305f8c9d125d645", func := "outpost/outpostlaw03.CrcTables", spec := "crcTables", unfollowed := true, recurses := true, apart := false }
def CrcTablesSaid : Prop := crcTablesRow.holds Try.pinned (OpenSpec.ofChange crcTablesSpec)

/-- ITS FALSE NEIGHBOUR: 'it returns false'. Refute it at one input. -/
def crcTablesWrong : ChangeSpec := { name := "crcTables", fn := fun _ => fun
  | [d1, d2] => { results := [.lit (.bool false)], args := [d1, d2] }
  | _ => none }
def CrcTablesWrongFalsely : Prop := crcTablesRow.holds Try.pinned (OpenSpec.ofChange crcTablesWrong)

/-- 'outpostlaw03.CrcJoins': WHATEVER THE INPUT: true; the input reads as it did. -/
def crcJoinsSpec : ChangeSpec := { name := "crcJoins", fn := fun _ => fun
  | [d1, d2, d3, d4] => { results := [.lit (.bool true)], args := [d1, d2, d3, d4] }
  | _ => none }
def crcJoinsRow : OpenClaim := { program := "ytejlmodoghglbaa", sum := "69534a445d6efb4b10ff5fc919c05b56ceabc45620dae96d3305f8c9d125d645", func := "outpost/outpostlaw03.CrcJoins", spec := "crcJoins", unfollowed := true, recurses := true, apart := false }
def CrcJoinsSaid : Prop := crcJoinsRow.holds Try.pinned (OpenSpec.ofChange crcJoinsSpec)

/-- ITS FALSE NEIGHBOUR: 'it returns false'. Refute it at one input. -/
def crcJoinsWrong : ChangeSpec := { name := "crcJoins", fn := fun _ => fun
  | [d1, d2, d3, d4] => { results := [.lit (.bool false)], args := [d1, d2, d3, d4] }
  | _ => none }
def CrcJoinsWrongFalsely : Prop := crcJoinsRow.holds Try.pinned (OpenSpec.ofChange crcJoinsWrong)

/-- 'outpostlaw03.CrcTogether': WHATEVER THE INPUT: true; the input reads as it did. -/
def crcTogetherSpec : ChangeSpec := { name := "crcTogether", fn := fun _ => fun
  | [d1, d2, d3] => { results := [.lit (.bool true)], args := [d1, d2, d3] }
  | _ => none }
def crcTogetherRow : OpenClaim := { program := "ytejlmodoghglbaa", sum := "69534a445d6efb4b10ff5fc919c05b56ceabc45620dae96d3305f8c9d125d645", func := "outpost/outpostlaw03.CrcTogether", spec := "crcTogether", unfollowed := true, recurses := true, apart := false }
def CrcTogetherSaid : Prop := crcTogetherRow.holds Try.pinned (OpenSpec.ofChange crcTogetherSpec)

/-- ITS FALSE NEIGHBOUR: 'it returns false'. Refute it at one input. -/
def crcTogetherWrong : ChangeSpec := { name := "crcTogether", fn := fun _ => fun
  | [d1, d2, d3] => { results := [.lit (.bool false)], args := [d1, d2, d3] }
  | _ => none }
def CrcTogetherWrongFalsely : Prop := crcTogetherRow.holds Try.pinned (OpenSpec.ofChange crcTogetherWrong)

/- THE SECOND FORM. 'bulk': how many values and letters a reading holds, each counted each time it is reached (what is shared counts as often as it is met; a slice's spare places count too). A statement '..UptoSaid' is the law's where the arguments, and the package variables that the reading takes, are together of bulk at most 1048576: NARROWER than '..Said'. Prove '..Said' where nothing that the law and all that it calls make is longer than what came in: it says more and counts as full. Else prove '..UptoSaid'. A law counts once. -/
mutual
def uptoBulk {H : Type} : DataW H → Nat
  | .lit (.string bytes) => bytes.length + 1
  | .lit _ => 1
  | .nil => 1
  | .ptr d => uptoBulk d + 1
  | .slice elems spare => uptoBulkAll elems + uptoBulkAll spare + 1
  | .agg parts => uptoBulkAll parts + 1
  | .iface _ d => uptoBulk d + 1
  | .map entries => uptoBulkEntries entries + 1
  | .held _ => 1
def uptoBulkAll {H : Type} : List (DataW H) → Nat
  | [] => 0
  | d :: r => uptoBulk d + uptoBulkAll r
def uptoBulkEntries {H : Type} : List (Lit × DataW H) → Nat
  | [] => 0
  | x :: r => uptoBulkEntry x + uptoBulkEntries r
def uptoBulkEntry {H : Type} : Lit × DataW H → Nat
  | (.string bytes, d) => bytes.length + uptoBulk d + 1
  | (_, d) => uptoBulk d + 1
 end
def uptoSmall : (H : Type) → List (DataW H) → Bool := fun _ ds => decide (uptoBulkAll ds ≤ 1048576)
def OpenSpec.upto (s : _root_.Go.ChangeSpec) : _root_.Go.OpenSpec := { _root_.Go.OpenSpec.ofChange s with cond := some uptoSmall }

/-- 'outpostlaw03.CrcSpecs', WHERE WHAT IT READS IS OF BULK AT MOST 1048576: true; the input reads as it did. -/
def crcSpecsUptoRow : OpenClaim := { program := "ytejlmodoghglbaa", sum := "69534a445d6efb4b10ff5fc919c05b56ceabc45620dae96d3305f8c9d125d645", func := "outpost/outpostlaw03.CrcSpecs", spec := "crcSpecs", unfollowed := true, recurses := true, apart := false, narrowed := true }
def CrcSpecsUptoSaid : Prop := crcSpecsUptoRow.holds Try.pinned (OpenSpec.upto crcSpecsSpec)

/-- 'outpostlaw03.CrcLinear', WHERE WHAT IT READS IS OF BULK AT MOST 1048576: true; the input reads as it did. -/
def crcLinearUptoRow : OpenClaim := { program := "ytejlmodoghglbaa", sum := "69534a445d6efb4b10ff5fc919c05b56ceabc45620dae96d3305f8c9d125d645", func := "outpost/outpostlaw03.CrcLinear", spec := "crcLinear", unfollowed := true, recurses := true, apart := false, narrowed := true }
def CrcLinearUptoSaid : Prop := crcLinearUptoRow.holds Try.pinned (OpenSpec.upto crcLinearSpec)

/-- 'outpostlaw03.CrcSums', WHERE WHAT IT READS IS OF BULK AT MOST 1048576: true; the input reads as it did. -/
def crcSumsUptoRow : OpenClaim := { program := "ytejlmodoghglbaa", sum := "69534a445d6efb4b10ff5fc919c05b56ceabc45620dae96d3305f8c9d125d645", func := "outpost/outpostlaw03.CrcSums", spec := "crcSums", unfollowed := true, recurses := true, apart := false, narrowed := true }
def CrcSumsUptoSaid : Prop := crcSumsUptoRow.holds Try.pinned (OpenSpec.upto crcSumsSpec)

/-- 'outpostlaw03.CrcBursts', WHERE WHAT IT READS IS OF BULK AT MOST 1048576: true; the input reads as it did. -/
def crcBurstsUptoRow : OpenClaim := { program := "ytejlmodoghglbaa", sum := "69534a445d6efb4b10ff5fc919c05b56ceabc45620dae96d3305f8c9d125d645", func := "outpost/outpostlaw03.CrcBursts", spec := "crcBursts", unfollowed := true, recurses := true, apart := false, narrowed := true }
def CrcBurstsUptoSaid : Prop := crcBurstsUptoRow.holds Try.pinned (OpenSpec.upto crcBurstsSpec)

/-- 'outpostlaw03.CrcOneByte', WHERE WHAT IT READS IS OF BULK AT MOST 1048576: true; the input reads as it did. -/
def crcOneByteUptoRow : OpenClaim := { program := "ytejlmodoghglbaa", sum := "69534a445d6efb4b10ff5fc919c05b56ceabc45620dae96d3305f8c9d125d645", func := "outpost/outpostlaw03.CrcOneByte", spec := "crcOneByte", unfollowed := true, recurses := true, apart := false, narrowed := true }
def CrcOneByteUptoSaid : Prop := crcOneByteUptoRow.holds Try.pinned (OpenSpec.upto crcOneByteSpec)

/-- 'outpostlaw03.CrcOwn', WHERE WHAT IT READS IS OF BULK AT MOST 1048576: true; the input reads as it did. -/
def crcOwnUptoRow : OpenClaim := { program := "ytejlmodoghglbaa", sum := "69534a445d6efb4b10ff5fc919c05b56ceabc45620dae96d3305f8c9d125d645", func := "outpost/outpostlaw03.CrcOwn", spec := "crcOwn", unfollowed := true, recurses := true, apart := false, narrowed := true }
def CrcOwnUptoSaid : Prop := crcOwnUptoRow.holds Try.pinned (OpenSpec.upto crcOwnSpec)

/-- 'outpostlaw03.CrcNil', WHERE WHAT IT READS IS OF BULK AT MOST 1048576: true; the input reads as it did. -/
def crcNilUptoRow : OpenClaim := { program := "ytejlmodoghglbaa", sum := "69534a445d6efb4b10ff5fc919c05b56ceabc45620dae96d3305f8c9d125d645", func := "outpost/outpostlaw03.CrcNil", spec := "crcNil", unfollowed := true, recurses := true, apart := false, narrowed := true }
def CrcNilUptoSaid : Prop := crcNilUptoRow.holds Try.pinned (OpenSpec.upto crcNilSpec)

/-- 'outpostlaw03.CrcTables', WHERE WHAT IT READS IS OF BULK AT MOST 1048576: true; the input reads as it did. -/
def crcTablesUptoRow : OpenClaim := { program := "ytejlmodoghglbaa", sum := "69534a445d6efb4b10ff5fc919c05b56ceabc45620dae96d3305f8c9d125d645", func := "outpost/outpostlaw03.CrcTables", spec := "crcTables", unfollowed := true, recurses := true, apart := false, narrowed := true }
def CrcTablesUptoSaid : Prop := crcTablesUptoRow.holds Try.pinned (OpenSpec.upto crcTablesSpec)

/-- 'outpostlaw03.CrcJoins', WHERE WHAT IT READS IS OF BULK AT MOST 1048576: true; the input reads as it did. -/
def crcJoinsUptoRow : OpenClaim := { program := "ytejlmodoghglbaa", sum := "69534a445d6efb4b10ff5fc919c05b56ceabc45620dae96d3305f8c9d125d645", func := "outpost/outpostlaw03.CrcJoins", spec := "crcJoins", unfollowed := true, recurses := true, apart := false, narrowed := true }
def CrcJoinsUptoSaid : Prop := crcJoinsUptoRow.holds Try.pinned (OpenSpec.upto crcJoinsSpec)

/-- 'outpostlaw03.CrcTogether', WHERE WHAT IT READS IS OF BULK AT MOST 1048576: true; the input reads as it did. -/
def crcTogetherUptoRow : OpenClaim := { program := "ytejlmodoghglbaa", sum := "69534a445d6efb4b10ff5fc919c05b56ceabc45620dae96d3305f8c9d125d645", func := "outpost/outpostlaw03.CrcTogether", spec := "crcTogether", unfollowed := true, recurses := true, apart := false, narrowed := true }
def CrcTogetherUptoSaid : Prop := crcTogetherUptoRow.holds Try.pinned (OpenSpec.upto crcTogetherSpec)

end Rows
end Go.Proofs.Ytejlmodoghglbaa
