/-
  No cell of these rows narrows 'for every input' (looked for: loops, veiled, ifaces, maps, wideKeys, modest, calm, conditions, laid).
  DERIVED. THE GIVEN ROWS OF THIS SEAT. 5 by the template 'for every input the law returns true; each argument reads behind the call as it read before'; 0 by the template 'total and deterministic' (their statements: YtaoeehnnboegnaaTotals.lean).
  GIVEN WITH THE SEED: the statements are not yours to turn. If you find one false, say at which input.
  Laid BY PROGRAM, IN A SANDBOX (cutbox-rows.mjs): the forced cells as the released guide's own fill.sh prints them over the translation 93dd5d42ffcbd5f9… (all of the seat's roots in one cut). By AI agents, Wed Nov 11 2026. No macro, syntax, notation, axiom, sorry.
-/
import Derived.Test.YtaoeehnnboegnaaChecked
import GoSem.Claim
import GoSem.ClaimJoined
import GoSem.ClaimMapViews
import Derived.JoinedTies
import Derived.KernelRfl
namespace Go.Proofs.Ytaoeehnnboegnaa
/- THE CELL 'sum', in the pinned program and in every row, IS THE sha256 OF THE DUMP (.gsa) THAT YtaoeehnnboegnaaProg.lean LOADS. Nothing in Lean hashes anything: it is a label: what it is worth is what the hold of that sum in a sandbox is worth. -/
noncomputable def Try.pinned : Pinned := { name := "ytaoeehnnboegnaa", sum := "93dd5d42ffcbd5f90564231e0d592079cf79f0272e1847bcbfe4ae7836d85b99", checked := Try.checked }
namespace Rows
def none {H : Type} : Left H := { results := [], args := [] }

/-- 'outpostlaw24.FrameBuilds': WHATEVER THE INPUT: true; the input reads as it did. -/
def frameBuildsSpec : ChangeSpec := { name := "frameBuilds", fn := fun _ => fun
  | [d1, d2] => { results := [.lit (.bool true)], args := [d1, d2] }
  | _ => none }
def frameBuildsRow : OpenClaim := { program := "ytaoeehnnboegnaa", sum := "93dd5d42ffcbd5f90564231e0d592079cf79f0272e1847bcbfe4ae7836d85b99", func := "outpost/outpostlaw24.FrameBuilds", spec := "frameBuilds", unfollowed := true, recurses := true, apart := false }
def FrameBuildsSaid : Prop := frameBuildsRow.holds Try.pinned (OpenSpec.ofChange frameBuildsSpec)

/-- ITS FALSE NEIGHBOUR: 'it returns false'. Refute it at one input. -/
def frameBuildsWrong : ChangeSpec := { name := "frameBuilds", fn := fun _ => fun
  | [d1, d2] => { results := [.lit (.bool false)], args := [d1, d2] }
  | _ => none }
def FrameBuildsWrongFalsely : Prop := frameBuildsRow.holds Try.pinned (OpenSpec.ofChange frameBuildsWrong)

/-- 'outpostlaw24.FrameParses': WHATEVER THE INPUT: true; the input reads as it did. -/
def frameParsesSpec : ChangeSpec := { name := "frameParses", fn := fun _ => fun
  | [d1, d2] => { results := [.lit (.bool true)], args := [d1, d2] }
  | _ => none }
def frameParsesRow : OpenClaim := { program := "ytaoeehnnboegnaa", sum := "93dd5d42ffcbd5f90564231e0d592079cf79f0272e1847bcbfe4ae7836d85b99", func := "outpost/outpostlaw24.FrameParses", spec := "frameParses", unfollowed := true, recurses := true, apart := false }
def FrameParsesSaid : Prop := frameParsesRow.holds Try.pinned (OpenSpec.ofChange frameParsesSpec)

/-- ITS FALSE NEIGHBOUR: 'it returns false'. Refute it at one input. -/
def frameParsesWrong : ChangeSpec := { name := "frameParses", fn := fun _ => fun
  | [d1, d2] => { results := [.lit (.bool false)], args := [d1, d2] }
  | _ => none }
def FrameParsesWrongFalsely : Prop := frameParsesRow.holds Try.pinned (OpenSpec.ofChange frameParsesWrong)

/-- 'outpostlaw24.FrameBack': WHATEVER THE INPUT: true; the input reads as it did. -/
def frameBackSpec : ChangeSpec := { name := "frameBack", fn := fun _ => fun
  | [d1, d2, d3] => { results := [.lit (.bool true)], args := [d1, d2, d3] }
  | _ => none }
def frameBackRow : OpenClaim := { program := "ytaoeehnnboegnaa", sum := "93dd5d42ffcbd5f90564231e0d592079cf79f0272e1847bcbfe4ae7836d85b99", func := "outpost/outpostlaw24.FrameBack", spec := "frameBack", unfollowed := true, recurses := true, apart := false }
def FrameBackSaid : Prop := frameBackRow.holds Try.pinned (OpenSpec.ofChange frameBackSpec)

/-- ITS FALSE NEIGHBOUR: 'it returns false'. Refute it at one input. -/
def frameBackWrong : ChangeSpec := { name := "frameBack", fn := fun _ => fun
  | [d1, d2, d3] => { results := [.lit (.bool false)], args := [d1, d2, d3] }
  | _ => none }
def FrameBackWrongFalsely : Prop := frameBackRow.holds Try.pinned (OpenSpec.ofChange frameBackWrong)

/-- 'outpostlaw24.FrameOneBit': WHATEVER THE INPUT: true; the input reads as it did. -/
def frameOneBitSpec : ChangeSpec := { name := "frameOneBit", fn := fun _ => fun
  | [d1, d2, d3] => { results := [.lit (.bool true)], args := [d1, d2, d3] }
  | _ => none }
def frameOneBitRow : OpenClaim := { program := "ytaoeehnnboegnaa", sum := "93dd5d42ffcbd5f90564231e0d592079cf79f0272e1847bcbfe4ae7836d85b99", func := "outpost/outpostlaw24.FrameOneBit", spec := "frameOneBit", unfollowed := true, recurses := true, apart := false }
def FrameOneBitSaid : Prop := frameOneBitRow.holds Try.pinned (OpenSpec.ofChange frameOneBitSpec)

/-- ITS FALSE NEIGHBOUR: 'it returns false'. Refute it at one input. -/
def frameOneBitWrong : ChangeSpec := { name := "frameOneBit", fn := fun _ => fun
  | [d1, d2, d3] => { results := [.lit (.bool false)], args := [d1, d2, d3] }
  | _ => none }
def FrameOneBitWrongFalsely : Prop := frameOneBitRow.holds Try.pinned (OpenSpec.ofChange frameOneBitWrong)

/-- 'outpostlaw24.FrameUnlike': WHATEVER THE INPUT: true; the input reads as it did. -/
def frameUnlikeSpec : ChangeSpec := { name := "frameUnlike", fn := fun _ => fun
  | [d1, d2, d3] => { results := [.lit (.bool true)], args := [d1, d2, d3] }
  | _ => none }
def frameUnlikeRow : OpenClaim := { program := "ytaoeehnnboegnaa", sum := "93dd5d42ffcbd5f90564231e0d592079cf79f0272e1847bcbfe4ae7836d85b99", func := "outpost/outpostlaw24.FrameUnlike", spec := "frameUnlike", unfollowed := true, recurses := true, apart := false }
def FrameUnlikeSaid : Prop := frameUnlikeRow.holds Try.pinned (OpenSpec.ofChange frameUnlikeSpec)

/-- ITS FALSE NEIGHBOUR: 'it returns false'. Refute it at one input. -/
def frameUnlikeWrong : ChangeSpec := { name := "frameUnlike", fn := fun _ => fun
  | [d1, d2, d3] => { results := [.lit (.bool false)], args := [d1, d2, d3] }
  | _ => none }
def FrameUnlikeWrongFalsely : Prop := frameUnlikeRow.holds Try.pinned (OpenSpec.ofChange frameUnlikeWrong)

/- THE SECOND FORM. 'bulk': how many values and letters a reading holds, each counted each time it is reached (what is shared counts as often as it is met; a slice's spare places count too). A statement '..UptoSaid' is the law's where the arguments, and the package variables that the reading takes, are together of bulk at most 1048576: NARROWER than '..Said'. Prove '..Said' where nothing that the law and all that it calls make is longer than what came in: it says more and counts as full. Else prove '..UptoSaid'. A law counts once. -/
mutual
def uptoBulk {H : Type} : DataW H → Nat
  | .lit (.string bytes) => bytes.length + 1
  | .lit _ => 1
  | .nil => 1
  | .ptr d => uptoBulk d + 1
  | .slice elems spare => uptoBulkAll elems + uptoBulkAll spare + 1
  | .agg parts => uptoBulkAll parts + 1
  | .iface _ d => uptoBulk d + 1
  | .map entries => uptoBulkEntries entries + 1
  | .held _ => 1
def uptoBulkAll {H : Type} : List (DataW H) → Nat
  | [] => 0
  | d :: r => uptoBulk d + uptoBulkAll r
def uptoBulkEntries {H : Type} : List (Lit × DataW H) → Nat
  | [] => 0
  | x :: r => uptoBulkEntry x + uptoBulkEntries r
def uptoBulkEntry {H : Type} : Lit × DataW H → Nat
  | (.string bytes, d) => bytes.length + uptoBulk d + 1
  | (_, d) => uptoBulk d + 1
 end
def uptoSmall : (H : Type) → List (DataW H) → Bool := fun _ ds => decide (uptoBulkAll ds ≤ 1048576)
def OpenSpec.upto (s : _root_.Go.ChangeSpec) : _root_.Go.OpenSpec := { _root_.Go.OpenSpec.ofChange s with cond := some uptoSmall }

/-- 'outpostlaw24.FrameBuilds', WHERE WHAT IT READS IS OF BULK AT MOST 1048576: true; the input reads as it did. -/
def frameBuildsUptoRow : OpenClaim := { program := "ytaoeehnnboegnaa", sum := "93dd5d42ffcbd5f90564231e0d592079cf79f0272e1847bcbfe4ae7836d85b99", func := "outpost/outpostlaw24.FrameBuilds", spec := "frameBuilds", unfollowed := true, recurses := true, apart := false, narrowed := true }
def FrameBuildsUptoSaid : Prop := frameBuildsUptoRow.holds Try.pinned (OpenSpec.upto frameBuildsSpec)

/-- 'outpostlaw24.FrameParses', WHERE WHAT IT READS IS OF BULK AT MOST 1048576: true; the input reads as it did. -/
def frameParsesUptoRow : OpenClaim := { program := "ytaoeehnnboegnaa", sum := "93dd5d42ffcbd5f90564231e0d592079cf79f0272e1847bcbfe4ae7836d85b99", func := "outpost/outpostlaw24.FrameParses", spec := "frameParses", unfollowed := true, recurses := true, apart := false, narrowed := true }
def FrameParsesUptoSaid : Prop := frameParsesUptoRow.holds Try.pinned (OpenSpec.upto frameParsesSpec)

/-- 'outpostlaw24.FrameBack', WHERE WHAT IT READS IS OF BULK AT MOST 1048576: true; the input reads as it did. -/
def frameBackUptoRow : OpenClaim := { program := "ytaoeehnnboegnaa", sum := "93dd5d42ffcbd5f90564231e0d592079cf79f0272e1847bcbfe4ae7836d85b99", func := "outpost/outpostlaw24.FrameBack", spec := "frameBack", unfollowed := true, recurses := true, apart := false, narrowed := true }
def FrameBackUptoSaid : Prop := frameBackUptoRow.holds Try.pinned (OpenSpec.upto frameBackSpec)

/-- 'outpostlaw24.FrameOneBit', WHERE WHAT IT READS IS OF BULK AT MOST 1048576: true; the input reads as it did. -/
def frameOneBitUptoRow : OpenClaim := { program := "ytaoeehnnboegnaa", sum := "93dd5d42ffcbd5f90564231e0d592079cf79f0272e1847bcbfe4ae7836d85b99", func := "outpost/outpostlaw24.FrameOneBit", spec := "frameOneBit", unfollowed := true, recurses := true, apart := false, narrowed := true }
def FrameOneBitUptoSaid : Prop := frameOneBitUptoRow.holds Try.pinned (OpenSpec.upto frameOneBitSpec)

/-- 'outpostlaw24.FrameUnlike', WHERE WHAT IT READS IS OF BULK AT MOST 1048576: true; the input reads as it did. -/
def frameUnlikeUptoRow : OpenClaim := { program := "ytaoeehnnboegnaa", sum := "93dd5d42ffcbd5f90564231e0d592079cf79f0272e1847bcbfe4ae7836d85b99", func := "outpost/outpostlaw24.FrameUnlike", spec := "frameUnlike", unfollowed := true, recurses := true, apart := false, narrowed := true }
def FrameUnlikeUptoSaid : Prop := frameUnlikeUptoRow.holds Try.pinned (OpenSpec.upto frameUnlikeSpec)

end Rows
end Go.Proofs.Ytaoeehnnboegnaa
