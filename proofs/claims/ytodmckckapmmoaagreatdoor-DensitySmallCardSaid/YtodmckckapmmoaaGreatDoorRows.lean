/-
  NARROWER THAN 'FOR EVERY INPUT', by the rows' own cells (each row's printed sentence says how): DensityMakes: laid · DensityApplies: laid · DensityRuns: laid · DensityChecks: laid · DensitySmall: laid.
  DERIVED. THE GIVEN ROWS OF THIS SEAT. 5 by the template 'for every input the law returns true; each argument reads behind the call as it read before'; 0 by the template 'total and deterministic' (their statements: YtodmckckapmmoaaGreatDoorTotals.lean).
  GIVEN WITH THE SEED: the statements are not yours to turn. If you find one false, say at which input.
  Laid BY PROGRAM, IN A SANDBOX (cutbox-rows.mjs): the forced cells as the released guide's own fill.sh prints them over the translation 21ea43fd36cb21e7… (all of the seat's roots in one cut). By AI agents, Wed Nov 11 2026. No macro, syntax, notation, axiom, sorry.
-/
import Derived.Test.YtodmckckapmmoaaGreatDoorChecked
import GoSem.Claim
import GoSem.ClaimJoined
import GoSem.ClaimMapViews
import Derived.JoinedTies
import Derived.KernelRfl
namespace Go.Proofs.YtodmckckapmmoaaGreatDoor
/- THE CELL 'sum', in the pinned program and in every row, IS THE sha256 OF THE DUMP (.gsa) THAT YtodmckckapmmoaaGreatDoorProg.lean LOADS. Nothing in Lean hashes anything: it is a label: what it is worth is what the hold of that sum in a sandbox is worth. -/
noncomputable def Tryz.pinned : Pinned := { name := "ytodmckckapmmoaagreatdoor", sum := "21ea43fd36cb21e7b77bb3d7958fd94ff5d1fa7cccc5957e9dac64136577fe58", checked := Tryz.checked }
namespace Rows
def none {H : Type} : Left H := { results := [], args := [] }

/- WHAT THE LISTED PACKAGE-LEVEL VARIABLES READ AS WHEN THE CALL BEGINS. Each datum BY PROGRAM (the guide's laid-datum.mjs) off the statement by which the dump's own 'gosem.cut.vars' lays the variable. In a bare row this is a premise. The card (YtodmckckapmmoaaGreatDoorCards.lean) ties it to the program's text. -/
def laid_spoondrift_spoondriftlaw16_root {H : Type} : DataW H := .agg [.lit (.int .i64 1), .lit (.int .i64 0), .lit (.int .i64 0), .lit (.int .i64 0), .lit (.int .i64 1)]
def laid_spoondrift_spoondriftlaw16_half {H : Type} : DataW H := .agg [.lit (.int .i64 1), .lit (.int .i64 0), .lit (.int .i64 0), .lit (.int .i64 0), .lit (.int .i64 2)]

/-- 'spoondriftlaw16.DensityMakes': WHATEVER THE INPUT: true; the input reads as it did. -/
def densityMakesSpec : ChangeSpec := { name := "densityMakes", fn := fun _ => fun
  | [d1, d2, d3, d4, d5, d6] => { results := [.lit (.bool true)], args := [d1, d2, d3, d4, d5, d6] }
  | _ => none }
def densityMakesRow : OpenClaim := { program := "ytodmckckapmmoaagreatdoor", sum := "21ea43fd36cb21e7b77bb3d7958fd94ff5d1fa7cccc5957e9dac64136577fe58", func := "spoondrift/spoondriftlaw16.DensityMakes", spec := "densityMakes", unfollowed := true, recurses := true, named := ["spoondrift/spoondriftlaw16.root", "spoondrift/spoondriftlaw16.half"], apart := false, laid := [("spoondrift/spoondriftlaw16.root", laid_spoondrift_spoondriftlaw16_root), ("spoondrift/spoondriftlaw16.half", laid_spoondrift_spoondriftlaw16_half)] }
def DensityMakesSaid : Prop := densityMakesRow.holds Tryz.pinned (OpenSpec.ofChange densityMakesSpec)

/-- ITS FALSE NEIGHBOUR: 'it returns false'. Refute it at one input. -/
def densityMakesWrong : ChangeSpec := { name := "densityMakes", fn := fun _ => fun
  | [d1, d2, d3, d4, d5, d6] => { results := [.lit (.bool false)], args := [d1, d2, d3, d4, d5, d6] }
  | _ => none }
def DensityMakesWrongFalsely : Prop := densityMakesRow.holds Tryz.pinned (OpenSpec.ofChange densityMakesWrong)

/-- 'spoondriftlaw16.DensityApplies': WHATEVER THE INPUT: true; the input reads as it did. -/
def densityAppliesSpec : ChangeSpec := { name := "densityApplies", fn := fun _ => fun
  | [d1, d2, d3, d4] => { results := [.lit (.bool true)], args := [d1, d2, d3, d4] }
  | _ => none }
def densityAppliesRow : OpenClaim := { program := "ytodmckckapmmoaagreatdoor", sum := "21ea43fd36cb21e7b77bb3d7958fd94ff5d1fa7cccc5957e9dac64136577fe58", func := "spoondrift/spoondriftlaw16.DensityApplies", spec := "densityApplies", unfollowed := true, recurses := true, named := ["spoondrift/spoondriftlaw16.root", "spoondrift/spoondriftlaw16.half"], apart := false, laid := [("spoondrift/spoondriftlaw16.root", laid_spoondrift_spoondriftlaw16_root), ("spoondrift/spoondriftlaw16.half", laid_spoondrift_spoondriftlaw16_half)] }
def DensityAppliesSaid : Prop := densityAppliesRow.holds Tryz.pinned (OpenSpec.ofChange densityAppliesSpec)

/-- ITS FALSE NEIGHBOUR: 'it returns false'. Refute it at one input. -/
def densityAppliesWrong : ChangeSpec := { name := "densityApplies", fn := fun _ => fun
  | [d1, d2, d3, d4] => { results := [.lit (.bool false)], args := [d1, d2, d3, d4] }
  | _ => none }
def DensityAppliesWrongFalsely : Prop := densityAppliesRow.holds Tryz.pinned (OpenSpec.ofChange densityAppliesWrong)

/-- 'spoondriftlaw16.DensityRuns': WHATEVER THE INPUT: true; the input reads as it did. -/
def densityRunsSpec : ChangeSpec := { name := "densityRuns", fn := fun _ => fun
  | [d1, d2] => { results := [.lit (.bool true)], args := [d1, d2] }
  | _ => none }
def densityRunsRow : OpenClaim := { program := "ytodmckckapmmoaagreatdoor", sum := "21ea43fd36cb21e7b77bb3d7958fd94ff5d1fa7cccc5957e9dac64136577fe58", func := "spoondrift/spoondriftlaw16.DensityRuns", spec := "densityRuns", unfollowed := true, recurses := true, named := ["spoondrift/spoondriftlaw16.root", "spoondrift/spoondriftlaw16.half"], apart := false, laid := [("spoondrift/spoondriftlaw16.root", laid_spoondrift_spoondriftlaw16_root), ("spoondrift/spoondriftlaw16.half", laid_spoondrift_spoondriftlaw16_half)] }
def DensityRunsSaid : Prop := densityRunsRow.holds Tryz.pinned (OpenSpec.ofChange densityRunsSpec)

/-- ITS FALSE NEIGHBOUR: 'it returns false'. Refute it at one input. -/
def densityRunsWrong : ChangeSpec := { name := "densityRuns", fn := fun _ => fun
  | [d1, d2] => { results := [.lit (.bool false)], args := [d1, d2] }
  | _ => none }
def DensityRunsWrongFalsely : Prop := densityRunsRow.holds Tryz.pinned (OpenSpec.ofChange densityRunsWrong)

/-- 'spoondriftlaw16.DensityChecks': WHATEVER THE INPUT: true; the input reads as it did. -/
def densityChecksSpec : ChangeSpec := { name := "densityChecks", fn := fun _ => fun
  | [d1, d2] => { results := [.lit (.bool true)], args := [d1, d2] }
  | _ => none }
def densityChecksRow : OpenClaim := { program := "ytodmckckapmmoaagreatdoor", sum := "21ea43fd36cb21e7b77bb3d7958fd94ff5d1fa7cccc5957e9dac64136577fe58", func := "spoondrift/spoondriftlaw16.DensityChecks", spec := "densityChecks", unfollowed := true, recurses := true, named := ["spoondrift/spoondriftlaw16.root", "spoondrift/spoondriftlaw16.half"], apart := false, laid := [("spoondrift/spoondriftlaw16.root", laid_spoondrift_spoondriftlaw16_root), ("spoondrift/spoondriftlaw16.half", laid_spoondrift_spoondriftlaw16_half)] }
def DensityChecksSaid : Prop := densityChecksRow.holds Tryz.pinned (OpenSpec.ofChange densityChecksSpec)

/-- ITS FALSE NEIGHBOUR: 'it returns false'. Refute it at one input. -/
def densityChecksWrong : ChangeSpec := { name := "densityChecks", fn := fun _ => fun
  | [d1, d2] => { results := [.lit (.bool false)], args := [d1, d2] }
  | _ => none }
def DensityChecksWrongFalsely : Prop := densityChecksRow.holds Tryz.pinned (OpenSpec.ofChange densityChecksWrong)

/-- 'spoondriftlaw16.DensitySmall': WHATEVER THE INPUT: true; the input reads as it did. -/
def densitySmallSpec : ChangeSpec := { name := "densitySmall", fn := fun _ => fun
  | [] => { results := [.lit (.bool true)], args := [] }
  | _ => none }
def densitySmallRow : OpenClaim := { program := "ytodmckckapmmoaagreatdoor", sum := "21ea43fd36cb21e7b77bb3d7958fd94ff5d1fa7cccc5957e9dac64136577fe58", func := "spoondrift/spoondriftlaw16.DensitySmall", spec := "densitySmall", unfollowed := true, recurses := true, named := ["spoondrift/spoondriftlaw16.half", "spoondrift/spoondriftlaw16.root"], apart := false, laid := [("spoondrift/spoondriftlaw16.root", laid_spoondrift_spoondriftlaw16_root), ("spoondrift/spoondriftlaw16.half", laid_spoondrift_spoondriftlaw16_half)] }
def DensitySmallSaid : Prop := densitySmallRow.holds Tryz.pinned (OpenSpec.ofChange densitySmallSpec)

/-- ITS FALSE NEIGHBOUR: 'it returns false'. Refute it at one input. -/
def densitySmallWrong : ChangeSpec := { name := "densitySmall", fn := fun _ => fun
  | [] => { results := [.lit (.bool false)], args := [] }
  | _ => none }
def DensitySmallWrongFalsely : Prop := densitySmallRow.holds Tryz.pinned (OpenSpec.ofChange densitySmallWrong)

/- THE SECOND FORM. 'bulk': how many values and letters a reading holds, each counted each time it is reached (what is shared counts as often as it is met; a slice's spare places count too). A statement '..UptoSaid' is the law's where the arguments, and the package variables that the reading takes, are together of bulk at most 1048576: NARROWER than '..Said'. Prove '..Said' where nothing that the law and all that it calls make is longer than what came in: it says more and counts as full. Else prove '..UptoSaid'. A law counts once. -/
mutual
def uptoBulk {H : Type} : DataW H → Nat
  | .lit (.string bytes) => bytes.length + 1
  | .lit _ => 1
  | .nil => 1
  | .ptr d => uptoBulk d + 1
  | .slice elems spare => uptoBulkAll elems + uptoBulkAll spare + 1
  | .agg parts => uptoBulkAll parts + 1
  | .iface _ d => uptoBulk d + 1
  | .map entries => uptoBulkEntries entries + 1
  | .held _ => 1
def uptoBulkAll {H : Type} : List (DataW H) → Nat
  | [] => 0
  | d :: r => uptoBulk d + uptoBulkAll r
def uptoBulkEntries {H : Type} : List (Lit × DataW H) → Nat
  | [] => 0
  | x :: r => uptoBulkEntry x + uptoBulkEntries r
def uptoBulkEntry {H : Type} : Lit × DataW H → Nat
  | (.string bytes, d) => bytes.length + uptoBulk d + 1
  | (_, d) => uptoBulk d + 1
 end
def uptoSmall : (H : Type) → List (DataW H) → Bool := fun _ ds => decide (uptoBulkAll ds ≤ 1048576)
def OpenSpec.upto (s : _root_.Go.ChangeSpec) : _root_.Go.OpenSpec := { _root_.Go.OpenSpec.ofChange s with cond := some uptoSmall }

/-- 'spoondriftlaw16.DensityMakes', WHERE WHAT IT READS IS OF BULK AT MOST 1048576: true; the input reads as it did. -/
def densityMakesUptoRow : OpenClaim := { program := "ytodmckckapmmoaagreatdoor", sum := "21ea43fd36cb21e7b77bb3d7958fd94ff5d1fa7cccc5957e9dac64136577fe58", func := "spoondrift/spoondriftlaw16.DensityMakes", spec := "densityMakes", unfollowed := true, recurses := true, named := ["spoondrift/spoondriftlaw16.root", "spoondrift/spoondriftlaw16.half"], apart := false, laid := [("spoondrift/spoondriftlaw16.root", laid_spoondrift_spoondriftlaw16_root), ("spoondrift/spoondriftlaw16.half", laid_spoondrift_spoondriftlaw16_half)], narrowed := true }
def DensityMakesUptoSaid : Prop := densityMakesUptoRow.holds Tryz.pinned (OpenSpec.upto densityMakesSpec)

/-- 'spoondriftlaw16.DensityApplies', WHERE WHAT IT READS IS OF BULK AT MOST 1048576: true; the input reads as it did. -/
def densityAppliesUptoRow : OpenClaim := { program := "ytodmckckapmmoaagreatdoor", sum := "21ea43fd36cb21e7b77bb3d7958fd94ff5d1fa7cccc5957e9dac64136577fe58", func := "spoondrift/spoondriftlaw16.DensityApplies", spec := "densityApplies", unfollowed := true, recurses := true, named := ["spoondrift/spoondriftlaw16.root", "spoondrift/spoondriftlaw16.half"], apart := false, laid := [("spoondrift/spoondriftlaw16.root", laid_spoondrift_spoondriftlaw16_root), ("spoondrift/spoondriftlaw16.half", laid_spoondrift_spoondriftlaw16_half)], narrowed := true }
def DensityAppliesUptoSaid : Prop := densityAppliesUptoRow.holds Tryz.pinned (OpenSpec.upto densityAppliesSpec)

/-- 'spoondriftlaw16.DensityRuns', WHERE WHAT IT READS IS OF BULK AT MOST 1048576: true; the input reads as it did. -/
def densityRunsUptoRow : OpenClaim := { program := "ytodmckckapmmoaagreatdoor", sum := "21ea43fd36cb21e7b77bb3d7958fd94ff5d1fa7cccc5957e9dac64136577fe58", func := "spoondrift/spoondriftlaw16.DensityRuns", spec := "densityRuns", unfollowed := true, recurses := true, named := ["spoondrift/spoondriftlaw16.root", "spoondrift/spoondriftlaw16.half"], apart := false, laid := [("spoondrift/spoondriftlaw16.root", laid_spoondrift_spoondriftlaw16_root), ("spoondrift/spoondriftlaw16.half", laid_spoondrift_spoondriftlaw16_half)], narrowed := true }
def DensityRunsUptoSaid : Prop := densityRunsUptoRow.holds Tryz.pinned (OpenSpec.upto densityRunsSpec)

/-- 'spoondriftlaw16.DensityChecks', WHERE WHAT IT READS IS OF BULK AT MOST 1048576: true; the input reads as it did. -/
def densityChecksUptoRow : OpenClaim := { program := "ytodmckckapmmoaagreatdoor", sum := "21ea43fd36cb21e7b77bb3d7958fd94ff5d1fa7cccc5957e9dac64136577fe58", func := "spoondrift/spoondriftlaw16.DensityChecks", spec := "densityChecks", unfollowed := true, recurses := true, named := ["spoondrift/spoondriftlaw16.root", "spoondrift/spoondriftlaw16.half"], apart := false, laid := [("spoondrift/spoondriftlaw16.root", laid_spoondrift_spoondriftlaw16_root), ("spoondrift/spoondriftlaw16.half", laid_spoondrift_spoondriftlaw16_half)], narrowed := true }
def DensityChecksUptoSaid : Prop := densityChecksUptoRow.holds Tryz.pinned (OpenSpec.upto densityChecksSpec)

/-- 'spoondriftlaw16.DensitySmall', WHERE WHAT IT READS IS OF BULK AT MOST 1048576: true; the input reads as it did. -/
def densitySmallUptoRow : OpenClaim := { program := "ytodmckckapmmoaagreatdoor", sum := "21ea43fd36cb21e7b77bb3d7958fd94ff5d1fa7cccc5957e9dac64136577fe58", func := "spoondrift/spoondriftlaw16.DensitySmall", spec := "densitySmall", unfollowed := true, recurses := true, named := ["spoondrift/spoondriftlaw16.half", "spoondrift/spoondriftlaw16.root"], apart := false, laid := [("spoondrift/spoondriftlaw16.root", laid_spoondrift_spoondriftlaw16_root), ("spoondrift/spoondriftlaw16.half", laid_spoondrift_spoondriftlaw16_half)], narrowed := true }
def DensitySmallUptoSaid : Prop := densitySmallUptoRow.holds Tryz.pinned (OpenSpec.upto densitySmallSpec)

end Rows
end Go.Proofs.YtodmckckapmmoaaGreatDoor
