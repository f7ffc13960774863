/-
  NARROWER THAN 'FOR EVERY INPUT', by the rows' own cells (each row's printed sentence says how): FullRuns: laid · FullApplies: laid · FullMatrix: laid · FullStates: laid · FullSmall: laid.
  DERIVED. THE GIVEN ROWS OF THIS SEAT. 5 by the template 'for every input the law returns true; each argument reads behind the call as it read before'; 0 by the template 'total and deterministic' (their statements: YtmhnalikebkhjaaGreatDoorTotals.lean).
  GIVEN WITH THE SEED: the statements are not yours to turn. If you find one false, say at which input.
  Laid BY PROGRAM, IN A SANDBOX (cutbox-rows.mjs): the forced cells as the released guide's own fill.sh prints them over the translation 4db0478230f4eb64… (all of the seat's roots in one cut). By AI agents, Wed Nov 11 2026. No macro, syntax, notation, axiom, sorry.
-/
import Derived.Test.YtmhnalikebkhjaaGreatDoorChecked
import GoSem.Claim
import GoSem.ClaimJoined
import GoSem.ClaimMapViews
import Derived.JoinedTies
import Derived.KernelRfl
namespace Go.Proofs.YtmhnalikebkhjaaGreatDoor
/- THE CELL 'sum', in the pinned program and in every row, IS THE sha256 OF THE DUMP (.gsa) THAT YtmhnalikebkhjaaGreatDoorProg.lean LOADS. Nothing in Lean hashes anything: it is a label: what it is worth is what the hold of that sum in a sandbox is worth. -/
noncomputable def Tryz.pinned : Pinned := { name := "ytmhnalikebkhjaagreatdoor", sum := "4db0478230f4eb64e3c3a8136cb8d5891147beb8cf8a559d40d6e9d509d2f1b0", checked := Tryz.checked }
namespace Rows
def none {H : Type} : Left H := { results := [], args := [] }

/- WHAT THE LISTED PACKAGE-LEVEL VARIABLES READ AS WHEN THE CALL BEGINS. Each datum BY PROGRAM (the guide's laid-datum.mjs) off the statement by which the dump's own 'gosem.cut.vars' lays the variable. In a bare row this is a premise. The card (YtmhnalikebkhjaaGreatDoorCards.lean) ties it to the program's text. -/
def laid_spoondrift_spoondriftlaw06_root {H : Type} : DataW H := .agg [.lit (.int .i64 1), .lit (.int .i64 0), .lit (.int .i64 0), .lit (.int .i64 0), .lit (.int .i64 1)]
def laid_spoondrift_spoondriftlaw06_half {H : Type} : DataW H := .agg [.lit (.int .i64 1), .lit (.int .i64 0), .lit (.int .i64 0), .lit (.int .i64 0), .lit (.int .i64 2)]

/-- 'spoondriftlaw06.FullRuns': WHATEVER THE INPUT: true; the input reads as it did. -/
def fullRunsSpec : ChangeSpec := { name := "fullRuns", fn := fun _ => fun
  | [d1, d2, d3] => { results := [.lit (.bool true)], args := [d1, d2, d3] }
  | _ => none }
def fullRunsRow : OpenClaim := { program := "ytmhnalikebkhjaagreatdoor", sum := "4db0478230f4eb64e3c3a8136cb8d5891147beb8cf8a559d40d6e9d509d2f1b0", func := "spoondrift/spoondriftlaw06.FullRuns", spec := "fullRuns", unfollowed := true, recurses := true, named := ["spoondrift/spoondriftlaw06.root", "spoondrift/spoondriftlaw06.half"], apart := false, laid := [("spoondrift/spoondriftlaw06.root", laid_spoondrift_spoondriftlaw06_root), ("spoondrift/spoondriftlaw06.half", laid_spoondrift_spoondriftlaw06_half)] }
def FullRunsSaid : Prop := fullRunsRow.holds Tryz.pinned (OpenSpec.ofChange fullRunsSpec)

/-- ITS FALSE NEIGHBOUR: 'it returns false'. Refute it at one input. -/
def fullRunsWrong : ChangeSpec := { name := "fullRuns", fn := fun _ => fun
  | [d1, d2, d3] => { results := [.lit (.bool false)], args := [d1, d2, d3] }
  | _ => none }
def FullRunsWrongFalsely : Prop := fullRunsRow.holds Tryz.pinned (OpenSpec.ofChange fullRunsWrong)

/-- 'spoondriftlaw06.FullApplies': WHATEVER THE INPUT: true; the input reads as it did. -/
def fullAppliesSpec : ChangeSpec := { name := "fullApplies", fn := fun _ => fun
  | [d1, d2, d3, d4] => { results := [.lit (.bool true)], args := [d1, d2, d3, d4] }
  | _ => none }
def fullAppliesRow : OpenClaim := { program := "ytmhnalikebkhjaagreatdoor", sum := "4db0478230f4eb64e3c3a8136cb8d5891147beb8cf8a559d40d6e9d509d2f1b0", func := "spoondrift/spoondriftlaw06.FullApplies", spec := "fullApplies", unfollowed := true, recurses := true, named := ["spoondrift/spoondriftlaw06.root", "spoondrift/spoondriftlaw06.half"], apart := false, laid := [("spoondrift/spoondriftlaw06.root", laid_spoondrift_spoondriftlaw06_root), ("spoondrift/spoondriftlaw06.half", laid_spoondrift_spoondriftlaw06_half)] }
def FullAppliesSaid : Prop := fullAppliesRow.holds Tryz.pinned (OpenSpec.ofChange fullAppliesSpec)

/-- ITS FALSE NEIGHBOUR: 'it returns false'. Refute it at one input. -/
def fullAppliesWrong : ChangeSpec := { name := "fullApplies", fn := fun _ => fun
  | [d1, d2, d3, d4] => { results := [.lit (.bool false)], args := [d1, d2, d3, d4] }
  | _ => none }
def FullAppliesWrongFalsely : Prop := fullAppliesRow.holds Tryz.pinned (OpenSpec.ofChange fullAppliesWrong)

/-- 'spoondriftlaw06.FullMatrix': WHATEVER THE INPUT: true; the input reads as it did. -/
def fullMatrixSpec : ChangeSpec := { name := "fullMatrix", fn := fun _ => fun
  | [d1, d2, d3, d4] => { results := [.lit (.bool true)], args := [d1, d2, d3, d4] }
  | _ => none }
def fullMatrixRow : OpenClaim := { program := "ytmhnalikebkhjaagreatdoor", sum := "4db0478230f4eb64e3c3a8136cb8d5891147beb8cf8a559d40d6e9d509d2f1b0", func := "spoondrift/spoondriftlaw06.FullMatrix", spec := "fullMatrix", unfollowed := true, recurses := true, named := ["spoondrift/spoondriftlaw06.root", "spoondrift/spoondriftlaw06.half"], apart := false, laid := [("spoondrift/spoondriftlaw06.root", laid_spoondrift_spoondriftlaw06_root), ("spoondrift/spoondriftlaw06.half", laid_spoondrift_spoondriftlaw06_half)] }
def FullMatrixSaid : Prop := fullMatrixRow.holds Tryz.pinned (OpenSpec.ofChange fullMatrixSpec)

/-- ITS FALSE NEIGHBOUR: 'it returns false'. Refute it at one input. -/
def fullMatrixWrong : ChangeSpec := { name := "fullMatrix", fn := fun _ => fun
  | [d1, d2, d3, d4] => { results := [.lit (.bool false)], args := [d1, d2, d3, d4] }
  | _ => none }
def FullMatrixWrongFalsely : Prop := fullMatrixRow.holds Tryz.pinned (OpenSpec.ofChange fullMatrixWrong)

/-- 'spoondriftlaw06.FullStates': WHATEVER THE INPUT: true; the input reads as it did. -/
def fullStatesSpec : ChangeSpec := { name := "fullStates", fn := fun _ => fun
  | [d1, d2, d3, d4] => { results := [.lit (.bool true)], args := [d1, d2, d3, d4] }
  | _ => none }
def fullStatesRow : OpenClaim := { program := "ytmhnalikebkhjaagreatdoor", sum := "4db0478230f4eb64e3c3a8136cb8d5891147beb8cf8a559d40d6e9d509d2f1b0", func := "spoondrift/spoondriftlaw06.FullStates", spec := "fullStates", unfollowed := true, recurses := true, named := ["spoondrift/spoondriftlaw06.root", "spoondrift/spoondriftlaw06.half"], apart := false, laid := [("spoondrift/spoondriftlaw06.root", laid_spoondrift_spoondriftlaw06_root), ("spoondrift/spoondriftlaw06.half", laid_spoondrift_spoondriftlaw06_half)] }
def FullStatesSaid : Prop := fullStatesRow.holds Tryz.pinned (OpenSpec.ofChange fullStatesSpec)

/-- ITS FALSE NEIGHBOUR: 'it returns false'. Refute it at one input. -/
def fullStatesWrong : ChangeSpec := { name := "fullStates", fn := fun _ => fun
  | [d1, d2, d3, d4] => { results := [.lit (.bool false)], args := [d1, d2, d3, d4] }
  | _ => none }
def FullStatesWrongFalsely : Prop := fullStatesRow.holds Tryz.pinned (OpenSpec.ofChange fullStatesWrong)

/-- 'spoondriftlaw06.FullSmall': WHATEVER THE INPUT: true; the input reads as it did. -/
def fullSmallSpec : ChangeSpec := { name := "fullSmall", fn := fun _ => fun
  | [] => { results := [.lit (.bool true)], args := [] }
  | _ => none }
def fullSmallRow : OpenClaim := { program := "ytmhnalikebkhjaagreatdoor", sum := "4db0478230f4eb64e3c3a8136cb8d5891147beb8cf8a559d40d6e9d509d2f1b0", func := "spoondrift/spoondriftlaw06.FullSmall", spec := "fullSmall", unfollowed := true, recurses := true, named := ["spoondrift/spoondriftlaw06.root", "spoondrift/spoondriftlaw06.half"], apart := false, laid := [("spoondrift/spoondriftlaw06.root", laid_spoondrift_spoondriftlaw06_root), ("spoondrift/spoondriftlaw06.half", laid_spoondrift_spoondriftlaw06_half)] }
def FullSmallSaid : Prop := fullSmallRow.holds Tryz.pinned (OpenSpec.ofChange fullSmallSpec)

/-- ITS FALSE NEIGHBOUR: 'it returns false'. Refute it at one input. -/
def fullSmallWrong : ChangeSpec := { name := "fullSmall", fn := fun _ => fun
  | [] => { results := [.lit (.bool false)], args := [] }
  | _ => none }
def FullSmallWrongFalsely : Prop := fullSmallRow.holds Tryz.pinned (OpenSpec.ofChange fullSmallWrong)

/- THE SECOND FORM. 'bulk': how many values and letters a reading holds, each counted each time it is reached (what is shared counts as often as it is met; a slice's spare places count too). A statement '..UptoSaid' is the law's where the arguments, and the package variables that the reading takes, are together of bulk at most 1048576: NARROWER than '..Said'. Prove '..Said' where nothing that the law and all that it calls make is longer than what came in: it says more and counts as full. Else prove '..UptoSaid'. A law counts once. -/
mutual
def uptoBulk {H : Type} : DataW H → Nat
  | .lit (.string bytes) => bytes.length + 1
  | .lit _ => 1
  | .nil => 1
  | .ptr d => uptoBulk d + 1
  | .slice elems spare => uptoBulkAll elems + uptoBulkAll spare + 1
  | .agg parts => uptoBulkAll parts + 1
  | .iface _ d => uptoBulk d + 1
  | .map entries => uptoBulkEntries entries + 1
  | .held _ => 1
def uptoBulkAll {H : Type} : List (DataW H) → Nat
  | [] => 0
  | d :: r => uptoBulk d + uptoBulkAll r
def uptoBulkEntries {H : Type} : List (Lit × DataW H) → Nat
  | [] => 0
  | x :: r => uptoBulkEntry x + uptoBulkEntries r
def uptoBulkEntry {H : Type} : Lit × DataW H → Nat
  | (.string bytes, d) => bytes.length + uptoBulk d + 1
  | (_, d) => uptoBulk d + 1
 end
def uptoSmall : (H : Type) → List (DataW H) → Bool := fun _ ds => decide (uptoBulkAll ds ≤ 1048576)
def OpenSpec.upto (s : _root_.Go.ChangeSpec) : _root_.Go.OpenSpec := { _root_.Go.OpenSpec.ofChange s with cond := some uptoSmall }

/-- 'spoondriftlaw06.FullRuns', WHERE WHAT IT READS IS OF BULK AT MOST 1048576: true; the input reads as it did. -/
def fullRunsUptoRow : OpenClaim := { program := "ytmhnalikebkhjaagreatdoor", sum := "4db0478230f4eb64e3c3a8136cb8d5891147beb8cf8a559d40d6e9d509d2f1b0", func := "spoondrift/spoondriftlaw06.FullRuns", spec := "fullRuns", unfollowed := true, recurses := true, named := ["spoondrift/spoondriftlaw06.root", "spoondrift/spoondriftlaw06.half"], apart := false, laid := [("spoondrift/spoondriftlaw06.root", laid_spoondrift_spoondriftlaw06_root), ("spoondrift/spoondriftlaw06.half", laid_spoondrift_spoondriftlaw06_half)], narrowed := true }
def FullRunsUptoSaid : Prop := fullRunsUptoRow.holds Tryz.pinned (OpenSpec.upto fullRunsSpec)

/-- 'spoondriftlaw06.FullApplies', WHERE WHAT IT READS IS OF BULK AT MOST 1048576: true; the input reads as it did. -/
def fullAppliesUptoRow : OpenClaim := { program := "ytmhnalikebkhjaagreatdoor", sum := "4db0478230f4eb64e3c3a8136cb8d5891147beb8cf8a559d40d6e9d509d2f1b0", func := "spoondrift/spoondriftlaw06.FullApplies", spec := "fullApplies", unfollowed := true, recurses := true, named := ["spoondrift/spoondriftlaw06.root", "spoondrift/spoondriftlaw06.half"], apart := false, laid := [("spoondrift/spoondriftlaw06.root", laid_spoondrift_spoondriftlaw06_root), ("spoondrift/spoondriftlaw06.half", laid_spoondrift_spoondriftlaw06_half)], narrowed := true }
def FullAppliesUptoSaid : Prop := fullAppliesUptoRow.holds Tryz.pinned (OpenSpec.upto fullAppliesSpec)

/-- 'spoondriftlaw06.FullMatrix', WHERE WHAT IT READS IS OF BULK AT MOST 1048576: true; the input reads as it did. -/
def fullMatrixUptoRow : OpenClaim := { program := "ytmhnalikebkhjaagreatdoor", sum := "4db0478230f4eb64e3c3a8136cb8d5891147beb8cf8a559d40d6e9d509d2f1b0", func := "spoondrift/spoondriftlaw06.FullMatrix", spec := "fullMatrix", unfollowed := true, recurses := true, named := ["spoondrift/spoondriftlaw06.root", "spoondrift/spoondriftlaw06.half"], apart := false, laid := [("spoondrift/spoondriftlaw06.root", laid_spoondrift_spoondriftlaw06_root), ("spoondrift/spoondriftlaw06.half", laid_spoondrift_spoondriftlaw06_half)], narrowed := true }
def FullMatrixUptoSaid : Prop := fullMatrixUptoRow.holds Tryz.pinned (OpenSpec.upto fullMatrixSpec)

/-- 'spoondriftlaw06.FullStates', WHERE WHAT IT READS IS OF BULK AT MOST 1048576: true; the input reads as it did. -/
def fullStatesUptoRow : OpenClaim := { program := "ytmhnalikebkhjaagreatdoor", sum := "4db0478230f4eb64e3c3a8136cb8d5891147beb8cf8a559d40d6e9d509d2f1b0", func := "spoondrift/spoondriftlaw06.FullStates", spec := "fullStates", unfollowed := true, recurses := true, named := ["spoondrift/spoondriftlaw06.root", "spoondrift/spoondriftlaw06.half"], apart := false, laid := [("spoondrift/spoondriftlaw06.root", laid_spoondrift_spoondriftlaw06_root), ("spoondrift/spoondriftlaw06.half", laid_spoondrift_spoondriftlaw06_half)], narrowed := true }
def FullStatesUptoSaid : Prop := fullStatesUptoRow.holds Tryz.pinned (OpenSpec.upto fullStatesSpec)

/-- 'spoondriftlaw06.FullSmall', WHERE WHAT IT READS IS OF BULK AT MOST 1048576: true; the input reads as it did. -/
def fullSmallUptoRow : OpenClaim := { program := "ytmhnalikebkhjaagreatdoor", sum := "4db0478230f4eb64e3c3a8136cb8d5891147beb8cf8a559d40d6e9d509d2f1b0", func := "spoondrift/spoondriftlaw06.FullSmall", spec := "fullSmall", unfollowed := true, recurses := true, named := ["spoondrift/spoondriftlaw06.root", "spoondrift/spoondriftlaw06.half"], apart := false, laid := [("spoondrift/spoondriftlaw06.root", laid_spoondrift_spoondriftlaw06_root), ("spoondrift/spoondriftlaw06.half", laid_spoondrift_spoondriftlaw06_half)], narrowed := true }
def FullSmallUptoSaid : Prop := fullSmallUptoRow.holds Tryz.pinned (OpenSpec.upto fullSmallSpec)

end Rows
end Go.Proofs.YtmhnalikebkhjaaGreatDoor
