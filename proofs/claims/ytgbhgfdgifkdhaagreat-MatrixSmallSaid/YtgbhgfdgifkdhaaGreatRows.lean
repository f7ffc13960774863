/-
  No cell of these rows narrows 'for every input' (looked for: loops, veiled, ifaces, maps, wideKeys, modest, calm, conditions, laid).
  DERIVED. THE GIVEN ROWS OF THIS SEAT. 4 by the template 'for every input the law returns true; each argument reads behind the call as it read before'; 0 by the template 'total and deterministic' (their statements: YtgbhgfdgifkdhaaGreatTotals.lean).
  GIVEN WITH THE SEED: the statements are not yours to turn. If you find one false, say at which input.
  Laid BY PROGRAM, IN A SANDBOX (cutbox-rows.mjs): the forced cells as the released guide's own fill.sh prints them over the translation 4ed69eefb5318920… (all of the seat's roots in one cut). By AI agents, Wed Nov 11 2026. No macro, syntax, notation, axiom, sorry.
-/
import Derived.Test.YtgbhgfdgifkdhaaGreatChecked
import GoSem.Claim
import GoSem.ClaimJoined
import GoSem.ClaimMapViews
import Derived.JoinedTies
import Derived.KernelRfl
namespace Go.Proofs.YtgbhgfdgifkdhaaGreat
/- THE CELL 'sum', in the pinned program and in every row, IS THE sha256 OF THE DUMP (.gsa) THAT YtgbhgfdgifkdhaaGreatProg.lean LOADS. Nothing in Lean hashes anything: it is a label: what it is worth is what the hold of that sum in a sandbox is worth. -/
noncomputable def Tryz.pinned : Pinned := { name := "ytgbhgfdgifkdhaagreat", sum := "4ed69eefb53189208113f6cf05d876756c12d6d890ca1123526fb467138142b4", checked := Tryz.checked }
namespace Rows
def none {H : Type} : Left H := { results := [], args := [] }

/-- 'spoondriftlaw03.MatrixSmall': WHATEVER THE INPUT: true; the input reads as it did. -/
def matrixSmallSpec : ChangeSpec := { name := "matrixSmall", fn := fun _ => fun
  | [] => { results := [.lit (.bool true)], args := [] }
  | _ => none }
def matrixSmallRow : OpenClaim := { program := "ytgbhgfdgifkdhaagreat", sum := "4ed69eefb53189208113f6cf05d876756c12d6d890ca1123526fb467138142b4", func := "spoondrift/spoondriftlaw03.MatrixSmall", spec := "matrixSmall", unfollowed := true, recurses := true, plainKeys := false, apart := false }
def MatrixSmallSaid : Prop := matrixSmallRow.holds Tryz.pinned (OpenSpec.ofChange matrixSmallSpec)

/-- ITS FALSE NEIGHBOUR: 'it returns false'. Refute it at one input. -/
def matrixSmallWrong : ChangeSpec := { name := "matrixSmall", fn := fun _ => fun
  | [] => { results := [.lit (.bool false)], args := [] }
  | _ => none }
def MatrixSmallWrongFalsely : Prop := matrixSmallRow.holds Tryz.pinned (OpenSpec.ofChange matrixSmallWrong)

/-- 'spoondriftlaw17.SynthOnly': WHATEVER THE INPUT: true; the input reads as it did. -/
def synthOnlySpec : ChangeSpec := { name := "synthOnly", fn := fun _ => fun
  | [d1, d2, d3] => { results := [.lit (.bool true)], args := [d1, d2, d3] }
  | _ => none }
def synthOnlyRow : OpenClaim := { program := "ytgbhgfdgifkdhaagreat", sum := "4ed69eefb53189208113f6cf05d876756c12d6d890ca1123526fb467138142b4", func := "spoondrift/spoondriftlaw17.SynthOnly", spec := "synthOnly", unfollowed := true, recurses := true, plainKeys := false, apart := false }
def SynthOnlySaid : Prop := synthOnlyRow.holds Tryz.pinned (OpenSpec.ofChange synthOnlySpec)

/-- ITS FALSE NEIGHBOUR: 'it returns false'. Refute it at one input. -/
def synthOnlyWrong : ChangeSpec := { name := "synthOnly", fn := fun _ => fun
  | [d1, d2, d3] => { results := [.lit (.bool false)], args := [d1, d2, d3] }
  | _ => none }
def SynthOnlyWrongFalsely : Prop := synthOnlyRow.holds Tryz.pinned (OpenSpec.ofChange synthOnlyWrong)

/-- 'spoondriftlaw17.SynthGroup': WHATEVER THE INPUT: true; the input reads as it did. -/
def synthGroupSpec : ChangeSpec := { name := "synthGroup", fn := fun _ => fun
  | [d] => { results := [.lit (.bool true)], args := [d] }
  | _ => none }
def synthGroupRow : OpenClaim := { program := "ytgbhgfdgifkdhaagreat", sum := "4ed69eefb53189208113f6cf05d876756c12d6d890ca1123526fb467138142b4", func := "spoondrift/spoondriftlaw17.SynthGroup", spec := "synthGroup", unfollowed := true, recurses := true, plainKeys := false, apart := false }
def SynthGroupSaid : Prop := synthGroupRow.holds Tryz.pinned (OpenSpec.ofChange synthGroupSpec)

/-- ITS FALSE NEIGHBOUR: 'it returns false'. Refute it at one input. -/
def synthGroupWrong : ChangeSpec := { name := "synthGroup", fn := fun _ => fun
  | [d] => { results := [.lit (.bool false)], args := [d] }
  | _ => none }
def SynthGroupWrongFalsely : Prop := synthGroupRow.holds Tryz.pinned (OpenSpec.ofChange synthGroupWrong)

/-- 'spoondriftlaw17.SynthAll': WHATEVER THE INPUT: true; the input reads as it did. -/
def synthAllSpec : ChangeSpec := { name := "synthAll", fn := fun _ => fun
  | [d1, d2, d3] => { results := [.lit (.bool true)], args := [d1, d2, d3] }
  | _ => none }
def synthAllRow : OpenClaim := { program := "ytgbhgfdgifkdhaagreat", sum := "4ed69eefb53189208113f6cf05d876756c12d6d890ca1123526fb467138142b4", func := "spoondrift/spoondriftlaw17.SynthAll", spec := "synthAll", unfollowed := true, recurses := true, plainKeys := false, apart := false }
def SynthAllSaid : Prop := synthAllRow.holds Tryz.pinned (OpenSpec.ofChange synthAllSpec)

/-- ITS FALSE NEIGHBOUR: 'it returns false'. Refute it at one input. -/
def synthAllWrong : ChangeSpec := { name := "synthAll", fn := fun _ => fun
  | [d1, d2, d3] => { results := [.lit (.bool false)], args := [d1, d2, d3] }
  | _ => none }
def SynthAllWrongFalsely : Prop := synthAllRow.holds Tryz.pinned (OpenSpec.ofChange synthAllWrong)

/- THE SECOND FORM. 'bulk': how many values and letters a reading holds, each counted each time it is reached (what is shared counts as often as it is met; a slice's spare places count too). A statement '..UptoSaid' is the law's where the arguments, and the package variables that the reading takes, are together of bulk at most 1048576: NARROWER than '..Said'. Prove '..Said' where nothing that the law and all that it calls make is longer than what came in: it says more and counts as full. Else prove '..UptoSaid'. A law counts once. -/
mutual
def uptoBulk {H : Type} : DataW H → Nat
  | .lit (.string bytes) => bytes.length + 1
  | .lit _ => 1
  | .nil => 1
  | .ptr d => uptoBulk d + 1
  | .slice elems spare => uptoBulkAll elems + uptoBulkAll spare + 1
  | .agg parts => uptoBulkAll parts + 1
  | .iface _ d => uptoBulk d + 1
  | .map entries => uptoBulkEntries entries + 1
  | .held _ => 1
def uptoBulkAll {H : Type} : List (DataW H) → Nat
  | [] => 0
  | d :: r => uptoBulk d + uptoBulkAll r
def uptoBulkEntries {H : Type} : List (Lit × DataW H) → Nat
  | [] => 0
  | x :: r => uptoBulkEntry x + uptoBulkEntries r
def uptoBulkEntry {H : Type} : Lit × DataW H → Nat
  | (.string bytes, d) => bytes.length + uptoBulk d + 1
  | (_, d) => uptoBulk d + 1
 end
def uptoSmall : (H : Type) → List (DataW H) → Bool := fun _ ds => decide (uptoBulkAll ds ≤ 1048576)
def OpenSpec.upto (s : _root_.Go.ChangeSpec) : _root_.Go.OpenSpec := { _root_.Go.OpenSpec.ofChange s with cond := some uptoSmall }

/-- 'spoondriftlaw03.MatrixSmall', WHERE WHAT IT READS IS OF BULK AT MOST 1048576: true; the input reads as it did. -/
def matrixSmallUptoRow : OpenClaim := { program := "ytgbhgfdgifkdhaagreat", sum := "4ed69eefb53189208113f6cf05d876756c12d6d890ca1123526fb467138142b4", func := "spoondrift/spoondriftlaw03.MatrixSmall", spec := "matrixSmall", unfollowed := true, recurses := true, plainKeys := false, apart := false, narrowed := true }
def MatrixSmallUptoSaid : Prop := matrixSmallUptoRow.holds Tryz.pinned (OpenSpec.upto matrixSmallSpec)

/-- 'spoondriftlaw17.SynthOnly', WHERE WHAT IT READS IS OF BULK AT MOST 1048576: true; the input reads as it did. -/
def synthOnlyUptoRow : OpenClaim := { program := "ytgbhgfdgifkdhaagreat", sum := "4ed69eefb53189208113f6cf05d876756c12d6d890ca1123526fb467138142b4", func := "spoondrift/spoondriftlaw17.SynthOnly", spec := "synthOnly", unfollowed := true, recurses := true, plainKeys := false, apart := false, narrowed := true }
def SynthOnlyUptoSaid : Prop := synthOnlyUptoRow.holds Tryz.pinned (OpenSpec.upto synthOnlySpec)

/-- 'spoondriftlaw17.SynthGroup', WHERE WHAT IT READS IS OF BULK AT MOST 1048576: true; the input reads as it did. -/
def synthGroupUptoRow : OpenClaim := { program := "ytgbhgfdgifkdhaagreat", sum := "4ed69eefb53189208113f6cf05d876756c12d6d890ca1123526fb467138142b4", func := "spoondrift/spoondriftlaw17.SynthGroup", spec := "synthGroup", unfollowed := true, recurses := true, plainKeys := false, apart := false, narrowed := true }
def SynthGroupUptoSaid : Prop := synthGroupUptoRow.holds Tryz.pinned (OpenSpec.upto synthGroupSpec)

/-- 'spoondriftlaw17.SynthAll', WHERE WHAT IT READS IS OF BULK AT MOST 1048576: true; the input reads as it did. -/
def synthAllUptoRow : OpenClaim := { program := "ytgbhgfdgifkdhaagreat", sum := "4ed69eefb53189208113f6cf05d876756c12d6d890ca1123526fb467138142b4", func := "spoondrift/spoondriftlaw17.SynthAll", spec := "synthAll", unfollowed := true, recurses := true, plainKeys := false, apart := false, narrowed := true }
def SynthAllUptoSaid : Prop := synthAllUptoRow.holds Tryz.pinned (OpenSpec.upto synthAllSpec)

end Rows
end Go.Proofs.YtgbhgfdgifkdhaaGreat
