/-
  No cell of these rows narrows 'for every input' (looked for: loops, veiled, ifaces, maps, wideKeys, modest, calm, conditions, laid).
  DERIVED. THE GIVEN ROWS OF THIS SEAT. 10 by the template 'for every input the law returns true; each argument reads behind the call as it read before'; 0 by the template 'total and deterministic' (their statements: YtbbjhegapilhpaaGreatTotals.lean).
  GIVEN WITH THE SEED: the statements are not yours to turn. If you find one false, say at which input.
  Laid BY PROGRAM, IN A SANDBOX (cutbox-rows.mjs): the forced cells as the released guide's own fill.sh prints them over the translation 670c0e12295d54b6… (all of the seat's roots in one cut). By AI agents, Wed Nov 11 2026. No macro, syntax, notation, axiom, sorry.
-/
import Derived.Test.YtbbjhegapilhpaaGreatChecked
import GoSem.Claim
import GoSem.ClaimJoined
import GoSem.ClaimMapViews
import Derived.JoinedTies
import Derived.KernelRfl
namespace Go.Proofs.YtbbjhegapilhpaaGreat
/- THE CELL 'sum', in the pinned program and in every row, IS THE sha256 OF THE DUMP (.gsa) THAT YtbbjhegapilhpaaGreatProg.lean LOADS. Nothing in Lean hashes anything: it is a label: what it is worth is what the hold of that sum in a sandbox is worth. -/
noncomputable def Tryz.pinned : Pinned := { name := "ytbbjhegapilhpaagreat", sum := "670c0e12295d54b6304a7fd9827b044159763e2de5a201c1c8fdcf11cc2678f2", checked := Tryz.checked }
namespace Rows
def none {H : Type} : Left H := { results := [], args := [] }

/-- 'spoondriftlaw03.MatrixPuts': WHATEVER THE INPUT: true; the input reads as it did. -/
def matrixPutsSpec : ChangeSpec := { name := "matrixPuts", fn := fun _ => fun
  | [d1, d2, d3, d4] => { results := [.lit (.bool true)], args := [d1, d2, d3, d4] }
  | _ => none }
def matrixPutsRow : OpenClaim := { program := "ytbbjhegapilhpaagreat", sum := "670c0e12295d54b6304a7fd9827b044159763e2de5a201c1c8fdcf11cc2678f2", func := "spoondrift/spoondriftlaw03.MatrixPuts", spec := "matrixPuts", unfollowed := true, recurses := true, apart := false }
def MatrixPutsSaid : Prop := matrixPutsRow.holds Tryz.pinned (OpenSpec.ofChange matrixPutsSpec)

/-- ITS FALSE NEIGHBOUR: 'it returns false'. Refute it at one input. -/
def matrixPutsWrong : ChangeSpec := { name := "matrixPuts", fn := fun _ => fun
  | [d1, d2, d3, d4] => { results := [.lit (.bool false)], args := [d1, d2, d3, d4] }
  | _ => none }
def MatrixPutsWrongFalsely : Prop := matrixPutsRow.holds Tryz.pinned (OpenSpec.ofChange matrixPutsWrong)

/-- 'spoondriftlaw03.MatrixChecks': WHATEVER THE INPUT: true; the input reads as it did. -/
def matrixChecksSpec : ChangeSpec := { name := "matrixChecks", fn := fun _ => fun
  | [d] => { results := [.lit (.bool true)], args := [d] }
  | _ => none }
def matrixChecksRow : OpenClaim := { program := "ytbbjhegapilhpaagreat", sum := "670c0e12295d54b6304a7fd9827b044159763e2de5a201c1c8fdcf11cc2678f2", func := "spoondrift/spoondriftlaw03.MatrixChecks", spec := "matrixChecks", unfollowed := true, recurses := true, apart := false }
def MatrixChecksSaid : Prop := matrixChecksRow.holds Tryz.pinned (OpenSpec.ofChange matrixChecksSpec)

/-- ITS FALSE NEIGHBOUR: 'it returns false'. Refute it at one input. -/
def matrixChecksWrong : ChangeSpec := { name := "matrixChecks", fn := fun _ => fun
  | [d] => { results := [.lit (.bool false)], args := [d] }
  | _ => none }
def MatrixChecksWrongFalsely : Prop := matrixChecksRow.holds Tryz.pinned (OpenSpec.ofChange matrixChecksWrong)

/-- 'spoondriftlaw03.MatrixSames': WHATEVER THE INPUT: true; the input reads as it did. -/
def matrixSamesSpec : ChangeSpec := { name := "matrixSames", fn := fun _ => fun
  | [d1, d2] => { results := [.lit (.bool true)], args := [d1, d2] }
  | _ => none }
def matrixSamesRow : OpenClaim := { program := "ytbbjhegapilhpaagreat", sum := "670c0e12295d54b6304a7fd9827b044159763e2de5a201c1c8fdcf11cc2678f2", func := "spoondrift/spoondriftlaw03.MatrixSames", spec := "matrixSames", unfollowed := true, recurses := true, apart := false }
def MatrixSamesSaid : Prop := matrixSamesRow.holds Tryz.pinned (OpenSpec.ofChange matrixSamesSpec)

/-- ITS FALSE NEIGHBOUR: 'it returns false'. Refute it at one input. -/
def matrixSamesWrong : ChangeSpec := { name := "matrixSames", fn := fun _ => fun
  | [d1, d2] => { results := [.lit (.bool false)], args := [d1, d2] }
  | _ => none }
def MatrixSamesWrongFalsely : Prop := matrixSamesRow.holds Tryz.pinned (OpenSpec.ofChange matrixSamesWrong)

/-- 'spoondriftlaw03.MatrixAdds': WHATEVER THE INPUT: true; the input reads as it did. -/
def matrixAddsSpec : ChangeSpec := { name := "matrixAdds", fn := fun _ => fun
  | [d1, d2, d3] => { results := [.lit (.bool true)], args := [d1, d2, d3] }
  | _ => none }
def matrixAddsRow : OpenClaim := { program := "ytbbjhegapilhpaagreat", sum := "670c0e12295d54b6304a7fd9827b044159763e2de5a201c1c8fdcf11cc2678f2", func := "spoondrift/spoondriftlaw03.MatrixAdds", spec := "matrixAdds", unfollowed := true, recurses := true, apart := false }
def MatrixAddsSaid : Prop := matrixAddsRow.holds Tryz.pinned (OpenSpec.ofChange matrixAddsSpec)

/-- ITS FALSE NEIGHBOUR: 'it returns false'. Refute it at one input. -/
def matrixAddsWrong : ChangeSpec := { name := "matrixAdds", fn := fun _ => fun
  | [d1, d2, d3] => { results := [.lit (.bool false)], args := [d1, d2, d3] }
  | _ => none }
def MatrixAddsWrongFalsely : Prop := matrixAddsRow.holds Tryz.pinned (OpenSpec.ofChange matrixAddsWrong)

/-- 'spoondriftlaw03.MatrixApplies': WHATEVER THE INPUT: true; the input reads as it did. -/
def matrixAppliesSpec : ChangeSpec := { name := "matrixApplies", fn := fun _ => fun
  | [d1, d2, d3] => { results := [.lit (.bool true)], args := [d1, d2, d3] }
  | _ => none }
def matrixAppliesRow : OpenClaim := { program := "ytbbjhegapilhpaagreat", sum := "670c0e12295d54b6304a7fd9827b044159763e2de5a201c1c8fdcf11cc2678f2", func := "spoondrift/spoondriftlaw03.MatrixApplies", spec := "matrixApplies", unfollowed := true, recurses := true, apart := false }
def MatrixAppliesSaid : Prop := matrixAppliesRow.holds Tryz.pinned (OpenSpec.ofChange matrixAppliesSpec)

/-- ITS FALSE NEIGHBOUR: 'it returns false'. Refute it at one input. -/
def matrixAppliesWrong : ChangeSpec := { name := "matrixApplies", fn := fun _ => fun
  | [d1, d2, d3] => { results := [.lit (.bool false)], args := [d1, d2, d3] }
  | _ => none }
def MatrixAppliesWrongFalsely : Prop := matrixAppliesRow.holds Tryz.pinned (OpenSpec.ofChange matrixAppliesWrong)

/-- 'spoondriftlaw03.MatrixOrder': WHATEVER THE INPUT: true; the input reads as it did. -/
def matrixOrderSpec : ChangeSpec := { name := "matrixOrder", fn := fun _ => fun
  | [d] => { results := [.lit (.bool true)], args := [d] }
  | _ => none }
def matrixOrderRow : OpenClaim := { program := "ytbbjhegapilhpaagreat", sum := "670c0e12295d54b6304a7fd9827b044159763e2de5a201c1c8fdcf11cc2678f2", func := "spoondrift/spoondriftlaw03.MatrixOrder", spec := "matrixOrder", unfollowed := true, recurses := true, apart := false }
def MatrixOrderSaid : Prop := matrixOrderRow.holds Tryz.pinned (OpenSpec.ofChange matrixOrderSpec)

/-- ITS FALSE NEIGHBOUR: 'it returns false'. Refute it at one input. -/
def matrixOrderWrong : ChangeSpec := { name := "matrixOrder", fn := fun _ => fun
  | [d] => { results := [.lit (.bool false)], args := [d] }
  | _ => none }
def MatrixOrderWrongFalsely : Prop := matrixOrderRow.holds Tryz.pinned (OpenSpec.ofChange matrixOrderWrong)

/-- 'spoondriftlaw03.MatrixPhased': WHATEVER THE INPUT: true; the input reads as it did. -/
def matrixPhasedSpec : ChangeSpec := { name := "matrixPhased", fn := fun _ => fun
  | [d1, d2] => { results := [.lit (.bool true)], args := [d1, d2] }
  | _ => none }
def matrixPhasedRow : OpenClaim := { program := "ytbbjhegapilhpaagreat", sum := "670c0e12295d54b6304a7fd9827b044159763e2de5a201c1c8fdcf11cc2678f2", func := "spoondrift/spoondriftlaw03.MatrixPhased", spec := "matrixPhased", unfollowed := true, recurses := true, apart := false }
def MatrixPhasedSaid : Prop := matrixPhasedRow.holds Tryz.pinned (OpenSpec.ofChange matrixPhasedSpec)

/-- ITS FALSE NEIGHBOUR: 'it returns false'. Refute it at one input. -/
def matrixPhasedWrong : ChangeSpec := { name := "matrixPhased", fn := fun _ => fun
  | [d1, d2] => { results := [.lit (.bool false)], args := [d1, d2] }
  | _ => none }
def MatrixPhasedWrongFalsely : Prop := matrixPhasedRow.holds Tryz.pinned (OpenSpec.ofChange matrixPhasedWrong)

/-- 'spoondriftlaw03.MatrixTurns': WHATEVER THE INPUT: true; the input reads as it did. -/
def matrixTurnsSpec : ChangeSpec := { name := "matrixTurns", fn := fun _ => fun
  | [d] => { results := [.lit (.bool true)], args := [d] }
  | _ => none }
def matrixTurnsRow : OpenClaim := { program := "ytbbjhegapilhpaagreat", sum := "670c0e12295d54b6304a7fd9827b044159763e2de5a201c1c8fdcf11cc2678f2", func := "spoondrift/spoondriftlaw03.MatrixTurns", spec := "matrixTurns", unfollowed := true, recurses := true, apart := false }
def MatrixTurnsSaid : Prop := matrixTurnsRow.holds Tryz.pinned (OpenSpec.ofChange matrixTurnsSpec)

/-- ITS FALSE NEIGHBOUR: 'it returns false'. Refute it at one input. -/
def matrixTurnsWrong : ChangeSpec := { name := "matrixTurns", fn := fun _ => fun
  | [d] => { results := [.lit (.bool false)], args := [d] }
  | _ => none }
def MatrixTurnsWrongFalsely : Prop := matrixTurnsRow.holds Tryz.pinned (OpenSpec.ofChange matrixTurnsWrong)

/-- 'spoondriftlaw03.MatrixApart': WHATEVER THE INPUT: true; the input reads as it did. -/
def matrixApartSpec : ChangeSpec := { name := "matrixApart", fn := fun _ => fun
  | [d] => { results := [.lit (.bool true)], args := [d] }
  | _ => none }
def matrixApartRow : OpenClaim := { program := "ytbbjhegapilhpaagreat", sum := "670c0e12295d54b6304a7fd9827b044159763e2de5a201c1c8fdcf11cc2678f2", func := "spoondrift/spoondriftlaw03.MatrixApart", spec := "matrixApart", inPlace := ["slices.overlaps[int]"], unfollowed := true, recurses := true, apart := false }
def MatrixApartSaid : Prop := matrixApartRow.holds Tryz.pinned (OpenSpec.ofChange matrixApartSpec)

/-- ITS FALSE NEIGHBOUR: 'it returns false'. Refute it at one input. -/
def matrixApartWrong : ChangeSpec := { name := "matrixApart", fn := fun _ => fun
  | [d] => { results := [.lit (.bool false)], args := [d] }
  | _ => none }
def MatrixApartWrongFalsely : Prop := matrixApartRow.holds Tryz.pinned (OpenSpec.ofChange matrixApartWrong)

/-- 'spoondriftlaw03.MatrixSmall': WHATEVER THE INPUT: true; the input reads as it did. -/
def matrixSmallSpec : ChangeSpec := { name := "matrixSmall", fn := fun _ => fun
  | [] => { results := [.lit (.bool true)], args := [] }
  | _ => none }
def matrixSmallRow : OpenClaim := { program := "ytbbjhegapilhpaagreat", sum := "670c0e12295d54b6304a7fd9827b044159763e2de5a201c1c8fdcf11cc2678f2", func := "spoondrift/spoondriftlaw03.MatrixSmall", spec := "matrixSmall", unfollowed := true, recurses := true, apart := false }
def MatrixSmallSaid : Prop := matrixSmallRow.holds Tryz.pinned (OpenSpec.ofChange matrixSmallSpec)

/-- ITS FALSE NEIGHBOUR: 'it returns false'. Refute it at one input. -/
def matrixSmallWrong : ChangeSpec := { name := "matrixSmall", fn := fun _ => fun
  | [] => { results := [.lit (.bool false)], args := [] }
  | _ => none }
def MatrixSmallWrongFalsely : Prop := matrixSmallRow.holds Tryz.pinned (OpenSpec.ofChange matrixSmallWrong)

/- THE SECOND FORM. 'bulk': how many values and letters a reading holds, each counted each time it is reached (what is shared counts as often as it is met; a slice's spare places count too). A statement '..UptoSaid' is the law's where the arguments, and the package variables that the reading takes, are together of bulk at most 1048576: NARROWER than '..Said'. Prove '..Said' where nothing that the law and all that it calls make is longer than what came in: it says more and counts as full. Else prove '..UptoSaid'. A law counts once. -/
mutual
def uptoBulk {H : Type} : DataW H → Nat
  | .lit (.string bytes) => bytes.length + 1
  | .lit _ => 1
  | .nil => 1
  | .ptr d => uptoBulk d + 1
  | .slice elems spare => uptoBulkAll elems + uptoBulkAll spare + 1
  | .agg parts => uptoBulkAll parts + 1
  | .iface _ d => uptoBulk d + 1
  | .map entries => uptoBulkEntries entries + 1
  | .held _ => 1
def uptoBulkAll {H : Type} : List (DataW H) → Nat
  | [] => 0
  | d :: r => uptoBulk d + uptoBulkAll r
def uptoBulkEntries {H : Type} : List (Lit × DataW H) → Nat
  | [] => 0
  | x :: r => uptoBulkEntry x + uptoBulkEntries r
def uptoBulkEntry {H : Type} : Lit × DataW H → Nat
  | (.string bytes, d) => bytes.length + uptoBulk d + 1
  | (_, d) => uptoBulk d + 1
 end
def uptoSmall : (H : Type) → List (DataW H) → Bool := fun _ ds => decide (uptoBulkAll ds ≤ 1048576)
def OpenSpec.upto (s : _root_.Go.ChangeSpec) : _root_.Go.OpenSpec := { _root_.Go.OpenSpec.ofChange s with cond := some uptoSmall }

/-- 'spoondriftlaw03.MatrixPuts', WHERE WHAT IT READS IS OF BULK AT MOST 1048576: true; the input reads as it did. -/
def matrixPutsUptoRow : OpenClaim := { program := "ytbbjhegapilhpaagreat", sum := "670c0e12295d54b6304a7fd9827b044159763e2de5a201c1c8fdcf11cc2678f2", func := "spoondrift/spoondriftlaw03.MatrixPuts", spec := "matrixPuts", unfollowed := true, recurses := true, apart := false, narrowed := true }
def MatrixPutsUptoSaid : Prop := matrixPutsUptoRow.holds Tryz.pinned (OpenSpec.upto matrixPutsSpec)

/-- 'spoondriftlaw03.MatrixChecks', WHERE WHAT IT READS IS OF BULK AT MOST 1048576: true; the input reads as it did. -/
def matrixChecksUptoRow : OpenClaim := { program := "ytbbjhegapilhpaagreat", sum := "670c0e12295d54b6304a7fd9827b044159763e2de5a201c1c8fdcf11cc2678f2", func := "spoondrift/spoondriftlaw03.MatrixChecks", spec := "matrixChecks", unfollowed := true, recurses := true, apart := false, narrowed := true }
def MatrixChecksUptoSaid : Prop := matrixChecksUptoRow.holds Tryz.pinned (OpenSpec.upto matrixChecksSpec)

/-- 'spoondriftlaw03.MatrixSames', WHERE WHAT IT READS IS OF BULK AT MOST 1048576: true; the input reads as it did. -/
def matrixSamesUptoRow : OpenClaim := { program := "ytbbjhegapilhpaagreat", sum := "670c0e12295d54b6304a7fd9827b044159763e2de5a201c1c8fdcf11cc2678f2", func := "spoondrift/spoondriftlaw03.MatrixSames", spec := "matrixSames", unfollowed := true, recurses := true, apart := false, narrowed := true }
def MatrixSamesUptoSaid : Prop := matrixSamesUptoRow.holds Tryz.pinned (OpenSpec.upto matrixSamesSpec)

/-- 'spoondriftlaw03.MatrixAdds', WHERE WHAT IT READS IS OF BULK AT MOST 1048576: true; the input reads as it did. -/
def matrixAddsUptoRow : OpenClaim := { program := "ytbbjhegapilhpaagreat", sum := "670c0e12295d54b6304a7fd9827b044159763e2de5a201c1c8fdcf11cc2678f2", func := "spoondrift/spoondriftlaw03.MatrixAdds", spec := "matrixAdds", unfollowed := true, recurses := true, apart := false, narrowed := true }
def MatrixAddsUptoSaid : Prop := matrixAddsUptoRow.holds Tryz.pinned (OpenSpec.upto matrixAddsSpec)

/-- 'spoondriftlaw03.MatrixApplies', WHERE WHAT IT READS IS OF BULK AT MOST 1048576: true; the input reads as it did. -/
def matrixAppliesUptoRow : OpenClaim := { program := "ytbbjhegapilhpaagreat", sum := "670c0e12295d54b6304a7fd9827b044159763e2de5a201c1c8fdcf11cc2678f2", func := "spoondrift/spoondriftlaw03.MatrixApplies", spec := "matrixApplies", unfollowed := true, recurses := true, apart := false, narrowed := true }
def MatrixAppliesUptoSaid : Prop := matrixAppliesUptoRow.holds Tryz.pinned (OpenSpec.upto matrixAppliesSpec)

/-- 'spoondriftlaw03.MatrixOrder', WHERE WHAT IT READS IS OF BULK AT MOST 1048576: true; the input reads as it did. -/
def matrixOrderUptoRow : OpenClaim := { program := "ytbbjhegapilhpaagreat", sum := "670c0e12295d54b6304a7fd9827b044159763e2de5a201c1c8fdcf11cc2678f2", func := "spoondrift/spoondriftlaw03.MatrixOrder", spec := "matrixOrder", unfollowed := true, recurses := true, apart := false, narrowed := true }
def MatrixOrderUptoSaid : Prop := matrixOrderUptoRow.holds Tryz.pinned (OpenSpec.upto matrixOrderSpec)

/-- 'spoondriftlaw03.MatrixPhased', WHERE WHAT IT READS IS OF BULK AT MOST 1048576: true; the input reads as it did. -/
def matrixPhasedUptoRow : OpenClaim := { program := "ytbbjhegapilhpaagreat", sum := "670c0e12295d54b6304a7fd9827b044159763e2de5a201c1c8fdcf11cc2678f2", func := "spoondrift/spoondriftlaw03.MatrixPhased", spec := "matrixPhased", unfollowed := true, recurses := true, apart := false, narrowed := true }
def MatrixPhasedUptoSaid : Prop := matrixPhasedUptoRow.holds Tryz.pinned (OpenSpec.upto matrixPhasedSpec)

/-- 'spoondriftlaw03.MatrixTurns', WHERE WHAT IT READS IS OF BULK AT MOST 1048576: true; the input reads as it did. -/
def matrixTurnsUptoRow : OpenClaim := { program := "ytbbjhegapilhpaagreat", sum := "670c0e12295d54b6304a7fd9827b044159763e2de5a201c1c8fdcf11cc2678f2", func := "spoondrift/spoondriftlaw03.MatrixTurns", spec := "matrixTurns", unfollowed := true, recurses := true, apart := false, narrowed := true }
def MatrixTurnsUptoSaid : Prop := matrixTurnsUptoRow.holds Tryz.pinned (OpenSpec.upto matrixTurnsSpec)

/-- 'spoondriftlaw03.MatrixApart', WHERE WHAT IT READS IS OF BULK AT MOST 1048576: true; the input reads as it did. -/
def matrixApartUptoRow : OpenClaim := { program := "ytbbjhegapilhpaagreat", sum := "670c0e12295d54b6304a7fd9827b044159763e2de5a201c1c8fdcf11cc2678f2", func := "spoondrift/spoondriftlaw03.MatrixApart", spec := "matrixApart", inPlace := ["slices.overlaps[int]"], unfollowed := true, recurses := true, apart := false, narrowed := true }
def MatrixApartUptoSaid : Prop := matrixApartUptoRow.holds Tryz.pinned (OpenSpec.upto matrixApartSpec)

/-- 'spoondriftlaw03.MatrixSmall', WHERE WHAT IT READS IS OF BULK AT MOST 1048576: true; the input reads as it did. -/
def matrixSmallUptoRow : OpenClaim := { program := "ytbbjhegapilhpaagreat", sum := "670c0e12295d54b6304a7fd9827b044159763e2de5a201c1c8fdcf11cc2678f2", func := "spoondrift/spoondriftlaw03.MatrixSmall", spec := "matrixSmall", unfollowed := true, recurses := true, apart := false, narrowed := true }
def MatrixSmallUptoSaid : Prop := matrixSmallUptoRow.holds Tryz.pinned (OpenSpec.upto matrixSmallSpec)

end Rows
end Go.Proofs.YtbbjhegapilhpaaGreat
