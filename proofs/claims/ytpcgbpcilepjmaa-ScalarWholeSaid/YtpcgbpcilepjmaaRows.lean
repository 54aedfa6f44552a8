/-
  No cell of these rows narrows 'for every input' (looked for: loops, veiled, ifaces, maps, wideKeys, modest, calm, conditions, laid).
  DERIVED. THE GIVEN ROWS OF THIS SEAT. 6 by the template 'for every input the law returns true; each argument reads behind the call as it read before'; 0 by the template 'total and deterministic' (their statements: YtpcgbpcilepjmaaTotals.lean).
  GIVEN WITH THE SEED: the statements are not yours to turn. If you find one false, say at which input.
  Laid BY PROGRAM, IN A SANDBOX (cutbox-rows.mjs): the forced cells as the released guide's own fill.sh prints them over the translation 0377804d47f5e2ac… (all of the seat's roots in one cut). By AI agents, Wed Nov 11 2026. No macro, syntax, notation, axiom, sorry.
-/
import Derived.Test.YtpcgbpcilepjmaaChecked
import GoSem.Claim
import GoSem.ClaimJoined
import GoSem.ClaimMapViews
import Derived.JoinedTies
import Derived.KernelRfl
namespace Go.Proofs.Ytpcgbpcilepjmaa
/- THE CELL 'sum', in the pinned program and in every row, IS THE sha256 OF THE DUMP (.gsa) THAT YtpcgbpcilepjmaaProg.lean LOADS. Nothing in Lean hashes anything: it is a label: what it is worth is what the hold of that sum in a sandbox is worth. -/
noncomputable def Try.pinned : Pinned := { name := "ytpcgbpcilepjmaa", sum := "0377804d47f5e2acecb59eb6fea3286b489f4bb3b393057d3def77d017ac50aa", checked := Try.checked }
namespace Rows
def none {H : Type} : Left H := { results := [], args := [] }

/-- 'regletlaw02.ScalarBytes': WHATEVER THE INPUT: true; the input reads as it did. -/
def scalarBytesSpec : ChangeSpec := { name := "scalarBytes", fn := fun _ => fun
  | [d] => { results := [.lit (.bool true)], args := [d] }
  | _ => none }
def scalarBytesRow : OpenClaim := { program := "ytpcgbpcilepjmaa", sum := "0377804d47f5e2acecb59eb6fea3286b489f4bb3b393057d3def77d017ac50aa", func := "reglet/regletlaw02.ScalarBytes", spec := "scalarBytes", recurses := true, apart := false }
def ScalarBytesSaid : Prop := scalarBytesRow.holds Try.pinned (OpenSpec.ofChange scalarBytesSpec)

/-- ITS FALSE NEIGHBOUR: 'it returns false'. Refute it at one input. -/
def scalarBytesWrong : ChangeSpec := { name := "scalarBytes", fn := fun _ => fun
  | [d] => { results := [.lit (.bool false)], args := [d] }
  | _ => none }
def ScalarBytesWrongFalsely : Prop := scalarBytesRow.holds Try.pinned (OpenSpec.ofChange scalarBytesWrong)

/-- 'regletlaw02.ScalarIn': WHATEVER THE INPUT: true; the input reads as it did. -/
def scalarInSpec : ChangeSpec := { name := "scalarIn", fn := fun _ => fun
  | [d1, d2, d3] => { results := [.lit (.bool true)], args := [d1, d2, d3] }
  | _ => none }
def scalarInRow : OpenClaim := { program := "ytpcgbpcilepjmaa", sum := "0377804d47f5e2acecb59eb6fea3286b489f4bb3b393057d3def77d017ac50aa", func := "reglet/regletlaw02.ScalarIn", spec := "scalarIn", recurses := true, apart := false }
def ScalarInSaid : Prop := scalarInRow.holds Try.pinned (OpenSpec.ofChange scalarInSpec)

/-- ITS FALSE NEIGHBOUR: 'it returns false'. Refute it at one input. -/
def scalarInWrong : ChangeSpec := { name := "scalarIn", fn := fun _ => fun
  | [d1, d2, d3] => { results := [.lit (.bool false)], args := [d1, d2, d3] }
  | _ => none }
def ScalarInWrongFalsely : Prop := scalarInRow.holds Try.pinned (OpenSpec.ofChange scalarInWrong)

/-- 'regletlaw02.ScalarOdd': WHATEVER THE INPUT: true; the input reads as it did. -/
def scalarOddSpec : ChangeSpec := { name := "scalarOdd", fn := fun _ => fun
  | [d1, d2, d3, d4, d5, d6, d7] => { results := [.lit (.bool true)], args := [d1, d2, d3, d4, d5, d6, d7] }
  | _ => none }
def scalarOddRow : OpenClaim := { program := "ytpcgbpcilepjmaa", sum := "0377804d47f5e2acecb59eb6fea3286b489f4bb3b393057d3def77d017ac50aa", func := "reglet/regletlaw02.ScalarOdd", spec := "scalarOdd", recurses := true, apart := false }
def ScalarOddSaid : Prop := scalarOddRow.holds Try.pinned (OpenSpec.ofChange scalarOddSpec)

/-- ITS FALSE NEIGHBOUR: 'it returns false'. Refute it at one input. -/
def scalarOddWrong : ChangeSpec := { name := "scalarOdd", fn := fun _ => fun
  | [d1, d2, d3, d4, d5, d6, d7] => { results := [.lit (.bool false)], args := [d1, d2, d3, d4, d5, d6, d7] }
  | _ => none }
def ScalarOddWrongFalsely : Prop := scalarOddRow.holds Try.pinned (OpenSpec.ofChange scalarOddWrong)

/-- 'regletlaw02.ScalarParts': WHATEVER THE INPUT: true; the input reads as it did. -/
def scalarPartsSpec : ChangeSpec := { name := "scalarParts", fn := fun _ => fun
  | [d1, d2, d3, d4, d5, d6, d7] => { results := [.lit (.bool true)], args := [d1, d2, d3, d4, d5, d6, d7] }
  | _ => none }
def scalarPartsRow : OpenClaim := { program := "ytpcgbpcilepjmaa", sum := "0377804d47f5e2acecb59eb6fea3286b489f4bb3b393057d3def77d017ac50aa", func := "reglet/regletlaw02.ScalarParts", spec := "scalarParts", recurses := true, apart := false }
def ScalarPartsSaid : Prop := scalarPartsRow.holds Try.pinned (OpenSpec.ofChange scalarPartsSpec)

/-- ITS FALSE NEIGHBOUR: 'it returns false'. Refute it at one input. -/
def scalarPartsWrong : ChangeSpec := { name := "scalarParts", fn := fun _ => fun
  | [d1, d2, d3, d4, d5, d6, d7] => { results := [.lit (.bool false)], args := [d1, d2, d3, d4, d5, d6, d7] }
  | _ => none }
def ScalarPartsWrongFalsely : Prop := scalarPartsRow.holds Try.pinned (OpenSpec.ofChange scalarPartsWrong)

/-- 'regletlaw02.ScalarApart': WHATEVER THE INPUT: true; the input reads as it did. -/
def scalarApartSpec : ChangeSpec := { name := "scalarApart", fn := fun _ => fun
  | [d1, d2] => { results := [.lit (.bool true)], args := [d1, d2] }
  | _ => none }
def scalarApartRow : OpenClaim := { program := "ytpcgbpcilepjmaa", sum := "0377804d47f5e2acecb59eb6fea3286b489f4bb3b393057d3def77d017ac50aa", func := "reglet/regletlaw02.ScalarApart", spec := "scalarApart", recurses := true, apart := false }
def ScalarApartSaid : Prop := scalarApartRow.holds Try.pinned (OpenSpec.ofChange scalarApartSpec)

/-- ITS FALSE NEIGHBOUR: 'it returns false'. Refute it at one input. -/
def scalarApartWrong : ChangeSpec := { name := "scalarApart", fn := fun _ => fun
  | [d1, d2] => { results := [.lit (.bool false)], args := [d1, d2] }
  | _ => none }
def ScalarApartWrongFalsely : Prop := scalarApartRow.holds Try.pinned (OpenSpec.ofChange scalarApartWrong)

/-- 'regletlaw02.ScalarWhole': WHATEVER THE INPUT: true; the input reads as it did. -/
def scalarWholeSpec : ChangeSpec := { name := "scalarWhole", fn := fun _ => fun
  | [d] => { results := [.lit (.bool true)], args := [d] }
  | _ => none }
def scalarWholeRow : OpenClaim := { program := "ytpcgbpcilepjmaa", sum := "0377804d47f5e2acecb59eb6fea3286b489f4bb3b393057d3def77d017ac50aa", func := "reglet/regletlaw02.ScalarWhole", spec := "scalarWhole", recurses := true, apart := false }
def ScalarWholeSaid : Prop := scalarWholeRow.holds Try.pinned (OpenSpec.ofChange scalarWholeSpec)

/-- ITS FALSE NEIGHBOUR: 'it returns false'. Refute it at one input. -/
def scalarWholeWrong : ChangeSpec := { name := "scalarWhole", fn := fun _ => fun
  | [d] => { results := [.lit (.bool false)], args := [d] }
  | _ => none }
def ScalarWholeWrongFalsely : Prop := scalarWholeRow.holds Try.pinned (OpenSpec.ofChange scalarWholeWrong)

/- THE SECOND FORM. 'bulk': how many values and letters a reading holds, each counted each time it is reached (what is shared counts as often as it is met; a slice's spare places count too). A statement '..UptoSaid' is the law's where the arguments, and the package variables that the reading takes, are together of bulk at most 1048576: NARROWER than '..Said'. Prove '..Said' where nothing that the law and all that it calls make is longer than what came in: it says more and counts as full. Else prove '..UptoSaid'. A law counts once. -/
mutual
def uptoBulk {H : Type} : DataW H → Nat
  | .lit (.string bytes) => bytes.length + 1
  | .lit _ => 1
  | .nil => 1
  | .ptr d => uptoBulk d + 1
  | .slice elems spare => uptoBulkAll elems + uptoBulkAll spare + 1
  | .agg parts => uptoBulkAll parts + 1
  | .iface _ d => uptoBulk d + 1
  | .map entries => uptoBulkEntries entries + 1
  | .held _ => 1
def uptoBulkAll {H : Type} : List (DataW H) → Nat
  | [] => 0
  | d :: r => uptoBulk d + uptoBulkAll r
def uptoBulkEntries {H : Type} : List (Lit × DataW H) → Nat
  | [] => 0
  | x :: r => uptoBulkEntry x + uptoBulkEntries r
def uptoBulkEntry {H : Type} : Lit × DataW H → Nat
  | (.string bytes, d) => bytes.length + uptoBulk d + 1
  | (_, d) => uptoBulk d + 1
 end
def uptoSmall : (H : Type) → List (DataW H) → Bool := fun _ ds => decide (uptoBulkAll ds ≤ 1048576)
def OpenSpec.upto (s : _root_.Go.ChangeSpec) : _root_.Go.OpenSpec := { _root_.Go.OpenSpec.ofChange s with cond := some uptoSmall }

/-- 'regletlaw02.ScalarBytes', WHERE WHAT IT READS IS OF BULK AT MOST 1048576: true; the input reads as it did. -/
def scalarBytesUptoRow : OpenClaim := { program := "ytpcgbpcilepjmaa", sum := "0377804d47f5e2acecb59eb6fea3286b489f4bb3b393057d3def77d017ac50aa", func := "reglet/regletlaw02.ScalarBytes", spec := "scalarBytes", recurses := true, apart := false, narrowed := true }
def ScalarBytesUptoSaid : Prop := scalarBytesUptoRow.holds Try.pinned (OpenSpec.upto scalarBytesSpec)

/-- 'regletlaw02.ScalarIn', WHERE WHAT IT READS IS OF BULK AT MOST 1048576: true; the input reads as it did. -/
def scalarInUptoRow : OpenClaim := { program := "ytpcgbpcilepjmaa", sum := "0377804d47f5e2acecb59eb6fea3286b489f4bb3b393057d3def77d017ac50aa", func := "reglet/regletlaw02.ScalarIn", spec := "scalarIn", recurses := true, apart := false, narrowed := true }
def ScalarInUptoSaid : Prop := scalarInUptoRow.holds Try.pinned (OpenSpec.upto scalarInSpec)

/-- 'regletlaw02.ScalarOdd', WHERE WHAT IT READS IS OF BULK AT MOST 1048576: true; the input reads as it did. -/
def scalarOddUptoRow : OpenClaim := { program := "ytpcgbpcilepjmaa", sum := "0377804d47f5e2acecb59eb6fea3286b489f4bb3b393057d3def77d017ac50aa", func := "reglet/regletlaw02.ScalarOdd", spec := "scalarOdd", recurses := true, apart := false, narrowed := true }
def ScalarOddUptoSaid : Prop := scalarOddUptoRow.holds Try.pinned (OpenSpec.upto scalarOddSpec)

/-- 'regletlaw02.ScalarParts', WHERE WHAT IT READS IS OF BULK AT MOST 1048576: true; the input reads as it did. -/
def scalarPartsUptoRow : OpenClaim := { program := "ytpcgbpcilepjmaa", sum := "0377804d47f5e2acecb59eb6fea3286b489f4bb3b393057d3def77d017ac50aa", func := "reglet/regletlaw02.ScalarParts", spec := "scalarParts", recurses := true, apart := false, narrowed := true }
def ScalarPartsUptoSaid : Prop := scalarPartsUptoRow.holds Try.pinned (OpenSpec.upto scalarPartsSpec)

/-- 'regletlaw02.ScalarApart', WHERE WHAT IT READS IS OF BULK AT MOST 1048576: true; the input reads as it did. -/
def scalarApartUptoRow : OpenClaim := { program := "ytpcgbpcilepjmaa", sum := "0377804d47f5e2acecb59eb6fea3286b489f4bb3b393057d3def77d017ac50aa", func := "reglet/regletlaw02.ScalarApart", spec := "scalarApart", recurses := true, apart := false, narrowed := true }
def ScalarApartUptoSaid : Prop := scalarApartUptoRow.holds Try.pinned (OpenSpec.upto scalarApartSpec)

/-- 'regletlaw02.ScalarWhole', WHERE WHAT IT READS IS OF BULK AT MOST 1048576: true; the input reads as it did. -/
def scalarWholeUptoRow : OpenClaim := { program := "ytpcgbpcilepjmaa", sum := "0377804d47f5e2acecb59eb6fea3286b489f4bb3b393057d3def77d017ac50aa", func := "reglet/regletlaw02.ScalarWhole", spec := "scalarWhole", recurses := true, apart := false, narrowed := true }
def ScalarWholeUptoSaid : Prop := scalarWholeUptoRow.holds Try.pinned (OpenSpec.upto scalarWholeSpec)

end Rows
end Go.Proofs.Ytpcgbpcilepjmaa
