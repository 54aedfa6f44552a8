/-
  NARROWER THAN 'FOR EVERY INPUT', by the rows' own cells (each row's printed sentence says how): MachineAny: loops.
  DERIVED. THE GIVEN ROWS OF THIS SEAT. 7 by the template 'for every input the law returns true; each argument reads behind the call as it read before'; 0 by the template 'total and deterministic' (their statements: YtapjfnfengefpaaTotals.lean).
  GIVEN WITH THE SEED: the statements are not yours to turn. If you find one false, say at which input.
  Laid BY PROGRAM, IN A SANDBOX (cutbox-rows.mjs): the forced cells as the released guide's own fill.sh prints them over the translation 1de1b7cd78b75ad2… (all of the seat's roots in one cut). By AI agents, Wed Nov 11 2026. No macro, syntax, notation, axiom, sorry.
-/
import Derived.Test.YtapjfnfengefpaaChecked
import GoSem.Claim
import GoSem.ClaimJoined
import GoSem.ClaimMapViews
import Derived.JoinedTies
import Derived.KernelRfl
namespace Go.Proofs.Ytapjfnfengefpaa
/- THE CELL 'sum', in the pinned program and in every row, IS THE sha256 OF THE DUMP (.gsa) THAT YtapjfnfengefpaaProg.lean LOADS. Nothing in Lean hashes anything: it is a label: what it is worth is what the hold of that sum in a sandbox is worth. -/
noncomputable def Try.pinned : Pinned := { name := "ytapjfnfengefpaa", sum := "1de1b7cd78b75ad2b7aee20406850d563ed982fdcc793a7226a4a0998a05ca53", checked := Try.checked }
namespace Rows
def none {H : Type} : Left H := { results := [], args := [] }

/-- 'regletlaw16.MachineAny': WHATEVER THE INPUT: true; the input reads as it did. -/
def machineAnySpec : ChangeSpec := { name := "machineAny", fn := fun _ => fun
  | [d1, d2, d3, d4] => { results := [.lit (.bool true)], args := [d1, d2, d3, d4] }
  | _ => none }
def machineAnyRow : OpenClaim := { program := "ytapjfnfengefpaa", sum := "1de1b7cd78b75ad2b7aee20406850d563ed982fdcc793a7226a4a0998a05ca53", func := "reglet/regletlaw16.MachineAny", spec := "machineAny", unfollowed := true, recurses := true, loops := true, apart := false }
def MachineAnySaid : Prop := machineAnyRow.holds Try.pinned (OpenSpec.ofChange machineAnySpec)

/-- ITS FALSE NEIGHBOUR: 'it returns false'. Refute it at one input. -/
def machineAnyWrong : ChangeSpec := { name := "machineAny", fn := fun _ => fun
  | [d1, d2, d3, d4] => { results := [.lit (.bool false)], args := [d1, d2, d3, d4] }
  | _ => none }
def MachineAnyWrongFalsely : Prop := machineAnyRow.holds Try.pinned (OpenSpec.ofChange machineAnyWrong)

/-- 'regletlaw16.MachineMade': WHATEVER THE INPUT: true; the input reads as it did. -/
def machineMadeSpec : ChangeSpec := { name := "machineMade", fn := fun _ => fun
  | [d1, d2, d3, d4, d5] => { results := [.lit (.bool true)], args := [d1, d2, d3, d4, d5] }
  | _ => none }
def machineMadeRow : OpenClaim := { program := "ytapjfnfengefpaa", sum := "1de1b7cd78b75ad2b7aee20406850d563ed982fdcc793a7226a4a0998a05ca53", func := "reglet/regletlaw16.MachineMade", spec := "machineMade", unfollowed := true, recurses := true, apart := false }
def MachineMadeSaid : Prop := machineMadeRow.holds Try.pinned (OpenSpec.ofChange machineMadeSpec)

/-- ITS FALSE NEIGHBOUR: 'it returns false'. Refute it at one input. -/
def machineMadeWrong : ChangeSpec := { name := "machineMade", fn := fun _ => fun
  | [d1, d2, d3, d4, d5] => { results := [.lit (.bool false)], args := [d1, d2, d3, d4, d5] }
  | _ => none }
def MachineMadeWrongFalsely : Prop := machineMadeRow.holds Try.pinned (OpenSpec.ofChange machineMadeWrong)

/-- 'regletlaw16.MachineClear': WHATEVER THE INPUT: true; the input reads as it did. -/
def machineClearSpec : ChangeSpec := { name := "machineClear", fn := fun _ => fun
  | [d1, d2, d3, d4] => { results := [.lit (.bool true)], args := [d1, d2, d3, d4] }
  | _ => none }
def machineClearRow : OpenClaim := { program := "ytapjfnfengefpaa", sum := "1de1b7cd78b75ad2b7aee20406850d563ed982fdcc793a7226a4a0998a05ca53", func := "reglet/regletlaw16.MachineClear", spec := "machineClear", unfollowed := true, recurses := true, apart := false }
def MachineClearSaid : Prop := machineClearRow.holds Try.pinned (OpenSpec.ofChange machineClearSpec)

/-- ITS FALSE NEIGHBOUR: 'it returns false'. Refute it at one input. -/
def machineClearWrong : ChangeSpec := { name := "machineClear", fn := fun _ => fun
  | [d1, d2, d3, d4] => { results := [.lit (.bool false)], args := [d1, d2, d3, d4] }
  | _ => none }
def MachineClearWrongFalsely : Prop := machineClearRow.holds Try.pinned (OpenSpec.ofChange machineClearWrong)

/-- 'regletlaw16.MachineOne': WHATEVER THE INPUT: true; the input reads as it did. -/
def machineOneSpec : ChangeSpec := { name := "machineOne", fn := fun _ => fun
  | [d1, d2] => { results := [.lit (.bool true)], args := [d1, d2] }
  | _ => none }
def machineOneRow : OpenClaim := { program := "ytapjfnfengefpaa", sum := "1de1b7cd78b75ad2b7aee20406850d563ed982fdcc793a7226a4a0998a05ca53", func := "reglet/regletlaw16.MachineOne", spec := "machineOne", unfollowed := true, recurses := true, apart := false }
def MachineOneSaid : Prop := machineOneRow.holds Try.pinned (OpenSpec.ofChange machineOneSpec)

/-- ITS FALSE NEIGHBOUR: 'it returns false'. Refute it at one input. -/
def machineOneWrong : ChangeSpec := { name := "machineOne", fn := fun _ => fun
  | [d1, d2] => { results := [.lit (.bool false)], args := [d1, d2] }
  | _ => none }
def MachineOneWrongFalsely : Prop := machineOneRow.holds Try.pinned (OpenSpec.ofChange machineOneWrong)

/-- 'regletlaw16.MachineDerives': WHATEVER THE INPUT: true; the input reads as it did. -/
def machineDerivesSpec : ChangeSpec := { name := "machineDerives", fn := fun _ => fun
  | [d1, d2, d3] => { results := [.lit (.bool true)], args := [d1, d2, d3] }
  | _ => none }
def machineDerivesRow : OpenClaim := { program := "ytapjfnfengefpaa", sum := "1de1b7cd78b75ad2b7aee20406850d563ed982fdcc793a7226a4a0998a05ca53", func := "reglet/regletlaw16.MachineDerives", spec := "machineDerives", unfollowed := true, recurses := true, apart := false }
def MachineDerivesSaid : Prop := machineDerivesRow.holds Try.pinned (OpenSpec.ofChange machineDerivesSpec)

/-- ITS FALSE NEIGHBOUR: 'it returns false'. Refute it at one input. -/
def machineDerivesWrong : ChangeSpec := { name := "machineDerives", fn := fun _ => fun
  | [d1, d2, d3] => { results := [.lit (.bool false)], args := [d1, d2, d3] }
  | _ => none }
def MachineDerivesWrongFalsely : Prop := machineDerivesRow.holds Try.pinned (OpenSpec.ofChange machineDerivesWrong)

/-- 'regletlaw16.MachineLong': WHATEVER THE INPUT: true; the input reads as it did. -/
def machineLongSpec : ChangeSpec := { name := "machineLong", fn := fun _ => fun
  | [d1, d2] => { results := [.lit (.bool true)], args := [d1, d2] }
  | _ => none }
def machineLongRow : OpenClaim := { program := "ytapjfnfengefpaa", sum := "1de1b7cd78b75ad2b7aee20406850d563ed982fdcc793a7226a4a0998a05ca53", func := "reglet/regletlaw16.MachineLong", spec := "machineLong", unfollowed := true, recurses := true, apart := false }
def MachineLongSaid : Prop := machineLongRow.holds Try.pinned (OpenSpec.ofChange machineLongSpec)

/-- ITS FALSE NEIGHBOUR: 'it returns false'. Refute it at one input. -/
def machineLongWrong : ChangeSpec := { name := "machineLong", fn := fun _ => fun
  | [d1, d2] => { results := [.lit (.bool false)], args := [d1, d2] }
  | _ => none }
def MachineLongWrongFalsely : Prop := machineLongRow.holds Try.pinned (OpenSpec.ofChange machineLongWrong)

/-- 'regletlaw16.MachineEnds': WHATEVER THE INPUT: true; the input reads as it did. -/
def machineEndsSpec : ChangeSpec := { name := "machineEnds", fn := fun _ => fun
  | [d1, d2] => { results := [.lit (.bool true)], args := [d1, d2] }
  | _ => none }
def machineEndsRow : OpenClaim := { program := "ytapjfnfengefpaa", sum := "1de1b7cd78b75ad2b7aee20406850d563ed982fdcc793a7226a4a0998a05ca53", func := "reglet/regletlaw16.MachineEnds", spec := "machineEnds", unfollowed := true, recurses := true, apart := false }
def MachineEndsSaid : Prop := machineEndsRow.holds Try.pinned (OpenSpec.ofChange machineEndsSpec)

/-- ITS FALSE NEIGHBOUR: 'it returns false'. Refute it at one input. -/
def machineEndsWrong : ChangeSpec := { name := "machineEnds", fn := fun _ => fun
  | [d1, d2] => { results := [.lit (.bool false)], args := [d1, d2] }
  | _ => none }
def MachineEndsWrongFalsely : Prop := machineEndsRow.holds Try.pinned (OpenSpec.ofChange machineEndsWrong)

/- THE SECOND FORM. 'bulk': how many values and letters a reading holds, each counted each time it is reached (what is shared counts as often as it is met; a slice's spare places count too). A statement '..UptoSaid' is the law's where the arguments, and the package variables that the reading takes, are together of bulk at most 1048576: NARROWER than '..Said'. Prove '..Said' where nothing that the law and all that it calls make is longer than what came in: it says more and counts as full. Else prove '..UptoSaid'. A law counts once. -/
mutual
def uptoBulk {H : Type} : DataW H → Nat
  | .lit (.string bytes) => bytes.length + 1
  | .lit _ => 1
  | .nil => 1
  | .ptr d => uptoBulk d + 1
  | .slice elems spare => uptoBulkAll elems + uptoBulkAll spare + 1
  | .agg parts => uptoBulkAll parts + 1
  | .iface _ d => uptoBulk d + 1
  | .map entries => uptoBulkEntries entries + 1
  | .held _ => 1
def uptoBulkAll {H : Type} : List (DataW H) → Nat
  | [] => 0
  | d :: r => uptoBulk d + uptoBulkAll r
def uptoBulkEntries {H : Type} : List (Lit × DataW H) → Nat
  | [] => 0
  | x :: r => uptoBulkEntry x + uptoBulkEntries r
def uptoBulkEntry {H : Type} : Lit × DataW H → Nat
  | (.string bytes, d) => bytes.length + uptoBulk d + 1
  | (_, d) => uptoBulk d + 1
 end
def uptoSmall : (H : Type) → List (DataW H) → Bool := fun _ ds => decide (uptoBulkAll ds ≤ 1048576)
def OpenSpec.upto (s : _root_.Go.ChangeSpec) : _root_.Go.OpenSpec := { _root_.Go.OpenSpec.ofChange s with cond := some uptoSmall }

/-- 'regletlaw16.MachineAny', WHERE WHAT IT READS IS OF BULK AT MOST 1048576: true; the input reads as it did. -/
def machineAnyUptoRow : OpenClaim := { program := "ytapjfnfengefpaa", sum := "1de1b7cd78b75ad2b7aee20406850d563ed982fdcc793a7226a4a0998a05ca53", func := "reglet/regletlaw16.MachineAny", spec := "machineAny", unfollowed := true, recurses := true, loops := true, apart := false, narrowed := true }
def MachineAnyUptoSaid : Prop := machineAnyUptoRow.holds Try.pinned (OpenSpec.upto machineAnySpec)

/-- 'regletlaw16.MachineMade', WHERE WHAT IT READS IS OF BULK AT MOST 1048576: true; the input reads as it did. -/
def machineMadeUptoRow : OpenClaim := { program := "ytapjfnfengefpaa", sum := "1de1b7cd78b75ad2b7aee20406850d563ed982fdcc793a7226a4a0998a05ca53", func := "reglet/regletlaw16.MachineMade", spec := "machineMade", unfollowed := true, recurses := true, apart := false, narrowed := true }
def MachineMadeUptoSaid : Prop := machineMadeUptoRow.holds Try.pinned (OpenSpec.upto machineMadeSpec)

/-- 'regletlaw16.MachineClear', WHERE WHAT IT READS IS OF BULK AT MOST 1048576: true; the input reads as it did. -/
def machineClearUptoRow : OpenClaim := { program := "ytapjfnfengefpaa", sum := "1de1b7cd78b75ad2b7aee20406850d563ed982fdcc793a7226a4a0998a05ca53", func := "reglet/regletlaw16.MachineClear", spec := "machineClear", unfollowed := true, recurses := true, apart := false, narrowed := true }
def MachineClearUptoSaid : Prop := machineClearUptoRow.holds Try.pinned (OpenSpec.upto machineClearSpec)

/-- 'regletlaw16.MachineOne', WHERE WHAT IT READS IS OF BULK AT MOST 1048576: true; the input reads as it did. -/
def machineOneUptoRow : OpenClaim := { program := "ytapjfnfengefpaa", sum := "1de1b7cd78b75ad2b7aee20406850d563ed982fdcc793a7226a4a0998a05ca53", func := "reglet/regletlaw16.MachineOne", spec := "machineOne", unfollowed := true, recurses := true, apart := false, narrowed := true }
def MachineOneUptoSaid : Prop := machineOneUptoRow.holds Try.pinned (OpenSpec.upto machineOneSpec)

/-- 'regletlaw16.MachineDerives', WHERE WHAT IT READS IS OF BULK AT MOST 1048576: true; the input reads as it did. -/
def machineDerivesUptoRow : OpenClaim := { program := "ytapjfnfengefpaa", sum := "1de1b7cd78b75ad2b7aee20406850d563ed982fdcc793a7226a4a0998a05ca53", func := "reglet/regletlaw16.MachineDerives", spec := "machineDerives", unfollowed := true, recurses := true, apart := false, narrowed := true }
def MachineDerivesUptoSaid : Prop := machineDerivesUptoRow.holds Try.pinned (OpenSpec.upto machineDerivesSpec)

/-- 'regletlaw16.MachineLong', WHERE WHAT IT READS IS OF BULK AT MOST 1048576: true; the input reads as it did. -/
def machineLongUptoRow : OpenClaim := { program := "ytapjfnfengefpaa", sum := "1de1b7cd78b75ad2b7aee20406850d563ed982fdcc793a7226a4a0998a05ca53", func := "reglet/regletlaw16.MachineLong", spec := "machineLong", unfollowed := true, recurses := true, apart := false, narrowed := true }
def MachineLongUptoSaid : Prop := machineLongUptoRow.holds Try.pinned (OpenSpec.upto machineLongSpec)

/-- 'regletlaw16.MachineEnds', WHERE WHAT IT READS IS OF BULK AT MOST 1048576: true; the input reads as it did. -/
def machineEndsUptoRow : OpenClaim := { program := "ytapjfnfengefpaa", sum := "1de1b7cd78b75ad2b7aee20406850d563ed982fdcc793a7226a4a0998a05ca53", func := "reglet/regletlaw16.MachineEnds", spec := "machineEnds", unfollowed := true, recurses := true, apart := false, narrowed := true }
def MachineEndsUptoSaid : Prop := machineEndsUptoRow.holds Try.pinned (OpenSpec.upto machineEndsSpec)

end Rows
end Go.Proofs.Ytapjfnfengefpaa
