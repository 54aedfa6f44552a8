/-
  NARROWER THAN 'FOR EVERY INPUT', by the rows' own cells (each row's printed sentence says how): PredictAny: loops.
  DERIVED. THE GIVEN ROWS OF THIS SEAT. 6 by the template 'for every input the law returns true; each argument reads behind the call as it read before'; 0 by the template 'total and deterministic' (their statements: YtfdcfihcfegekaaTotals.lean).
  GIVEN WITH THE SEED: the statements are not yours to turn. If you find one false, say at which input.
  Laid BY PROGRAM, IN A SANDBOX (cutbox-rows.mjs): the forced cells as the released guide's own fill.sh prints them over the translation fe966c711e3ffcc4… (all of the seat's roots in one cut). By AI agents, Wed Nov 11 2026. No macro, syntax, notation, axiom, sorry.
-/
import Derived.Test.YtfdcfihcfegekaaChecked
import GoSem.Claim
import GoSem.ClaimJoined
import GoSem.ClaimMapViews
import Derived.JoinedTies
import Derived.KernelRfl
namespace Go.Proofs.Ytfdcfihcfegekaa
/- THE CELL 'sum', in the pinned program and in every row, IS THE sha256 OF THE DUMP (.gsa) THAT YtfdcfihcfegekaaProg.lean LOADS. Nothing in Lean hashes anything: it is a label: what it is worth is what the hold of that sum in a sandbox is worth. -/
noncomputable def Try.pinned : Pinned := { name := "ytfdcfihcfegekaa", sum := "fe966c711e3ffcc4e6fd9db5d62290d8932afe7ccf2869e980d21650036cf425", checked := Try.checked }
namespace Rows
def none {H : Type} : Left H := { results := [], args := [] }

/-- 'regletlaw14.PredictAny': WHATEVER THE INPUT: true; the input reads as it did. -/
def predictAnySpec : ChangeSpec := { name := "predictAny", fn := fun _ => fun
  | [d] => { results := [.lit (.bool true)], args := [d] }
  | _ => none }
def predictAnyRow : OpenClaim := { program := "ytfdcfihcfegekaa", sum := "fe966c711e3ffcc4e6fd9db5d62290d8932afe7ccf2869e980d21650036cf425", func := "reglet/regletlaw14.PredictAny", spec := "predictAny", unfollowed := true, recurses := true, loops := true, apart := false }
def PredictAnySaid : Prop := predictAnyRow.holds Try.pinned (OpenSpec.ofChange predictAnySpec)

/-- ITS FALSE NEIGHBOUR: 'it returns false'. Refute it at one input. -/
def predictAnyWrong : ChangeSpec := { name := "predictAny", fn := fun _ => fun
  | [d] => { results := [.lit (.bool false)], args := [d] }
  | _ => none }
def PredictAnyWrongFalsely : Prop := predictAnyRow.holds Try.pinned (OpenSpec.ofChange predictAnyWrong)

/-- 'regletlaw14.PredictMade': WHATEVER THE INPUT: true; the input reads as it did. -/
def predictMadeSpec : ChangeSpec := { name := "predictMade", fn := fun _ => fun
  | [d] => { results := [.lit (.bool true)], args := [d] }
  | _ => none }
def predictMadeRow : OpenClaim := { program := "ytfdcfihcfegekaa", sum := "fe966c711e3ffcc4e6fd9db5d62290d8932afe7ccf2869e980d21650036cf425", func := "reglet/regletlaw14.PredictMade", spec := "predictMade", unfollowed := true, recurses := true, apart := false }
def PredictMadeSaid : Prop := predictMadeRow.holds Try.pinned (OpenSpec.ofChange predictMadeSpec)

/-- ITS FALSE NEIGHBOUR: 'it returns false'. Refute it at one input. -/
def predictMadeWrong : ChangeSpec := { name := "predictMade", fn := fun _ => fun
  | [d] => { results := [.lit (.bool false)], args := [d] }
  | _ => none }
def PredictMadeWrongFalsely : Prop := predictMadeRow.holds Try.pinned (OpenSpec.ofChange predictMadeWrong)

/-- 'regletlaw14.PredictClear': WHATEVER THE INPUT: true; the input reads as it did. -/
def predictClearSpec : ChangeSpec := { name := "predictClear", fn := fun _ => fun
  | [d] => { results := [.lit (.bool true)], args := [d] }
  | _ => none }
def predictClearRow : OpenClaim := { program := "ytfdcfihcfegekaa", sum := "fe966c711e3ffcc4e6fd9db5d62290d8932afe7ccf2869e980d21650036cf425", func := "reglet/regletlaw14.PredictClear", spec := "predictClear", unfollowed := true, recurses := true, apart := false }
def PredictClearSaid : Prop := predictClearRow.holds Try.pinned (OpenSpec.ofChange predictClearSpec)

/-- ITS FALSE NEIGHBOUR: 'it returns false'. Refute it at one input. -/
def predictClearWrong : ChangeSpec := { name := "predictClear", fn := fun _ => fun
  | [d] => { results := [.lit (.bool false)], args := [d] }
  | _ => none }
def PredictClearWrongFalsely : Prop := predictClearRow.holds Try.pinned (OpenSpec.ofChange predictClearWrong)

/-- 'regletlaw14.PredictTakes': WHATEVER THE INPUT: true; the input reads as it did. -/
def predictTakesSpec : ChangeSpec := { name := "predictTakes", fn := fun _ => fun
  | [d1, d2, d3] => { results := [.lit (.bool true)], args := [d1, d2, d3] }
  | _ => none }
def predictTakesRow : OpenClaim := { program := "ytfdcfihcfegekaa", sum := "fe966c711e3ffcc4e6fd9db5d62290d8932afe7ccf2869e980d21650036cf425", func := "reglet/regletlaw14.PredictTakes", spec := "predictTakes", unfollowed := true, recurses := true, apart := false }
def PredictTakesSaid : Prop := predictTakesRow.holds Try.pinned (OpenSpec.ofChange predictTakesSpec)

/-- ITS FALSE NEIGHBOUR: 'it returns false'. Refute it at one input. -/
def predictTakesWrong : ChangeSpec := { name := "predictTakes", fn := fun _ => fun
  | [d1, d2, d3] => { results := [.lit (.bool false)], args := [d1, d2, d3] }
  | _ => none }
def PredictTakesWrongFalsely : Prop := predictTakesRow.holds Try.pinned (OpenSpec.ofChange predictTakesWrong)

/-- 'regletlaw14.PredictClashes': WHATEVER THE INPUT: true; the input reads as it did. -/
def predictClashesSpec : ChangeSpec := { name := "predictClashes", fn := fun _ => fun
  | [d] => { results := [.lit (.bool true)], args := [d] }
  | _ => none }
def predictClashesRow : OpenClaim := { program := "ytfdcfihcfegekaa", sum := "fe966c711e3ffcc4e6fd9db5d62290d8932afe7ccf2869e980d21650036cf425", func := "reglet/regletlaw14.PredictClashes", spec := "predictClashes", unfollowed := true, recurses := true, apart := false }
def PredictClashesSaid : Prop := predictClashesRow.holds Try.pinned (OpenSpec.ofChange predictClashesSpec)

/-- ITS FALSE NEIGHBOUR: 'it returns false'. Refute it at one input. -/
def predictClashesWrong : ChangeSpec := { name := "predictClashes", fn := fun _ => fun
  | [d] => { results := [.lit (.bool false)], args := [d] }
  | _ => none }
def PredictClashesWrongFalsely : Prop := predictClashesRow.holds Try.pinned (OpenSpec.ofChange predictClashesWrong)

/-- 'regletlaw14.PredictRows': WHATEVER THE INPUT: true; the input reads as it did. -/
def predictRowsSpec : ChangeSpec := { name := "predictRows", fn := fun _ => fun
  | [d] => { results := [.lit (.bool true)], args := [d] }
  | _ => none }
def predictRowsRow : OpenClaim := { program := "ytfdcfihcfegekaa", sum := "fe966c711e3ffcc4e6fd9db5d62290d8932afe7ccf2869e980d21650036cf425", func := "reglet/regletlaw14.PredictRows", spec := "predictRows", unfollowed := true, recurses := true, apart := false }
def PredictRowsSaid : Prop := predictRowsRow.holds Try.pinned (OpenSpec.ofChange predictRowsSpec)

/-- ITS FALSE NEIGHBOUR: 'it returns false'. Refute it at one input. -/
def predictRowsWrong : ChangeSpec := { name := "predictRows", fn := fun _ => fun
  | [d] => { results := [.lit (.bool false)], args := [d] }
  | _ => none }
def PredictRowsWrongFalsely : Prop := predictRowsRow.holds Try.pinned (OpenSpec.ofChange predictRowsWrong)

/- THE SECOND FORM. 'bulk': how many values and letters a reading holds, each counted each time it is reached (what is shared counts as often as it is met; a slice's spare places count too). A statement '..UptoSaid' is the law's where the arguments, and the package variables that the reading takes, are together of bulk at most 1048576: NARROWER than '..Said'. Prove '..Said' where nothing that the law and all that it calls make is longer than what came in: it says more and counts as full. Else prove '..UptoSaid'. A law counts once. -/
mutual
def uptoBulk {H : Type} : DataW H → Nat
  | .lit (.string bytes) => bytes.length + 1
  | .lit _ => 1
  | .nil => 1
  | .ptr d => uptoBulk d + 1
  | .slice elems spare => uptoBulkAll elems + uptoBulkAll spare + 1
  | .agg parts => uptoBulkAll parts + 1
  | .iface _ d => uptoBulk d + 1
  | .map entries => uptoBulkEntries entries + 1
  | .held _ => 1
def uptoBulkAll {H : Type} : List (DataW H) → Nat
  | [] => 0
  | d :: r => uptoBulk d + uptoBulkAll r
def uptoBulkEntries {H : Type} : List (Lit × DataW H) → Nat
  | [] => 0
  | x :: r => uptoBulkEntry x + uptoBulkEntries r
def uptoBulkEntry {H : Type} : Lit × DataW H → Nat
  | (.string bytes, d) => bytes.length + uptoBulk d + 1
  | (_, d) => uptoBulk d + 1
 end
def uptoSmall : (H : Type) → List (DataW H) → Bool := fun _ ds => decide (uptoBulkAll ds ≤ 1048576)
def OpenSpec.upto (s : _root_.Go.ChangeSpec) : _root_.Go.OpenSpec := { _root_.Go.OpenSpec.ofChange s with cond := some uptoSmall }

/-- 'regletlaw14.PredictAny', WHERE WHAT IT READS IS OF BULK AT MOST 1048576: true; the input reads as it did. -/
def predictAnyUptoRow : OpenClaim := { program := "ytfdcfihcfegekaa", sum := "fe966c711e3ffcc4e6fd9db5d62290d8932afe7ccf2869e980d21650036cf425", func := "reglet/regletlaw14.PredictAny", spec := "predictAny", unfollowed := true, recurses := true, loops := true, apart := false, narrowed := true }
def PredictAnyUptoSaid : Prop := predictAnyUptoRow.holds Try.pinned (OpenSpec.upto predictAnySpec)

/-- 'regletlaw14.PredictMade', WHERE WHAT IT READS IS OF BULK AT MOST 1048576: true; the input reads as it did. -/
def predictMadeUptoRow : OpenClaim := { program := "ytfdcfihcfegekaa", sum := "fe966c711e3ffcc4e6fd9db5d62290d8932afe7ccf2869e980d21650036cf425", func := "reglet/regletlaw14.PredictMade", spec := "predictMade", unfollowed := true, recurses := true, apart := false, narrowed := true }
def PredictMadeUptoSaid : Prop := predictMadeUptoRow.holds Try.pinned (OpenSpec.upto predictMadeSpec)

/-- 'regletlaw14.PredictClear', WHERE WHAT IT READS IS OF BULK AT MOST 1048576: true; the input reads as it did. -/
def predictClearUptoRow : OpenClaim := { program := "ytfdcfihcfegekaa", sum := "fe966c711e3ffcc4e6fd9db5d62290d8932afe7ccf2869e980d21650036cf425", func := "reglet/regletlaw14.PredictClear", spec := "predictClear", unfollowed := true, recurses := true, apart := false, narrowed := true }
def PredictClearUptoSaid : Prop := predictClearUptoRow.holds Try.pinned (OpenSpec.upto predictClearSpec)

/-- 'regletlaw14.PredictTakes', WHERE WHAT IT READS IS OF BULK AT MOST 1048576: true; the input reads as it did. -/
def predictTakesUptoRow : OpenClaim := { program := "ytfdcfihcfegekaa", sum := "fe966c711e3ffcc4e6fd9db5d62290d8932afe7ccf2869e980d21650036cf425", func := "reglet/regletlaw14.PredictTakes", spec := "predictTakes", unfollowed := true, recurses := true, apart := false, narrowed := true }
def PredictTakesUptoSaid : Prop := predictTakesUptoRow.holds Try.pinned (OpenSpec.upto predictTakesSpec)

/-- 'regletlaw14.PredictClashes', WHERE WHAT IT READS IS OF BULK AT MOST 1048576: true; the input reads as it did. -/
def predictClashesUptoRow : OpenClaim := { program := "ytfdcfihcfegekaa", sum := "fe966c711e3ffcc4e6fd9db5d62290d8932afe7ccf2869e980d21650036cf425", func := "reglet/regletlaw14.PredictClashes", spec := "predictClashes", unfollowed := true, recurses := true, apart := false, narrowed := true }
def PredictClashesUptoSaid : Prop := predictClashesUptoRow.holds Try.pinned (OpenSpec.upto predictClashesSpec)

/-- 'regletlaw14.PredictRows', WHERE WHAT IT READS IS OF BULK AT MOST 1048576: true; the input reads as it did. -/
def predictRowsUptoRow : OpenClaim := { program := "ytfdcfihcfegekaa", sum := "fe966c711e3ffcc4e6fd9db5d62290d8932afe7ccf2869e980d21650036cf425", func := "reglet/regletlaw14.PredictRows", spec := "predictRows", unfollowed := true, recurses := true, apart := false, narrowed := true }
def PredictRowsUptoSaid : Prop := predictRowsUptoRow.holds Try.pinned (OpenSpec.upto predictRowsSpec)

end Rows
end Go.Proofs.Ytfdcfihcfegekaa
