/-
  NARROWER THAN 'FOR EVERY INPUT', by the rows' own cells (each row's printed sentence says how): FirstsAny: loops.
  DERIVED. THE GIVEN ROWS OF THIS SEAT. 6 by the template 'for every input the law returns true; each argument reads behind the call as it read before'; 0 by the template 'total and deterministic' (their statements: YtojdjjbkpbapfaaTotals.lean).
  GIVEN WITH THE SEED: the statements are not yours to turn. If you find one false, say at which input.
  Laid BY PROGRAM, IN A SANDBOX (cutbox-rows.mjs): the forced cells as the released guide's own fill.sh prints them over the translation 56ded5034a988d1c… (all of the seat's roots in one cut). By AI agents, Wed Nov 11 2026. No macro, syntax, notation, axiom, sorry.
-/
import Derived.Test.YtojdjjbkpbapfaaChecked
import GoSem.Claim
import GoSem.ClaimJoined
import GoSem.ClaimMapViews
import Derived.JoinedTies
import Derived.KernelRfl
namespace Go.Proofs.Ytojdjjbkpbapfaa
/- THE CELL 'sum', in the pinned program and in every row, IS THE sha256 OF THE DUMP (.gsa) THAT YtojdjjbkpbapfaaProg.lean LOADS. Nothing in Lean hashes anything: it is a label: what it is worth is what the hold of that sum in a sandbox is worth. -/
noncomputable def Try.pinned : Pinned := { name := "ytojdjjbkpbapfaa", sum := "56ded5034a988d1caa2d33e4080d0bf688c66a5b02c58a3449ccf8033905180c", checked := Try.checked }
namespace Rows
def none {H : Type} : Left H := { results := [], args := [] }

/-- 'regletlaw13.FirstsAny': WHATEVER THE INPUT: true; the input reads as it did. -/
def firstsAnySpec : ChangeSpec := { name := "firstsAny", fn := fun _ => fun
  | [d1, d2] => { results := [.lit (.bool true)], args := [d1, d2] }
  | _ => none }
def firstsAnyRow : OpenClaim := { program := "ytojdjjbkpbapfaa", sum := "56ded5034a988d1caa2d33e4080d0bf688c66a5b02c58a3449ccf8033905180c", func := "reglet/regletlaw13.FirstsAny", spec := "firstsAny", unfollowed := true, recurses := true, loops := true, apart := false }
def FirstsAnySaid : Prop := firstsAnyRow.holds Try.pinned (OpenSpec.ofChange firstsAnySpec)

/-- ITS FALSE NEIGHBOUR: 'it returns false'. Refute it at one input. -/
def firstsAnyWrong : ChangeSpec := { name := "firstsAny", fn := fun _ => fun
  | [d1, d2] => { results := [.lit (.bool false)], args := [d1, d2] }
  | _ => none }
def FirstsAnyWrongFalsely : Prop := firstsAnyRow.holds Try.pinned (OpenSpec.ofChange firstsAnyWrong)

/-- 'regletlaw13.FirstsMade': WHATEVER THE INPUT: true; the input reads as it did. -/
def firstsMadeSpec : ChangeSpec := { name := "firstsMade", fn := fun _ => fun
  | [d1, d2] => { results := [.lit (.bool true)], args := [d1, d2] }
  | _ => none }
def firstsMadeRow : OpenClaim := { program := "ytojdjjbkpbapfaa", sum := "56ded5034a988d1caa2d33e4080d0bf688c66a5b02c58a3449ccf8033905180c", func := "reglet/regletlaw13.FirstsMade", spec := "firstsMade", unfollowed := true, recurses := true, apart := false }
def FirstsMadeSaid : Prop := firstsMadeRow.holds Try.pinned (OpenSpec.ofChange firstsMadeSpec)

/-- ITS FALSE NEIGHBOUR: 'it returns false'. Refute it at one input. -/
def firstsMadeWrong : ChangeSpec := { name := "firstsMade", fn := fun _ => fun
  | [d1, d2] => { results := [.lit (.bool false)], args := [d1, d2] }
  | _ => none }
def FirstsMadeWrongFalsely : Prop := firstsMadeRow.holds Try.pinned (OpenSpec.ofChange firstsMadeWrong)

/-- 'regletlaw13.FirstsBegin': WHATEVER THE INPUT: true; the input reads as it did. -/
def firstsBeginSpec : ChangeSpec := { name := "firstsBegin", fn := fun _ => fun
  | [d1, d2, d3] => { results := [.lit (.bool true)], args := [d1, d2, d3] }
  | _ => none }
def firstsBeginRow : OpenClaim := { program := "ytojdjjbkpbapfaa", sum := "56ded5034a988d1caa2d33e4080d0bf688c66a5b02c58a3449ccf8033905180c", func := "reglet/regletlaw13.FirstsBegin", spec := "firstsBegin", unfollowed := true, recurses := true, apart := false }
def FirstsBeginSaid : Prop := firstsBeginRow.holds Try.pinned (OpenSpec.ofChange firstsBeginSpec)

/-- ITS FALSE NEIGHBOUR: 'it returns false'. Refute it at one input. -/
def firstsBeginWrong : ChangeSpec := { name := "firstsBegin", fn := fun _ => fun
  | [d1, d2, d3] => { results := [.lit (.bool false)], args := [d1, d2, d3] }
  | _ => none }
def FirstsBeginWrongFalsely : Prop := firstsBeginRow.holds Try.pinned (OpenSpec.ofChange firstsBeginWrong)

/-- 'regletlaw13.FirstsFollow': WHATEVER THE INPUT: true; the input reads as it did. -/
def firstsFollowSpec : ChangeSpec := { name := "firstsFollow", fn := fun _ => fun
  | [d1, d2] => { results := [.lit (.bool true)], args := [d1, d2] }
  | _ => none }
def firstsFollowRow : OpenClaim := { program := "ytojdjjbkpbapfaa", sum := "56ded5034a988d1caa2d33e4080d0bf688c66a5b02c58a3449ccf8033905180c", func := "reglet/regletlaw13.FirstsFollow", spec := "firstsFollow", unfollowed := true, recurses := true, apart := false }
def FirstsFollowSaid : Prop := firstsFollowRow.holds Try.pinned (OpenSpec.ofChange firstsFollowSpec)

/-- ITS FALSE NEIGHBOUR: 'it returns false'. Refute it at one input. -/
def firstsFollowWrong : ChangeSpec := { name := "firstsFollow", fn := fun _ => fun
  | [d1, d2] => { results := [.lit (.bool false)], args := [d1, d2] }
  | _ => none }
def FirstsFollowWrongFalsely : Prop := firstsFollowRow.holds Try.pinned (OpenSpec.ofChange firstsFollowWrong)

/-- 'regletlaw13.FirstsMore': WHATEVER THE INPUT: true; the input reads as it did. -/
def firstsMoreSpec : ChangeSpec := { name := "firstsMore", fn := fun _ => fun
  | [d1, d2] => { results := [.lit (.bool true)], args := [d1, d2] }
  | _ => none }
def firstsMoreRow : OpenClaim := { program := "ytojdjjbkpbapfaa", sum := "56ded5034a988d1caa2d33e4080d0bf688c66a5b02c58a3449ccf8033905180c", func := "reglet/regletlaw13.FirstsMore", spec := "firstsMore", unfollowed := true, recurses := true, apart := false }
def FirstsMoreSaid : Prop := firstsMoreRow.holds Try.pinned (OpenSpec.ofChange firstsMoreSpec)

/-- ITS FALSE NEIGHBOUR: 'it returns false'. Refute it at one input. -/
def firstsMoreWrong : ChangeSpec := { name := "firstsMore", fn := fun _ => fun
  | [d1, d2] => { results := [.lit (.bool false)], args := [d1, d2] }
  | _ => none }
def FirstsMoreWrongFalsely : Prop := firstsMoreRow.holds Try.pinned (OpenSpec.ofChange firstsMoreWrong)

/-- 'regletlaw13.FirstsParts': WHATEVER THE INPUT: true; the input reads as it did. -/
def firstsPartsSpec : ChangeSpec := { name := "firstsParts", fn := fun _ => fun
  | [d1, d2, d3] => { results := [.lit (.bool true)], args := [d1, d2, d3] }
  | _ => none }
def firstsPartsRow : OpenClaim := { program := "ytojdjjbkpbapfaa", sum := "56ded5034a988d1caa2d33e4080d0bf688c66a5b02c58a3449ccf8033905180c", func := "reglet/regletlaw13.FirstsParts", spec := "firstsParts", unfollowed := true, recurses := true, apart := false }
def FirstsPartsSaid : Prop := firstsPartsRow.holds Try.pinned (OpenSpec.ofChange firstsPartsSpec)

/-- ITS FALSE NEIGHBOUR: 'it returns false'. Refute it at one input. -/
def firstsPartsWrong : ChangeSpec := { name := "firstsParts", fn := fun _ => fun
  | [d1, d2, d3] => { results := [.lit (.bool false)], args := [d1, d2, d3] }
  | _ => none }
def FirstsPartsWrongFalsely : Prop := firstsPartsRow.holds Try.pinned (OpenSpec.ofChange firstsPartsWrong)

/- THE SECOND FORM. 'bulk': how many values and letters a reading holds, each counted each time it is reached (what is shared counts as often as it is met; a slice's spare places count too). A statement '..UptoSaid' is the law's where the arguments, and the package variables that the reading takes, are together of bulk at most 1048576: NARROWER than '..Said'. Prove '..Said' where nothing that the law and all that it calls make is longer than what came in: it says more and counts as full. Else prove '..UptoSaid'. A law counts once. -/
mutual
def uptoBulk {H : Type} : DataW H → Nat
  | .lit (.string bytes) => bytes.length + 1
  | .lit _ => 1
  | .nil => 1
  | .ptr d => uptoBulk d + 1
  | .slice elems spare => uptoBulkAll elems + uptoBulkAll spare + 1
  | .agg parts => uptoBulkAll parts + 1
  | .iface _ d => uptoBulk d + 1
  | .map entries => uptoBulkEntries entries + 1
  | .held _ => 1
def uptoBulkAll {H : Type} : List (DataW H) → Nat
  | [] => 0
  | d :: r => uptoBulk d + uptoBulkAll r
def uptoBulkEntries {H : Type} : List (Lit × DataW H) → Nat
  | [] => 0
  | x :: r => uptoBulkEntry x + uptoBulkEntries r
def uptoBulkEntry {H : Type} : Lit × DataW H → Nat
  | (.string bytes, d) => bytes.length + uptoBulk d + 1
  | (_, d) => uptoBulk d + 1
 end
def uptoSmall : (H : Type) → List (DataW H) → Bool := fun _ ds => decide (uptoBulkAll ds ≤ 1048576)
def OpenSpec.upto (s : _root_.Go.ChangeSpec) : _root_.Go.OpenSpec := { _root_.Go.OpenSpec.ofChange s with cond := some uptoSmall }

/-- 'regletlaw13.FirstsAny', WHERE WHAT IT READS IS OF BULK AT MOST 1048576: true; the input reads as it did. -/
def firstsAnyUptoRow : OpenClaim := { program := "ytojdjjbkpbapfaa", sum := "56ded5034a988d1caa2d33e4080d0bf688c66a5b02c58a3449ccf8033905180c", func := "reglet/regletlaw13.FirstsAny", spec := "firstsAny", unfollowed := true, recurses := true, loops := true, apart := false, narrowed := true }
def FirstsAnyUptoSaid : Prop := firstsAnyUptoRow.holds Try.pinned (OpenSpec.upto firstsAnySpec)

/-- 'regletlaw13.FirstsMade', WHERE WHAT IT READS IS OF BULK AT MOST 1048576: true; the input reads as it did. -/
def firstsMadeUptoRow : OpenClaim := { program := "ytojdjjbkpbapfaa", sum := "56ded5034a988d1caa2d33e4080d0bf688c66a5b02c58a3449ccf8033905180c", func := "reglet/regletlaw13.FirstsMade", spec := "firstsMade", unfollowed := true, recurses := true, apart := false, narrowed := true }
def FirstsMadeUptoSaid : Prop := firstsMadeUptoRow.holds Try.pinned (OpenSpec.upto firstsMadeSpec)

/-- 'regletlaw13.FirstsBegin', WHERE WHAT IT READS IS OF BULK AT MOST 1048576: true; the input reads as it did. -/
def firstsBeginUptoRow : OpenClaim := { program := "ytojdjjbkpbapfaa", sum := "56ded5034a988d1caa2d33e4080d0bf688c66a5b02c58a3449ccf8033905180c", func := "reglet/regletlaw13.FirstsBegin", spec := "firstsBegin", unfollowed := true, recurses := true, apart := false, narrowed := true }
def FirstsBeginUptoSaid : Prop := firstsBeginUptoRow.holds Try.pinned (OpenSpec.upto firstsBeginSpec)

/-- 'regletlaw13.FirstsFollow', WHERE WHAT IT READS IS OF BULK AT MOST 1048576: true; the input reads as it did. -/
def firstsFollowUptoRow : OpenClaim := { program := "ytojdjjbkpbapfaa", sum := "56ded5034a988d1caa2d33e4080d0bf688c66a5b02c58a3449ccf8033905180c", func := "reglet/regletlaw13.FirstsFollow", spec := "firstsFollow", unfollowed := true, recurses := true, apart := false, narrowed := true }
def FirstsFollowUptoSaid : Prop := firstsFollowUptoRow.holds Try.pinned (OpenSpec.upto firstsFollowSpec)

/-- 'regletlaw13.FirstsMore', WHERE WHAT IT READS IS OF BULK AT MOST 1048576: true; the input reads as it did. -/
def firstsMoreUptoRow : OpenClaim := { program := "ytojdjjbkpbapfaa", sum := "56ded5034a988d1caa2d33e4080d0bf688c66a5b02c58a3449ccf8033905180c", func := "reglet/regletlaw13.FirstsMore", spec := "firstsMore", unfollowed := true, recurses := true, apart := false, narrowed := true }
def FirstsMoreUptoSaid : Prop := firstsMoreUptoRow.holds Try.pinned (OpenSpec.upto firstsMoreSpec)

/-- 'regletlaw13.FirstsParts', WHERE WHAT IT READS IS OF BULK AT MOST 1048576: true; the input reads as it did. -/
def firstsPartsUptoRow : OpenClaim := { program := "ytojdjjbkpbapfaa", sum := "56ded5034a988d1caa2d33e4080d0bf688c66a5b02c58a3449ccf8033905180c", func := "reglet/regletlaw13.FirstsParts", spec := "firstsParts", unfollowed := true, recurses := true, apart := false, narrowed := true }
def FirstsPartsUptoSaid : Prop := firstsPartsUptoRow.holds Try.pinned (OpenSpec.upto firstsPartsSpec)

end Rows
end Go.Proofs.Ytojdjjbkpbapfaa
