/-
  NARROWER THAN 'FOR EVERY INPUT', by the rows' own cells (each row's printed sentence says how): BytesetBack: laid · BytesetOf: laid · BytesetSets: laid · BytesetTurned: laid · BytesetRules: laid · BytesetClasses: laid · BytesetParts: laid.
  DERIVED. THE GIVEN ROWS OF THIS SEAT. 7 by the template 'for every input the law returns true; each argument reads behind the call as it read before'; 0 by the template 'total and deterministic' (their statements: YtelmobelgojpbaaDoorTotals.lean).
  GIVEN WITH THE SEED: the statements are not yours to turn. If you find one false, say at which input.
  Laid BY PROGRAM, IN A SANDBOX (cutbox-rows.mjs): the forced cells as the released guide's own fill.sh prints them over the translation 474ef5506b71f27b… (all of the seat's roots in one cut). By AI agents, Wed Nov 11 2026. No macro, syntax, notation, axiom, sorry.
-/
import Derived.Test.YtelmobelgojpbaaDoorChecked
import GoSem.Claim
import GoSem.ClaimJoined
import GoSem.ClaimMapViews
import Derived.JoinedTies
import Derived.KernelRfl
namespace Go.Proofs.YtelmobelgojpbaaDoor
/- THE CELL 'sum', in the pinned program and in every row, IS THE sha256 OF THE DUMP (.gsa) THAT YtelmobelgojpbaaDoorProg.lean LOADS. Nothing in Lean hashes anything: it is a label: what it is worth is what the hold of that sum in a sandbox is worth. -/
noncomputable def Tryd.pinned : Pinned := { name := "ytelmobelgojpbaadoor", sum := "474ef5506b71f27b50b85bda5e005ec51857065e5b688e2a3a1e7775551fe0cc", checked := Tryd.checked }
namespace Rows
def none {H : Type} : Left H := { results := [], args := [] }

/- WHAT THE LISTED PACKAGE-LEVEL VARIABLES READ AS WHEN THE CALL BEGINS. Each datum BY PROGRAM (the guide's laid-datum.mjs) off the statement by which the dump's own 'gosem.cut.vars' lays the variable. In a bare row this is a premise. The card (YtelmobelgojpbaaDoorCards.lean) ties it to the program's text. -/
def laid_math_bits_deBruijn64tab {H : Type} : DataW H := .agg [.lit (.int .u8 0), .lit (.int .u8 1), .lit (.int .u8 56), .lit (.int .u8 2), .lit (.int .u8 57), .lit (.int .u8 49), .lit (.int .u8 28), .lit (.int .u8 3), .lit (.int .u8 61), .lit (.int .u8 58), .lit (.int .u8 42), .lit (.int .u8 50), .lit (.int .u8 38), .lit (.int .u8 29), .lit (.int .u8 17), .lit (.int .u8 4), .lit (.int .u8 62), .lit (.int .u8 47), .lit (.int .u8 59), .lit (.int .u8 36), .lit (.int .u8 45), .lit (.int .u8 43), .lit (.int .u8 51), .lit (.int .u8 22), .lit (.int .u8 53), .lit (.int .u8 39), .lit (.int .u8 33), .lit (.int .u8 30), .lit (.int .u8 24), .lit (.int .u8 18), .lit (.int .u8 12), .lit (.int .u8 5), .lit (.int .u8 63), .lit (.int .u8 55), .lit (.int .u8 48), .lit (.int .u8 27), .lit (.int .u8 60), .lit (.int .u8 41), .lit (.int .u8 37), .lit (.int .u8 16), .lit (.int .u8 46), .lit (.int .u8 35), .lit (.int .u8 44), .lit (.int .u8 21), .lit (.int .u8 52), .lit (.int .u8 32), .lit (.int .u8 23), .lit (.int .u8 11), .lit (.int .u8 54), .lit (.int .u8 26), .lit (.int .u8 40), .lit (.int .u8 15), .lit (.int .u8 34), .lit (.int .u8 20), .lit (.int .u8 31), .lit (.int .u8 10), .lit (.int .u8 25), .lit (.int .u8 14), .lit (.int .u8 19), .lit (.int .u8 9), .lit (.int .u8 13), .lit (.int .u8 8), .lit (.int .u8 7), .lit (.int .u8 6)]

/-- 'regletlaw01.BytesetBack': WHATEVER THE INPUT: true; the input reads as it did. -/
def bytesetBackSpec : ChangeSpec := { name := "bytesetBack", fn := fun _ => fun
  | [d] => { results := [.lit (.bool true)], args := [d] }
  | _ => none }
def bytesetBackRow : OpenClaim := { program := "ytelmobelgojpbaadoor", sum := "474ef5506b71f27b50b85bda5e005ec51857065e5b688e2a3a1e7775551fe0cc", func := "reglet/regletlaw01.BytesetBack", spec := "bytesetBack", unfollowed := true, recurses := true, named := ["math/bits.deBruijn64tab"], apart := false, laid := [("math/bits.deBruijn64tab", laid_math_bits_deBruijn64tab)] }
def BytesetBackSaid : Prop := bytesetBackRow.holds Tryd.pinned (OpenSpec.ofChange bytesetBackSpec)

/-- ITS FALSE NEIGHBOUR: 'it returns false'. Refute it at one input. -/
def bytesetBackWrong : ChangeSpec := { name := "bytesetBack", fn := fun _ => fun
  | [d] => { results := [.lit (.bool false)], args := [d] }
  | _ => none }
def BytesetBackWrongFalsely : Prop := bytesetBackRow.holds Tryd.pinned (OpenSpec.ofChange bytesetBackWrong)

/-- 'regletlaw01.BytesetOf': WHATEVER THE INPUT: true; the input reads as it did. -/
def bytesetOfSpec : ChangeSpec := { name := "bytesetOf", fn := fun _ => fun
  | [d1, d2, d3] => { results := [.lit (.bool true)], args := [d1, d2, d3] }
  | _ => none }
def bytesetOfRow : OpenClaim := { program := "ytelmobelgojpbaadoor", sum := "474ef5506b71f27b50b85bda5e005ec51857065e5b688e2a3a1e7775551fe0cc", func := "reglet/regletlaw01.BytesetOf", spec := "bytesetOf", unfollowed := true, recurses := true, named := ["math/bits.deBruijn64tab"], apart := false, laid := [("math/bits.deBruijn64tab", laid_math_bits_deBruijn64tab)] }
def BytesetOfSaid : Prop := bytesetOfRow.holds Tryd.pinned (OpenSpec.ofChange bytesetOfSpec)

/-- ITS FALSE NEIGHBOUR: 'it returns false'. Refute it at one input. -/
def bytesetOfWrong : ChangeSpec := { name := "bytesetOf", fn := fun _ => fun
  | [d1, d2, d3] => { results := [.lit (.bool false)], args := [d1, d2, d3] }
  | _ => none }
def BytesetOfWrongFalsely : Prop := bytesetOfRow.holds Tryd.pinned (OpenSpec.ofChange bytesetOfWrong)

/-- 'regletlaw01.BytesetSets': WHATEVER THE INPUT: true; the input reads as it did. -/
def bytesetSetsSpec : ChangeSpec := { name := "bytesetSets", fn := fun _ => fun
  | [d1, d2, d3] => { results := [.lit (.bool true)], args := [d1, d2, d3] }
  | _ => none }
def bytesetSetsRow : OpenClaim := { program := "ytelmobelgojpbaadoor", sum := "474ef5506b71f27b50b85bda5e005ec51857065e5b688e2a3a1e7775551fe0cc", func := "reglet/regletlaw01.BytesetSets", spec := "bytesetSets", unfollowed := true, recurses := true, named := ["math/bits.deBruijn64tab"], apart := false, laid := [("math/bits.deBruijn64tab", laid_math_bits_deBruijn64tab)] }
def BytesetSetsSaid : Prop := bytesetSetsRow.holds Tryd.pinned (OpenSpec.ofChange bytesetSetsSpec)

/-- ITS FALSE NEIGHBOUR: 'it returns false'. Refute it at one input. -/
def bytesetSetsWrong : ChangeSpec := { name := "bytesetSets", fn := fun _ => fun
  | [d1, d2, d3] => { results := [.lit (.bool false)], args := [d1, d2, d3] }
  | _ => none }
def BytesetSetsWrongFalsely : Prop := bytesetSetsRow.holds Tryd.pinned (OpenSpec.ofChange bytesetSetsWrong)

/-- 'regletlaw01.BytesetTurned': WHATEVER THE INPUT: true; the input reads as it did. -/
def bytesetTurnedSpec : ChangeSpec := { name := "bytesetTurned", fn := fun _ => fun
  | [d1, d2] => { results := [.lit (.bool true)], args := [d1, d2] }
  | _ => none }
def bytesetTurnedRow : OpenClaim := { program := "ytelmobelgojpbaadoor", sum := "474ef5506b71f27b50b85bda5e005ec51857065e5b688e2a3a1e7775551fe0cc", func := "reglet/regletlaw01.BytesetTurned", spec := "bytesetTurned", unfollowed := true, recurses := true, named := ["math/bits.deBruijn64tab"], apart := false, laid := [("math/bits.deBruijn64tab", laid_math_bits_deBruijn64tab)] }
def BytesetTurnedSaid : Prop := bytesetTurnedRow.holds Tryd.pinned (OpenSpec.ofChange bytesetTurnedSpec)

/-- ITS FALSE NEIGHBOUR: 'it returns false'. Refute it at one input. -/
def bytesetTurnedWrong : ChangeSpec := { name := "bytesetTurned", fn := fun _ => fun
  | [d1, d2] => { results := [.lit (.bool false)], args := [d1, d2] }
  | _ => none }
def BytesetTurnedWrongFalsely : Prop := bytesetTurnedRow.holds Tryd.pinned (OpenSpec.ofChange bytesetTurnedWrong)

/-- 'regletlaw01.BytesetRules': WHATEVER THE INPUT: true; the input reads as it did. -/
def bytesetRulesSpec : ChangeSpec := { name := "bytesetRules", fn := fun _ => fun
  | [d1, d2, d3] => { results := [.lit (.bool true)], args := [d1, d2, d3] }
  | _ => none }
def bytesetRulesRow : OpenClaim := { program := "ytelmobelgojpbaadoor", sum := "474ef5506b71f27b50b85bda5e005ec51857065e5b688e2a3a1e7775551fe0cc", func := "reglet/regletlaw01.BytesetRules", spec := "bytesetRules", unfollowed := true, recurses := true, named := ["math/bits.deBruijn64tab"], apart := false, laid := [("math/bits.deBruijn64tab", laid_math_bits_deBruijn64tab)] }
def BytesetRulesSaid : Prop := bytesetRulesRow.holds Tryd.pinned (OpenSpec.ofChange bytesetRulesSpec)

/-- ITS FALSE NEIGHBOUR: 'it returns false'. Refute it at one input. -/
def bytesetRulesWrong : ChangeSpec := { name := "bytesetRules", fn := fun _ => fun
  | [d1, d2, d3] => { results := [.lit (.bool false)], args := [d1, d2, d3] }
  | _ => none }
def BytesetRulesWrongFalsely : Prop := bytesetRulesRow.holds Tryd.pinned (OpenSpec.ofChange bytesetRulesWrong)

/-- 'regletlaw01.BytesetClasses': WHATEVER THE INPUT: true; the input reads as it did. -/
def bytesetClassesSpec : ChangeSpec := { name := "bytesetClasses", fn := fun _ => fun
  | [d] => { results := [.lit (.bool true)], args := [d] }
  | _ => none }
def bytesetClassesRow : OpenClaim := { program := "ytelmobelgojpbaadoor", sum := "474ef5506b71f27b50b85bda5e005ec51857065e5b688e2a3a1e7775551fe0cc", func := "reglet/regletlaw01.BytesetClasses", spec := "bytesetClasses", unfollowed := true, recurses := true, named := ["math/bits.deBruijn64tab"], apart := false, laid := [("math/bits.deBruijn64tab", laid_math_bits_deBruijn64tab)] }
def BytesetClassesSaid : Prop := bytesetClassesRow.holds Tryd.pinned (OpenSpec.ofChange bytesetClassesSpec)

/-- ITS FALSE NEIGHBOUR: 'it returns false'. Refute it at one input. -/
def bytesetClassesWrong : ChangeSpec := { name := "bytesetClasses", fn := fun _ => fun
  | [d] => { results := [.lit (.bool false)], args := [d] }
  | _ => none }
def BytesetClassesWrongFalsely : Prop := bytesetClassesRow.holds Tryd.pinned (OpenSpec.ofChange bytesetClassesWrong)

/-- 'regletlaw01.BytesetParts': WHATEVER THE INPUT: true; the input reads as it did. -/
def bytesetPartsSpec : ChangeSpec := { name := "bytesetParts", fn := fun _ => fun
  | [d] => { results := [.lit (.bool true)], args := [d] }
  | _ => none }
def bytesetPartsRow : OpenClaim := { program := "ytelmobelgojpbaadoor", sum := "474ef5506b71f27b50b85bda5e005ec51857065e5b688e2a3a1e7775551fe0cc", func := "reglet/regletlaw01.BytesetParts", spec := "bytesetParts", unfollowed := true, recurses := true, named := ["math/bits.deBruijn64tab"], apart := false, laid := [("math/bits.deBruijn64tab", laid_math_bits_deBruijn64tab)] }
def BytesetPartsSaid : Prop := bytesetPartsRow.holds Tryd.pinned (OpenSpec.ofChange bytesetPartsSpec)

/-- ITS FALSE NEIGHBOUR: 'it returns false'. Refute it at one input. -/
def bytesetPartsWrong : ChangeSpec := { name := "bytesetParts", fn := fun _ => fun
  | [d] => { results := [.lit (.bool false)], args := [d] }
  | _ => none }
def BytesetPartsWrongFalsely : Prop := bytesetPartsRow.holds Tryd.pinned (OpenSpec.ofChange bytesetPartsWrong)

/- THE SECOND FORM. 'bulk': how many values and letters a reading holds, each counted each time it is reached (what is shared counts as often as it is met; a slice's spare places count too). A statement '..UptoSaid' is the law's where the arguments, and the package variables that the reading takes, are together of bulk at most 1048576: NARROWER than '..Said'. Prove '..Said' where nothing that the law and all that it calls make is longer than what came in: it says more and counts as full. Else prove '..UptoSaid'. A law counts once. -/
mutual
def uptoBulk {H : Type} : DataW H → Nat
  | .lit (.string bytes) => bytes.length + 1
  | .lit _ => 1
  | .nil => 1
  | .ptr d => uptoBulk d + 1
  | .slice elems spare => uptoBulkAll elems + uptoBulkAll spare + 1
  | .agg parts => uptoBulkAll parts + 1
  | .iface _ d => uptoBulk d + 1
  | .map entries => uptoBulkEntries entries + 1
  | .held _ => 1
def uptoBulkAll {H : Type} : List (DataW H) → Nat
  | [] => 0
  | d :: r => uptoBulk d + uptoBulkAll r
def uptoBulkEntries {H : Type} : List (Lit × DataW H) → Nat
  | [] => 0
  | x :: r => uptoBulkEntry x + uptoBulkEntries r
def uptoBulkEntry {H : Type} : Lit × DataW H → Nat
  | (.string bytes, d) => bytes.length + uptoBulk d + 1
  | (_, d) => uptoBulk d + 1
 end
def uptoSmall : (H : Type) → List (DataW H) → Bool := fun _ ds => decide (uptoBulkAll ds ≤ 1048576)
def OpenSpec.upto (s : _root_.Go.ChangeSpec) : _root_.Go.OpenSpec := { _root_.Go.OpenSpec.ofChange s with cond := some uptoSmall }

/-- 'regletlaw01.BytesetBack', WHERE WHAT IT READS IS OF BULK AT MOST 1048576: true; the input reads as it did. -/
def bytesetBackUptoRow : OpenClaim := { program := "ytelmobelgojpbaadoor", sum := "474ef5506b71f27b50b85bda5e005ec51857065e5b688e2a3a1e7775551fe0cc", func := "reglet/regletlaw01.BytesetBack", spec := "bytesetBack", unfollowed := true, recurses := true, named := ["math/bits.deBruijn64tab"], apart := false, laid := [("math/bits.deBruijn64tab", laid_math_bits_deBruijn64tab)], narrowed := true }
def BytesetBackUptoSaid : Prop := bytesetBackUptoRow.holds Tryd.pinned (OpenSpec.upto bytesetBackSpec)

/-- 'regletlaw01.BytesetOf', WHERE WHAT IT READS IS OF BULK AT MOST 1048576: true; the input reads as it did. -/
def bytesetOfUptoRow : OpenClaim := { program := "ytelmobelgojpbaadoor", sum := "474ef5506b71f27b50b85bda5e005ec51857065e5b688e2a3a1e7775551fe0cc", func := "reglet/regletlaw01.BytesetOf", spec := "bytesetOf", unfollowed := true, recurses := true, named := ["math/bits.deBruijn64tab"], apart := false, laid := [("math/bits.deBruijn64tab", laid_math_bits_deBruijn64tab)], narrowed := true }
def BytesetOfUptoSaid : Prop := bytesetOfUptoRow.holds Tryd.pinned (OpenSpec.upto bytesetOfSpec)

/-- 'regletlaw01.BytesetSets', WHERE WHAT IT READS IS OF BULK AT MOST 1048576: true; the input reads as it did. -/
def bytesetSetsUptoRow : OpenClaim := { program := "ytelmobelgojpbaadoor", sum := "474ef5506b71f27b50b85bda5e005ec51857065e5b688e2a3a1e7775551fe0cc", func := "reglet/regletlaw01.BytesetSets", spec := "bytesetSets", unfollowed := true, recurses := true, named := ["math/bits.deBruijn64tab"], apart := false, laid := [("math/bits.deBruijn64tab", laid_math_bits_deBruijn64tab)], narrowed := true }
def BytesetSetsUptoSaid : Prop := bytesetSetsUptoRow.holds Tryd.pinned (OpenSpec.upto bytesetSetsSpec)

/-- 'regletlaw01.BytesetTurned', WHERE WHAT IT READS IS OF BULK AT MOST 1048576: true; the input reads as it did. -/
def bytesetTurnedUptoRow : OpenClaim := { program := "ytelmobelgojpbaadoor", sum := "474ef5506b71f27b50b85bda5e005ec51857065e5b688e2a3a1e7775551fe0cc", func := "reglet/regletlaw01.BytesetTurned", spec := "bytesetTurned", unfollowed := true, recurses := true, named := ["math/bits.deBruijn64tab"], apart := false, laid := [("math/bits.deBruijn64tab", laid_math_bits_deBruijn64tab)], narrowed := true }
def BytesetTurnedUptoSaid : Prop := bytesetTurnedUptoRow.holds Tryd.pinned (OpenSpec.upto bytesetTurnedSpec)

/-- 'regletlaw01.BytesetRules', WHERE WHAT IT READS IS OF BULK AT MOST 1048576: true; the input reads as it did. -/
def bytesetRulesUptoRow : OpenClaim := { program := "ytelmobelgojpbaadoor", sum := "474ef5506b71f27b50b85bda5e005ec51857065e5b688e2a3a1e7775551fe0cc", func := "reglet/regletlaw01.BytesetRules", spec := "bytesetRules", unfollowed := true, recurses := true, named := ["math/bits.deBruijn64tab"], apart := false, laid := [("math/bits.deBruijn64tab", laid_math_bits_deBruijn64tab)], narrowed := true }
def BytesetRulesUptoSaid : Prop := bytesetRulesUptoRow.holds Tryd.pinned (OpenSpec.upto bytesetRulesSpec)

/-- 'regletlaw01.BytesetClasses', WHERE WHAT IT READS IS OF BULK AT MOST 1048576: true; the input reads as it did. -/
def bytesetClassesUptoRow : OpenClaim := { program := "ytelmobelgojpbaadoor", sum := "474ef5506b71f27b50b85bda5e005ec51857065e5b688e2a3a1e7775551fe0cc", func := "reglet/regletlaw01.BytesetClasses", spec := "bytesetClasses", unfollowed := true, recurses := true, named := ["math/bits.deBruijn64tab"], apart := false, laid := [("math/bits.deBruijn64tab", laid_math_bits_deBruijn64tab)], narrowed := true }
def BytesetClassesUptoSaid : Prop := bytesetClassesUptoRow.holds Tryd.pinned (OpenSpec.upto bytesetClassesSpec)

/-- 'regletlaw01.BytesetParts', WHERE WHAT IT READS IS OF BULK AT MOST 1048576: true; the input reads as it did. -/
def bytesetPartsUptoRow : OpenClaim := { program := "ytelmobelgojpbaadoor", sum := "474ef5506b71f27b50b85bda5e005ec51857065e5b688e2a3a1e7775551fe0cc", func := "reglet/regletlaw01.BytesetParts", spec := "bytesetParts", unfollowed := true, recurses := true, named := ["math/bits.deBruijn64tab"], apart := false, laid := [("math/bits.deBruijn64tab", laid_math_bits_deBruijn64tab)], narrowed := true }
def BytesetPartsUptoSaid : Prop := bytesetPartsUptoRow.holds Tryd.pinned (OpenSpec.upto bytesetPartsSpec)

end Rows
end Go.Proofs.YtelmobelgojpbaaDoor
