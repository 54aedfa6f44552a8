/-
  DERIVED. GIVEN WITH THE SEED: THE CARDS: each row of YtelmobelgojpbaaDoorRows.lean that lists a variable, with what it lists TIED to the program's text (the seventh form; the later family's looks); each row that meets fmt, with fmt's text TOLD by the authors' own Lean function (tested against real Go, not proved from fmt's source: count such statements apart). THE CARD IS WHAT COUNTS. Prove the row's statement (the work); the ties are given (YtelmobelgojpbaaDoorTie.lean); close each card by the builder's one call (the guide's Derived/Test/ToyasCard.lean, 'card_holds'). Laid BY PROGRAM, IN A SANDBOX (cutbox-door.mjs). By AI agents, Wed Nov 11 2026. No macro, syntax, notation, axiom, sorry.
-/
import Derived.Test.YtelmobelgojpbaaDoorRows
import GoSem.ClaimSeven
namespace Go.Proofs.YtelmobelgojpbaaDoor
namespace Rows

/-- THE TIED CARD OF 'regletlaw01.BytesetBack'. -/
def bytesetBackCard : Claim7 := { stood := { row := bytesetBackRow, standIns := [], harness := (true, "7f74519c2aa0c544c3567a06bb040dd38408454d8b08beab185afa94a9344735"), looks := false }, kinds := [], alts := [], laidByText := true, laidKinds := [.data], laidTests := true, laidLooks := .later }
def BytesetBackCardSaid : Prop := Claim7.holds Tryd.pinned (.plain (OpenSpec.ofChange bytesetBackSpec)) bytesetBackCard

/-- THE TIED CARD OF 'regletlaw01.BytesetOf'. -/
def bytesetOfCard : Claim7 := { stood := { row := bytesetOfRow, standIns := [], harness := (true, "7f74519c2aa0c544c3567a06bb040dd38408454d8b08beab185afa94a9344735"), looks := false }, kinds := [], alts := [], laidByText := true, laidKinds := [.data], laidTests := true, laidLooks := .later }
def BytesetOfCardSaid : Prop := Claim7.holds Tryd.pinned (.plain (OpenSpec.ofChange bytesetOfSpec)) bytesetOfCard

/-- THE TIED CARD OF 'regletlaw01.BytesetSets'. -/
def bytesetSetsCard : Claim7 := { stood := { row := bytesetSetsRow, standIns := [], harness := (true, "7f74519c2aa0c544c3567a06bb040dd38408454d8b08beab185afa94a9344735"), looks := false }, kinds := [], alts := [], laidByText := true, laidKinds := [.data], laidTests := true, laidLooks := .later }
def BytesetSetsCardSaid : Prop := Claim7.holds Tryd.pinned (.plain (OpenSpec.ofChange bytesetSetsSpec)) bytesetSetsCard

/-- THE TIED CARD OF 'regletlaw01.BytesetTurned'. -/
def bytesetTurnedCard : Claim7 := { stood := { row := bytesetTurnedRow, standIns := [], harness := (true, "7f74519c2aa0c544c3567a06bb040dd38408454d8b08beab185afa94a9344735"), looks := false }, kinds := [], alts := [], laidByText := true, laidKinds := [.data], laidTests := true, laidLooks := .later }
def BytesetTurnedCardSaid : Prop := Claim7.holds Tryd.pinned (.plain (OpenSpec.ofChange bytesetTurnedSpec)) bytesetTurnedCard

/-- THE TIED CARD OF 'regletlaw01.BytesetRules'. -/
def bytesetRulesCard : Claim7 := { stood := { row := bytesetRulesRow, standIns := [], harness := (true, "7f74519c2aa0c544c3567a06bb040dd38408454d8b08beab185afa94a9344735"), looks := false }, kinds := [], alts := [], laidByText := true, laidKinds := [.data], laidTests := true, laidLooks := .later }
def BytesetRulesCardSaid : Prop := Claim7.holds Tryd.pinned (.plain (OpenSpec.ofChange bytesetRulesSpec)) bytesetRulesCard

/-- THE TIED CARD OF 'regletlaw01.BytesetClasses'. -/
def bytesetClassesCard : Claim7 := { stood := { row := bytesetClassesRow, standIns := [], harness := (true, "7f74519c2aa0c544c3567a06bb040dd38408454d8b08beab185afa94a9344735"), looks := false }, kinds := [], alts := [], laidByText := true, laidKinds := [.data], laidTests := true, laidLooks := .later }
def BytesetClassesCardSaid : Prop := Claim7.holds Tryd.pinned (.plain (OpenSpec.ofChange bytesetClassesSpec)) bytesetClassesCard

/-- THE TIED CARD OF 'regletlaw01.BytesetParts'. -/
def bytesetPartsCard : Claim7 := { stood := { row := bytesetPartsRow, standIns := [], harness := (true, "7f74519c2aa0c544c3567a06bb040dd38408454d8b08beab185afa94a9344735"), looks := false }, kinds := [], alts := [], laidByText := true, laidKinds := [.data], laidTests := true, laidLooks := .later }
def BytesetPartsCardSaid : Prop := Claim7.holds Tryd.pinned (.plain (OpenSpec.ofChange bytesetPartsSpec)) bytesetPartsCard

/-- THE SECOND FORM's CARD OF 'regletlaw01.BytesetBack'. -/
def bytesetBackUptoCard : Claim7 := { stood := { row := bytesetBackUptoRow, standIns := [], harness := (true, "7f74519c2aa0c544c3567a06bb040dd38408454d8b08beab185afa94a9344735"), looks := false }, kinds := [], alts := [], laidByText := true, laidKinds := [.data], laidTests := true, laidLooks := .later }
def BytesetBackUptoCardSaid : Prop := Claim7.holds Tryd.pinned (.plain (OpenSpec.upto bytesetBackSpec)) bytesetBackUptoCard

/-- THE SECOND FORM's CARD OF 'regletlaw01.BytesetOf'. -/
def bytesetOfUptoCard : Claim7 := { stood := { row := bytesetOfUptoRow, standIns := [], harness := (true, "7f74519c2aa0c544c3567a06bb040dd38408454d8b08beab185afa94a9344735"), looks := false }, kinds := [], alts := [], laidByText := true, laidKinds := [.data], laidTests := true, laidLooks := .later }
def BytesetOfUptoCardSaid : Prop := Claim7.holds Tryd.pinned (.plain (OpenSpec.upto bytesetOfSpec)) bytesetOfUptoCard

/-- THE SECOND FORM's CARD OF 'regletlaw01.BytesetSets'. -/
def bytesetSetsUptoCard : Claim7 := { stood := { row := bytesetSetsUptoRow, standIns := [], harness := (true, "7f74519c2aa0c544c3567a06bb040dd38408454d8b08beab185afa94a9344735"), looks := false }, kinds := [], alts := [], laidByText := true, laidKinds := [.data], laidTests := true, laidLooks := .later }
def BytesetSetsUptoCardSaid : Prop := Claim7.holds Tryd.pinned (.plain (OpenSpec.upto bytesetSetsSpec)) bytesetSetsUptoCard

/-- THE SECOND FORM's CARD OF 'regletlaw01.BytesetTurned'. -/
def bytesetTurnedUptoCard : Claim7 := { stood := { row := bytesetTurnedUptoRow, standIns := [], harness := (true, "7f74519c2aa0c544c3567a06bb040dd38408454d8b08beab185afa94a9344735"), looks := false }, kinds := [], alts := [], laidByText := true, laidKinds := [.data], laidTests := true, laidLooks := .later }
def BytesetTurnedUptoCardSaid : Prop := Claim7.holds Tryd.pinned (.plain (OpenSpec.upto bytesetTurnedSpec)) bytesetTurnedUptoCard

/-- THE SECOND FORM's CARD OF 'regletlaw01.BytesetRules'. -/
def bytesetRulesUptoCard : Claim7 := { stood := { row := bytesetRulesUptoRow, standIns := [], harness := (true, "7f74519c2aa0c544c3567a06bb040dd38408454d8b08beab185afa94a9344735"), looks := false }, kinds := [], alts := [], laidByText := true, laidKinds := [.data], laidTests := true, laidLooks := .later }
def BytesetRulesUptoCardSaid : Prop := Claim7.holds Tryd.pinned (.plain (OpenSpec.upto bytesetRulesSpec)) bytesetRulesUptoCard

/-- THE SECOND FORM's CARD OF 'regletlaw01.BytesetClasses'. -/
def bytesetClassesUptoCard : Claim7 := { stood := { row := bytesetClassesUptoRow, standIns := [], harness := (true, "7f74519c2aa0c544c3567a06bb040dd38408454d8b08beab185afa94a9344735"), looks := false }, kinds := [], alts := [], laidByText := true, laidKinds := [.data], laidTests := true, laidLooks := .later }
def BytesetClassesUptoCardSaid : Prop := Claim7.holds Tryd.pinned (.plain (OpenSpec.upto bytesetClassesSpec)) bytesetClassesUptoCard

/-- THE SECOND FORM's CARD OF 'regletlaw01.BytesetParts'. -/
def bytesetPartsUptoCard : Claim7 := { stood := { row := bytesetPartsUptoRow, standIns := [], harness := (true, "7f74519c2aa0c544c3567a06bb040dd38408454d8b08beab185afa94a9344735"), looks := false }, kinds := [], alts := [], laidByText := true, laidKinds := [.data], laidTests := true, laidLooks := .later }
def BytesetPartsUptoCardSaid : Prop := Claim7.holds Tryd.pinned (.plain (OpenSpec.upto bytesetPartsSpec)) bytesetPartsUptoCard
end Rows
end Go.Proofs.YtelmobelgojpbaaDoor
