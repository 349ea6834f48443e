/-
  DERIVED. GIVEN WITH THE SEED: THE CARDS: each row of YtinhbebjlbnejaaDoorRows.lean that lists a variable, with what it lists TIED to the program's text (the seventh form; the later family's looks); each row that meets fmt, with fmt's text TOLD by the authors' own Lean function (tested against real Go, not proved from fmt's source: count such statements apart). THE CARD IS WHAT COUNTS. Prove the row's statement (the work); the ties are given (YtinhbebjlbnejaaDoorTie.lean); close each card by the builder's one call (the guide's Derived/Test/ToyasCard.lean, 'card_holds'). Laid BY PROGRAM, IN A SANDBOX (cutbox-door.mjs). By AI agents, Wed Nov 11 2026. No macro, syntax, notation, axiom, sorry.
-/
import Derived.Test.YtinhbebjlbnejaaDoorRows
import GoSem.ClaimSeven
namespace Go.Proofs.YtinhbebjlbnejaaDoor
namespace Rows

/-- THE TIED CARD OF 'burnishlaw28.PgmBack'. -/
def pgmBackCard : Claim7 := { stood := { row := pgmBackRow, standIns := [], harness := (true, "34f7e3125ed8eba57af32afd3386562469664190a2020b65df1803bb8e82b836"), looks := false }, kinds := [], alts := [], laidByText := true, laidKinds := [.data, .data, .data], laidTests := true, laidLooks := .later }
def PgmBackCardSaid : Prop := Claim7.holds Tryd.pinned (.plain (OpenSpec.ofChange pgmBackSpec)) pgmBackCard

/-- THE TIED CARD OF 'burnishlaw28.PgmLevel'. -/
def pgmLevelCard : Claim7 := { stood := { row := pgmLevelRow, standIns := [], harness := (true, "34f7e3125ed8eba57af32afd3386562469664190a2020b65df1803bb8e82b836"), looks := false }, kinds := [], alts := [], laidByText := true, laidKinds := [.data, .data, .data], laidTests := true, laidLooks := .later }
def PgmLevelCardSaid : Prop := Claim7.holds Tryd.pinned (.plain (OpenSpec.ofChange pgmLevelSpec)) pgmLevelCard

/-- THE TIED CARD OF 'burnishlaw28.PgmGrey'. -/
def pgmGreyCard : Claim7 := { stood := { row := pgmGreyRow, standIns := [], harness := (true, "34f7e3125ed8eba57af32afd3386562469664190a2020b65df1803bb8e82b836"), looks := false }, kinds := [], alts := [], laidByText := true, laidKinds := [.data, .data, .data], laidTests := true, laidLooks := .later }
def PgmGreyCardSaid : Prop := Claim7.holds Tryd.pinned (.plain (OpenSpec.ofChange pgmGreySpec)) pgmGreyCard

/-- THE TIED CARD OF 'burnishlaw28.PgmWrong'. -/
def pgmWrongCard : Claim7 := { stood := { row := pgmWrongRow, standIns := [], harness := (true, "34f7e3125ed8eba57af32afd3386562469664190a2020b65df1803bb8e82b836"), looks := false }, kinds := [], alts := [], laidByText := true, laidKinds := [.data, .data, .data], laidTests := true, laidLooks := .later }
def PgmWrongCardSaid : Prop := Claim7.holds Tryd.pinned (.plain (OpenSpec.ofChange pgmWrongSpec)) pgmWrongCard

/-- THE TIED CARD OF 'burnishlaw28.PgmGaps'. -/
def pgmGapsCard : Claim7 := { stood := { row := pgmGapsRow, standIns := [], harness := (true, "34f7e3125ed8eba57af32afd3386562469664190a2020b65df1803bb8e82b836"), looks := false }, kinds := [], alts := [], laidByText := true, laidKinds := [.data, .data, .data], laidTests := true, laidLooks := .later }
def PgmGapsCardSaid : Prop := Claim7.holds Tryd.pinned (.plain (OpenSpec.ofChange pgmGapsSpec)) pgmGapsCard

/-- THE SECOND FORM's CARD OF 'burnishlaw28.PgmBack'. -/
def pgmBackUptoCard : Claim7 := { stood := { row := pgmBackUptoRow, standIns := [], harness := (true, "34f7e3125ed8eba57af32afd3386562469664190a2020b65df1803bb8e82b836"), looks := false }, kinds := [], alts := [], laidByText := true, laidKinds := [.data, .data, .data], laidTests := true, laidLooks := .later }
def PgmBackUptoCardSaid : Prop := Claim7.holds Tryd.pinned (.plain (OpenSpec.upto pgmBackSpec)) pgmBackUptoCard

/-- THE SECOND FORM's CARD OF 'burnishlaw28.PgmLevel'. -/
def pgmLevelUptoCard : Claim7 := { stood := { row := pgmLevelUptoRow, standIns := [], harness := (true, "34f7e3125ed8eba57af32afd3386562469664190a2020b65df1803bb8e82b836"), looks := false }, kinds := [], alts := [], laidByText := true, laidKinds := [.data, .data, .data], laidTests := true, laidLooks := .later }
def PgmLevelUptoCardSaid : Prop := Claim7.holds Tryd.pinned (.plain (OpenSpec.upto pgmLevelSpec)) pgmLevelUptoCard

/-- THE SECOND FORM's CARD OF 'burnishlaw28.PgmGrey'. -/
def pgmGreyUptoCard : Claim7 := { stood := { row := pgmGreyUptoRow, standIns := [], harness := (true, "34f7e3125ed8eba57af32afd3386562469664190a2020b65df1803bb8e82b836"), looks := false }, kinds := [], alts := [], laidByText := true, laidKinds := [.data, .data, .data], laidTests := true, laidLooks := .later }
def PgmGreyUptoCardSaid : Prop := Claim7.holds Tryd.pinned (.plain (OpenSpec.upto pgmGreySpec)) pgmGreyUptoCard

/-- THE SECOND FORM's CARD OF 'burnishlaw28.PgmWrong'. -/
def pgmWrongUptoCard : Claim7 := { stood := { row := pgmWrongUptoRow, standIns := [], harness := (true, "34f7e3125ed8eba57af32afd3386562469664190a2020b65df1803bb8e82b836"), looks := false }, kinds := [], alts := [], laidByText := true, laidKinds := [.data, .data, .data], laidTests := true, laidLooks := .later }
def PgmWrongUptoCardSaid : Prop := Claim7.holds Tryd.pinned (.plain (OpenSpec.upto pgmWrongSpec)) pgmWrongUptoCard

/-- THE SECOND FORM's CARD OF 'burnishlaw28.PgmGaps'. -/
def pgmGapsUptoCard : Claim7 := { stood := { row := pgmGapsUptoRow, standIns := [], harness := (true, "34f7e3125ed8eba57af32afd3386562469664190a2020b65df1803bb8e82b836"), looks := false }, kinds := [], alts := [], laidByText := true, laidKinds := [.data, .data, .data], laidTests := true, laidLooks := .later }
def PgmGapsUptoCardSaid : Prop := Claim7.holds Tryd.pinned (.plain (OpenSpec.upto pgmGapsSpec)) pgmGapsUptoCard
end Rows
end Go.Proofs.YtinhbebjlbnejaaDoor
