/-
  DERIVED. GIVEN WITH THE SEED: THE CARDS: each row of YtmdjikmpgckpbaaDoorRows.lean that lists a variable, with what it lists TIED to the program's text (the seventh form; the later family's looks); each row that meets fmt, with fmt's text TOLD by the authors' own Lean function (tested against real Go, not proved from fmt's source: count such statements apart). THE CARD IS WHAT COUNTS. Prove the row's statement (the work); the ties are given (YtmdjikmpgckpbaaDoorTie.lean); close each card by the builder's one call (the guide's Derived/Test/ToyasCard.lean, 'card_holds'). Laid BY PROGRAM, IN A SANDBOX (cutbox-door.mjs). By AI agents, Wed Nov 11 2026. No macro, syntax, notation, axiom, sorry.
-/
import Derived.Test.YtmdjikmpgckpbaaDoorRows
import GoSem.ClaimSeven
namespace Go.Proofs.YtmdjikmpgckpbaaDoor
namespace Rows

/-- THE TIED CARD OF 'corebanklaw33.ScheduleChecks'. -/
def scheduleChecksCard : Claim7 := { stood := { row := scheduleChecksRow, standIns := [], harness := (true, "aa80c303018ae7220d84c938f2734ce9af3d3cca9008f9708f4c710d51e0dcd0"), looks := false }, kinds := [], alts := [], laidByText := true, laidKinds := [.data], laidTests := true, laidLooks := .later }
def ScheduleChecksCardSaid : Prop := Claim7.holds Tryd.pinned (.plain (OpenSpec.ofChange scheduleChecksSpec)) scheduleChecksCard

/-- THE TIED CARD OF 'corebanklaw33.ScheduleDays'. -/
def scheduleDaysCard : Claim7 := { stood := { row := scheduleDaysRow, standIns := [], harness := (true, "aa80c303018ae7220d84c938f2734ce9af3d3cca9008f9708f4c710d51e0dcd0"), looks := false }, kinds := [], alts := [], laidByText := true, laidKinds := [.data], laidTests := true, laidLooks := .later }
def ScheduleDaysCardSaid : Prop := Claim7.holds Tryd.pinned (.plain (OpenSpec.ofChange scheduleDaysSpec)) scheduleDaysCard

/-- THE TIED CARD OF 'corebanklaw33.ScheduleBuilds'. -/
def scheduleBuildsCard : Claim7 := { stood := { row := scheduleBuildsRow, standIns := [], harness := (true, "aa80c303018ae7220d84c938f2734ce9af3d3cca9008f9708f4c710d51e0dcd0"), looks := false }, kinds := [], alts := [], laidByText := true, laidKinds := [.data], laidTests := true, laidLooks := .later }
def ScheduleBuildsCardSaid : Prop := Claim7.holds Tryd.pinned (.plain (OpenSpec.ofChange scheduleBuildsSpec)) scheduleBuildsCard

/-- THE TIED CARD OF 'corebanklaw33.ScheduleSums'. -/
def scheduleSumsCard : Claim7 := { stood := { row := scheduleSumsRow, standIns := [], harness := (true, "aa80c303018ae7220d84c938f2734ce9af3d3cca9008f9708f4c710d51e0dcd0"), looks := false }, kinds := [], alts := [], laidByText := true, laidKinds := [.data], laidTests := true, laidLooks := .later }
def ScheduleSumsCardSaid : Prop := Claim7.holds Tryd.pinned (.plain (OpenSpec.ofChange scheduleSumsSpec)) scheduleSumsCard

/-- THE TIED CARD OF 'corebanklaw33.ScheduleRepays'. -/
def scheduleRepaysCard : Claim7 := { stood := { row := scheduleRepaysRow, standIns := [], harness := (true, "aa80c303018ae7220d84c938f2734ce9af3d3cca9008f9708f4c710d51e0dcd0"), looks := false }, kinds := [], alts := [], laidByText := true, laidKinds := [.data], laidTests := true, laidLooks := .later }
def ScheduleRepaysCardSaid : Prop := Claim7.holds Tryd.pinned (.plain (OpenSpec.ofChange scheduleRepaysSpec)) scheduleRepaysCard

/-- THE TIED CARD OF 'corebanklaw33.ScheduleLevel'. -/
def scheduleLevelCard : Claim7 := { stood := { row := scheduleLevelRow, standIns := [], harness := (true, "aa80c303018ae7220d84c938f2734ce9af3d3cca9008f9708f4c710d51e0dcd0"), looks := false }, kinds := [], alts := [], laidByText := true, laidKinds := [.data], laidTests := true, laidLooks := .later }
def ScheduleLevelCardSaid : Prop := Claim7.holds Tryd.pinned (.plain (OpenSpec.ofChange scheduleLevelSpec)) scheduleLevelCard

/-- THE SECOND FORM's CARD OF 'corebanklaw33.ScheduleChecks'. -/
def scheduleChecksUptoCard : Claim7 := { stood := { row := scheduleChecksUptoRow, standIns := [], harness := (true, "aa80c303018ae7220d84c938f2734ce9af3d3cca9008f9708f4c710d51e0dcd0"), looks := false }, kinds := [], alts := [], laidByText := true, laidKinds := [.data], laidTests := true, laidLooks := .later }
def ScheduleChecksUptoCardSaid : Prop := Claim7.holds Tryd.pinned (.plain (OpenSpec.upto scheduleChecksSpec)) scheduleChecksUptoCard

/-- THE SECOND FORM's CARD OF 'corebanklaw33.ScheduleDays'. -/
def scheduleDaysUptoCard : Claim7 := { stood := { row := scheduleDaysUptoRow, standIns := [], harness := (true, "aa80c303018ae7220d84c938f2734ce9af3d3cca9008f9708f4c710d51e0dcd0"), looks := false }, kinds := [], alts := [], laidByText := true, laidKinds := [.data], laidTests := true, laidLooks := .later }
def ScheduleDaysUptoCardSaid : Prop := Claim7.holds Tryd.pinned (.plain (OpenSpec.upto scheduleDaysSpec)) scheduleDaysUptoCard

/-- THE SECOND FORM's CARD OF 'corebanklaw33.ScheduleBuilds'. -/
def scheduleBuildsUptoCard : Claim7 := { stood := { row := scheduleBuildsUptoRow, standIns := [], harness := (true, "aa80c303018ae7220d84c938f2734ce9af3d3cca9008f9708f4c710d51e0dcd0"), looks := false }, kinds := [], alts := [], laidByText := true, laidKinds := [.data], laidTests := true, laidLooks := .later }
def ScheduleBuildsUptoCardSaid : Prop := Claim7.holds Tryd.pinned (.plain (OpenSpec.upto scheduleBuildsSpec)) scheduleBuildsUptoCard

/-- THE SECOND FORM's CARD OF 'corebanklaw33.ScheduleSums'. -/
def scheduleSumsUptoCard : Claim7 := { stood := { row := scheduleSumsUptoRow, standIns := [], harness := (true, "aa80c303018ae7220d84c938f2734ce9af3d3cca9008f9708f4c710d51e0dcd0"), looks := false }, kinds := [], alts := [], laidByText := true, laidKinds := [.data], laidTests := true, laidLooks := .later }
def ScheduleSumsUptoCardSaid : Prop := Claim7.holds Tryd.pinned (.plain (OpenSpec.upto scheduleSumsSpec)) scheduleSumsUptoCard

/-- THE SECOND FORM's CARD OF 'corebanklaw33.ScheduleRepays'. -/
def scheduleRepaysUptoCard : Claim7 := { stood := { row := scheduleRepaysUptoRow, standIns := [], harness := (true, "aa80c303018ae7220d84c938f2734ce9af3d3cca9008f9708f4c710d51e0dcd0"), looks := false }, kinds := [], alts := [], laidByText := true, laidKinds := [.data], laidTests := true, laidLooks := .later }
def ScheduleRepaysUptoCardSaid : Prop := Claim7.holds Tryd.pinned (.plain (OpenSpec.upto scheduleRepaysSpec)) scheduleRepaysUptoCard

/-- THE SECOND FORM's CARD OF 'corebanklaw33.ScheduleLevel'. -/
def scheduleLevelUptoCard : Claim7 := { stood := { row := scheduleLevelUptoRow, standIns := [], harness := (true, "aa80c303018ae7220d84c938f2734ce9af3d3cca9008f9708f4c710d51e0dcd0"), looks := false }, kinds := [], alts := [], laidByText := true, laidKinds := [.data], laidTests := true, laidLooks := .later }
def ScheduleLevelUptoCardSaid : Prop := Claim7.holds Tryd.pinned (.plain (OpenSpec.upto scheduleLevelSpec)) scheduleLevelUptoCard
end Rows
end Go.Proofs.YtmdjikmpgckpbaaDoor
