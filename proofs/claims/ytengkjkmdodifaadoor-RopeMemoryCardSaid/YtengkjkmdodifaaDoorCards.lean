/-
  DERIVED. GIVEN WITH THE SEED: THE CARDS: each row of YtengkjkmdodifaaDoorRows.lean that lists a variable, with what it lists TIED to the program's text (the seventh form; the later family's looks); each row that meets fmt, with fmt's text TOLD by the authors' own Lean function (tested against real Go, not proved from fmt's source: count such statements apart). THE CARD IS WHAT COUNTS. Prove the row's statement (the work); the ties are given (YtengkjkmdodifaaDoorTie.lean); close each card by the builder's one call (the guide's Derived/Test/ToyasCard.lean, 'card_holds'). Laid BY PROGRAM, IN A SANDBOX (cutbox-door.mjs). By AI agents, Wed Nov 11 2026. No macro, syntax, notation, axiom, sorry.
-/
import Derived.Test.YtengkjkmdodifaaDoorRows
import GoSem.ClaimSeven
namespace Go.Proofs.YtengkjkmdodifaaDoor
namespace Rows

/-- THE TIED CARD OF 'heraldlaw10.RopeTurns'. -/
def ropeTurnsCard : Claim7 := { stood := { row := ropeTurnsRow, standIns := [], harness := (true, "52f6dd5ed77f93dea84fd52a3d451e6619f49a3039279f5ba6066dabfb31c8b8"), looks := false }, kinds := [], alts := [], laidByText := true, laidKinds := [.data], laidTests := true, laidLooks := .later }
def RopeTurnsCardSaid : Prop := Claim7.holds Tryd.pinned (.plain (OpenSpec.ofChange ropeTurnsSpec)) ropeTurnsCard

/-- THE TIED CARD OF 'heraldlaw10.RopeHeads'. -/
def ropeHeadsCard : Claim7 := { stood := { row := ropeHeadsRow, standIns := [], harness := (true, "52f6dd5ed77f93dea84fd52a3d451e6619f49a3039279f5ba6066dabfb31c8b8"), looks := false }, kinds := [], alts := [], laidByText := true, laidKinds := [.data], laidTests := true, laidLooks := .later }
def RopeHeadsCardSaid : Prop := Claim7.holds Tryd.pinned (.plain (OpenSpec.ofChange ropeHeadsSpec)) ropeHeadsCard

/-- THE TIED CARD OF 'heraldlaw10.RopeTables'. -/
def ropeTablesCard : Claim7 := { stood := { row := ropeTablesRow, standIns := [], harness := (true, "52f6dd5ed77f93dea84fd52a3d451e6619f49a3039279f5ba6066dabfb31c8b8"), looks := false }, kinds := [], alts := [], laidByText := true, laidKinds := [.data], laidTests := true, laidLooks := .later }
def RopeTablesCardSaid : Prop := Claim7.holds Tryd.pinned (.plain (OpenSpec.ofChange ropeTablesSpec)) ropeTablesCard

/-- THE TIED CARD OF 'heraldlaw10.RopeCircle'. -/
def ropeCircleCard : Claim7 := { stood := { row := ropeCircleRow, standIns := [], harness := (true, "52f6dd5ed77f93dea84fd52a3d451e6619f49a3039279f5ba6066dabfb31c8b8"), looks := false }, kinds := [], alts := [], laidByText := true, laidKinds := [.data], laidTests := true, laidLooks := .later }
def RopeCircleCardSaid : Prop := Claim7.holds Tryd.pinned (.plain (OpenSpec.ofChange ropeCircleSpec)) ropeCircleCard

/-- THE TIED CARD OF 'heraldlaw10.RopeMemory'. -/
def ropeMemoryCard : Claim7 := { stood := { row := ropeMemoryRow, standIns := [], harness := (true, "52f6dd5ed77f93dea84fd52a3d451e6619f49a3039279f5ba6066dabfb31c8b8"), looks := false }, kinds := [], alts := [], laidByText := true, laidKinds := [.data], laidTests := true, laidLooks := .later }
def RopeMemoryCardSaid : Prop := Claim7.holds Tryd.pinned (.plain (OpenSpec.ofChange ropeMemorySpec)) ropeMemoryCard

/-- THE TIED CARD OF 'heraldlaw10.RopeRows'. -/
def ropeRowsCard : Claim7 := { stood := { row := ropeRowsRow, standIns := [], harness := (true, "52f6dd5ed77f93dea84fd52a3d451e6619f49a3039279f5ba6066dabfb31c8b8"), looks := false }, kinds := [], alts := [], laidByText := true, laidKinds := [.data], laidTests := true, laidLooks := .later }
def RopeRowsCardSaid : Prop := Claim7.holds Tryd.pinned (.plain (OpenSpec.ofChange ropeRowsSpec)) ropeRowsCard

/-- THE TIED CARD OF 'heraldlaw10.RopeStretches'. -/
def ropeStretchesCard : Claim7 := { stood := { row := ropeStretchesRow, standIns := [], harness := (true, "52f6dd5ed77f93dea84fd52a3d451e6619f49a3039279f5ba6066dabfb31c8b8"), looks := false }, kinds := [], alts := [], laidByText := true, laidKinds := [.data], laidTests := true, laidLooks := .later }
def RopeStretchesCardSaid : Prop := Claim7.holds Tryd.pinned (.plain (OpenSpec.ofChange ropeStretchesSpec)) ropeStretchesCard

/-- THE SECOND FORM's CARD OF 'heraldlaw10.RopeTurns'. -/
def ropeTurnsUptoCard : Claim7 := { stood := { row := ropeTurnsUptoRow, standIns := [], harness := (true, "52f6dd5ed77f93dea84fd52a3d451e6619f49a3039279f5ba6066dabfb31c8b8"), looks := false }, kinds := [], alts := [], laidByText := true, laidKinds := [.data], laidTests := true, laidLooks := .later }
def RopeTurnsUptoCardSaid : Prop := Claim7.holds Tryd.pinned (.plain (OpenSpec.upto ropeTurnsSpec)) ropeTurnsUptoCard

/-- THE SECOND FORM's CARD OF 'heraldlaw10.RopeHeads'. -/
def ropeHeadsUptoCard : Claim7 := { stood := { row := ropeHeadsUptoRow, standIns := [], harness := (true, "52f6dd5ed77f93dea84fd52a3d451e6619f49a3039279f5ba6066dabfb31c8b8"), looks := false }, kinds := [], alts := [], laidByText := true, laidKinds := [.data], laidTests := true, laidLooks := .later }
def RopeHeadsUptoCardSaid : Prop := Claim7.holds Tryd.pinned (.plain (OpenSpec.upto ropeHeadsSpec)) ropeHeadsUptoCard

/-- THE SECOND FORM's CARD OF 'heraldlaw10.RopeTables'. -/
def ropeTablesUptoCard : Claim7 := { stood := { row := ropeTablesUptoRow, standIns := [], harness := (true, "52f6dd5ed77f93dea84fd52a3d451e6619f49a3039279f5ba6066dabfb31c8b8"), looks := false }, kinds := [], alts := [], laidByText := true, laidKinds := [.data], laidTests := true, laidLooks := .later }
def RopeTablesUptoCardSaid : Prop := Claim7.holds Tryd.pinned (.plain (OpenSpec.upto ropeTablesSpec)) ropeTablesUptoCard

/-- THE SECOND FORM's CARD OF 'heraldlaw10.RopeCircle'. -/
def ropeCircleUptoCard : Claim7 := { stood := { row := ropeCircleUptoRow, standIns := [], harness := (true, "52f6dd5ed77f93dea84fd52a3d451e6619f49a3039279f5ba6066dabfb31c8b8"), looks := false }, kinds := [], alts := [], laidByText := true, laidKinds := [.data], laidTests := true, laidLooks := .later }
def RopeCircleUptoCardSaid : Prop := Claim7.holds Tryd.pinned (.plain (OpenSpec.upto ropeCircleSpec)) ropeCircleUptoCard

/-- THE SECOND FORM's CARD OF 'heraldlaw10.RopeMemory'. -/
def ropeMemoryUptoCard : Claim7 := { stood := { row := ropeMemoryUptoRow, standIns := [], harness := (true, "52f6dd5ed77f93dea84fd52a3d451e6619f49a3039279f5ba6066dabfb31c8b8"), looks := false }, kinds := [], alts := [], laidByText := true, laidKinds := [.data], laidTests := true, laidLooks := .later }
def RopeMemoryUptoCardSaid : Prop := Claim7.holds Tryd.pinned (.plain (OpenSpec.upto ropeMemorySpec)) ropeMemoryUptoCard

/-- THE SECOND FORM's CARD OF 'heraldlaw10.RopeRows'. -/
def ropeRowsUptoCard : Claim7 := { stood := { row := ropeRowsUptoRow, standIns := [], harness := (true, "52f6dd5ed77f93dea84fd52a3d451e6619f49a3039279f5ba6066dabfb31c8b8"), looks := false }, kinds := [], alts := [], laidByText := true, laidKinds := [.data], laidTests := true, laidLooks := .later }
def RopeRowsUptoCardSaid : Prop := Claim7.holds Tryd.pinned (.plain (OpenSpec.upto ropeRowsSpec)) ropeRowsUptoCard

/-- THE SECOND FORM's CARD OF 'heraldlaw10.RopeStretches'. -/
def ropeStretchesUptoCard : Claim7 := { stood := { row := ropeStretchesUptoRow, standIns := [], harness := (true, "52f6dd5ed77f93dea84fd52a3d451e6619f49a3039279f5ba6066dabfb31c8b8"), looks := false }, kinds := [], alts := [], laidByText := true, laidKinds := [.data], laidTests := true, laidLooks := .later }
def RopeStretchesUptoCardSaid : Prop := Claim7.holds Tryd.pinned (.plain (OpenSpec.upto ropeStretchesSpec)) ropeStretchesUptoCard
end Rows
end Go.Proofs.YtengkjkmdodifaaDoor
