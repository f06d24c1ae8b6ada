/-
  DERIVED. GIVEN WITH THE SEED: THE CARDS: each row of YtkijhgplmikboaaGreatDoorRows.lean that lists a variable, with what it lists TIED to the program's text (the seventh form; the later family's looks); each row that meets fmt, with fmt's text TOLD by the authors' own Lean function (tested against real Go, not proved from fmt's source: count such statements apart). THE CARD IS WHAT COUNTS. Prove the row's statement (the work); the ties are given (YtkijhgplmikboaaGreatDoorTie.lean); close each card by the builder's one call (the guide's Derived/Test/ToyasCard.lean, 'card_holds'). Laid BY PROGRAM, IN A SANDBOX (cutbox-door.mjs). By AI agents, Wed Nov 11 2026. No macro, syntax, notation, axiom, sorry.
-/
import Derived.Test.YtkijhgplmikboaaGreatDoorRows
import GoSem.ClaimSeven
namespace Go.Proofs.YtkijhgplmikboaaGreatDoor
namespace Rows

/-- THE TIED CARD OF 'eyrielaw15.PlanOf'. -/
def planOfCard : Claim7 := { stood := { row := planOfRow, standIns := [], harness := (true, "e82f45c621237125aebd0d3d0a7f4a3d6b63f0614ab040db2c3764bc1590902b"), looks := false }, kinds := [], alts := [], laidByText := true, laidKinds := [.data, .data, .data], laidTests := true, laidLooks := .later }
def PlanOfCardSaid : Prop := Claim7.holds Tryz.pinned (.plain (OpenSpec.ofChange planOfSpec)) planOfCard

/-- THE TIED CARD OF 'eyrielaw15.PlanSame'. -/
def planSameCard : Claim7 := { stood := { row := planSameRow, standIns := [], harness := (true, "e82f45c621237125aebd0d3d0a7f4a3d6b63f0614ab040db2c3764bc1590902b"), looks := false }, kinds := [], alts := [], laidByText := true, laidKinds := [.data, .data, .data], laidTests := true, laidLooks := .later }
def PlanSameCardSaid : Prop := Claim7.holds Tryz.pinned (.plain (OpenSpec.ofChange planSameSpec)) planSameCard

/-- THE TIED CARD OF 'eyrielaw15.PlanChecks'. -/
def planChecksCard : Claim7 := { stood := { row := planChecksRow, standIns := [], harness := (true, "e82f45c621237125aebd0d3d0a7f4a3d6b63f0614ab040db2c3764bc1590902b"), looks := false }, kinds := [], alts := [], laidByText := true, laidKinds := [.data, .data, .data], laidTests := true, laidLooks := .later }
def PlanChecksCardSaid : Prop := Claim7.holds Tryz.pinned (.plain (OpenSpec.ofChange planChecksSpec)) planChecksCard

/-- THE TIED CARD OF 'eyrielaw15.PlanMeans'. -/
def planMeansCard : Claim7 := { stood := { row := planMeansRow, standIns := [], harness := (true, "e82f45c621237125aebd0d3d0a7f4a3d6b63f0614ab040db2c3764bc1590902b"), looks := false }, kinds := [], alts := [], laidByText := true, laidKinds := [.data, .data, .data], laidTests := true, laidLooks := .later }
def PlanMeansCardSaid : Prop := Claim7.holds Tryz.pinned (.plain (OpenSpec.ofChange planMeansSpec)) planMeansCard

/-- THE SECOND FORM's CARD OF 'eyrielaw15.PlanOf'. -/
def planOfUptoCard : Claim7 := { stood := { row := planOfUptoRow, standIns := [], harness := (true, "e82f45c621237125aebd0d3d0a7f4a3d6b63f0614ab040db2c3764bc1590902b"), looks := false }, kinds := [], alts := [], laidByText := true, laidKinds := [.data, .data, .data], laidTests := true, laidLooks := .later }
def PlanOfUptoCardSaid : Prop := Claim7.holds Tryz.pinned (.plain (OpenSpec.upto planOfSpec)) planOfUptoCard

/-- THE SECOND FORM's CARD OF 'eyrielaw15.PlanSame'. -/
def planSameUptoCard : Claim7 := { stood := { row := planSameUptoRow, standIns := [], harness := (true, "e82f45c621237125aebd0d3d0a7f4a3d6b63f0614ab040db2c3764bc1590902b"), looks := false }, kinds := [], alts := [], laidByText := true, laidKinds := [.data, .data, .data], laidTests := true, laidLooks := .later }
def PlanSameUptoCardSaid : Prop := Claim7.holds Tryz.pinned (.plain (OpenSpec.upto planSameSpec)) planSameUptoCard

/-- THE SECOND FORM's CARD OF 'eyrielaw15.PlanChecks'. -/
def planChecksUptoCard : Claim7 := { stood := { row := planChecksUptoRow, standIns := [], harness := (true, "e82f45c621237125aebd0d3d0a7f4a3d6b63f0614ab040db2c3764bc1590902b"), looks := false }, kinds := [], alts := [], laidByText := true, laidKinds := [.data, .data, .data], laidTests := true, laidLooks := .later }
def PlanChecksUptoCardSaid : Prop := Claim7.holds Tryz.pinned (.plain (OpenSpec.upto planChecksSpec)) planChecksUptoCard

/-- THE SECOND FORM's CARD OF 'eyrielaw15.PlanMeans'. -/
def planMeansUptoCard : Claim7 := { stood := { row := planMeansUptoRow, standIns := [], harness := (true, "e82f45c621237125aebd0d3d0a7f4a3d6b63f0614ab040db2c3764bc1590902b"), looks := false }, kinds := [], alts := [], laidByText := true, laidKinds := [.data, .data, .data], laidTests := true, laidLooks := .later }
def PlanMeansUptoCardSaid : Prop := Claim7.holds Tryz.pinned (.plain (OpenSpec.upto planMeansSpec)) planMeansUptoCard
end Rows
end Go.Proofs.YtkijhgplmikboaaGreatDoor
