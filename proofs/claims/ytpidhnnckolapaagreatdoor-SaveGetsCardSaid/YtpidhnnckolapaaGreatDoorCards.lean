/-
  DERIVED. GIVEN WITH THE SEED: THE CARDS: each row of YtpidhnnckolapaaGreatDoorRows.lean that lists a variable, with what it lists TIED to the program's text (the seventh form; the later family's looks); each row that meets fmt, with fmt's text TOLD by the authors' own Lean function (tested against real Go, not proved from fmt's source: count such statements apart). THE CARD IS WHAT COUNTS. Prove the row's statement (the work); the ties are given (YtpidhnnckolapaaGreatDoorTie.lean); close each card by the builder's one call (the guide's Derived/Test/ToyasCard.lean, 'card_holds'). Laid BY PROGRAM, IN A SANDBOX (cutbox-door.mjs). By AI agents, Wed Nov 11 2026. No macro, syntax, notation, axiom, sorry.
-/
import Derived.Test.YtpidhnnckolapaaGreatDoorRows
import GoSem.ClaimSeven
namespace Go.Proofs.YtpidhnnckolapaaGreatDoor
namespace Rows

/-- THE TIED CARD OF 'proctorlaw38.SavePuts'. -/
def savePutsCard : Claim7 := { stood := { row := savePutsRow, standIns := [], harness := (true, "45fc8efc75f5e89c1d0537a8cb82a50879120766769ec9ac8c6704b5346fedbd"), looks := true }, kinds := [], alts := [], laidByText := true, laidKinds := [.widerDeep, .sentinel], laidTests := true, laidLooks := .later }
def SavePutsCardSaid : Prop := Claim7.holds Tryz.pinned (.plain (OpenSpec.ofChange savePutsSpec)) savePutsCard

/-- THE TIED CARD OF 'proctorlaw38.SaveGets'. -/
def saveGetsCard : Claim7 := { stood := { row := saveGetsRow, standIns := [], harness := (true, "45fc8efc75f5e89c1d0537a8cb82a50879120766769ec9ac8c6704b5346fedbd"), looks := true }, kinds := [], alts := [], laidByText := true, laidKinds := [.widerDeep, .sentinel], laidTests := true, laidLooks := .later }
def SaveGetsCardSaid : Prop := Claim7.holds Tryz.pinned (.plain (OpenSpec.ofChange saveGetsSpec)) saveGetsCard

/-- THE SECOND FORM's CARD OF 'proctorlaw38.SavePuts'. -/
def savePutsUptoCard : Claim7 := { stood := { row := savePutsUptoRow, standIns := [], harness := (true, "45fc8efc75f5e89c1d0537a8cb82a50879120766769ec9ac8c6704b5346fedbd"), looks := true }, kinds := [], alts := [], laidByText := true, laidKinds := [.widerDeep, .sentinel], laidTests := true, laidLooks := .later }
def SavePutsUptoCardSaid : Prop := Claim7.holds Tryz.pinned (.plain (OpenSpec.upto savePutsSpec)) savePutsUptoCard

/-- THE SECOND FORM's CARD OF 'proctorlaw38.SaveGets'. -/
def saveGetsUptoCard : Claim7 := { stood := { row := saveGetsUptoRow, standIns := [], harness := (true, "45fc8efc75f5e89c1d0537a8cb82a50879120766769ec9ac8c6704b5346fedbd"), looks := true }, kinds := [], alts := [], laidByText := true, laidKinds := [.widerDeep, .sentinel], laidTests := true, laidLooks := .later }
def SaveGetsUptoCardSaid : Prop := Claim7.holds Tryz.pinned (.plain (OpenSpec.upto saveGetsSpec)) saveGetsUptoCard
end Rows
end Go.Proofs.YtpidhnnckolapaaGreatDoor
