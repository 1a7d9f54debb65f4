/-
  DERIVED. GIVEN WITH THE SEED: THE CARDS: each row of YtlckfnfmekgnkaaDoorRows.lean that lists a variable, with what it lists TIED to the program's text (the seventh form; the later family's looks); each row that meets fmt, with fmt's text TOLD by the authors' own Lean function (tested against real Go, not proved from fmt's source: count such statements apart). THE CARD IS WHAT COUNTS. Prove the row's statement (the work); the ties are given (YtlckfnfmekgnkaaDoorTie.lean); close each card by the builder's one call (the guide's Derived/Test/ToyasCard.lean, 'card_holds'). Laid BY PROGRAM, IN A SANDBOX (cutbox-door.mjs). By AI agents, Wed Nov 11 2026. No macro, syntax, notation, axiom, sorry.
-/
import Derived.Test.YtlckfnfmekgnkaaDoorRows
import GoSem.ClaimSeven
namespace Go.Proofs.YtlckfnfmekgnkaaDoor
namespace Rows

/-- THE TIED CARD OF 'sojournerlaw12.ChecksValid'. -/
def checksValidCard : Claim7 := { stood := { row := checksValidRow, standIns := [], harness := (true, "c8d452e32cad7fa6463b2eee46477b9b42810e58c5ef3374a2b63c5e66f0e98d"), looks := false }, kinds := [], alts := [], laidByText := true, laidKinds := [.data], laidTests := true, laidLooks := .later }
def ChecksValidCardSaid : Prop := Claim7.holds Tryd.pinned (.plain (OpenSpec.ofChange checksValidSpec)) checksValidCard

/-- THE TIED CARD OF 'sojournerlaw12.ChecksHops'. -/
def checksHopsCard : Claim7 := { stood := { row := checksHopsRow, standIns := [], harness := (true, "c8d452e32cad7fa6463b2eee46477b9b42810e58c5ef3374a2b63c5e66f0e98d"), looks := false }, kinds := [], alts := [], laidByText := true, laidKinds := [.data], laidTests := true, laidLooks := .later }
def ChecksHopsCardSaid : Prop := Claim7.holds Tryd.pinned (.plain (OpenSpec.ofChange checksHopsSpec)) checksHopsCard

/-- THE TIED CARD OF 'sojournerlaw12.ChecksOptions'. -/
def checksOptionsCard : Claim7 := { stood := { row := checksOptionsRow, standIns := [], harness := (true, "c8d452e32cad7fa6463b2eee46477b9b42810e58c5ef3374a2b63c5e66f0e98d"), looks := false }, kinds := [], alts := [], laidByText := true, laidKinds := [.data], laidTests := true, laidLooks := .later }
def ChecksOptionsCardSaid : Prop := Claim7.holds Tryd.pinned (.plain (OpenSpec.ofChange checksOptionsSpec)) checksOptionsCard

/-- THE TIED CARD OF 'sojournerlaw12.ChecksDad'. -/
def checksDadCard : Claim7 := { stood := { row := checksDadRow, standIns := [], harness := (true, "c8d452e32cad7fa6463b2eee46477b9b42810e58c5ef3374a2b63c5e66f0e98d"), looks := false }, kinds := [], alts := [], laidByText := true, laidKinds := [.data], laidTests := true, laidLooks := .later }
def ChecksDadCardSaid : Prop := Claim7.holds Tryd.pinned (.plain (OpenSpec.ofChange checksDadSpec)) checksDadCard

/-- THE SECOND FORM's CARD OF 'sojournerlaw12.ChecksValid'. -/
def checksValidUptoCard : Claim7 := { stood := { row := checksValidUptoRow, standIns := [], harness := (true, "c8d452e32cad7fa6463b2eee46477b9b42810e58c5ef3374a2b63c5e66f0e98d"), looks := false }, kinds := [], alts := [], laidByText := true, laidKinds := [.data], laidTests := true, laidLooks := .later }
def ChecksValidUptoCardSaid : Prop := Claim7.holds Tryd.pinned (.plain (OpenSpec.upto checksValidSpec)) checksValidUptoCard

/-- THE SECOND FORM's CARD OF 'sojournerlaw12.ChecksHops'. -/
def checksHopsUptoCard : Claim7 := { stood := { row := checksHopsUptoRow, standIns := [], harness := (true, "c8d452e32cad7fa6463b2eee46477b9b42810e58c5ef3374a2b63c5e66f0e98d"), looks := false }, kinds := [], alts := [], laidByText := true, laidKinds := [.data], laidTests := true, laidLooks := .later }
def ChecksHopsUptoCardSaid : Prop := Claim7.holds Tryd.pinned (.plain (OpenSpec.upto checksHopsSpec)) checksHopsUptoCard

/-- THE SECOND FORM's CARD OF 'sojournerlaw12.ChecksOptions'. -/
def checksOptionsUptoCard : Claim7 := { stood := { row := checksOptionsUptoRow, standIns := [], harness := (true, "c8d452e32cad7fa6463b2eee46477b9b42810e58c5ef3374a2b63c5e66f0e98d"), looks := false }, kinds := [], alts := [], laidByText := true, laidKinds := [.data], laidTests := true, laidLooks := .later }
def ChecksOptionsUptoCardSaid : Prop := Claim7.holds Tryd.pinned (.plain (OpenSpec.upto checksOptionsSpec)) checksOptionsUptoCard

/-- THE SECOND FORM's CARD OF 'sojournerlaw12.ChecksDad'. -/
def checksDadUptoCard : Claim7 := { stood := { row := checksDadUptoRow, standIns := [], harness := (true, "c8d452e32cad7fa6463b2eee46477b9b42810e58c5ef3374a2b63c5e66f0e98d"), looks := false }, kinds := [], alts := [], laidByText := true, laidKinds := [.data], laidTests := true, laidLooks := .later }
def ChecksDadUptoCardSaid : Prop := Claim7.holds Tryd.pinned (.plain (OpenSpec.upto checksDadSpec)) checksDadUptoCard
end Rows
end Go.Proofs.YtlckfnfmekgnkaaDoor
