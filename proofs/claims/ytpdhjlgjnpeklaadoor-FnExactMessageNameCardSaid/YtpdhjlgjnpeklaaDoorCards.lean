/-
  DERIVED. GIVEN WITH THE SEED: THE CARDS: each row of YtpdhjlgjnpeklaaDoorRows.lean that lists a variable, with what it lists TIED to the program's text (the seventh form; the later family's looks); each row that meets fmt, with fmt's text TOLD by the authors' own Lean function (tested against real Go, not proved from fmt's source: count such statements apart). THE CARD IS WHAT COUNTS. Prove the row's statement (the work); the ties are given (YtpdhjlgjnpeklaaDoorTie.lean); close each card by the builder's one call (the guide's Derived/Test/ToyasCard.lean, 'card_holds'). Laid BY PROGRAM, IN A SANDBOX (cutbox-door.mjs). By AI agents, Wed Nov 11 2026. No macro, syntax, notation, axiom, sorry.
-/
import Derived.Test.YtpdhjlgjnpeklaaDoorRows
import GoSem.ClaimSeven
namespace Go.Proofs.YtpdhjlgjnpeklaaDoor
namespace Rows

/-- THE TIED CARD OF 'laws.FnExactMessageName'. -/
def fnExactMessageNameCard : Claim7 := { stood := { row := fnExactMessageNameRow, standIns := [], harness := (true, "283a8f171221b61bff830cfe837b5986756d4ee7affe4ec6ad0c8ad828addd1d"), looks := false }, kinds := [], alts := [], laidByText := true, laidKinds := [.data], laidTests := true, laidLooks := .later }
def FnExactMessageNameCardSaid : Prop := Claim7.holds Tryd.pinned (.plain (OpenSpec.ofChange fnExactMessageNameSpec)) fnExactMessageNameCard

/-- THE SECOND FORM's CARD OF 'laws.FnExactMessageName'. -/
def fnExactMessageNameUptoCard : Claim7 := { stood := { row := fnExactMessageNameUptoRow, standIns := [], harness := (true, "283a8f171221b61bff830cfe837b5986756d4ee7affe4ec6ad0c8ad828addd1d"), looks := false }, kinds := [], alts := [], laidByText := true, laidKinds := [.data], laidTests := true, laidLooks := .later }
def FnExactMessageNameUptoCardSaid : Prop := Claim7.holds Tryd.pinned (.plain (OpenSpec.upto fnExactMessageNameSpec)) fnExactMessageNameUptoCard
end Rows
end Go.Proofs.YtpdhjlgjnpeklaaDoor
