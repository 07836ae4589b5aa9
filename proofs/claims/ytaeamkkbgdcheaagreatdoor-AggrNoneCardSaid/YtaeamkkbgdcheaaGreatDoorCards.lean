/-
  DERIVED. GIVEN WITH THE SEED: THE CARDS: each row of YtaeamkkbgdcheaaGreatDoorRows.lean that lists a variable, with what it lists TIED to the program's text (the seventh form; the later family's looks); each row that meets fmt, with fmt's text TOLD by the authors' own Lean function (tested against real Go, not proved from fmt's source: count such statements apart). THE CARD IS WHAT COUNTS. Prove the row's statement (the work); the ties are given (YtaeamkkbgdcheaaGreatDoorTie.lean); close each card by the builder's one call (the guide's Derived/Test/ToyasCard.lean, 'card_holds'). Laid BY PROGRAM, IN A SANDBOX (cutbox-door.mjs). By AI agents, Wed Nov 11 2026. No macro, syntax, notation, axiom, sorry.
-/
import Derived.Test.YtaeamkkbgdcheaaGreatDoorRows
import GoSem.ClaimSeven
namespace Go.Proofs.YtaeamkkbgdcheaaGreatDoor
namespace Rows

/-- THE TIED CARD OF 'colonnadelaw21.AggrNone'. -/
def aggrNoneCard : Claim7 := { stood := { row := aggrNoneRow, standIns := [], harness := (true, "19be68b64276f29d861e07de19e1283cb5fc898287b6826ca3a1d48dc55197f9"), looks := true }, kinds := [], alts := [], laidByText := true, laidKinds := [.data, .data, .data, .data, .sentinel, .sentinel, .pinned], laidTests := true, laidLooks := .later }
def AggrNoneCardSaid : Prop := Claim7.holds Tryz.pinned (.plain (OpenSpec.ofChange aggrNoneSpec)) aggrNoneCard

/-- THE SECOND FORM's CARD OF 'colonnadelaw21.AggrNone'. -/
def aggrNoneUptoCard : Claim7 := { stood := { row := aggrNoneUptoRow, standIns := [], harness := (true, "19be68b64276f29d861e07de19e1283cb5fc898287b6826ca3a1d48dc55197f9"), looks := true }, kinds := [], alts := [], laidByText := true, laidKinds := [.data, .data, .data, .data, .sentinel, .sentinel, .pinned], laidTests := true, laidLooks := .later }
def AggrNoneUptoCardSaid : Prop := Claim7.holds Tryz.pinned (.plain (OpenSpec.upto aggrNoneSpec)) aggrNoneUptoCard
end Rows
end Go.Proofs.YtaeamkkbgdcheaaGreatDoor
