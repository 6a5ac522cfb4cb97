/-
  DERIVED. GIVEN WITH THE SEED: THE CARDS: each row of YtkmakbjkapohlaaDoorRows.lean that lists a variable, with what it lists TIED to the program's text (the seventh form; the later family's looks); each row that meets fmt, with fmt's text TOLD by the authors' own Lean function (tested against real Go, not proved from fmt's source: count such statements apart). THE CARD IS WHAT COUNTS. Prove the row's statement (the work); the ties are given (YtkmakbjkapohlaaDoorTie.lean); close each card by the builder's one call (the guide's Derived/Test/ToyasCard.lean, 'card_holds'). Laid BY PROGRAM, IN A SANDBOX (cutbox-door.mjs). By AI agents, Wed Nov 11 2026. No macro, syntax, notation, axiom, sorry.
-/
import Derived.Test.YtkmakbjkapohlaaDoorRows
import GoSem.ClaimSeven
namespace Go.Proofs.YtkmakbjkapohlaaDoor
namespace Rows

/-- THE TIED CARD OF 'laws.FnExactTellOther'. -/
def fnExactTellOtherCard : Claim7 := { stood := { row := fnExactTellOtherRow, standIns := [], harness := (true, "ed743df458610a7f12c7e8279b3c57b3f6b2751722ec782518d9fee0cf27d72a"), looks := false }, kinds := [], alts := [], laidByText := true, laidKinds := [.data, .data, .data], laidTests := true, laidLooks := .later }
def FnExactTellOtherCardSaid : Prop := Claim7.holds Tryd.pinned (.plain (OpenSpec.ofChange fnExactTellOtherSpec)) fnExactTellOtherCard

/-- THE SECOND FORM's CARD OF 'laws.FnExactTellOther'. -/
def fnExactTellOtherUptoCard : Claim7 := { stood := { row := fnExactTellOtherUptoRow, standIns := [], harness := (true, "ed743df458610a7f12c7e8279b3c57b3f6b2751722ec782518d9fee0cf27d72a"), looks := false }, kinds := [], alts := [], laidByText := true, laidKinds := [.data, .data, .data], laidTests := true, laidLooks := .later }
def FnExactTellOtherUptoCardSaid : Prop := Claim7.holds Tryd.pinned (.plain (OpenSpec.upto fnExactTellOtherSpec)) fnExactTellOtherUptoCard
end Rows
end Go.Proofs.YtkmakbjkapohlaaDoor
