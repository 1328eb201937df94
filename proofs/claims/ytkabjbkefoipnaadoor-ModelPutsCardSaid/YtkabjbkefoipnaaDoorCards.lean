/-
  DERIVED. GIVEN WITH THE SEED: THE CARDS: each row of YtkabjbkefoipnaaDoorRows.lean that lists a variable, with what it lists TIED to the program's text (the seventh form; the later family's looks); each row that meets fmt, with fmt's text TOLD by the authors' own Lean function (tested against real Go, not proved from fmt's source: count such statements apart). THE CARD IS WHAT COUNTS. Prove the row's statement (the work); the ties are given (YtkabjbkefoipnaaDoorTie.lean); close each card by the builder's one call (the guide's Derived/Test/ToyasCard.lean, 'card_holds'). Laid BY PROGRAM, IN A SANDBOX (cutbox-door.mjs). By AI agents, Wed Nov 11 2026. No macro, syntax, notation, axiom, sorry.
-/
import Derived.Test.YtkabjbkefoipnaaDoorRows
import GoSem.ClaimSeven
namespace Go.Proofs.YtkabjbkefoipnaaDoor
namespace Rows

/-- THE TIED CARD OF 'scriniumlaw22.ModelPuts'. -/
def modelPutsCard : Claim7 := { stood := { row := modelPutsRow, standIns := [], harness := (true, "631ad3c8e0babcd4efb814a1dcfd7da7ca8a7e122ec71cd37082577d8bcec235"), looks := false }, kinds := [], alts := [], laidByText := true, laidKinds := [.data, .pinned], laidTests := true, laidLooks := .later }
def ModelPutsCardSaid : Prop := Claim7.holds Tryd.pinned (.plain (OpenSpec.ofChange modelPutsSpec)) modelPutsCard

/-- THE TIED CARD OF 'scriniumlaw22.ModelRuns'. -/
def modelRunsCard : Claim7 := { stood := { row := modelRunsRow, standIns := [], harness := (true, "631ad3c8e0babcd4efb814a1dcfd7da7ca8a7e122ec71cd37082577d8bcec235"), looks := false }, kinds := [], alts := [], laidByText := true, laidKinds := [.data, .pinned], laidTests := true, laidLooks := .later }
def ModelRunsCardSaid : Prop := Claim7.holds Tryd.pinned (.plain (OpenSpec.ofChange modelRunsSpec)) modelRunsCard

/-- THE TIED CARD OF 'scriniumlaw22.ModelLast'. -/
def modelLastCard : Claim7 := { stood := { row := modelLastRow, standIns := [], harness := (true, "631ad3c8e0babcd4efb814a1dcfd7da7ca8a7e122ec71cd37082577d8bcec235"), looks := false }, kinds := [], alts := [], laidByText := true, laidKinds := [.data, .pinned], laidTests := true, laidLooks := .later }
def ModelLastCardSaid : Prop := Claim7.holds Tryd.pinned (.plain (OpenSpec.ofChange modelLastSpec)) modelLastCard

/-- THE TIED CARD OF 'scriniumlaw22.ModelGone'. -/
def modelGoneCard : Claim7 := { stood := { row := modelGoneRow, standIns := [], harness := (true, "631ad3c8e0babcd4efb814a1dcfd7da7ca8a7e122ec71cd37082577d8bcec235"), looks := false }, kinds := [], alts := [], laidByText := true, laidKinds := [.data, .pinned], laidTests := true, laidLooks := .later }
def ModelGoneCardSaid : Prop := Claim7.holds Tryd.pinned (.plain (OpenSpec.ofChange modelGoneSpec)) modelGoneCard

/-- THE TIED CARD OF 'scriniumlaw22.ModelAsks'. -/
def modelAsksCard : Claim7 := { stood := { row := modelAsksRow, standIns := [], harness := (true, "631ad3c8e0babcd4efb814a1dcfd7da7ca8a7e122ec71cd37082577d8bcec235"), looks := false }, kinds := [], alts := [], laidByText := true, laidKinds := [.data, .pinned], laidTests := true, laidLooks := .later }
def ModelAsksCardSaid : Prop := Claim7.holds Tryd.pinned (.plain (OpenSpec.ofChange modelAsksSpec)) modelAsksCard

/-- THE SECOND FORM's CARD OF 'scriniumlaw22.ModelPuts'. -/
def modelPutsUptoCard : Claim7 := { stood := { row := modelPutsUptoRow, standIns := [], harness := (true, "631ad3c8e0babcd4efb814a1dcfd7da7ca8a7e122ec71cd37082577d8bcec235"), looks := false }, kinds := [], alts := [], laidByText := true, laidKinds := [.data, .pinned], laidTests := true, laidLooks := .later }
def ModelPutsUptoCardSaid : Prop := Claim7.holds Tryd.pinned (.plain (OpenSpec.upto modelPutsSpec)) modelPutsUptoCard

/-- THE SECOND FORM's CARD OF 'scriniumlaw22.ModelRuns'. -/
def modelRunsUptoCard : Claim7 := { stood := { row := modelRunsUptoRow, standIns := [], harness := (true, "631ad3c8e0babcd4efb814a1dcfd7da7ca8a7e122ec71cd37082577d8bcec235"), looks := false }, kinds := [], alts := [], laidByText := true, laidKinds := [.data, .pinned], laidTests := true, laidLooks := .later }
def ModelRunsUptoCardSaid : Prop := Claim7.holds Tryd.pinned (.plain (OpenSpec.upto modelRunsSpec)) modelRunsUptoCard

/-- THE SECOND FORM's CARD OF 'scriniumlaw22.ModelLast'. -/
def modelLastUptoCard : Claim7 := { stood := { row := modelLastUptoRow, standIns := [], harness := (true, "631ad3c8e0babcd4efb814a1dcfd7da7ca8a7e122ec71cd37082577d8bcec235"), looks := false }, kinds := [], alts := [], laidByText := true, laidKinds := [.data, .pinned], laidTests := true, laidLooks := .later }
def ModelLastUptoCardSaid : Prop := Claim7.holds Tryd.pinned (.plain (OpenSpec.upto modelLastSpec)) modelLastUptoCard

/-- THE SECOND FORM's CARD OF 'scriniumlaw22.ModelGone'. -/
def modelGoneUptoCard : Claim7 := { stood := { row := modelGoneUptoRow, standIns := [], harness := (true, "631ad3c8e0babcd4efb814a1dcfd7da7ca8a7e122ec71cd37082577d8bcec235"), looks := false }, kinds := [], alts := [], laidByText := true, laidKinds := [.data, .pinned], laidTests := true, laidLooks := .later }
def ModelGoneUptoCardSaid : Prop := Claim7.holds Tryd.pinned (.plain (OpenSpec.upto modelGoneSpec)) modelGoneUptoCard

/-- THE SECOND FORM's CARD OF 'scriniumlaw22.ModelAsks'. -/
def modelAsksUptoCard : Claim7 := { stood := { row := modelAsksUptoRow, standIns := [], harness := (true, "631ad3c8e0babcd4efb814a1dcfd7da7ca8a7e122ec71cd37082577d8bcec235"), looks := false }, kinds := [], alts := [], laidByText := true, laidKinds := [.data, .pinned], laidTests := true, laidLooks := .later }
def ModelAsksUptoCardSaid : Prop := Claim7.holds Tryd.pinned (.plain (OpenSpec.upto modelAsksSpec)) modelAsksUptoCard
end Rows
end Go.Proofs.YtkabjbkefoipnaaDoor
