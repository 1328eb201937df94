/-
  DERIVED. GIVEN WITH THE SEED: THE CARDS: each row of YtmgookmfejenjaaDoorRows.lean that lists a variable, with what it lists TIED to the program's text (the seventh form; the later family's looks); each row that meets fmt, with fmt's text TOLD by the authors' own Lean function (tested against real Go, not proved from fmt's source: count such statements apart). THE CARD IS WHAT COUNTS. Prove the row's statement (the work); the ties are given (YtmgookmfejenjaaDoorTie.lean); close each card by the builder's one call (the guide's Derived/Test/ToyasCard.lean, 'card_holds'). Laid BY PROGRAM, IN A SANDBOX (cutbox-door.mjs). By AI agents, Wed Nov 11 2026. No macro, syntax, notation, axiom, sorry.
-/
import Derived.Test.YtmgookmfejenjaaDoorRows
import GoSem.ClaimSeven
namespace Go.Proofs.YtmgookmfejenjaaDoor
namespace Rows

/-- THE TIED CARD OF 'scriniumlaw10.NamesRight'. -/
def namesRightCard : Claim7 := { stood := { row := namesRightRow, standIns := [], harness := (true, "2f8f131234bef3c3e1cadbdd2a61e92808c6fd1a14e96a1985d24acb4d047653"), looks := false }, kinds := [], alts := [], laidByText := true, laidKinds := [.data, .pinned], laidTests := true, laidLooks := .later }
def NamesRightCardSaid : Prop := Claim7.holds Tryd.pinned (.plain (OpenSpec.ofChange namesRightSpec)) namesRightCard

/-- THE TIED CARD OF 'scriniumlaw10.NamesPlain'. -/
def namesPlainCard : Claim7 := { stood := { row := namesPlainRow, standIns := [], harness := (true, "2f8f131234bef3c3e1cadbdd2a61e92808c6fd1a14e96a1985d24acb4d047653"), looks := false }, kinds := [], alts := [], laidByText := true, laidKinds := [.data, .pinned], laidTests := true, laidLooks := .later }
def NamesPlainCardSaid : Prop := Claim7.holds Tryd.pinned (.plain (OpenSpec.ofChange namesPlainSpec)) namesPlainCard

/-- THE TIED CARD OF 'scriniumlaw10.NamesBoth'. -/
def namesBothCard : Claim7 := { stood := { row := namesBothRow, standIns := [], harness := (true, "2f8f131234bef3c3e1cadbdd2a61e92808c6fd1a14e96a1985d24acb4d047653"), looks := false }, kinds := [], alts := [], laidByText := true, laidKinds := [.data, .pinned], laidTests := true, laidLooks := .later }
def NamesBothCardSaid : Prop := Claim7.holds Tryd.pinned (.plain (OpenSpec.ofChange namesBothSpec)) namesBothCard

/-- THE TIED CARD OF 'scriniumlaw10.NamesLess'. -/
def namesLessCard : Claim7 := { stood := { row := namesLessRow, standIns := [], harness := (true, "2f8f131234bef3c3e1cadbdd2a61e92808c6fd1a14e96a1985d24acb4d047653"), looks := false }, kinds := [], alts := [], laidByText := true, laidKinds := [.data, .pinned], laidTests := true, laidLooks := .later }
def NamesLessCardSaid : Prop := Claim7.holds Tryd.pinned (.plain (OpenSpec.ofChange namesLessSpec)) namesLessCard

/-- THE TIED CARD OF 'scriniumlaw10.NamesWord'. -/
def namesWordCard : Claim7 := { stood := { row := namesWordRow, standIns := [], harness := (true, "2f8f131234bef3c3e1cadbdd2a61e92808c6fd1a14e96a1985d24acb4d047653"), looks := false }, kinds := [], alts := [], laidByText := true, laidKinds := [.data, .pinned], laidTests := true, laidLooks := .later }
def NamesWordCardSaid : Prop := Claim7.holds Tryd.pinned (.plain (OpenSpec.ofChange namesWordSpec)) namesWordCard

/-- THE SECOND FORM's CARD OF 'scriniumlaw10.NamesRight'. -/
def namesRightUptoCard : Claim7 := { stood := { row := namesRightUptoRow, standIns := [], harness := (true, "2f8f131234bef3c3e1cadbdd2a61e92808c6fd1a14e96a1985d24acb4d047653"), looks := false }, kinds := [], alts := [], laidByText := true, laidKinds := [.data, .pinned], laidTests := true, laidLooks := .later }
def NamesRightUptoCardSaid : Prop := Claim7.holds Tryd.pinned (.plain (OpenSpec.upto namesRightSpec)) namesRightUptoCard

/-- THE SECOND FORM's CARD OF 'scriniumlaw10.NamesPlain'. -/
def namesPlainUptoCard : Claim7 := { stood := { row := namesPlainUptoRow, standIns := [], harness := (true, "2f8f131234bef3c3e1cadbdd2a61e92808c6fd1a14e96a1985d24acb4d047653"), looks := false }, kinds := [], alts := [], laidByText := true, laidKinds := [.data, .pinned], laidTests := true, laidLooks := .later }
def NamesPlainUptoCardSaid : Prop := Claim7.holds Tryd.pinned (.plain (OpenSpec.upto namesPlainSpec)) namesPlainUptoCard

/-- THE SECOND FORM's CARD OF 'scriniumlaw10.NamesBoth'. -/
def namesBothUptoCard : Claim7 := { stood := { row := namesBothUptoRow, standIns := [], harness := (true, "2f8f131234bef3c3e1cadbdd2a61e92808c6fd1a14e96a1985d24acb4d047653"), looks := false }, kinds := [], alts := [], laidByText := true, laidKinds := [.data, .pinned], laidTests := true, laidLooks := .later }
def NamesBothUptoCardSaid : Prop := Claim7.holds Tryd.pinned (.plain (OpenSpec.upto namesBothSpec)) namesBothUptoCard

/-- THE SECOND FORM's CARD OF 'scriniumlaw10.NamesLess'. -/
def namesLessUptoCard : Claim7 := { stood := { row := namesLessUptoRow, standIns := [], harness := (true, "2f8f131234bef3c3e1cadbdd2a61e92808c6fd1a14e96a1985d24acb4d047653"), looks := false }, kinds := [], alts := [], laidByText := true, laidKinds := [.data, .pinned], laidTests := true, laidLooks := .later }
def NamesLessUptoCardSaid : Prop := Claim7.holds Tryd.pinned (.plain (OpenSpec.upto namesLessSpec)) namesLessUptoCard

/-- THE SECOND FORM's CARD OF 'scriniumlaw10.NamesWord'. -/
def namesWordUptoCard : Claim7 := { stood := { row := namesWordUptoRow, standIns := [], harness := (true, "2f8f131234bef3c3e1cadbdd2a61e92808c6fd1a14e96a1985d24acb4d047653"), looks := false }, kinds := [], alts := [], laidByText := true, laidKinds := [.data, .pinned], laidTests := true, laidLooks := .later }
def NamesWordUptoCardSaid : Prop := Claim7.holds Tryd.pinned (.plain (OpenSpec.upto namesWordSpec)) namesWordUptoCard
end Rows
end Go.Proofs.YtmgookmfejenjaaDoor
