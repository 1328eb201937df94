/-
  No cell of these rows narrows 'for every input' (looked for: loops, veiled, ifaces, maps, wideKeys, modest, calm, conditions, laid).
  DERIVED. THE GIVEN ROWS OF THIS SEAT. 7 by the template 'for every input the law returns true; each argument reads behind the call as it read before'; 0 by the template 'total and deterministic' (their statements: YthdnecehgacecaaTotals.lean).
  GIVEN WITH THE SEED: the statements are not yours to turn. If you find one false, say at which input.
  Laid BY PROGRAM, IN A SANDBOX (cutbox-rows.mjs): the forced cells as the released guide's own fill.sh prints them over the translation a5c3c18033f95c90… (all of the seat's roots in one cut). By AI agents, Wed Nov 11 2026. No macro, syntax, notation, axiom, sorry.
-/
import Derived.Test.YthdnecehgacecaaChecked
import GoSem.Claim
import GoSem.ClaimJoined
import GoSem.ClaimMapViews
import Derived.JoinedTies
import Derived.KernelRfl
namespace Go.Proofs.Ythdnecehgacecaa
/- THE CELL 'sum', in the pinned program and in every row, IS THE sha256 OF THE DUMP (.gsa) THAT YthdnecehgacecaaProg.lean LOADS. Nothing in Lean hashes anything: it is a label: what it is worth is what the hold of that sum in a sandbox is worth. -/
noncomputable def Try.pinned : Pinned := { name := "ythdnecehgacecaa", sum := "a5c3c18033f95c90f8810b5b441c2e6450ab386af104277bd13020b422e08af0", checked := Try.checked }
namespace Rows
def none {H : Type} : Left H := { results := [], args := [] }

/-- 'scriniumlaw11.AontSizes': WHATEVER THE INPUT: true; the input reads as it did. -/
def aontSizesSpec : ChangeSpec := { name := "aontSizes", fn := fun _ => fun
  | [d1, d2, d3] => { results := [.lit (.bool true)], args := [d1, d2, d3] }
  | _ => none }
def aontSizesRow : OpenClaim := { program := "ythdnecehgacecaa", sum := "a5c3c18033f95c90f8810b5b441c2e6450ab386af104277bd13020b422e08af0", func := "scrinium/scriniumlaw11.AontSizes", spec := "aontSizes", apart := false }
def AontSizesSaid : Prop := aontSizesRow.holds Try.pinned (OpenSpec.ofChange aontSizesSpec)

/-- ITS FALSE NEIGHBOUR: 'it returns false'. Refute it at one input. -/
def aontSizesWrong : ChangeSpec := { name := "aontSizes", fn := fun _ => fun
  | [d1, d2, d3] => { results := [.lit (.bool false)], args := [d1, d2, d3] }
  | _ => none }
def AontSizesWrongFalsely : Prop := aontSizesRow.holds Try.pinned (OpenSpec.ofChange aontSizesWrong)

/-- 'scriniumlaw01.BinSizes': WHATEVER THE INPUT: true; the input reads as it did. -/
def binSizesSpec : ChangeSpec := { name := "binSizes", fn := fun _ => fun
  | [d] => { results := [.lit (.bool true)], args := [d] }
  | _ => none }
def binSizesRow : OpenClaim := { program := "ythdnecehgacecaa", sum := "a5c3c18033f95c90f8810b5b441c2e6450ab386af104277bd13020b422e08af0", func := "scrinium/scriniumlaw01.BinSizes", spec := "binSizes", apart := false }
def BinSizesSaid : Prop := binSizesRow.holds Try.pinned (OpenSpec.ofChange binSizesSpec)

/-- ITS FALSE NEIGHBOUR: 'it returns false'. Refute it at one input. -/
def binSizesWrong : ChangeSpec := { name := "binSizes", fn := fun _ => fun
  | [d] => { results := [.lit (.bool false)], args := [d] }
  | _ => none }
def BinSizesWrongFalsely : Prop := binSizesRow.holds Try.pinned (OpenSpec.ofChange binSizesWrong)

/-- 'scriniumlaw01.BinPuts': WHATEVER THE INPUT: true; the input reads as it did. -/
def binPutsSpec : ChangeSpec := { name := "binPuts", fn := fun _ => fun
  | [d] => { results := [.lit (.bool true)], args := [d] }
  | _ => none }
def binPutsRow : OpenClaim := { program := "ythdnecehgacecaa", sum := "a5c3c18033f95c90f8810b5b441c2e6450ab386af104277bd13020b422e08af0", func := "scrinium/scriniumlaw01.BinPuts", spec := "binPuts", apart := false }
def BinPutsSaid : Prop := binPutsRow.holds Try.pinned (OpenSpec.ofChange binPutsSpec)

/-- ITS FALSE NEIGHBOUR: 'it returns false'. Refute it at one input. -/
def binPutsWrong : ChangeSpec := { name := "binPuts", fn := fun _ => fun
  | [d] => { results := [.lit (.bool false)], args := [d] }
  | _ => none }
def BinPutsWrongFalsely : Prop := binPutsRow.holds Try.pinned (OpenSpec.ofChange binPutsWrong)

/-- 'scriniumlaw01.BinOne': WHATEVER THE INPUT: true; the input reads as it did. -/
def binOneSpec : ChangeSpec := { name := "binOne", fn := fun _ => fun
  | [d] => { results := [.lit (.bool true)], args := [d] }
  | _ => none }
def binOneRow : OpenClaim := { program := "ythdnecehgacecaa", sum := "a5c3c18033f95c90f8810b5b441c2e6450ab386af104277bd13020b422e08af0", func := "scrinium/scriniumlaw01.BinOne", spec := "binOne", apart := false }
def BinOneSaid : Prop := binOneRow.holds Try.pinned (OpenSpec.ofChange binOneSpec)

/-- ITS FALSE NEIGHBOUR: 'it returns false'. Refute it at one input. -/
def binOneWrong : ChangeSpec := { name := "binOne", fn := fun _ => fun
  | [d] => { results := [.lit (.bool false)], args := [d] }
  | _ => none }
def BinOneWrongFalsely : Prop := binOneRow.holds Try.pinned (OpenSpec.ofChange binOneWrong)

/-- 'scriniumlaw01.BinTakes': WHATEVER THE INPUT: true; the input reads as it did. -/
def binTakesSpec : ChangeSpec := { name := "binTakes", fn := fun _ => fun
  | [d1, d2] => { results := [.lit (.bool true)], args := [d1, d2] }
  | _ => none }
def binTakesRow : OpenClaim := { program := "ythdnecehgacecaa", sum := "a5c3c18033f95c90f8810b5b441c2e6450ab386af104277bd13020b422e08af0", func := "scrinium/scriniumlaw01.BinTakes", spec := "binTakes", apart := false }
def BinTakesSaid : Prop := binTakesRow.holds Try.pinned (OpenSpec.ofChange binTakesSpec)

/-- ITS FALSE NEIGHBOUR: 'it returns false'. Refute it at one input. -/
def binTakesWrong : ChangeSpec := { name := "binTakes", fn := fun _ => fun
  | [d1, d2] => { results := [.lit (.bool false)], args := [d1, d2] }
  | _ => none }
def BinTakesWrongFalsely : Prop := binTakesRow.holds Try.pinned (OpenSpec.ofChange binTakesWrong)

/-- 'scriniumlaw01.BinBack': WHATEVER THE INPUT: true; the input reads as it did. -/
def binBackSpec : ChangeSpec := { name := "binBack", fn := fun _ => fun
  | [d1, d2, d3] => { results := [.lit (.bool true)], args := [d1, d2, d3] }
  | _ => none }
def binBackRow : OpenClaim := { program := "ythdnecehgacecaa", sum := "a5c3c18033f95c90f8810b5b441c2e6450ab386af104277bd13020b422e08af0", func := "scrinium/scriniumlaw01.BinBack", spec := "binBack", apart := false }
def BinBackSaid : Prop := binBackRow.holds Try.pinned (OpenSpec.ofChange binBackSpec)

/-- ITS FALSE NEIGHBOUR: 'it returns false'. Refute it at one input. -/
def binBackWrong : ChangeSpec := { name := "binBack", fn := fun _ => fun
  | [d1, d2, d3] => { results := [.lit (.bool false)], args := [d1, d2, d3] }
  | _ => none }
def BinBackWrongFalsely : Prop := binBackRow.holds Try.pinned (OpenSpec.ofChange binBackWrong)

/-- 'scriniumlaw01.BinNil': WHATEVER THE INPUT: true; the input reads as it did. -/
def binNilSpec : ChangeSpec := { name := "binNil", fn := fun _ => fun
  | [d1, d2] => { results := [.lit (.bool true)], args := [d1, d2] }
  | _ => none }
def binNilRow : OpenClaim := { program := "ythdnecehgacecaa", sum := "a5c3c18033f95c90f8810b5b441c2e6450ab386af104277bd13020b422e08af0", func := "scrinium/scriniumlaw01.BinNil", spec := "binNil", apart := false }
def BinNilSaid : Prop := binNilRow.holds Try.pinned (OpenSpec.ofChange binNilSpec)

/-- ITS FALSE NEIGHBOUR: 'it returns false'. Refute it at one input. -/
def binNilWrong : ChangeSpec := { name := "binNil", fn := fun _ => fun
  | [d1, d2] => { results := [.lit (.bool false)], args := [d1, d2] }
  | _ => none }
def BinNilWrongFalsely : Prop := binNilRow.holds Try.pinned (OpenSpec.ofChange binNilWrong)

/- THE SECOND FORM. 'bulk': how many values and letters a reading holds, each counted each time it is reached (what is shared counts as often as it is met; a slice's spare places count too). A statement '..UptoSaid' is the law's where the arguments, and the package variables that the reading takes, are together of bulk at most 1048576: NARROWER than '..Said'. Prove '..Said' where nothing that the law and all that it calls make is longer than what came in: it says more and counts as full. Else prove '..UptoSaid'. A law counts once. -/
mutual
def uptoBulk {H : Type} : DataW H → Nat
  | .lit (.string bytes) => bytes.length + 1
  | .lit _ => 1
  | .nil => 1
  | .ptr d => uptoBulk d + 1
  | .slice elems spare => uptoBulkAll elems + uptoBulkAll spare + 1
  | .agg parts => uptoBulkAll parts + 1
  | .iface _ d => uptoBulk d + 1
  | .map entries => uptoBulkEntries entries + 1
  | .held _ => 1
def uptoBulkAll {H : Type} : List (DataW H) → Nat
  | [] => 0
  | d :: r => uptoBulk d + uptoBulkAll r
def uptoBulkEntries {H : Type} : List (Lit × DataW H) → Nat
  | [] => 0
  | x :: r => uptoBulkEntry x + uptoBulkEntries r
def uptoBulkEntry {H : Type} : Lit × DataW H → Nat
  | (.string bytes, d) => bytes.length + uptoBulk d + 1
  | (_, d) => uptoBulk d + 1
 end
def uptoSmall : (H : Type) → List (DataW H) → Bool := fun _ ds => decide (uptoBulkAll ds ≤ 1048576)
def OpenSpec.upto (s : _root_.Go.ChangeSpec) : _root_.Go.OpenSpec := { _root_.Go.OpenSpec.ofChange s with cond := some uptoSmall }

/-- 'scriniumlaw11.AontSizes', WHERE WHAT IT READS IS OF BULK AT MOST 1048576: true; the input reads as it did. -/
def aontSizesUptoRow : OpenClaim := { program := "ythdnecehgacecaa", sum := "a5c3c18033f95c90f8810b5b441c2e6450ab386af104277bd13020b422e08af0", func := "scrinium/scriniumlaw11.AontSizes", spec := "aontSizes", apart := false, narrowed := true }
def AontSizesUptoSaid : Prop := aontSizesUptoRow.holds Try.pinned (OpenSpec.upto aontSizesSpec)

/-- 'scriniumlaw01.BinSizes', WHERE WHAT IT READS IS OF BULK AT MOST 1048576: true; the input reads as it did. -/
def binSizesUptoRow : OpenClaim := { program := "ythdnecehgacecaa", sum := "a5c3c18033f95c90f8810b5b441c2e6450ab386af104277bd13020b422e08af0", func := "scrinium/scriniumlaw01.BinSizes", spec := "binSizes", apart := false, narrowed := true }
def BinSizesUptoSaid : Prop := binSizesUptoRow.holds Try.pinned (OpenSpec.upto binSizesSpec)

/-- 'scriniumlaw01.BinPuts', WHERE WHAT IT READS IS OF BULK AT MOST 1048576: true; the input reads as it did. -/
def binPutsUptoRow : OpenClaim := { program := "ythdnecehgacecaa", sum := "a5c3c18033f95c90f8810b5b441c2e6450ab386af104277bd13020b422e08af0", func := "scrinium/scriniumlaw01.BinPuts", spec := "binPuts", apart := false, narrowed := true }
def BinPutsUptoSaid : Prop := binPutsUptoRow.holds Try.pinned (OpenSpec.upto binPutsSpec)

/-- 'scriniumlaw01.BinOne', WHERE WHAT IT READS IS OF BULK AT MOST 1048576: true; the input reads as it did. -/
def binOneUptoRow : OpenClaim := { program := "ythdnecehgacecaa", sum := "a5c3c18033f95c90f8810b5b441c2e6450ab386af104277bd13020b422e08af0", func := "scrinium/scriniumlaw01.BinOne", spec := "binOne", apart := false, narrowed := true }
def BinOneUptoSaid : Prop := binOneUptoRow.holds Try.pinned (OpenSpec.upto binOneSpec)

/-- 'scriniumlaw01.BinTakes', WHERE WHAT IT READS IS OF BULK AT MOST 1048576: true; the input reads as it did. -/
def binTakesUptoRow : OpenClaim := { program := "ythdnecehgacecaa", sum := "a5c3c18033f95c90f8810b5b441c2e6450ab386af104277bd13020b422e08af0", func := "scrinium/scriniumlaw01.BinTakes", spec := "binTakes", apart := false, narrowed := true }
def BinTakesUptoSaid : Prop := binTakesUptoRow.holds Try.pinned (OpenSpec.upto binTakesSpec)

/-- 'scriniumlaw01.BinBack', WHERE WHAT IT READS IS OF BULK AT MOST 1048576: true; the input reads as it did. -/
def binBackUptoRow : OpenClaim := { program := "ythdnecehgacecaa", sum := "a5c3c18033f95c90f8810b5b441c2e6450ab386af104277bd13020b422e08af0", func := "scrinium/scriniumlaw01.BinBack", spec := "binBack", apart := false, narrowed := true }
def BinBackUptoSaid : Prop := binBackUptoRow.holds Try.pinned (OpenSpec.upto binBackSpec)

/-- 'scriniumlaw01.BinNil', WHERE WHAT IT READS IS OF BULK AT MOST 1048576: true; the input reads as it did. -/
def binNilUptoRow : OpenClaim := { program := "ythdnecehgacecaa", sum := "a5c3c18033f95c90f8810b5b441c2e6450ab386af104277bd13020b422e08af0", func := "scrinium/scriniumlaw01.BinNil", spec := "binNil", apart := false, narrowed := true }
def BinNilUptoSaid : Prop := binNilUptoRow.holds Try.pinned (OpenSpec.upto binNilSpec)

end Rows
end Go.Proofs.Ythdnecehgacecaa
