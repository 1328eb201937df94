/-
  No cell of these rows narrows 'for every input' (looked for: loops, veiled, ifaces, maps, wideKeys, modest, calm, conditions, laid).
  DERIVED. THE GIVEN ROWS OF THIS SEAT. 7 by the template 'for every input the law returns true; each argument reads behind the call as it read before'; 0 by the template 'total and deterministic' (their statements: YtingegkipimakaaTotals.lean).
  GIVEN WITH THE SEED: the statements are not yours to turn. If you find one false, say at which input.
  Laid BY PROGRAM, IN A SANDBOX (cutbox-rows.mjs): the forced cells as the released guide's own fill.sh prints them over the translation 67e153255ac6bb3b… (all of the seat's roots in one cut). By AI agents, Wed Nov 11 2026. No macro, syntax, notation, axiom, sorry.
-/
import Derived.Test.YtingegkipimakaaChecked
import GoSem.Claim
import GoSem.ClaimJoined
import GoSem.ClaimMapViews
import Derived.JoinedTies
import Derived.KernelRfl
namespace Go.Proofs.Ytingegkipimakaa
/- THE CELL 'sum', in the pinned program and in every row, IS THE sha256 OF THE DUMP (.gsa) THAT YtingegkipimakaaProg.lean LOADS. Nothing in Lean hashes anything: it is a label: what it is worth is what the hold of that sum in a sandbox is worth. -/
noncomputable def Try.pinned : Pinned := { name := "ytingegkipimakaa", sum := "67e153255ac6bb3bafb203d8398e80d32fb551216411c1f84286a7e5017c5c5c", checked := Try.checked }
namespace Rows
def none {H : Type} : Left H := { results := [], args := [] }

/-- 'scriniumlaw05.AesBlock': WHATEVER THE INPUT: true; the input reads as it did. -/
def aesBlockSpec : ChangeSpec := { name := "aesBlock", fn := fun _ => fun
  | [d1, d2] => { results := [.lit (.bool true)], args := [d1, d2] }
  | _ => none }
def aesBlockRow : OpenClaim := { program := "ytingegkipimakaa", sum := "67e153255ac6bb3bafb203d8398e80d32fb551216411c1f84286a7e5017c5c5c", func := "scrinium/scriniumlaw05.AesBlock", spec := "aesBlock", apart := false }
def AesBlockSaid : Prop := aesBlockRow.holds Try.pinned (OpenSpec.ofChange aesBlockSpec)

/-- ITS FALSE NEIGHBOUR: 'it returns false'. Refute it at one input. -/
def aesBlockWrong : ChangeSpec := { name := "aesBlock", fn := fun _ => fun
  | [d1, d2] => { results := [.lit (.bool false)], args := [d1, d2] }
  | _ => none }
def AesBlockWrongFalsely : Prop := aesBlockRow.holds Try.pinned (OpenSpec.ofChange aesBlockWrong)

/-- 'scriniumlaw05.AesTable': WHATEVER THE INPUT: true; the input reads as it did. -/
def aesTableSpec : ChangeSpec := { name := "aesTable", fn := fun _ => fun
  | [d1, d2] => { results := [.lit (.bool true)], args := [d1, d2] }
  | _ => none }
def aesTableRow : OpenClaim := { program := "ytingegkipimakaa", sum := "67e153255ac6bb3bafb203d8398e80d32fb551216411c1f84286a7e5017c5c5c", func := "scrinium/scriniumlaw05.AesTable", spec := "aesTable", apart := false }
def AesTableSaid : Prop := aesTableRow.holds Try.pinned (OpenSpec.ofChange aesTableSpec)

/-- ITS FALSE NEIGHBOUR: 'it returns false'. Refute it at one input. -/
def aesTableWrong : ChangeSpec := { name := "aesTable", fn := fun _ => fun
  | [d1, d2] => { results := [.lit (.bool false)], args := [d1, d2] }
  | _ => none }
def AesTableWrongFalsely : Prop := aesTableRow.holds Try.pinned (OpenSpec.ofChange aesTableWrong)

/-- 'scriniumlaw05.AesApart': WHATEVER THE INPUT: true; the input reads as it did. -/
def aesApartSpec : ChangeSpec := { name := "aesApart", fn := fun _ => fun
  | [d1, d2, d3] => { results := [.lit (.bool true)], args := [d1, d2, d3] }
  | _ => none }
def aesApartRow : OpenClaim := { program := "ytingegkipimakaa", sum := "67e153255ac6bb3bafb203d8398e80d32fb551216411c1f84286a7e5017c5c5c", func := "scrinium/scriniumlaw05.AesApart", spec := "aesApart", apart := false }
def AesApartSaid : Prop := aesApartRow.holds Try.pinned (OpenSpec.ofChange aesApartSpec)

/-- ITS FALSE NEIGHBOUR: 'it returns false'. Refute it at one input. -/
def aesApartWrong : ChangeSpec := { name := "aesApart", fn := fun _ => fun
  | [d1, d2, d3] => { results := [.lit (.bool false)], args := [d1, d2, d3] }
  | _ => none }
def AesApartWrongFalsely : Prop := aesApartRow.holds Try.pinned (OpenSpec.ofChange aesApartWrong)

/-- 'scriniumlaw06.CtrHide': WHATEVER THE INPUT: true; the input reads as it did. -/
def ctrHideSpec : ChangeSpec := { name := "ctrHide", fn := fun _ => fun
  | [d1, d2, d3] => { results := [.lit (.bool true)], args := [d1, d2, d3] }
  | _ => none }
def ctrHideRow : OpenClaim := { program := "ytingegkipimakaa", sum := "67e153255ac6bb3bafb203d8398e80d32fb551216411c1f84286a7e5017c5c5c", func := "scrinium/scriniumlaw06.CtrHide", spec := "ctrHide", apart := false }
def CtrHideSaid : Prop := ctrHideRow.holds Try.pinned (OpenSpec.ofChange ctrHideSpec)

/-- ITS FALSE NEIGHBOUR: 'it returns false'. Refute it at one input. -/
def ctrHideWrong : ChangeSpec := { name := "ctrHide", fn := fun _ => fun
  | [d1, d2, d3] => { results := [.lit (.bool false)], args := [d1, d2, d3] }
  | _ => none }
def CtrHideWrongFalsely : Prop := ctrHideRow.holds Try.pinned (OpenSpec.ofChange ctrHideWrong)

/-- 'scriniumlaw06.CtrCount': WHATEVER THE INPUT: true; the input reads as it did. -/
def ctrCountSpec : ChangeSpec := { name := "ctrCount", fn := fun _ => fun
  | [d1, d2, d3] => { results := [.lit (.bool true)], args := [d1, d2, d3] }
  | _ => none }
def ctrCountRow : OpenClaim := { program := "ytingegkipimakaa", sum := "67e153255ac6bb3bafb203d8398e80d32fb551216411c1f84286a7e5017c5c5c", func := "scrinium/scriniumlaw06.CtrCount", spec := "ctrCount", apart := false }
def CtrCountSaid : Prop := ctrCountRow.holds Try.pinned (OpenSpec.ofChange ctrCountSpec)

/-- ITS FALSE NEIGHBOUR: 'it returns false'. Refute it at one input. -/
def ctrCountWrong : ChangeSpec := { name := "ctrCount", fn := fun _ => fun
  | [d1, d2, d3] => { results := [.lit (.bool false)], args := [d1, d2, d3] }
  | _ => none }
def CtrCountWrongFalsely : Prop := ctrCountRow.holds Try.pinned (OpenSpec.ofChange ctrCountWrong)

/-- 'scriniumlaw06.CtrBegins': WHATEVER THE INPUT: true; the input reads as it did. -/
def ctrBeginsSpec : ChangeSpec := { name := "ctrBegins", fn := fun _ => fun
  | [d1, d2, d3] => { results := [.lit (.bool true)], args := [d1, d2, d3] }
  | _ => none }
def ctrBeginsRow : OpenClaim := { program := "ytingegkipimakaa", sum := "67e153255ac6bb3bafb203d8398e80d32fb551216411c1f84286a7e5017c5c5c", func := "scrinium/scriniumlaw06.CtrBegins", spec := "ctrBegins", apart := false }
def CtrBeginsSaid : Prop := ctrBeginsRow.holds Try.pinned (OpenSpec.ofChange ctrBeginsSpec)

/-- ITS FALSE NEIGHBOUR: 'it returns false'. Refute it at one input. -/
def ctrBeginsWrong : ChangeSpec := { name := "ctrBegins", fn := fun _ => fun
  | [d1, d2, d3] => { results := [.lit (.bool false)], args := [d1, d2, d3] }
  | _ => none }
def CtrBeginsWrongFalsely : Prop := ctrBeginsRow.holds Try.pinned (OpenSpec.ofChange ctrBeginsWrong)

/-- 'scriniumlaw06.CtrXor': WHATEVER THE INPUT: true; the input reads as it did. -/
def ctrXorSpec : ChangeSpec := { name := "ctrXor", fn := fun _ => fun
  | [d1, d2, d3] => { results := [.lit (.bool true)], args := [d1, d2, d3] }
  | _ => none }
def ctrXorRow : OpenClaim := { program := "ytingegkipimakaa", sum := "67e153255ac6bb3bafb203d8398e80d32fb551216411c1f84286a7e5017c5c5c", func := "scrinium/scriniumlaw06.CtrXor", spec := "ctrXor", apart := false }
def CtrXorSaid : Prop := ctrXorRow.holds Try.pinned (OpenSpec.ofChange ctrXorSpec)

/-- ITS FALSE NEIGHBOUR: 'it returns false'. Refute it at one input. -/
def ctrXorWrong : ChangeSpec := { name := "ctrXor", fn := fun _ => fun
  | [d1, d2, d3] => { results := [.lit (.bool false)], args := [d1, d2, d3] }
  | _ => none }
def CtrXorWrongFalsely : Prop := ctrXorRow.holds Try.pinned (OpenSpec.ofChange ctrXorWrong)

/- THE SECOND FORM. 'bulk': how many values and letters a reading holds, each counted each time it is reached (what is shared counts as often as it is met; a slice's spare places count too). A statement '..UptoSaid' is the law's where the arguments, and the package variables that the reading takes, are together of bulk at most 1048576: NARROWER than '..Said'. Prove '..Said' where nothing that the law and all that it calls make is longer than what came in: it says more and counts as full. Else prove '..UptoSaid'. A law counts once. -/
mutual
def uptoBulk {H : Type} : DataW H → Nat
  | .lit (.string bytes) => bytes.length + 1
  | .lit _ => 1
  | .nil => 1
  | .ptr d => uptoBulk d + 1
  | .slice elems spare => uptoBulkAll elems + uptoBulkAll spare + 1
  | .agg parts => uptoBulkAll parts + 1
  | .iface _ d => uptoBulk d + 1
  | .map entries => uptoBulkEntries entries + 1
  | .held _ => 1
def uptoBulkAll {H : Type} : List (DataW H) → Nat
  | [] => 0
  | d :: r => uptoBulk d + uptoBulkAll r
def uptoBulkEntries {H : Type} : List (Lit × DataW H) → Nat
  | [] => 0
  | x :: r => uptoBulkEntry x + uptoBulkEntries r
def uptoBulkEntry {H : Type} : Lit × DataW H → Nat
  | (.string bytes, d) => bytes.length + uptoBulk d + 1
  | (_, d) => uptoBulk d + 1
 end
def uptoSmall : (H : Type) → List (DataW H) → Bool := fun _ ds => decide (uptoBulkAll ds ≤ 1048576)
def OpenSpec.upto (s : _root_.Go.ChangeSpec) : _root_.Go.OpenSpec := { _root_.Go.OpenSpec.ofChange s with cond := some uptoSmall }

/-- 'scriniumlaw05.AesBlock', WHERE WHAT IT READS IS OF BULK AT MOST 1048576: true; the input reads as it did. -/
def aesBlockUptoRow : OpenClaim := { program := "ytingegkipimakaa", sum := "67e153255ac6bb3bafb203d8398e80d32fb551216411c1f84286a7e5017c5c5c", func := "scrinium/scriniumlaw05.AesBlock", spec := "aesBlock", apart := false, narrowed := true }
def AesBlockUptoSaid : Prop := aesBlockUptoRow.holds Try.pinned (OpenSpec.upto aesBlockSpec)

/-- 'scriniumlaw05.AesTable', WHERE WHAT IT READS IS OF BULK AT MOST 1048576: true; the input reads as it did. -/
def aesTableUptoRow : OpenClaim := { program := "ytingegkipimakaa", sum := "67e153255ac6bb3bafb203d8398e80d32fb551216411c1f84286a7e5017c5c5c", func := "scrinium/scriniumlaw05.AesTable", spec := "aesTable", apart := false, narrowed := true }
def AesTableUptoSaid : Prop := aesTableUptoRow.holds Try.pinned (OpenSpec.upto aesTableSpec)

/-- 'scriniumlaw05.AesApart', WHERE WHAT IT READS IS OF BULK AT MOST 1048576: true; the input reads as it did. -/
def aesApartUptoRow : OpenClaim := { program := "ytingegkipimakaa", sum := "67e153255ac6bb3bafb203d8398e80d32fb551216411c1f84286a7e5017c5c5c", func := "scrinium/scriniumlaw05.AesApart", spec := "aesApart", apart := false, narrowed := true }
def AesApartUptoSaid : Prop := aesApartUptoRow.holds Try.pinned (OpenSpec.upto aesApartSpec)

/-- 'scriniumlaw06.CtrHide', WHERE WHAT IT READS IS OF BULK AT MOST 1048576: true; the input reads as it did. -/
def ctrHideUptoRow : OpenClaim := { program := "ytingegkipimakaa", sum := "67e153255ac6bb3bafb203d8398e80d32fb551216411c1f84286a7e5017c5c5c", func := "scrinium/scriniumlaw06.CtrHide", spec := "ctrHide", apart := false, narrowed := true }
def CtrHideUptoSaid : Prop := ctrHideUptoRow.holds Try.pinned (OpenSpec.upto ctrHideSpec)

/-- 'scriniumlaw06.CtrCount', WHERE WHAT IT READS IS OF BULK AT MOST 1048576: true; the input reads as it did. -/
def ctrCountUptoRow : OpenClaim := { program := "ytingegkipimakaa", sum := "67e153255ac6bb3bafb203d8398e80d32fb551216411c1f84286a7e5017c5c5c", func := "scrinium/scriniumlaw06.CtrCount", spec := "ctrCount", apart := false, narrowed := true }
def CtrCountUptoSaid : Prop := ctrCountUptoRow.holds Try.pinned (OpenSpec.upto ctrCountSpec)

/-- 'scriniumlaw06.CtrBegins', WHERE WHAT IT READS IS OF BULK AT MOST 1048576: true; the input reads as it did. -/
def ctrBeginsUptoRow : OpenClaim := { program := "ytingegkipimakaa", sum := "67e153255ac6bb3bafb203d8398e80d32fb551216411c1f84286a7e5017c5c5c", func := "scrinium/scriniumlaw06.CtrBegins", spec := "ctrBegins", apart := false, narrowed := true }
def CtrBeginsUptoSaid : Prop := ctrBeginsUptoRow.holds Try.pinned (OpenSpec.upto ctrBeginsSpec)

/-- 'scriniumlaw06.CtrXor', WHERE WHAT IT READS IS OF BULK AT MOST 1048576: true; the input reads as it did. -/
def ctrXorUptoRow : OpenClaim := { program := "ytingegkipimakaa", sum := "67e153255ac6bb3bafb203d8398e80d32fb551216411c1f84286a7e5017c5c5c", func := "scrinium/scriniumlaw06.CtrXor", spec := "ctrXor", apart := false, narrowed := true }
def CtrXorUptoSaid : Prop := ctrXorUptoRow.holds Try.pinned (OpenSpec.upto ctrXorSpec)

end Rows
end Go.Proofs.Ytingegkipimakaa
