/-
  No cell of these rows narrows 'for every input' (looked for: loops, veiled, ifaces, maps, wideKeys, modest, calm, conditions, laid).
  DERIVED. THE GIVEN ROWS OF THIS SEAT. 6 by the template 'for every input the law returns true; each argument reads behind the call as it read before'; 0 by the template 'total and deterministic' (their statements: YtahiadghodhkhaaTotals.lean).
  GIVEN WITH THE SEED: the statements are not yours to turn. If you find one false, say at which input.
  Laid BY PROGRAM, IN A SANDBOX (cutbox-rows.mjs): the forced cells as the released guide's own fill.sh prints them over the translation 83d7f572d25830b3… (all of the seat's roots in one cut). By AI agents, Wed Nov 11 2026. No macro, syntax, notation, axiom, sorry.
-/
import Derived.Test.YtahiadghodhkhaaChecked
import GoSem.Claim
import GoSem.ClaimJoined
import GoSem.ClaimMapViews
import Derived.JoinedTies
import Derived.KernelRfl
namespace Go.Proofs.Ytahiadghodhkhaa
/- THE CELL 'sum', in the pinned program and in every row, IS THE sha256 OF THE DUMP (.gsa) THAT YtahiadghodhkhaaProg.lean LOADS. Nothing in Lean hashes anything: it is a label: what it is worth is what the hold of that sum in a sandbox is worth. -/
noncomputable def Try.pinned : Pinned := { name := "ytahiadghodhkhaa", sum := "83d7f572d25830b31db8d4dc89f3dd75df42836c464d6198e7986f8ab07f21d3", checked := Try.checked }
namespace Rows
def none {H : Type} : Left H := { results := [], args := [] }

/-- 'scriniumlaw19.BlobLast': WHATEVER THE INPUT: true; the input reads as it did. -/
def blobLastSpec : ChangeSpec := { name := "blobLast", fn := fun _ => fun
  | [d1, d2] => { results := [.lit (.bool true)], args := [d1, d2] }
  | _ => none }
def blobLastRow : OpenClaim := { program := "ytahiadghodhkhaa", sum := "83d7f572d25830b31db8d4dc89f3dd75df42836c464d6198e7986f8ab07f21d3", func := "scrinium/scriniumlaw19.BlobLast", spec := "blobLast", unfollowed := true, recurses := true, apart := false }
def BlobLastSaid : Prop := blobLastRow.holds Try.pinned (OpenSpec.ofChange blobLastSpec)

/-- ITS FALSE NEIGHBOUR: 'it returns false'. Refute it at one input. -/
def blobLastWrong : ChangeSpec := { name := "blobLast", fn := fun _ => fun
  | [d1, d2] => { results := [.lit (.bool false)], args := [d1, d2] }
  | _ => none }
def BlobLastWrongFalsely : Prop := blobLastRow.holds Try.pinned (OpenSpec.ofChange blobLastWrong)

/-- 'scriniumlaw19.BlobQuota': WHATEVER THE INPUT: true; the input reads as it did. -/
def blobQuotaSpec : ChangeSpec := { name := "blobQuota", fn := fun _ => fun
  | [d1, d2] => { results := [.lit (.bool true)], args := [d1, d2] }
  | _ => none }
def blobQuotaRow : OpenClaim := { program := "ytahiadghodhkhaa", sum := "83d7f572d25830b31db8d4dc89f3dd75df42836c464d6198e7986f8ab07f21d3", func := "scrinium/scriniumlaw19.BlobQuota", spec := "blobQuota", unfollowed := true, recurses := true, apart := false }
def BlobQuotaSaid : Prop := blobQuotaRow.holds Try.pinned (OpenSpec.ofChange blobQuotaSpec)

/-- ITS FALSE NEIGHBOUR: 'it returns false'. Refute it at one input. -/
def blobQuotaWrong : ChangeSpec := { name := "blobQuota", fn := fun _ => fun
  | [d1, d2] => { results := [.lit (.bool false)], args := [d1, d2] }
  | _ => none }
def BlobQuotaWrongFalsely : Prop := blobQuotaRow.holds Try.pinned (OpenSpec.ofChange blobQuotaWrong)

/-- 'scriniumlaw19.BlobCopy': WHATEVER THE INPUT: true; the input reads as it did. -/
def blobCopySpec : ChangeSpec := { name := "blobCopy", fn := fun _ => fun
  | [d1, d2] => { results := [.lit (.bool true)], args := [d1, d2] }
  | _ => none }
def blobCopyRow : OpenClaim := { program := "ytahiadghodhkhaa", sum := "83d7f572d25830b31db8d4dc89f3dd75df42836c464d6198e7986f8ab07f21d3", func := "scrinium/scriniumlaw19.BlobCopy", spec := "blobCopy", inPlace := ["maps.clone"], unfollowed := true, recurses := true, apart := false }
def BlobCopySaid : Prop := blobCopyRow.holds Try.pinned (OpenSpec.ofChange blobCopySpec)

/-- ITS FALSE NEIGHBOUR: 'it returns false'. Refute it at one input. -/
def blobCopyWrong : ChangeSpec := { name := "blobCopy", fn := fun _ => fun
  | [d1, d2] => { results := [.lit (.bool false)], args := [d1, d2] }
  | _ => none }
def BlobCopyWrongFalsely : Prop := blobCopyRow.holds Try.pinned (OpenSpec.ofChange blobCopyWrong)

/-- 'scriniumlaw19.BlobAsks': WHATEVER THE INPUT: true; the input reads as it did. -/
def blobAsksSpec : ChangeSpec := { name := "blobAsks", fn := fun _ => fun
  | [d1, d2] => { results := [.lit (.bool true)], args := [d1, d2] }
  | _ => none }
def blobAsksRow : OpenClaim := { program := "ytahiadghodhkhaa", sum := "83d7f572d25830b31db8d4dc89f3dd75df42836c464d6198e7986f8ab07f21d3", func := "scrinium/scriniumlaw19.BlobAsks", spec := "blobAsks", unfollowed := true, recurses := true, apart := false }
def BlobAsksSaid : Prop := blobAsksRow.holds Try.pinned (OpenSpec.ofChange blobAsksSpec)

/-- ITS FALSE NEIGHBOUR: 'it returns false'. Refute it at one input. -/
def blobAsksWrong : ChangeSpec := { name := "blobAsks", fn := fun _ => fun
  | [d1, d2] => { results := [.lit (.bool false)], args := [d1, d2] }
  | _ => none }
def BlobAsksWrongFalsely : Prop := blobAsksRow.holds Try.pinned (OpenSpec.ofChange blobAsksWrong)

/-- 'scriniumlaw19.BlobServes': WHATEVER THE INPUT: true; the input reads as it did. -/
def blobServesSpec : ChangeSpec := { name := "blobServes", fn := fun _ => fun
  | [d1, d2] => { results := [.lit (.bool true)], args := [d1, d2] }
  | _ => none }
def blobServesRow : OpenClaim := { program := "ytahiadghodhkhaa", sum := "83d7f572d25830b31db8d4dc89f3dd75df42836c464d6198e7986f8ab07f21d3", func := "scrinium/scriniumlaw19.BlobServes", spec := "blobServes", unfollowed := true, recurses := true, apart := false }
def BlobServesSaid : Prop := blobServesRow.holds Try.pinned (OpenSpec.ofChange blobServesSpec)

/-- ITS FALSE NEIGHBOUR: 'it returns false'. Refute it at one input. -/
def blobServesWrong : ChangeSpec := { name := "blobServes", fn := fun _ => fun
  | [d1, d2] => { results := [.lit (.bool false)], args := [d1, d2] }
  | _ => none }
def BlobServesWrongFalsely : Prop := blobServesRow.holds Try.pinned (OpenSpec.ofChange blobServesWrong)

/-- 'scriniumlaw19.BlobNil': WHATEVER THE INPUT: true; the input reads as it did. -/
def blobNilSpec : ChangeSpec := { name := "blobNil", fn := fun _ => fun
  | [d] => { results := [.lit (.bool true)], args := [d] }
  | _ => none }
def blobNilRow : OpenClaim := { program := "ytahiadghodhkhaa", sum := "83d7f572d25830b31db8d4dc89f3dd75df42836c464d6198e7986f8ab07f21d3", func := "scrinium/scriniumlaw19.BlobNil", spec := "blobNil", inPlace := ["maps.clone"], unfollowed := true, recurses := true, apart := false }
def BlobNilSaid : Prop := blobNilRow.holds Try.pinned (OpenSpec.ofChange blobNilSpec)

/-- ITS FALSE NEIGHBOUR: 'it returns false'. Refute it at one input. -/
def blobNilWrong : ChangeSpec := { name := "blobNil", fn := fun _ => fun
  | [d] => { results := [.lit (.bool false)], args := [d] }
  | _ => none }
def BlobNilWrongFalsely : Prop := blobNilRow.holds Try.pinned (OpenSpec.ofChange blobNilWrong)

/- THE SECOND FORM. 'bulk': how many values and letters a reading holds, each counted each time it is reached (what is shared counts as often as it is met; a slice's spare places count too). A statement '..UptoSaid' is the law's where the arguments, and the package variables that the reading takes, are together of bulk at most 1048576: NARROWER than '..Said'. Prove '..Said' where nothing that the law and all that it calls make is longer than what came in: it says more and counts as full. Else prove '..UptoSaid'. A law counts once. -/
mutual
def uptoBulk {H : Type} : DataW H → Nat
  | .lit (.string bytes) => bytes.length + 1
  | .lit _ => 1
  | .nil => 1
  | .ptr d => uptoBulk d + 1
  | .slice elems spare => uptoBulkAll elems + uptoBulkAll spare + 1
  | .agg parts => uptoBulkAll parts + 1
  | .iface _ d => uptoBulk d + 1
  | .map entries => uptoBulkEntries entries + 1
  | .held _ => 1
def uptoBulkAll {H : Type} : List (DataW H) → Nat
  | [] => 0
  | d :: r => uptoBulk d + uptoBulkAll r
def uptoBulkEntries {H : Type} : List (Lit × DataW H) → Nat
  | [] => 0
  | x :: r => uptoBulkEntry x + uptoBulkEntries r
def uptoBulkEntry {H : Type} : Lit × DataW H → Nat
  | (.string bytes, d) => bytes.length + uptoBulk d + 1
  | (_, d) => uptoBulk d + 1
 end
def uptoSmall : (H : Type) → List (DataW H) → Bool := fun _ ds => decide (uptoBulkAll ds ≤ 1048576)
def OpenSpec.upto (s : _root_.Go.ChangeSpec) : _root_.Go.OpenSpec := { _root_.Go.OpenSpec.ofChange s with cond := some uptoSmall }

/-- 'scriniumlaw19.BlobLast', WHERE WHAT IT READS IS OF BULK AT MOST 1048576: true; the input reads as it did. -/
def blobLastUptoRow : OpenClaim := { program := "ytahiadghodhkhaa", sum := "83d7f572d25830b31db8d4dc89f3dd75df42836c464d6198e7986f8ab07f21d3", func := "scrinium/scriniumlaw19.BlobLast", spec := "blobLast", unfollowed := true, recurses := true, apart := false, narrowed := true }
def BlobLastUptoSaid : Prop := blobLastUptoRow.holds Try.pinned (OpenSpec.upto blobLastSpec)

/-- 'scriniumlaw19.BlobQuota', WHERE WHAT IT READS IS OF BULK AT MOST 1048576: true; the input reads as it did. -/
def blobQuotaUptoRow : OpenClaim := { program := "ytahiadghodhkhaa", sum := "83d7f572d25830b31db8d4dc89f3dd75df42836c464d6198e7986f8ab07f21d3", func := "scrinium/scriniumlaw19.BlobQuota", spec := "blobQuota", unfollowed := true, recurses := true, apart := false, narrowed := true }
def BlobQuotaUptoSaid : Prop := blobQuotaUptoRow.holds Try.pinned (OpenSpec.upto blobQuotaSpec)

/-- 'scriniumlaw19.BlobCopy', WHERE WHAT IT READS IS OF BULK AT MOST 1048576: true; the input reads as it did. -/
def blobCopyUptoRow : OpenClaim := { program := "ytahiadghodhkhaa", sum := "83d7f572d25830b31db8d4dc89f3dd75df42836c464d6198e7986f8ab07f21d3", func := "scrinium/scriniumlaw19.BlobCopy", spec := "blobCopy", inPlace := ["maps.clone"], unfollowed := true, recurses := true, apart := false, narrowed := true }
def BlobCopyUptoSaid : Prop := blobCopyUptoRow.holds Try.pinned (OpenSpec.upto blobCopySpec)

/-- 'scriniumlaw19.BlobAsks', WHERE WHAT IT READS IS OF BULK AT MOST 1048576: true; the input reads as it did. -/
def blobAsksUptoRow : OpenClaim := { program := "ytahiadghodhkhaa", sum := "83d7f572d25830b31db8d4dc89f3dd75df42836c464d6198e7986f8ab07f21d3", func := "scrinium/scriniumlaw19.BlobAsks", spec := "blobAsks", unfollowed := true, recurses := true, apart := false, narrowed := true }
def BlobAsksUptoSaid : Prop := blobAsksUptoRow.holds Try.pinned (OpenSpec.upto blobAsksSpec)

/-- 'scriniumlaw19.BlobServes', WHERE WHAT IT READS IS OF BULK AT MOST 1048576: true; the input reads as it did. -/
def blobServesUptoRow : OpenClaim := { program := "ytahiadghodhkhaa", sum := "83d7f572d25830b31db8d4dc89f3dd75df42836c464d6198e7986f8ab07f21d3", func := "scrinium/scriniumlaw19.BlobServes", spec := "blobServes", unfollowed := true, recurses := true, apart := false, narrowed := true }
def BlobServesUptoSaid : Prop := blobServesUptoRow.holds Try.pinned (OpenSpec.upto blobServesSpec)

/-- 'scriniumlaw19.BlobNil', WHERE WHAT IT READS IS OF BULK AT MOST 1048576: true; the input reads as it did. -/
def blobNilUptoRow : OpenClaim := { program := "ytahiadghodhkhaa", sum := "83d7f572d25830b31db8d4dc89f3dd75df42836c464d6198e7986f8ab07f21d3", func := "scrinium/scriniumlaw19.BlobNil", spec := "blobNil", inPlace := ["maps.clone"], unfollowed := true, recurses := true, apart := false, narrowed := true }
def BlobNilUptoSaid : Prop := blobNilUptoRow.holds Try.pinned (OpenSpec.upto blobNilSpec)

end Rows
end Go.Proofs.Ytahiadghodhkhaa
