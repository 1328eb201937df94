/-
  No cell of these rows narrows 'for every input' (looked for: loops, veiled, ifaces, maps, wideKeys, modest, calm, conditions, laid).
  DERIVED. THE GIVEN ROWS OF THIS SEAT. 5 by the template 'for every input the law returns true; each argument reads behind the call as it read before'; 0 by the template 'total and deterministic' (their statements: YtpkfeepepbchlaaTotals.lean).
  GIVEN WITH THE SEED: the statements are not yours to turn. If you find one false, say at which input.
  Laid BY PROGRAM, IN A SANDBOX (cutbox-rows.mjs): the forced cells as the released guide's own fill.sh prints them over the translation 58747fcd29de1ce4… (all of the seat's roots in one cut). By AI agents, Wed Nov 11 2026. No macro, syntax, notation, axiom, sorry.
-/
import Derived.Test.YtpkfeepepbchlaaChecked
import GoSem.Claim
import GoSem.ClaimJoined
import GoSem.ClaimMapViews
import Derived.JoinedTies
import Derived.KernelRfl
namespace Go.Proofs.Ytpkfeepepbchlaa
/- THE CELL 'sum', in the pinned program and in every row, IS THE sha256 OF THE DUMP (.gsa) THAT YtpkfeepepbchlaaProg.lean LOADS. Nothing in Lean hashes anything: it is a label: what it is worth is what the hold of that sum in a sandbox is worth. -/
noncomputable def Try.pinned : Pinned := { name := "ytpkfeepepbchlaa", sum := "58747fcd29de1ce4fe0526ac9d7c088eb21156010a7872652e7e85acc2c5e829", checked := Try.checked }
namespace Rows
def none {H : Type} : Left H := { results := [], args := [] }

/-- 'scriniumlaw20.LinkTries': WHATEVER THE INPUT: true; the input reads as it did. -/
def linkTriesSpec : ChangeSpec := { name := "linkTries", fn := fun _ => fun
  | [d1, d2] => { results := [.lit (.bool true)], args := [d1, d2] }
  | _ => none }
def linkTriesRow : OpenClaim := { program := "ytpkfeepepbchlaa", sum := "58747fcd29de1ce4fe0526ac9d7c088eb21156010a7872652e7e85acc2c5e829", func := "scrinium/scriniumlaw20.LinkTries", spec := "linkTries", inPlace := ["maps.clone"], unfollowed := true, recurses := true, apart := false }
def LinkTriesSaid : Prop := linkTriesRow.holds Try.pinned (OpenSpec.ofChange linkTriesSpec)

/-- ITS FALSE NEIGHBOUR: 'it returns false'. Refute it at one input. -/
def linkTriesWrong : ChangeSpec := { name := "linkTries", fn := fun _ => fun
  | [d1, d2] => { results := [.lit (.bool false)], args := [d1, d2] }
  | _ => none }
def LinkTriesWrongFalsely : Prop := linkTriesRow.holds Try.pinned (OpenSpec.ofChange linkTriesWrong)

/-- 'scriniumlaw20.LinkHonest': WHATEVER THE INPUT: true; the input reads as it did. -/
def linkHonestSpec : ChangeSpec := { name := "linkHonest", fn := fun _ => fun
  | [d1, d2] => { results := [.lit (.bool true)], args := [d1, d2] }
  | _ => none }
def linkHonestRow : OpenClaim := { program := "ytpkfeepepbchlaa", sum := "58747fcd29de1ce4fe0526ac9d7c088eb21156010a7872652e7e85acc2c5e829", func := "scrinium/scriniumlaw20.LinkHonest", spec := "linkHonest", inPlace := ["maps.clone"], unfollowed := true, recurses := true, apart := false }
def LinkHonestSaid : Prop := linkHonestRow.holds Try.pinned (OpenSpec.ofChange linkHonestSpec)

/-- ITS FALSE NEIGHBOUR: 'it returns false'. Refute it at one input. -/
def linkHonestWrong : ChangeSpec := { name := "linkHonest", fn := fun _ => fun
  | [d1, d2] => { results := [.lit (.bool false)], args := [d1, d2] }
  | _ => none }
def LinkHonestWrongFalsely : Prop := linkHonestRow.holds Try.pinned (OpenSpec.ofChange linkHonestWrong)

/-- 'scriniumlaw20.LinkSure': WHATEVER THE INPUT: true; the input reads as it did. -/
def linkSureSpec : ChangeSpec := { name := "linkSure", fn := fun _ => fun
  | [d1, d2, d3] => { results := [.lit (.bool true)], args := [d1, d2, d3] }
  | _ => none }
def linkSureRow : OpenClaim := { program := "ytpkfeepepbchlaa", sum := "58747fcd29de1ce4fe0526ac9d7c088eb21156010a7872652e7e85acc2c5e829", func := "scrinium/scriniumlaw20.LinkSure", spec := "linkSure", inPlace := ["maps.clone"], unfollowed := true, recurses := true, apart := false }
def LinkSureSaid : Prop := linkSureRow.holds Try.pinned (OpenSpec.ofChange linkSureSpec)

/-- ITS FALSE NEIGHBOUR: 'it returns false'. Refute it at one input. -/
def linkSureWrong : ChangeSpec := { name := "linkSure", fn := fun _ => fun
  | [d1, d2, d3] => { results := [.lit (.bool false)], args := [d1, d2, d3] }
  | _ => none }
def LinkSureWrongFalsely : Prop := linkSureRow.holds Try.pinned (OpenSpec.ofChange linkSureWrong)

/-- 'scriniumlaw20.LinkOwn': WHATEVER THE INPUT: true; the input reads as it did. -/
def linkOwnSpec : ChangeSpec := { name := "linkOwn", fn := fun _ => fun
  | [d] => { results := [.lit (.bool true)], args := [d] }
  | _ => none }
def linkOwnRow : OpenClaim := { program := "ytpkfeepepbchlaa", sum := "58747fcd29de1ce4fe0526ac9d7c088eb21156010a7872652e7e85acc2c5e829", func := "scrinium/scriniumlaw20.LinkOwn", spec := "linkOwn", inPlace := ["maps.clone"], unfollowed := true, recurses := true, apart := false }
def LinkOwnSaid : Prop := linkOwnRow.holds Try.pinned (OpenSpec.ofChange linkOwnSpec)

/-- ITS FALSE NEIGHBOUR: 'it returns false'. Refute it at one input. -/
def linkOwnWrong : ChangeSpec := { name := "linkOwn", fn := fun _ => fun
  | [d] => { results := [.lit (.bool false)], args := [d] }
  | _ => none }
def LinkOwnWrongFalsely : Prop := linkOwnRow.holds Try.pinned (OpenSpec.ofChange linkOwnWrong)

/-- 'scriniumlaw20.LinkNil': WHATEVER THE INPUT: true; the input reads as it did. -/
def linkNilSpec : ChangeSpec := { name := "linkNil", fn := fun _ => fun
  | [d1, d2] => { results := [.lit (.bool true)], args := [d1, d2] }
  | _ => none }
def linkNilRow : OpenClaim := { program := "ytpkfeepepbchlaa", sum := "58747fcd29de1ce4fe0526ac9d7c088eb21156010a7872652e7e85acc2c5e829", func := "scrinium/scriniumlaw20.LinkNil", spec := "linkNil", inPlace := ["maps.clone"], unfollowed := true, recurses := true, apart := false }
def LinkNilSaid : Prop := linkNilRow.holds Try.pinned (OpenSpec.ofChange linkNilSpec)

/-- ITS FALSE NEIGHBOUR: 'it returns false'. Refute it at one input. -/
def linkNilWrong : ChangeSpec := { name := "linkNil", fn := fun _ => fun
  | [d1, d2] => { results := [.lit (.bool false)], args := [d1, d2] }
  | _ => none }
def LinkNilWrongFalsely : Prop := linkNilRow.holds Try.pinned (OpenSpec.ofChange linkNilWrong)

/- THE SECOND FORM. 'bulk': how many values and letters a reading holds, each counted each time it is reached (what is shared counts as often as it is met; a slice's spare places count too). A statement '..UptoSaid' is the law's where the arguments, and the package variables that the reading takes, are together of bulk at most 1048576: NARROWER than '..Said'. Prove '..Said' where nothing that the law and all that it calls make is longer than what came in: it says more and counts as full. Else prove '..UptoSaid'. A law counts once. -/
mutual
def uptoBulk {H : Type} : DataW H → Nat
  | .lit (.string bytes) => bytes.length + 1
  | .lit _ => 1
  | .nil => 1
  | .ptr d => uptoBulk d + 1
  | .slice elems spare => uptoBulkAll elems + uptoBulkAll spare + 1
  | .agg parts => uptoBulkAll parts + 1
  | .iface _ d => uptoBulk d + 1
  | .map entries => uptoBulkEntries entries + 1
  | .held _ => 1
def uptoBulkAll {H : Type} : List (DataW H) → Nat
  | [] => 0
  | d :: r => uptoBulk d + uptoBulkAll r
def uptoBulkEntries {H : Type} : List (Lit × DataW H) → Nat
  | [] => 0
  | x :: r => uptoBulkEntry x + uptoBulkEntries r
def uptoBulkEntry {H : Type} : Lit × DataW H → Nat
  | (.string bytes, d) => bytes.length + uptoBulk d + 1
  | (_, d) => uptoBulk d + 1
 end
def uptoSmall : (H : Type) → List (DataW H) → Bool := fun _ ds => decide (uptoBulkAll ds ≤ 1048576)
def OpenSpec.upto (s : _root_.Go.ChangeSpec) : _root_.Go.OpenSpec := { _root_.Go.OpenSpec.ofChange s with cond := some uptoSmall }

/-- 'scriniumlaw20.LinkTries', WHERE WHAT IT READS IS OF BULK AT MOST 1048576: true; the input reads as it did. -/
def linkTriesUptoRow : OpenClaim := { program := "ytpkfeepepbchlaa", sum := "58747fcd29de1ce4fe0526ac9d7c088eb21156010a7872652e7e85acc2c5e829", func := "scrinium/scriniumlaw20.LinkTries", spec := "linkTries", inPlace := ["maps.clone"], unfollowed := true, recurses := true, apart := false, narrowed := true }
def LinkTriesUptoSaid : Prop := linkTriesUptoRow.holds Try.pinned (OpenSpec.upto linkTriesSpec)

/-- 'scriniumlaw20.LinkHonest', WHERE WHAT IT READS IS OF BULK AT MOST 1048576: true; the input reads as it did. -/
def linkHonestUptoRow : OpenClaim := { program := "ytpkfeepepbchlaa", sum := "58747fcd29de1ce4fe0526ac9d7c088eb21156010a7872652e7e85acc2c5e829", func := "scrinium/scriniumlaw20.LinkHonest", spec := "linkHonest", inPlace := ["maps.clone"], unfollowed := true, recurses := true, apart := false, narrowed := true }
def LinkHonestUptoSaid : Prop := linkHonestUptoRow.holds Try.pinned (OpenSpec.upto linkHonestSpec)

/-- 'scriniumlaw20.LinkSure', WHERE WHAT IT READS IS OF BULK AT MOST 1048576: true; the input reads as it did. -/
def linkSureUptoRow : OpenClaim := { program := "ytpkfeepepbchlaa", sum := "58747fcd29de1ce4fe0526ac9d7c088eb21156010a7872652e7e85acc2c5e829", func := "scrinium/scriniumlaw20.LinkSure", spec := "linkSure", inPlace := ["maps.clone"], unfollowed := true, recurses := true, apart := false, narrowed := true }
def LinkSureUptoSaid : Prop := linkSureUptoRow.holds Try.pinned (OpenSpec.upto linkSureSpec)

/-- 'scriniumlaw20.LinkOwn', WHERE WHAT IT READS IS OF BULK AT MOST 1048576: true; the input reads as it did. -/
def linkOwnUptoRow : OpenClaim := { program := "ytpkfeepepbchlaa", sum := "58747fcd29de1ce4fe0526ac9d7c088eb21156010a7872652e7e85acc2c5e829", func := "scrinium/scriniumlaw20.LinkOwn", spec := "linkOwn", inPlace := ["maps.clone"], unfollowed := true, recurses := true, apart := false, narrowed := true }
def LinkOwnUptoSaid : Prop := linkOwnUptoRow.holds Try.pinned (OpenSpec.upto linkOwnSpec)

/-- 'scriniumlaw20.LinkNil', WHERE WHAT IT READS IS OF BULK AT MOST 1048576: true; the input reads as it did. -/
def linkNilUptoRow : OpenClaim := { program := "ytpkfeepepbchlaa", sum := "58747fcd29de1ce4fe0526ac9d7c088eb21156010a7872652e7e85acc2c5e829", func := "scrinium/scriniumlaw20.LinkNil", spec := "linkNil", inPlace := ["maps.clone"], unfollowed := true, recurses := true, apart := false, narrowed := true }
def LinkNilUptoSaid : Prop := linkNilUptoRow.holds Try.pinned (OpenSpec.upto linkNilSpec)

end Rows
end Go.Proofs.Ytpkfeepepbchlaa
