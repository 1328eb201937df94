import Derived.Test.YtahiadghodhkhaaGPBx0
import Derived.Test.YtahiadghodhkhaaGOpen
namespace Go.Proofs.Ytahiadghodhkhaa.Bl
open Go.RowKit Go.Proofs.YtahiadghodhkhaaW.PrintWords Go.Proofs.Ytahiadghodhkhaa.PB Go.Proofs.Ytahiadghodhkhaa.Open
set_option linter.unusedVariables false
abbrev AskWf (x : S29) : Prop := (Lit.int .i64 x.f0).wf = true ∧ (Lit.int .i64 x.f1).wf = true ∧ x.f2.size ≤ maxLen ∧ (x.f3.length ≤ maxLen ∧ ∀ z, z ∈ x.f3 → (Lit.int .u8 z).wf = true)
theorem asks_opens : Opens Try.prog 29 k29 AskWf :=
  opens_iso (opens_struct Try.underlying29
    (opensF_cons (opens_int Try.underlying3) (by kernel_rfl) rfl (opensF_cons (opens_int Try.underlying3) (by kernel_rfl) rfl (opensF_cons (opens_string Try.underlying9) (by kernel_rfl) rfl
      (opensF_one (opens_slice Try.underlying27 (opens_int Try.underlying5) (by kernel_rfl)) (by kernel_rfl) rfl)))) (by kernel_rfl))
    (fun x : S29 => (x.f0, x.f1, x.f2, x.f3)) (fun p => ⟨p.1, p.2.1, p.2.2.1, p.2.2.2⟩) (fun _ => rfl)
end Go.Proofs.Ytahiadghodhkhaa.Bl
