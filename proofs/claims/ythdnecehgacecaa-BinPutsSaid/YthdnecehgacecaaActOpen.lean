/- An act that came in, opened. -/
import Derived.Test.YthdnecehgacecaaBinTakes
import Derived.Test.YthdnecehgacecaaOpen
namespace Go.Proofs.Ythdnecehgacecaa.Sb
open Go.RowKit Go.Proofs.YthdnecehgacecaaW.PrintWords Go.Proofs.Ythdnecehgacecaa.PB Go.Proofs.Ythdnecehgacecaa.Open
set_option linter.unusedVariables false

theorem act_opens : Opens Try.prog 43 kAct ActWf :=
  opens_iso (opens_struct Try.underlying43
    (opensF_cons (opens_int Try.underlying3) (by kernel_rfl) rfl (opensF_cons (opens_int Try.underlying3) (by kernel_rfl) rfl (opensF_cons (opens_int Try.underlying36) (by kernel_rfl) rfl
      (opensF_one (opens_slice Try.underlying32 (opens_int Try.underlying5) (by kernel_rfl)) (by kernel_rfl) rfl)))) (by kernel_rfl))
    (fun x : Act => (x.f0, x.f1, x.f2, x.f3)) (fun p => ⟨p.1, p.2.1, p.2.2.1, p.2.2.2⟩) (fun _ => rfl)
end Go.Proofs.Ythdnecehgacecaa.Sb
