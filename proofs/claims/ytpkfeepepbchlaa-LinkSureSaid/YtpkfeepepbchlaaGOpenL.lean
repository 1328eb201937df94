import Derived.Test.YtpkfeepepbchlaaGPKx0
import Derived.Test.YtpkfeepepbchlaaGOpen
namespace Go.Proofs.Ytpkfeepepbchlaa.Bl
open Go.RowKit Go.Proofs.YtpkfeepepbchlaaW.PrintWords Go.Proofs.Ytpkfeepepbchlaa.PK Go.Proofs.Ytpkfeepepbchlaa.Open
set_option linter.unusedVariables false
theorem wf_u8 {a : Int} (h : (Lit.int .u8 a).wf = true) : 0 ≤ a ∧ a ≤ 255 := by
  simp [Lit.wf, IntKind.min, IntKind.max, IntKind.signed, IntKind.bits] at h
  omega
end Go.Proofs.Ytpkfeepepbchlaa.Bl
