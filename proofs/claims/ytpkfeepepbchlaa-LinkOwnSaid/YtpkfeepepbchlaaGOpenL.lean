import Derived.Test.YtpkfeepepbchlaaGPKx0
import Derived.Test.YtpkfeepepbchlaaGOpen
namespace Go.Proofs.Ytpkfeepepbchlaa.Bl
open Go.RowKit Go.Proofs.YtpkfeepepbchlaaW.PrintWords Go.Proofs.Ytpkfeepepbchlaa.PK Go.Proofs.Ytpkfeepepbchlaa.Open
set_option linter.unusedVariables false
abbrev AskWf (x : S30) : Prop := (Lit.int .i64 x.f0).wf = true ∧ (Lit.int .i64 x.f1).wf = true ∧ x.f2.size ≤ maxLen ∧ (x.f3.length ≤ maxLen ∧ ∀ z, z ∈ x.f3 → (Lit.int .u8 z).wf = true)
theorem asks_opens : Opens Try.prog 30 k30 AskWf :=
  opens_iso (opens_struct Try.underlying30
    (opensF_cons (opens_int Try.underlying3) (by kernel_rfl) rfl (opensF_cons (opens_int Try.underlying3) (by kernel_rfl) rfl (opensF_cons (opens_string Try.underlying9) (by kernel_rfl) rfl
      (opensF_one (opens_slice Try.underlying28 (opens_int Try.underlying5) (by kernel_rfl)) (by kernel_rfl) rfl)))) (by kernel_rfl))
    (fun x : S30 => (x.f0, x.f1, x.f2, x.f3)) (fun p => ⟨p.1, p.2.1, p.2.2.1, p.2.2.2⟩) (fun _ => rfl)
abbrev FateWf (x : S43) : Prop := (Lit.int .i64 x.f0).wf = true ∧ (x.f1.length ≤ maxLen ∧ ∀ z, z ∈ x.f1 → (Lit.int .u8 z).wf = true)
theorem fates_opens : Opens Try.prog 43 k43 FateWf :=
  opens_iso (opens_struct Try.underlying43
    (opensF_cons (opens_int Try.underlying3) (by kernel_rfl) rfl (opensF_one (opens_slice Try.underlying28 (opens_int Try.underlying5) (by kernel_rfl)) (by kernel_rfl) rfl)) (by kernel_rfl))
    (fun x : S43 => (x.f0, x.f1)) (fun p => ⟨p.1, p.2⟩) (fun _ => rfl)
abbrev ActWf (x : S32) : Prop := (Lit.int .i64 x.f0).wf = true ∧ (Lit.int .i64 x.f1).wf = true ∧ AskWf x.f2 ∧ (x.f3.length ≤ maxLen ∧ ∀ z, z ∈ x.f3 → FateWf z)
theorem acts_opens : Opens Try.prog 32 k32 ActWf :=
  opens_iso (opens_struct Try.underlying32
    (opensF_cons (opens_int Try.underlying3) (by kernel_rfl) rfl (opensF_cons (opens_int Try.underlying3) (by kernel_rfl) rfl (opensF_cons asks_opens (by kernel_rfl) rfl
      (opensF_one (opens_slice Try.underlying22 fates_opens (by kernel_rfl)) (by kernel_rfl) rfl)))) (by kernel_rfl))
    (fun x : S32 => (x.f0, x.f1, x.f2, x.f3)) (fun p => ⟨p.1, p.2.1, p.2.2.1, p.2.2.2⟩) (fun _ => rfl)
theorem wf_u8 {a : Int} (h : (Lit.int .u8 a).wf = true) : 0 ≤ a ∧ a ≤ 255 := by
  simp [Lit.wf, IntKind.min, IntKind.max, IntKind.signed, IntKind.bits] at h
  omega
end Go.Proofs.Ytpkfeepepbchlaa.Bl
