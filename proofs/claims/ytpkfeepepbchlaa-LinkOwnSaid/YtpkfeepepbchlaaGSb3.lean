import Derived.Test.YtpkfeepepbchlaaGSb2
namespace Go.Proofs.Ytpkfeepepbchlaa.Sb
open Go.RowKit Go.Proofs.YtpkfeepepbchlaaW.PrintWords Go.Proofs.YtpkfeepepbchlaaW.PrintLast Go.Proofs.YtpkfeepepbchlaaW.PrintMore Go.Proofs.Ytpkfeepepbchlaa.PK
set_option linter.unusedVariables false
set_option linter.unusedSimpArgs false
theorem same_calls (A0 : Option Addr) (n0 c0 : Nat) (l0 : List Int) (A1 : Option Addr) (n1 c1 : Nat) (l1 : List Int) (w : World) (hr0 : Bs.C w A0 n0 l0) (h0 : l0.length = n0) (hc0 : n0 ≤ c0) (hr1 : Bs.C w A1 n1 l1) (h1 : l1.length = n1) (hc1 : n1 ≤ c1) (hm : n0 ≤ 140737488355328) :
    Calls Try.prog 32 #[.slice A0 n0 c0, .slice A1 n1 c1] w fun e w' => e = .returned (.bool (decide (l0 = l1))) ∧ ∃ n, w' = w.drewN n := by
  subst h0 h1
  refine (scriniumref01_Same.calls (l0.length + 1) A0 c0 l0 A1 c1 l1 _ w hr0 hc0 hr1 hc1 (same_is l0 l1 _ hm (by omega))).mono ?_
  rintro e w' ⟨rfl, hd⟩
  exact ⟨rfl, hd.out⟩
theorem same_calls_self (A0 : Option Addr) (n0 c0 : Nat) (A1 : Option Addr) (n1 c1 : Nat) (l : List Int) (w : World) (hr0 : Bs.C w A0 n0 l) (h0 : l.length = n0) (hc0 : n0 ≤ c0) (hr1 : Bs.C w A1 n1 l) (h1 : l.length = n1) (hc1 : n1 ≤ c1) (hm : n0 ≤ 140737488355328) :
    Calls Try.prog 32 #[.slice A0 n0 c0, .slice A1 n1 c1] w fun e w' => e = .returned (.bool true) ∧ ∃ n, w' = w.drewN n := by
  have := same_calls A0 n0 c0 l A1 n1 c1 l w hr0 h0 hc0 hr1 h1 hc1 hm
  simpa using this
end Go.Proofs.Ytpkfeepepbchlaa.Sb
