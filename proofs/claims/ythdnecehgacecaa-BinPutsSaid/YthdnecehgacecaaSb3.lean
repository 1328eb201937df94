/- The examples of layer 1 hold ('wakes' answers true); what stays readable beside a writer. -/
import Derived.Test.YthdnecehgacecaaSb2
namespace Go.Proofs.Ythdnecehgacecaa.Sb
open Go.RowKit Go.Proofs.YthdnecehgacecaaW.PrintWords Go.Proofs.YthdnecehgacecaaW.PrintLast Go.Proofs.YthdnecehgacecaaW.PrintMore Go.Proofs.Ythdnecehgacecaa.PB
set_option linter.unusedVariables false
set_option linter.unusedSimpArgs false

set_option maxHeartbeats 1000000 in
theorem wakes01_calls (w : World) : Calls Try.prog 15 #[] w fun e w' => e = .returned (.bool true) ∧ Below w.heap.size w w' := by
  have s1 : smallB 250 = ([250], 0) := by decide +kernel
  have s2 : smallB 251 = ([251, 251], 0) := by decide +kernel
  have s3 : smallB 256 = ([252, 1, 0], 0) := by decide +kernel
  go_enter Try.func15, Try.ntmps15
  go_wp2_with fail
  refine (Small_to s1 _ (by decide) (by decide) (blk_new _ _) (Kd.R_nil _ _ _ w.heap.size _) (Nat.le_refl _) (by simp)).mono ?_
  rintro e w1 ⟨rfl, v1, h1⟩
  have H1 := Aside0.mk h1; clear h1
  go_wp2_with fail
  refine (Small_to s2 _ (by decide) (by decide) H1.out.blk H1.out.row (Nat.le_refl _) (by simp)).mono ?_
  rintro e w2 ⟨rfl, v2, h2⟩
  have H2 := Aside0.mk h2; clear h2
  go_wp2_with fail
  refine (Small_to s3 _ (by decide) (by decide) H2.out.blk H2.out.row (Nat.le_refl _) (by simp)).mono ?_
  rintro e w3 ⟨rfl, v3, h3⟩
  have H3 := Aside0.mk h3; clear h3
  go_wp2_with fail
  refine (Out_calls w.heap.size w.heap.size v3 _ _ H3.out.blk H3.out.row (by simp)).mono ?_
  rintro e w4 ⟨u, rfl, hu, hb4⟩
  obtain ⟨A4, c4, rfl, hc4, hr4⟩ := Kd.R_reads hu
  have HR := Aside0.mk hr4; have HC := Aside0.mk hc4; have HB := Aside0.mk hb4
  clear hu hr4 hc4 hb4
  go_wp2_with fail
  have hsame : scriniumref01_Same.f 9 ([] ++ [250] ++ [251, 251] ++ [252, 1, 0]) [250, 251, 251, 252, 1, 0] = some true := by decide +kernel
  have HSm := Aside0.mk hsame; clear hsame
  refine (scriniumref01_Same.calls 9 A4 c4 ([] ++ [250] ++ [251, 251] ++ [252, 1, 0]) (some ⟨w4.heap.size, 0, none⟩) 6 [250, 251, 251, 252, 1, 0] true _ (Kd.C_alloc HR.out _) HC.out (C_lit_new .u8 5 w4 [250, 251, 251, 252, 1, 0] 6 _ (by rfl) rfl (by decide)) (by decide) HSm.out).mono ?_
  rintro e w5 ⟨rfl, ⟨nd, rfl⟩⟩
  go_wp2
  go_ret
  refine ⟨rfl, pw_below_drewN (below_alloc ?_ _) _⟩
  exact below_step (((below_alloc (Below.refl _ _) _).trans H1.out.below).trans (H2.out.below.trans H3.out.below)) HB.out

/-- The reference's Same, whatever the lengths' spelling. -/
theorem same_calls (A0 : Option Addr) (n0 c0 : Nat) (l0 : List Int) (A1 : Option Addr) (n1 c1 : Nat) (l1 : List Int) (w : World) (hr0 : Bs.C w A0 n0 l0) (h0 : l0.length = n0) (hc0 : n0 ≤ c0) (hr1 : Bs.C w A1 n1 l1) (h1 : l1.length = n1) (hc1 : n1 ≤ c1) (hm : n0 ≤ 140737488355328) :
    Calls Try.prog 25 #[.slice A0 n0 c0, .slice A1 n1 c1] w fun e w' => e = .returned (.bool (decide (l0 = l1))) ∧ ∃ n, w' = w.drewN n := by
  subst h0 h1
  refine (scriniumref01_Same.calls (l0.length + 1) A0 c0 l0 A1 c1 l1 _ w hr0 hc0 hr1 hc1 (same_is l0 l1 _ hm (by omega))).mono ?_
  rintro e w' ⟨rfl, hd⟩
  exact ⟨rfl, hd.out⟩
theorem same_calls_self (A0 : Option Addr) (n0 c0 : Nat) (A1 : Option Addr) (n1 c1 : Nat) (l : List Int) (w : World) (hr0 : Bs.C w A0 n0 l) (h0 : l.length = n0) (hc0 : n0 ≤ c0) (hr1 : Bs.C w A1 n1 l) (h1 : l.length = n1) (hc1 : n1 ≤ c1) (hm : n0 ≤ 140737488355328) :
    Calls Try.prog 25 #[.slice A0 n0 c0, .slice A1 n1 c1] w fun e w' => e = .returned (.bool true) ∧ ∃ n, w' = w.drewN n := by
  have := same_calls A0 n0 c0 l A1 n1 c1 l w hr0 h0 hc0 hr1 h1 hc1 hm
  simpa using this
end Go.Proofs.Ythdnecehgacecaa.Sb
