import Derived.Test.YtcffacpdjcfidaaGWr5
namespace Go.Proofs.Ytcffacpdjcfidaa.Sb
open Go.RowKit Go.Proofs.YtcffacpdjcfidaaW.PrintWords Go.Proofs.YtcffacpdjcfidaaW.PrintLast Go.Proofs.YtcffacpdjcfidaaW.PrintMore Go.Proofs.Ytcffacpdjcfidaa.PW
set_option linter.unusedVariables false
set_option linter.unusedSimpArgs false
theorem askB_ex : askB 2 5 ⟨#[97]⟩ [] = ([2, 0, 0, 0, 5, 1, 97, 0], 0) := by decide +kernel
set_option maxRecDepth 20000 in
set_option maxHeartbeats 2000000 in
theorem wakes_calls (w : World) : Calls Try.prog 7 #[] w fun e w' => e = .returned (.bool true) ∧ Below w.heap.size w w' := by
  go_enter Try.func7, Try.ntmps7
  go_wp2_with fail
  refine (PutAsk_calls 2 5 ⟨#[97]⟩ none 0 0 [] w (by omega) (by decide) rfl (Nat.le_refl _) (Kd.C_nil _ _)).mono ?_
  rw [askB_ex]
  rintro e w1 ⟨u, rfl, hu, hb⟩
  obtain ⟨A1, c1, rfl, hc1, hr1⟩ := Kd.R_reads hu
  have HC1 := Aside0.mk hr1; have HB := Aside0.mk hb; have HL := Aside0.mk hc1
  clear hu hr1 hb hc1
  go_wp2_with fail
  refine (same_calls_self A1 8 c1 _ 8 8 [2, 0, 0, 0, 5, 1, 97, 0] _ (Kd.C_alloc HC1.out _) rfl HL.out (C_lit_new .u8 5 w1 [2, 0, 0, 0, 5, 1, 97, 0] 8 _ (by rfl) rfl (by decide)) rfl (Nat.le_refl _) (by omega)).mono ?_
  rintro e w2 ⟨rfl, nd, rfl⟩
  go_wp2_with fail
  go_ret
  exact ⟨rfl, pw_below_drewN (below_alloc HB.out _) nd⟩
end Go.Proofs.Ytcffacpdjcfidaa.Sb
