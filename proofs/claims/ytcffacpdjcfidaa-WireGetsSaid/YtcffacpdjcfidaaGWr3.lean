import Derived.Test.YtcffacpdjcfidaaGWr2
namespace Go.Proofs.Ytcffacpdjcfidaa.Sb
open Go.RowKit Go.Proofs.YtcffacpdjcfidaaW.PrintWords Go.Proofs.YtcffacpdjcfidaaW.PrintLast Go.Proofs.YtcffacpdjcfidaaW.PrintMore Go.Proofs.Ytcffacpdjcfidaa.PW
set_option linter.unusedVariables false
set_option linter.unusedSimpArgs false
set_option maxRecDepth 20000 in
set_option maxHeartbeats 2000000 in
theorem PutAsk_calls (kind num : Int) (name : ByteArray) (A : Option Addr) (n c : Nat) (bd : List Int) (w : World) (hn : n ≤ 140737488355328) (hm : name.size ≤ 140737488355328) (hl : bd.length = n) (hc : n ≤ c) (hr : Bs.C w A n bd) :
    Calls Try.prog 8 #[.agg #[.int .i64 kind, .int .i64 num, .string name, .slice A n c]] w fun e w' => ∃ u, e = .returned (.tuple #[u, .int .i64 (askB kind num name bd).2]) ∧ Bs.R 5 w' w.heap.size (fun _ => True) u (askB kind num name bd).1 ∧ Below w.heap.size w w' := by
  have HR := Aside0.mk hr
  clear hr
  go_enter Try.func8, Try.ntmps8
  go_wp2_with fail
  refine (putA_calls kind num name A n c bd _ hn hm hl hc (Kd.C_alloc HR.out _)).mono ?_
  rintro e w1 ⟨u, rfl, hu, hb⟩
  have HU := Aside0.mk hu
  have HB := Aside0.mk hb
  clear hu hb
  go_wp2_with fail
  go_ret2
  exact ⟨u, rfl, Kd.R_lower HU.out (by simp), below_step (below_alloc (Below.refl _ _) _) HB.out⟩
theorem refRight_is (kind num : Int) (name : ByteArray) (bd : List Int) : scriniumref16_RightAsk.f kind num name bd = some (okA kind num name.size bd.length) := by
  unfold scriniumref16_RightAsk.f okA
  repeat' split
  all_goals (congr 1)
  all_goals first | (rw [eq_comm, decide_eq_false_iff_not]; omega) | (rw [eq_comm, decide_eq_true_eq]; omega) | skip
  rw [Bool.eq_iff_iff, beq_iff_eq, decide_eq_true_eq]
  omega
end Go.Proofs.Ytcffacpdjcfidaa.Sb
