import Derived.Test.YtahiadghodhkhaaGWr2
namespace Go.Proofs.Ytahiadghodhkhaa.Sb
open Go.RowKit Go.Proofs.YtahiadghodhkhaaW.PrintWords Go.Proofs.YtahiadghodhkhaaW.PrintLast Go.Proofs.YtahiadghodhkhaaW.PrintMore Go.Proofs.Ytahiadghodhkhaa.PB
set_option linter.unusedVariables false
set_option linter.unusedSimpArgs false
set_option maxRecDepth 20000 in
set_option maxHeartbeats 2000000 in
theorem PutAsk_calls (kind num : Int) (name : ByteArray) (A : Option Addr) (n c : Nat) (bd : List Int) (w : World) (hn : True) (hm : True) (hl : bd.length = n) (hc : n ≤ c) (hr : Bs.C w A n bd) :
    Calls Try.prog 23 #[.agg #[.int .i64 kind, .int .i64 num, .string name, .slice A n c]] w fun e w' => ∃ u, e = .returned (.tuple #[u, .int .i64 (askB kind num name bd).2]) ∧ Bs.R 5 w' w.heap.size (fun _ => True) u (askB kind num name bd).1 ∧ Below w.heap.size w w' := by
  have HR := Aside0.mk hr
  clear hr
  go_enter Try.func23, Try.ntmps23
  go_wp2_with fail
  refine (putA_calls kind num name A n c bd _ hn hm hl hc (Kd.C_alloc HR.out _)).mono ?_
  rintro e w1 ⟨u, rfl, hu, hb⟩
  have HU := Aside0.mk hu
  have HB := Aside0.mk hb
  clear hu hb
  go_wp2_with fail
  go_ret2
  exact ⟨u, rfl, Kd.R_lower HU.out (by simp), below_step (below_alloc (Below.refl _ _) _) HB.out⟩
theorem refRight_is (kind num : Int) (name : ByteArray) (bd : List Int) : scriniumref16_RightAsk.f kind num name bd = some (okA kind num name.size bd.length) := by
  unfold scriniumref16_RightAsk.f okA
  repeat' split
  all_goals (congr 1)
  all_goals first | (rw [eq_comm, decide_eq_false_iff_not]; omega) | (rw [eq_comm, decide_eq_true_eq]; omega) | skip
  rw [Bool.eq_iff_iff, beq_iff_eq, decide_eq_true_eq]
  omega
theorem text16_is (l : List Int) : scriniumref16_text.f 9 l = some (textB l).1 := by
  unfold scriniumref16_text.f; rw [refText_is]; rfl
theorem text16_calls (A : Option Addr) (n c : Nat) (l q : List Int) (w : World) (hr : Bs.C w A n l) (hn : l.length = n) (hc : n ≤ c) (hq : scriniumref16_text.f 9 l = some q) :
    Calls Try.prog 42 #[.slice A n c] w fun e w' => ∃ u, e = .returned u ∧ Bs.R 5 w' w.heap.size (fun _ => True) u q ∧ Below w.heap.size w w' := by
  subst hn
  exact scriniumref16_text.calls 9 A c l q w hr hc hq
theorem numB1 (x : Int) (h0 : 0 ≤ x) (h1 : x ≤ 255) : (numB x 1).1 = [x] := by
  have hw : wd x = 1 := by unfold wd; rw [if_pos (by omega)]
  unfold numB; rw [hw, if_neg (by omega), if_neg (by omega)]
  show [x % 256] = [x]
  rw [Int.emod_eq_of_lt h0 (by omega)]
theorem numB4 (x : Int) (h1 : x < 4294967296) : (numB x 4).1 = spr x 4 := by
  have hw := wd_small x h1
  unfold numB; rw [if_neg (by omega), if_neg (by omega)]; rfl
end Go.Proofs.Ytahiadghodhkhaa.Sb
