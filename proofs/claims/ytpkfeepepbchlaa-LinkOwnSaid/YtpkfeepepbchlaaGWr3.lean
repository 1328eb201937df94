import Derived.Test.YtpkfeepepbchlaaGWr2
namespace Go.Proofs.Ytpkfeepepbchlaa.Sb
open Go.RowKit Go.Proofs.YtpkfeepepbchlaaW.PrintWords Go.Proofs.YtpkfeepepbchlaaW.PrintLast Go.Proofs.YtpkfeepepbchlaaW.PrintMore Go.Proofs.Ytpkfeepepbchlaa.PK
set_option linter.unusedVariables false
set_option linter.unusedSimpArgs false
set_option maxRecDepth 20000 in
set_option maxHeartbeats 2000000 in
theorem PutAsk_calls (kind num : Int) (name : ByteArray) (A : Option Addr) (n c : Nat) (bd : List Int) (w : World) (hn : True) (hm : True) (hl : bd.length = n) (hc : n ≤ c) (hr : Bs.C w A n bd) :
    Calls Try.prog 25 #[.agg #[.int .i64 kind, .int .i64 num, .string name, .slice A n c]] w fun e w' => ∃ u, e = .returned (.tuple #[u, .int .i64 (askB kind num name bd).2]) ∧ Bs.R 5 w' w.heap.size (fun _ => True) u (askB kind num name bd).1 ∧ Below w.heap.size w w' := by
  have HR := Aside0.mk hr
  clear hr
  go_enter Try.func25, Try.ntmps25
  go_wp2_with fail
  refine (putA_calls kind num name A n c bd _ hn hm hl hc (Kd.C_alloc HR.out _)).mono ?_
  rintro e w1 ⟨u, rfl, hu, hb⟩
  have HU := Aside0.mk hu
  have HB := Aside0.mk hb
  clear hu hb
  go_wp2_with fail
  go_ret2
  exact ⟨u, rfl, Kd.R_lower HU.out (by simp), below_step (below_alloc (Below.refl _ _) _) HB.out⟩
theorem numB1 (x : Int) (h0 : 0 ≤ x) (h1 : x ≤ 255) : (numB x 1).1 = [x] := by
  have hw : wd x = 1 := by unfold wd; rw [if_pos (by omega)]
  unfold numB; rw [hw, if_neg (by omega), if_neg (by omega)]
  show [x % 256] = [x]
  rw [Int.emod_eq_of_lt h0 (by omega)]
theorem numB4 (x : Int) (h1 : x < 4294967296) : (numB x 4).1 = spr x 4 := by
  have hw := wd_small x h1
  unfold numB; rw [if_neg (by omega), if_neg (by omega)]; rfl
end Go.Proofs.Ytpkfeepepbchlaa.Sb
