import Derived.Test.YtpkfeepepbchlaaGLk4
namespace Go.Proofs.Ytpkfeepepbchlaa.Bl
open Go.RowKit Go.Maps Go.Proofs.YtpkfeepepbchlaaW.PrintWords Go.Proofs.YtpkfeepepbchlaaW.PrintLast Go.Proofs.YtpkfeepepbchlaaW.PrintMore Go.Proofs.Ytpkfeepepbchlaa.PK
set_option linter.unusedVariables false
set_option linter.unusedSimpArgs false
section
variable {T S : List Nat} {w : World} {n gp cap : Nat} {q : Int} {ps : List Pr} {fs : List Ft} {num sent ticks : Int}
theorem there_calls (h : Nt S w n gp cap q ps fs num sent ticks) (x : Int) :
    Calls Try.prog 26 #[.pointer (some ⟨n, 0, none⟩), .int .i64 x] w fun e w' => e = .returned (.bool (decide (0 ≤ x ∧ x < ps.length))) ∧ w' = w := by
  obtain ⟨A, c, h1, h2, h3⟩ := h.net
  have c0 : w.cell? ⟨n, 0, none⟩ = some (.slice (some ⟨gp, 0, none⟩) ps.length cap) := (blk_cell h1 0).trans rfl
  clear h h1 h2 h3
  by_cases hx : 0 ≤ x
  · have e1 : decide (0 ≤ x) = true := decide_eq_true hx
    have e2 : decide (0 ≤ x ∧ x < (ps.length : Int)) = decide (x < (ps.length : Int)) := by simp [hx]
    rw [e2]
    clear e2
    go_enter Try.func26, Try.ntmps26
    go_wp2_with fail
    go_ret
    exact ⟨rfl, rfl⟩
  · have e1 : decide (0 ≤ x) = false := decide_eq_false hx
    have e2 : decide (0 ≤ x ∧ x < (ps.length : Int)) = false := decide_eq_false (fun h => hx h.1)
    rw [e2]
    clear e2
    go_enter Try.func26, Try.ntmps26
    go_wp2_with fail
    go_ret
    exact ⟨rfl, rfl⟩
theorem Sent_calls (h : Nt S w n gp cap q ps fs num sent ticks) : Calls Try.prog 11 #[.pointer (some ⟨n, 0, none⟩)] w fun e w' => e = .returned (.int .i64 sent) ∧ w' = w := by
  obtain ⟨A, c, h1, h2, h3⟩ := h.net
  have c0 : w.cell? ⟨n, 3, none⟩ = some (.int .i64 sent) := (blk_cell h1 3).trans rfl
  clear h h1 h2 h3
  go_enter Try.func11, Try.ntmps11
  go_wp2_with fail
  go_ret
  exact ⟨rfl, rfl⟩
theorem Ticks_calls (h : Nt S w n gp cap q ps fs num sent ticks) : Calls Try.prog 22 #[.pointer (some ⟨n, 0, none⟩)] w fun e w' => e = .returned (.int .i64 ticks) ∧ w' = w := by
  obtain ⟨A, c, h1, h2, h3⟩ := h.net
  have c0 : w.cell? ⟨n, 4, none⟩ = some (.int .i64 ticks) := (blk_cell h1 4).trans rfl
  clear h h1 h2 h3
  go_enter Try.func22, Try.ntmps22
  go_wp2_with fail
  go_ret
  exact ⟨rfl, rfl⟩
theorem Provider_calls (h : Nt S w n gp cap q ps fs num sent ticks) {tt : Nat} {p : Pr} (hp : ps[tt]? = some p) : Calls Try.prog 15 #[.pointer (some ⟨n, 0, none⟩), .int .i64 tt] w fun e w' => e = .returned (.pointer (some ⟨p.g, 0, none⟩)) ∧ w' = w := by
  obtain ⟨A, c, h1, h2, h3⟩ := h.net
  have c0 : w.cell? ⟨n, 0, none⟩ = some (.slice (some ⟨gp, 0, none⟩) ps.length cap) := (blk_cell h1 0).trans rfl
  have HH := Aside0.mk h
  clear h h1 h2 h3
  have hlt : tt < ps.length := (List.getElem?_eq_some_iff.1 hp).1
  have hlt2 : (tt : Int) < (ps.length : Int) := by omega
  have g0 : w.cell? ⟨gp, tt * 4, none⟩ = some (.pointer (some ⟨p.g, 0, none⟩)) := by rw [Nat.mul_comm]; exact HH.out.cell hp 0 _ rfl
  have z0 := HH.out.frozen (tt * 4 + 0)
  have e0 : (0 : Int) ≤ (tt : Int) := by omega
  go_enter Try.func15, Try.ntmps15
  go_wp2_with fail
  refine (there_calls HH.out (tt : Int)).mono ?_
  rintro e w1 ⟨rfl, rfl⟩
  have e1 : decide (0 ≤ (tt : Int) ∧ (tt : Int) < (ps.length : Int)) = true := decide_eq_true ⟨by omega, by omega⟩
  rw [e1]
  go_wp2_with fail
  go_ret
  exact ⟨rfl, rfl⟩
theorem Deviated_calls (h : Nt S w n gp cap q ps fs num sent ticks) {tt : Nat} {p : Pr} (hp : ps[tt]? = some p) : Calls Try.prog 14 #[.pointer (some ⟨n, 0, none⟩), .int .i64 tt] w fun e w' => e = .returned (.bool p.dev) ∧ w' = w := by
  obtain ⟨A, c, h1, h2, h3⟩ := h.net
  have c0 : w.cell? ⟨n, 0, none⟩ = some (.slice (some ⟨gp, 0, none⟩) ps.length cap) := (blk_cell h1 0).trans rfl
  have HH := Aside0.mk h
  clear h h1 h2 h3
  have hlt : tt < ps.length := (List.getElem?_eq_some_iff.1 hp).1
  have hlt2 : (tt : Int) < (ps.length : Int) := by omega
  have g0 : w.cell? ⟨gp, tt * 4 + 2, none⟩ = some (.bool p.dev) := by rw [Nat.mul_comm]; exact HH.out.cell hp 2 _ rfl
  have z0 := HH.out.frozen (tt * 4 + 2)
  have e0 : (0 : Int) ≤ (tt : Int) := by omega
  go_enter Try.func14, Try.ntmps14
  go_wp2_with fail
  refine (there_calls HH.out (tt : Int)).mono ?_
  rintro e w1 ⟨rfl, rfl⟩
  have e1 : decide (0 ≤ (tt : Int) ∧ (tt : Int) < (ps.length : Int)) = true := decide_eq_true ⟨by omega, by omega⟩
  rw [e1]
  go_wp2_with fail
  go_ret
  exact ⟨rfl, rfl⟩
end
end Go.Proofs.Ytpkfeepepbchlaa.Bl
