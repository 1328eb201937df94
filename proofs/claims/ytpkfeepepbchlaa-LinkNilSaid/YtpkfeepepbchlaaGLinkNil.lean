import Derived.Test.YtpkfeepepbchlaaGLkA
import Derived.Test.YtpkfeepepbchlaaGOpenW
namespace Go.Proofs.Ytpkfeepepbchlaa.Bl
open Go.RowKit Go.Maps Go.Proofs.YtpkfeepepbchlaaW.PrintWords Go.Proofs.YtpkfeepepbchlaaW.PrintLast Go.Proofs.YtpkfeepepbchlaaW.PrintMore Go.Proofs.Ytpkfeepepbchlaa.PK
set_option linter.unusedVariables false
set_option linter.unusedSimpArgs false
theorem ts_new' (n gp : Nat) (ps : List Pr) : Ts (n :: gp :: ps.map (·.b)) (n :: gp :: ps.map (·.b)) n gp ps := ⟨by simp, by simp, fun p hp => by simp only [List.mem_cons, List.mem_map]; exact .inr (.inr ⟨p, hp, rfl⟩), fun _ h => h⟩
theorem More_nil (v : Value) (w : World) : Calls Try.prog 20 #[.pointer none, v] w fun e w' => e = .returned (.tuple #[]) ∧ w' = w := by
  go_enter Try.func20, Try.ntmps20
  go_wp2_with fail
  refine bodyPost_ret (results_none rfl _ _ _) rfl ?_
  exact ⟨rfl, rfl⟩
theorem Own_nil (x : Int) (v : Value) (w : World) : Calls Try.prog 17 #[.pointer none, .int .i64 x, v] w fun e w' => e = .returned (.tuple #[]) ∧ w' = w := by
  go_enter Try.func17, Try.ntmps17
  go_wp2_with fail
  refine (there_nil x w).mono ?_
  rintro e w1 ⟨rfl, rfl⟩
  go_wp2_with fail
  refine bodyPost_ret (results_none rfl _ _ _) rfl ?_
  exact ⟨rfl, rfl⟩
set_option maxRecDepth 20000 in
set_option maxHeartbeats 16000000 in
theorem LinkNil_walk (kind num : Int) (k : ByteArray) (A : Option Addr) (c : Nat) (t : List Int) (x : Int) (w : World) (hc : t.length ≤ c) (hr : Bs.C w A t.length t) :
    Calls Try.prog 7 #[.agg #[.int .i64 kind, .int .i64 num, .string k, .slice A t.length c], .int .i64 x] w fun e w' => e = .returned (.bool true) ∧ Below w.heap.size w w' := by
  have HR := Aside0.mk hr
  clear hr
  have KA0 := Aside0.mk (blk_new w (.cells #[.int .i64 kind, .int .i64 num, .string k, .slice A t.length c] 30))
  have B0 := Aside0.mk (below_alloc (Below.refl w.heap.size w) (.cells #[.int .i64 kind, .int .i64 num, .string k, .slice A t.length c] 30))
  go_enter Try.func7, Try.ntmps7
  go_wp2_with fail
  generalize w.alloc (.cells #[.int .i64 kind, .int .i64 num, .string k, .slice A t.length c] 30) = w0 at KA0 B0 ⊢
  refine (wakes_calls _).mono ?_
  rintro e w1 ⟨rfl, hb1⟩
  have KA1 := Aside0.mk (blk_below KA0.out hb1)
  have B1 := Aside0.mk (B0.out.trans (hb1.mono B0.out.size))
  clear hb1 KA0 B0
  go_wp2_with fail
  refine (More_nil _ w1).mono ?_
  rintro e w2 ⟨rfl, rfl⟩
  go_wp2_with fail
  refine (Blame_nil x w2).mono ?_
  rintro e w3 ⟨rfl, rfl⟩
  go_wp2_with fail
  refine (Own_nil x _ w3).mono ?_
  rintro e w4 ⟨rfl, rfl⟩
  have a0 : w4.cell? ⟨w.heap.size, 0, none⟩ = some (.int .i64 kind) := (blk_cell (KA1.out) 0).trans rfl
  have a1 : w4.cell? ⟨w.heap.size, 1, none⟩ = some (.int .i64 num) := (blk_cell (KA1.out) 1).trans rfl
  have a2 : w4.cell? ⟨w.heap.size, 2, none⟩ = some (.string k) := (blk_cell (KA1.out) 2).trans rfl
  have a3 : w4.cell? ⟨w.heap.size, 3, none⟩ = some (.slice A t.length c) := (blk_cell (KA1.out) 3).trans rfl
  go_wp2_with fail
  refine (Ask_nil x kind num k A c t w4 (Kd.C_below HR.out B1.out) hc).mono ?_
  rintro e w5 ⟨rfl, hb5⟩
  have B5 := Aside0.mk (B1.out.trans (hb5.mono B1.out.size))
  clear hb5 B1 KA1 a0 a1 a2 a3
  go_wp2_with fail
  have B6 := Aside0.mk (below_alloc B5.out (.cells #[.int .i64 0, .int .i64 0, .slice none 0 0, .slice none 0 0] 36))
  generalize w5.alloc (.cells #[.int .i64 0, .int .i64 0, .slice none 0 0, .slice none 0 0] 36) = w6 at B6 ⊢
  refine (New_net 3 (by omega) 10 (by omega) none 0 [] w6 (Kd.C_nil _ _) (Nat.le_refl _) (by simp) (by simp)).mono ?_
  rintro e w7 ⟨n, gp, cap, ps, rfl, hN, hpl, hps, hnew, hb7⟩
  have hTs := ts_new' n gp ps
  have HSN := Aside0.mk (show ∀ s ∈ n :: gp :: ps.map (·.b), w.heap.size ≤ s from fun s hs => Nat.le_trans B6.out.size (hnew s hs))
  generalize n :: gp :: ps.map (·.b) = S at hN hTs HSN
  have B7 := Aside0.mk (B6.out.trans (hb7.mono B6.out.size))
  have N7 := Aside0.mk hN
  have HPS := Aside0.mk hps
  clear hb7 hN hnew hps B5 B6
  by_cases hx : 0 ≤ x ∧ x < 3
  · obtain ⟨tt, rfl⟩ := Int.eq_ofNat_of_zero_le hx.1
    have hlt : tt < ps.length := by have := hx.2; omega
    have hp : ps[tt]? = some ps[tt] := List.getElem?_eq_getElem hlt
    generalize ps[tt] = p at hp
    have hdv := (HPS.out p (List.mem_of_getElem? hp)).2.2.1
    go_wp2_with fail
    refine (Blame_calls N7.out hTs hp).mono ?_
    rintro e w8 ⟨rfl, hN8, hT8⟩
    have B8 := Aside0.mk (Tn.below B7.out hT8 B7.out.size HSN.out)
    have N8 := Aside0.mk hN8
    have hp8 : (ps.set tt { p with bl := true })[tt]? = some { p with bl := true } := List.getElem?_set_self hlt
    clear hN8 hT8
    have e1 : (0 : Int) ≤ (tt : Int) := by omega
    have e2 : (tt : Int) < 3 := hx.2
    have e3 : decide ((0 : Int) ≤ (tt : Int)) = true := decide_eq_true e1
    have e4 : decide ((tt : Int) < 3) = true := decide_eq_true e2
    go_wp2_with fail
    refine (Provider_nil (tt : Int) w8).mono ?_
    rintro e w9 ⟨rfl, rfl⟩
    go_wp2_with fail
    refine (Sent_nil w9).mono ?_
    rintro e w10 ⟨rfl, rfl⟩
    go_wp2_with fail
    refine (Ticks_nil w10).mono ?_
    rintro e w11 ⟨rfl, rfl⟩
    go_wp2_with fail
    refine (Deviated_nil (tt : Int) w11).mono ?_
    rintro e w12 ⟨rfl, rfl⟩
    go_wp2_with fail
    refine (Blamed_nil (tt : Int) w12).mono ?_
    rintro e w13 ⟨rfl, rfl⟩
    go_wp2_with fail
    refine (Blamed_calls N8.out hp8).mono ?_
    rintro e w14 ⟨rfl, rfl⟩
    go_wp2_with fail
    refine (Deviated_calls N8.out hp8).mono ?_
    rintro e w15 ⟨rfl, rfl⟩
    simp only [hdv]
    go_wp2_with fail
    go_ret
    exact ⟨rfl, B8.out⟩
  · go_wp2_with fail
    refine (Blame_out N7.out x (by rw [hpl]; exact hx)).mono ?_
    rintro e w8 ⟨rfl, rfl⟩
    by_cases e1 : 0 ≤ x
    · have e2 : ¬ x < 3 := fun h => hx ⟨e1, h⟩
      have e3 : decide (0 ≤ x) = true := decide_eq_true e1
      have e4 : decide (x < 3) = false := decide_eq_false e2
      go_wp2_with fail
      refine (Provider_nil x w8).mono ?_
      rintro e w9 ⟨rfl, rfl⟩
      go_wp2_with fail
      refine (Sent_nil w9).mono ?_
      rintro e w10 ⟨rfl, rfl⟩
      go_wp2_with fail
      refine (Ticks_nil w10).mono ?_
      rintro e w11 ⟨rfl, rfl⟩
      go_wp2_with fail
      refine (Deviated_nil x w11).mono ?_
      rintro e w12 ⟨rfl, rfl⟩
      go_wp2_with fail
      refine (Blamed_nil x w12).mono ?_
      rintro e w13 ⟨rfl, rfl⟩
      go_wp2_with fail
      refine (Blamed_out N7.out x (by rw [hpl]; exact hx)).mono ?_
      rintro e w14 ⟨rfl, rfl⟩
      go_wp2_with fail
      refine (Deviated_out N7.out x (by rw [hpl]; exact hx)).mono ?_
      rintro e w15 ⟨rfl, rfl⟩
      go_wp2_with fail
      go_ret
      exact ⟨rfl, B7.out⟩
    · have e3 : decide (0 ≤ x) = false := decide_eq_false e1
      go_wp2_with fail
      refine (Provider_nil x w8).mono ?_
      rintro e w9 ⟨rfl, rfl⟩
      go_wp2_with fail
      refine (Sent_nil w9).mono ?_
      rintro e w10 ⟨rfl, rfl⟩
      go_wp2_with fail
      refine (Ticks_nil w10).mono ?_
      rintro e w11 ⟨rfl, rfl⟩
      go_wp2_with fail
      refine (Deviated_nil x w11).mono ?_
      rintro e w12 ⟨rfl, rfl⟩
      go_wp2_with fail
      refine (Blamed_nil x w12).mono ?_
      rintro e w13 ⟨rfl, rfl⟩
      go_wp2_with fail
      refine (Blamed_out N7.out x (by rw [hpl]; exact hx)).mono ?_
      rintro e w14 ⟨rfl, rfl⟩
      go_wp2_with fail
      refine (Deviated_out N7.out x (by rw [hpl]; exact hx)).mono ?_
      rintro e w15 ⟨rfl, rfl⟩
      go_wp2_with fail
      go_ret
      exact ⟨rfl, B7.out⟩
theorem LinkNil_row (kind num : Int) (k : ByteArray) (A : Option Addr) (n c : Nat) (t : List Int) {P Q : Prop} {R : Int → Prop} {w : World} (h : t.length = n ∧ Bs.C w A n t ∧ n ≤ c ∧ P ∧ Q ∧ ∀ z, z ∈ t → R z) (x : Int) (wx : (Lit.int .i64 x).wf = true) :
    Calls Try.prog 7 #[.agg #[.int .i64 kind, .int .i64 num, .string k, .slice A n c], .int .i64 x] w fun e w' => e = .returned (.bool true) ∧ Below w.heap.size w w' := by
  obtain ⟨rfl, hC, hc, _⟩ := h
  exact LinkNil_walk kind num k A c t x w hc hC
end Go.Proofs.Ytpkfeepepbchlaa.Bl
