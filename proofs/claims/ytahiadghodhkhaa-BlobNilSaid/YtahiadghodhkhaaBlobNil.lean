/- blob: BlobNil. -/
import Derived.Test.YtahiadghodhkhaaBc
import Derived.Test.YtahiadghodhkhaaWr9
namespace Go.Proofs.Ytahiadghodhkhaa.Bl
open Go.RowKit Go.Maps Go.Proofs.YtahiadghodhkhaaW.PrintWords Go.Proofs.YtahiadghodhkhaaW.PrintLast Go.Proofs.YtahiadghodhkhaaW.PrintMore Go.Proofs.Ytahiadghodhkhaa.PB
set_option linter.unusedVariables false
set_option linter.unusedSimpArgs false

theorem fld (a b : Int) (c d : Value) (w : World) : (Instr.field 32 (.agg #[.int .i64 a, .int .i64 b, c, d]) 1).run Try.prog w = .ok (.int .i64 b) w := by
  simp [Instr.field, run_underlying Try.underlying32, go_sem, asAgg, Result.andThen]
theorem Size_nil (w : World) : Calls Try.prog 14 #[.pointer none] w fun e w' => e = .returned (.int .i64 0) ∧ Below w.heap.size w w' := by
  go_enter Try.func14, Try.ntmps14
  go_wp2_with fail
  go_ret
  exact ⟨rfl, Below.refl _ _⟩
theorem Copy_nil (w : World) : Calls Try.prog 17 #[.pointer none] w fun e w' => e = .returned (.pointer none) ∧ Below w.heap.size w w' := by
  go_enter Try.func17, Try.ntmps17
  go_wp2_with fail
  go_ret
  exact ⟨rfl, Below.refl _ _⟩

set_option maxRecDepth 20000 in
set_option maxHeartbeats 4000000 in
/-- Serve where the bytes are no ask. -/
theorem Serve_bad (P : Option Addr) (A : Option Addr) (n c : Nat) (s : List Int) (w : World) (hr : Bs.C w A n s) (hn : s.length = n) (hc : n ≤ c) (hl : n ≤ 70000) (hb : Sb.Bytes s) (he : (Sb.getA s).2.2.2.2 ≠ 0) :
    Calls Try.prog 25 #[.pointer P, .slice A n c] w fun e w' => ∃ u, e = .returned u ∧ Bs.R 5 w' w.heap.size (fun _ => True) u [3, 0, 0, 0, 0, 0, 0] ∧ Below w.heap.size w w' := by
  go_enter Try.func25, Try.ntmps25
  go_wp2_with fail
  refine (Sb.GetAsk_calls A n c s w hr hn hc hl hb).mono ?_
  rintro e w1 ⟨u, rfl, hR, hb1⟩
  obtain ⟨A0, c0, rfl, _, _⟩ := Kd.R_reads hR
  have B1 := Aside0.mk hb1
  clear hR hb1
  generalize (Sb.getA s).2.2.2.2 = er at he ⊢
  generalize (Sb.getA s).2.2.2.1.length = nl
  generalize (Sb.getA s).1 = g1
  generalize (Sb.getA s).2.1 = g2
  generalize strOfNums (Sb.getA s).2.2.1 = g3
  go_wp2_with fail
  refine (foreign_calls 0 _).mono ?_
  rintro e w2 ⟨vb, vn, rfl, hvb, hvn, hb2⟩
  obtain ⟨A1, c1, rfl, hc1, hC1⟩ := Kd.R_reads hvb
  obtain ⟨A2, c2, rfl, hc2, hC2⟩ := Kd.R_reads hvn
  have HC1 := Aside0.mk hC1
  have HC2 := Aside0.mk hC2
  have B2 := Aside0.mk (below_alloc ((below_alloc B1.out (.cells #[.int .i64 g1, .int .i64 g2, .string g3, .slice A0 nl c0] 29)).trans (hb2.mono (below_alloc B1.out _).size)) (.cells #[.int .i64 0, .int .i64 3, .slice A1 0 c1, .slice A2 0 c2] 32))
  clear hvb hvn hC1 hC2 hb2
  rw [show fnum 0 = 0 from rfl]
  simp only [List.length_nil] at hc1 hc2 HC1 HC2 ⊢
  go_wp2_with fail
  refine (Sb.PutAnswer_calls 0 3 A1 0 c1 [] A2 c2 [] _ (by decide) (by decide) rfl hc1 (Kd.C_alloc HC1.out _) (Kd.C_alloc HC2.out _)).mono ?_
  rintro e w3 ⟨u, rfl, hU, hb3⟩
  rw [show (Sb.ansB 0 3 [] []).1 = [3, 0, 0, 0, 0, 0, 0] by decide +kernel] at hU
  have HU := Aside0.mk (Kd.R_lower hU B2.out.size)
  have B3 := Aside0.mk (B2.out.trans (hb3.mono B2.out.size))
  clear hU hb3
  go_wp2_with fail
  go_ret
  exact ⟨_, rfl, HU.out, B3.out⟩

set_option maxRecDepth 20000 in
set_option maxHeartbeats 8000000 in
theorem BlobNil_walk (kind num : Int) (k : ByteArray) (A : Option Addr) (c : Nat) (t : List Int) (w : World) (hc : t.length ≤ c) (hr : Bs.C w A t.length t) :
    Calls Try.prog 8 #[.agg #[.int .i64 kind, .int .i64 num, .string k, .slice A t.length c]] w fun e w' => e = .returned (.bool true) ∧ Below w.heap.size w w' := by
  have HR := Aside0.mk hr
  clear hr
  have KA0 := Aside0.mk (blk_new w (.cells #[.int .i64 kind, .int .i64 num, .string k, .slice A t.length c] 29))
  have B0 := Aside0.mk (below_alloc (Below.refl w.heap.size w) (.cells #[.int .i64 kind, .int .i64 num, .string k, .slice A t.length c] 29))
  go_enter Try.func8, Try.ntmps8
  go_wp2_with fail
  refine (wakes_calls _).mono ?_
  rintro e w1 ⟨rfl, hb1⟩
  have KA1 := Aside0.mk (blk_below KA0.out hb1)
  have B1 := Aside0.mk (B0.out.trans (hb1.mono B0.out.size))
  clear hb1
  have a0 : (w1).cell? ⟨w.heap.size, 0, none⟩ = some (.int .i64 kind) := (blk_cell (KA1.out) 0).trans rfl
  have a1 : (w1).cell? ⟨w.heap.size, 1, none⟩ = some (.int .i64 num) := (blk_cell (KA1.out) 1).trans rfl
  have a2 : (w1).cell? ⟨w.heap.size, 2, none⟩ = some (.string k) := (blk_cell (KA1.out) 2).trans rfl
  have a3 : (w1).cell? ⟨w.heap.size, 3, none⟩ = some (.slice A t.length c) := (blk_cell (KA1.out) 3).trans rfl
  go_wp2_with fail
  refine (Has_nil k w1).mono ?_
  rintro e w2 ⟨rfl, hb2⟩
  have KA2 := Aside0.mk (blk_alloc (blk_below KA1.out hb2) (.cells #[.int .u8 1] 5))
  have B2 := Aside0.mk (below_alloc (B1.out.trans (hb2.mono B1.out.size)) (.cells #[.int .u8 1] 5))
  clear hb2 a0 a1 a2 a3
  go_wp2_with fail
  refine (Serve_bad none (some ⟨w2.heap.size, 0, none⟩) 1 1 [1] _ (lit1_C w2 1) rfl (Nat.le_refl _) (by decide) (by intro x hx; simp at hx; subst hx; decide) (by decide +kernel)).mono ?_
  rintro e w3 ⟨u, rfl, hR, hb3⟩
  obtain ⟨A0, c0, rfl, hc0, hC0⟩ := Kd.R_reads hR
  have HC0 := Aside0.mk hC0
  have KA3 := Aside0.mk (blk_below KA2.out hb3)
  have B3 := Aside0.mk (B2.out.trans (hb3.mono B2.out.size))
  clear hb3 hR hC0
  go_wp2_with fail
  refine (Sb.GetAnswer_calls A0 7 c0 [3, 0, 0, 0, 0, 0, 0] w3 HC0.out rfl hc0 (by decide) (by intro x hx; simp at hx; omega)).mono ?_
  rintro e w4 ⟨u, v, rfl, hvb, hvn, hb4⟩
  rw [show Sb.getN [3, 0, 0, 0, 0, 0, 0] = (0, 3, [], [], 0) by decide +kernel] at hvb hvn ⊢
  obtain ⟨A1, c1, rfl, hc1, hC1⟩ := Kd.R_reads hvb
  obtain ⟨A2, c2, rfl, hc2, hC2⟩ := Kd.R_reads hvn
  simp only [List.length_nil]
  have KA4 := Aside0.mk (blk_alloc (blk_below KA3.out hb4) (.cells #[.int .i64 0, .int .i64 3, .slice A1 0 c1, .slice A2 0 c2] 32))
  have KX4 := Aside0.mk (blk_new w4 (.cells #[.int .i64 0, .int .i64 3, .slice A1 0 c1, .slice A2 0 c2] 32))
  have B4 := Aside0.mk (below_alloc (B3.out.trans (hb4.mono B3.out.size)) (.cells #[.int .i64 0, .int .i64 3, .slice A1 0 c1, .slice A2 0 c2] 32))
  clear hb4 hvb hvn hC1 hC2
  go_wp2_with fail
  refine (Copy_nil _).mono ?_
  rintro e w5 ⟨rfl, hb5⟩
  have KA5 := Aside0.mk (blk_below KA4.out hb5)
  have KX5 := Aside0.mk (blk_below KX4.out hb5)
  have B5 := Aside0.mk (B4.out.trans (hb5.mono B4.out.size))
  clear hb5
  have a0 : (w5).cell? ⟨w.heap.size, 0, none⟩ = some (.int .i64 kind) := (blk_cell (KA5.out) 0).trans rfl
  have a1 : (w5).cell? ⟨w.heap.size, 1, none⟩ = some (.int .i64 num) := (blk_cell (KA5.out) 1).trans rfl
  have a2 : (w5).cell? ⟨w.heap.size, 2, none⟩ = some (.string k) := (blk_cell (KA5.out) 2).trans rfl
  have a3 : (w5).cell? ⟨w.heap.size, 3, none⟩ = some (.slice A t.length c) := (blk_cell (KA5.out) 3).trans rfl
  go_wp2_with fail
  refine (Do_foreign none kind num k A c t w5 (.inr rfl) hc (Kd.C_below HR.out B5.out)).mono ?_
  rintro e w6 ⟨vb, vn, rfl, hvb, hvn, hb6⟩
  obtain ⟨A5, c5, rfl, _, _⟩ := Kd.R_reads hvb
  obtain ⟨A6, c6, rfl, _, _⟩ := Kd.R_reads hvn
  have hfl := fld (fnum num) 3 (.slice A5 0 c5) (.slice A6 0 c6) w6
  have KX6 := Aside0.mk (blk_below KX5.out hb6)
  have B6 := Aside0.mk (B5.out.trans (hb6.mono B5.out.size))
  clear hb6 hvb hvn a0 a1 a2 a3
  simp only [List.length_nil]
  go_wp2_with fail
  refine (Size_nil w6).mono ?_
  rintro e w7 ⟨rfl, hb7⟩
  have KX7 := Aside0.mk (blk_below KX6.out hb7)
  have B7 := Aside0.mk (B6.out.trans (hb7.mono B6.out.size))
  clear hb7
  go_wp2_with fail
  refine (Names_nil w7).mono ?_
  rintro e w8 ⟨rfl, hb8⟩
  have x1 : w8.cell? ⟨w4.heap.size, 1, none⟩ = some (.int .i64 3) := (blk_cell (blk_below KX7.out hb8) 1).trans rfl
  have B8 := Aside0.mk (B7.out.trans (hb8.mono B7.out.size))
  clear hb8
  go_wp2_with fail
  go_ret
  exact ⟨rfl, B8.out⟩

theorem BlobNil_row (kind num : Int) (k : ByteArray) (A : Option Addr) (n c : Nat) (t : List Int) {w : World} (F : t.length = n ∧ Bs.C w A n t ∧ n ≤ c ∧ (Lit.int .i64 kind).wf = true ∧ (Lit.int .i64 num).wf = true ∧ ∀ z, z ∈ t → (Lit.int .u8 z).wf = true) :
    Calls Try.prog 8 #[.agg #[.int .i64 kind, .int .i64 num, .string k, .slice A n c]] w fun e w' => e = .returned (.bool true) ∧ Below w.heap.size w w' := by
  obtain ⟨rfl, hC, hc, _⟩ := F
  exact BlobNil_walk kind num k A c t w hc hC
end Go.Proofs.Ytahiadghodhkhaa.Bl
