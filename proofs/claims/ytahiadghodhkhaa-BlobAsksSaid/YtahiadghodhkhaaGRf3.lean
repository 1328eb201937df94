import Derived.Test.YtahiadghodhkhaaGRf2
namespace Go.Proofs.Ytahiadghodhkhaa.Bl
open Go.RowKit Go.Maps Go.Proofs.YtahiadghodhkhaaW.PrintWords Go.Proofs.YtahiadghodhkhaaW.PrintLast Go.Proofs.YtahiadghodhkhaaW.PrintMore Go.Proofs.Ytahiadghodhkhaa.PB
set_option linter.unusedVariables false
set_option linter.unusedSimpArgs false
set_option maxRecDepth 20000 in
set_option maxHeartbeats 4000000 in
theorem RDo_foreign (S : List Nat) (x : Nat) (q : Int) (L : List Ent) (kind num : Int) (k : ByteArray) (A : Option Addr) (c : Nat) (t : List Int) (w : World) (h : Rf S w x q L) (hl : L.length ≤ 100000) (hK : Sb.okA kind num k.size t.length = false) (hc : t.length ≤ c) (hr : Bs.C w A t.length t) :
    Calls Try.prog 16 #[.pointer (some ⟨x, 0, none⟩), .agg #[.int .i64 kind, .int .i64 num, .string k, .slice A t.length c]] w fun e w' => ∃ vb vn, e = .returned (.agg #[.int .i64 (fnum num), .int .i64 3, vb, vn]) ∧ Bs.R 5 w' w.heap.size (fun _ => True) vb [] ∧ Kd.string.R 9 w' w.heap.size (fun _ => True) vn [] ∧ Below w.heap.size w w' := by
  have HR := Aside0.mk hr
  have HH := Aside0.mk h
  have B1 := Aside0.mk (below_alloc (below_alloc (Below.refl w.heap.size w) (.cells #[.int .i64 kind, .int .i64 num, .string k, .slice A t.length c] 29)) (.cells #[.int .i64 0, .int .i64 0, .slice none 0 0, .slice none 0 0] 32))
  clear hr h
  go_enter Try.func16, Try.ntmps16
  go_wp2_with fail
  refine (scriniumref16_RightAsk.calls kind num k A c t _ _ (Kd.C_below HR.out B1.out) hc (Sb.refRight_is kind num k t)).mono ?_
  rintro e w1 ⟨rfl, hb1⟩
  have B2 := Aside0.mk (B1.out.trans (hb1.mono B1.out.size))
  have KA := Aside0.mk (blk_below (blk_alloc (blk_new w (.cells #[.int .i64 kind, .int .i64 num, .string k, .slice A t.length c] 29)) (.cells #[.int .i64 0, .int .i64 0, .slice none 0 0, .slice none 0 0] 32)) hb1)
  have KR := Aside0.mk (show w1.heap[w.heap.size + 1]? = some (.cells #[.int .i64 0, .int .i64 0, .slice none 0 0, .slice none 0 0] 32 (0, 0)) from by have h := blk_below (blk_new (w.alloc (.cells #[.int .i64 kind, .int .i64 num, .string k, .slice A t.length c] 29)) (.cells #[.int .i64 0, .int .i64 0, .slice none 0 0, .slice none 0 0] 32)) hb1; simpa using h)
  clear hb1
  rw [hK]
  have HA := KA.out
  have HE := KR.out
  have a0 : (w1).cell? ⟨w.heap.size, 0, none⟩ = some (.int .i64 kind) := (blk_cell (HA) 0).trans rfl
  have az0 := blk_frozen (HA) 0
  have a1 : (w1).cell? ⟨w.heap.size, 1, none⟩ = some (.int .i64 num) := (blk_cell (HA) 1).trans rfl
  have az1 := blk_frozen (HA) 1
  have a2 : (w1).cell? ⟨w.heap.size, 2, none⟩ = some (.string k) := (blk_cell (HA) 2).trans rfl
  have az2 := blk_frozen (HA) 2
  have a3 : (w1).cell? ⟨w.heap.size, 3, none⟩ = some (.slice A t.length c) := (blk_cell (HA) 3).trans rfl
  have az3 := blk_frozen (HA) 3
  have r0 : (w1).cell? ⟨w.heap.size + 1, 0, none⟩ = some (.int .i64 0) := (blk_cell (HE) 0).trans rfl
  have rz0 := blk_frozen (HE) 0
  have r1 : (w1).cell? ⟨w.heap.size + 1, 1, none⟩ = some (.int .i64 0) := (blk_cell (HE) 1).trans rfl
  have rz1 := blk_frozen (HE) 1
  have r2 : (w1).cell? ⟨w.heap.size + 1, 2, none⟩ = some (.slice none 0 0) := (blk_cell (HE) 2).trans rfl
  have rz2 := blk_frozen (HE) 2
  have r3 : (w1).cell? ⟨w.heap.size + 1, 3, none⟩ = some (.slice none 0 0) := (blk_cell (HE) 3).trans rfl
  have rz3 := blk_frozen (HE) 3
  clear HA HE
  have m1 : w.heap.size ≠ w.heap.size + 1 := by omega
  have m2 : w.heap.size + 1 ≠ w.heap.size := by omega
  have set1 : (w1.setCell ⟨w.heap.size, 1, none⟩ (.int .i64 0)).heap[w.heap.size + 1]? = _ := blk_far KR.out (by show w.heap.size + 1 ≠ w.heap.size; omega) (.int .i64 0)
  have B3 : Below w.heap.size w (w1.setCell ⟨w.heap.size, 1, none⟩ (.int .i64 0)) := B2.out.setCell (Nat.le_refl _) _
  by_cases h1 : num < 0
  · have hfn : fnum num = 0 := by unfold fnum; rw [if_pos h1]
    go_wp2_with fail
    refine bodyPost_ret (results_cell_row rfl _ _ (w.heap.size + 1) 32 _ (0, 0) _ rfl (fill4_res set1 (.int .i64 (0)) (.int .i64 3) (.slice none 0 0) (.slice none 0 0)) Try.underlying32 rfl (by kernel_rfl)) rfl ?_
    obtain ⟨F1, F2, F3⟩ := fill4 set1 (by omega) B3 (.int .i64 (0)) (.int .i64 3) (.slice none 0 0) (.slice none 0 0)
    exact ⟨_, _, by rw [hfn], Kd.R_nil _ _ _ _ _, Kd.R_nil _ _ _ _ _, F3⟩
  · by_cases h2 : num > 2147483647
    · have hfn : fnum num = 0 := by unfold fnum; rw [if_neg h1, if_pos h2]
      go_wp2_with fail
      refine bodyPost_ret (results_cell_row rfl _ _ (w.heap.size + 1) 32 _ (0, 0) _ rfl (fill4_res set1 (.int .i64 (0)) (.int .i64 3) (.slice none 0 0) (.slice none 0 0)) Try.underlying32 rfl (by kernel_rfl)) rfl ?_
      obtain ⟨F1, F2, F3⟩ := fill4 set1 (by omega) B3 (.int .i64 (0)) (.int .i64 3) (.slice none 0 0) (.slice none 0 0)
      exact ⟨_, _, by rw [hfn], Kd.R_nil _ _ _ _ _, Kd.R_nil _ _ _ _ _, F3⟩
    · have hfn : fnum num = num := by unfold fnum; rw [if_neg h1, if_neg h2]
      go_wp2_with fail
      refine bodyPost_ret (results_cell_row rfl _ _ (w.heap.size + 1) 32 _ (0, 0) _ rfl (fill4_res KR.out (.int .i64 (num)) (.int .i64 3) (.slice none 0 0) (.slice none 0 0)) Try.underlying32 rfl (by kernel_rfl)) rfl ?_
      obtain ⟨F1, F2, F3⟩ := fill4 KR.out (by omega) B2.out (.int .i64 (num)) (.int .i64 3) (.slice none 0 0) (.slice none 0 0)
      exact ⟨_, _, by rw [hfn], Kd.R_nil _ _ _ _ _, Kd.R_nil _ _ _ _ _, F3⟩
set_option maxRecDepth 20000 in
set_option maxHeartbeats 4000000 in
theorem RDo_get (S : List Nat) (x : Nat) (q : Int) (L : List Ent) (num : Int) (k : ByteArray) (A : Option Addr) (c : Nat) (t : List Int) (w : World) (h : Rf S w x q L) (hl : L.length ≤ 100000) (hK : Sb.okA 2 num k.size t.length = true) (hk : k.size ≤ 64) (ht : t.length ≤ 60000) (hsm : ∀ y ∈ L, y.2.2.length ≤ 65536) (hc : t.length ≤ c) (hr : Bs.C w A t.length t) :
    Calls Try.prog 16 #[.pointer (some ⟨x, 0, none⟩), .agg #[.int .i64 2, .int .i64 num, .string k, .slice A t.length c]] w fun e w' => ∃ vb vn, e = .returned (.agg #[.int .i64 num, .int .i64 (if (findE k L).isSome then 0 else 1), vb, vn]) ∧ Bs.R 5 w' w.heap.size (fun _ => True) vb (((findE k L).map (·.2.2)).getD []) ∧ Kd.string.R 9 w' w.heap.size (fun _ => True) vn [] ∧ Below w.heap.size w w' := by
  have HR := Aside0.mk hr
  have HH := Aside0.mk h
  have B1 := Aside0.mk (below_alloc (below_alloc (Below.refl w.heap.size w) (.cells #[.int .i64 2, .int .i64 num, .string k, .slice A t.length c] 29)) (.cells #[.int .i64 0, .int .i64 0, .slice none 0 0, .slice none 0 0] 32))
  clear hr h
  go_enter Try.func16, Try.ntmps16
  go_wp2_with fail
  refine (scriniumref16_RightAsk.calls 2 num k A c t _ _ (Kd.C_below HR.out B1.out) hc (Sb.refRight_is 2 num k t)).mono ?_
  rintro e w1 ⟨rfl, hb1⟩
  have B2 := Aside0.mk (B1.out.trans (hb1.mono B1.out.size))
  have KA := Aside0.mk (blk_below (blk_alloc (blk_new w (.cells #[.int .i64 2, .int .i64 num, .string k, .slice A t.length c] 29)) (.cells #[.int .i64 0, .int .i64 0, .slice none 0 0, .slice none 0 0] 32)) hb1)
  have KR := Aside0.mk (show w1.heap[w.heap.size + 1]? = some (.cells #[.int .i64 0, .int .i64 0, .slice none 0 0, .slice none 0 0] 32 (0, 0)) from by have h := blk_below (blk_new (w.alloc (.cells #[.int .i64 2, .int .i64 num, .string k, .slice A t.length c] 29)) (.cells #[.int .i64 0, .int .i64 0, .slice none 0 0, .slice none 0 0] 32)) hb1; simpa using h)
  clear hb1
  rw [hK]
  have hlt : w.heap.size + 1 < w1.heap.size := blk_lt KR.out
  have HA := KA.out
  have a0 : (w1).cell? ⟨w.heap.size, 0, none⟩ = some (.int .i64 2) := (blk_cell (HA) 0).trans rfl
  have az0 := blk_frozen (HA) 0
  have a1 : (w1).cell? ⟨w.heap.size, 1, none⟩ = some (.int .i64 num) := (blk_cell (HA) 1).trans rfl
  have az1 := blk_frozen (HA) 1
  have a2 : (w1).cell? ⟨w.heap.size, 2, none⟩ = some (.string k) := (blk_cell (HA) 2).trans rfl
  have az2 := blk_frozen (HA) 2
  have a3 : (w1).cell? ⟨w.heap.size, 3, none⟩ = some (.slice A t.length c) := (blk_cell (HA) 3).trans rfl
  have az3 := blk_frozen (HA) 3
  clear HA
  have n1 : w1.heap.size ≠ w.heap.size := by omega
  have n2 : w.heap.size ≠ w1.heap.size := by omega
  have n3 : w1.heap.size ≠ w.heap.size + 1 := by omega
  have n4 : w.heap.size + 1 ≠ w1.heap.size := by omega
  have n5 : w.heap.size < w1.heap.size := by omega
  go_wp2_with fail
  have hDS := DS.start B2.out KA.out KR.out hlt ⟨blk_new w1 (.cells #[.int .i64 num, .int .i64 0, .slice none 0 0, .slice none 0 0] 32), below_alloc (Below.refl _ _) _⟩
  generalize w1.alloc (.cells #[.int .i64 num, .int .i64 0, .slice none 0 0, .slice none 0 0] 32) = W2 at hDS ⊢
  have DS2 := Aside0.mk hDS
  clear hDS KA KR B2 B1 a0 az0 a1 az1 a2 az2 a3 az3
  refine (RHas_calls S x q L k _ (Rf.kept HH.out DS2.out.below) (by omega)).mono ?_
  rintro e w3 ⟨v, rfl, ⟨A1, c1, rfl, hc1, hF1⟩, hb3⟩
  have DS3 := Aside0.mk (DS2.out.kept hb3)
  have RF3 := Aside0.mk (Rf.kept HH.out DS3.out.below)
  have HF1 := Aside0.mk hF1
  have HL1 := Aside0.mk hc1
  clear hb3 hF1 hc1
  cases hfd : findE k L with
  | none =>
    have a0 : (w3).cell? ⟨w.heap.size, 0, none⟩ = some (.int .i64 2) := (blk_cell (DS3.out.ask) 0).trans rfl
    have az0 := blk_frozen (DS3.out.ask) 0
    have a1 : (w3).cell? ⟨w.heap.size, 1, none⟩ = some (.int .i64 num) := (blk_cell (DS3.out.ask) 1).trans rfl
    have az1 := blk_frozen (DS3.out.ask) 1
    have a2 : (w3).cell? ⟨w.heap.size, 2, none⟩ = some (.string k) := (blk_cell (DS3.out.ask) 2).trans rfl
    have az2 := blk_frozen (DS3.out.ask) 2
    have a3 : (w3).cell? ⟨w.heap.size, 3, none⟩ = some (.slice A t.length c) := (blk_cell (DS3.out.ask) 3).trans rfl
    have az3 := blk_frozen (DS3.out.ask) 3
    have p0 : (w3).cell? ⟨w1.heap.size, 0, none⟩ = some (.int .i64 num) := (blk_cell (DS3.out.out) 0).trans rfl
    have pz0 := blk_frozen (DS3.out.out) 0
    have p1 : (w3).cell? ⟨w1.heap.size, 1, none⟩ = some (.int .i64 0) := (blk_cell (DS3.out.out) 1).trans rfl
    have pz1 := blk_frozen (DS3.out.out) 1
    have p2 : (w3).cell? ⟨w1.heap.size, 2, none⟩ = some (.slice none 0 0) := (blk_cell (DS3.out.out) 2).trans rfl
    have pz2 := blk_frozen (DS3.out.out) 2
    have p3 : (w3).cell? ⟨w1.heap.size, 3, none⟩ = some (.slice none 0 0) := (blk_cell (DS3.out.out) 3).trans rfl
    have pz3 := blk_frozen (DS3.out.out) 3
    have r0 : (w3).cell? ⟨w.heap.size + 1, 0, none⟩ = some (.int .i64 0) := (blk_cell (DS3.out.res) 0).trans rfl
    have rz0 := blk_frozen (DS3.out.res) 0
    have r1 : (w3).cell? ⟨w.heap.size + 1, 1, none⟩ = some (.int .i64 0) := (blk_cell (DS3.out.res) 1).trans rfl
    have rz1 := blk_frozen (DS3.out.res) 1
    have r2 : (w3).cell? ⟨w.heap.size + 1, 2, none⟩ = some (.slice none 0 0) := (blk_cell (DS3.out.res) 2).trans rfl
    have rz2 := blk_frozen (DS3.out.res) 2
    have r3 : (w3).cell? ⟨w.heap.size + 1, 3, none⟩ = some (.slice none 0 0) := (blk_cell (DS3.out.res) 3).trans rfl
    have rz3 := blk_frozen (DS3.out.res) 3
    rw [hfd] at HF1 HL1
    simp only [Option.map_none, Option.getD_none, Option.isSome_none]
    go_wp2_with fail
    have D4 := DS3.out.put 1 (.int .i64 1) rfl
    refine bodyPost_ret (results_cell_row rfl _ _ (w.heap.size + 1) 32 _ (0, 0) _ rfl (fill4_res D4.res (.int .i64 num) (.int .i64 1) (.slice none 0 0) (.slice none 0 0)) Try.underlying32 rfl (by kernel_rfl)) rfl ?_
    obtain ⟨F1, F2, F3⟩ := fill4 D4.res (by omega) D4.below (.int .i64 num) (.int .i64 1) (.slice none 0 0) (.slice none 0 0)
    exact ⟨_, _, rfl, Kd.R_nil _ _ _ _ _, Kd.R_nil _ _ _ _ _, F3⟩
  | some y =>
    have a0 : (w3).cell? ⟨w.heap.size, 0, none⟩ = some (.int .i64 2) := (blk_cell (DS3.out.ask) 0).trans rfl
    have az0 := blk_frozen (DS3.out.ask) 0
    have a1 : (w3).cell? ⟨w.heap.size, 1, none⟩ = some (.int .i64 num) := (blk_cell (DS3.out.ask) 1).trans rfl
    have az1 := blk_frozen (DS3.out.ask) 1
    have a2 : (w3).cell? ⟨w.heap.size, 2, none⟩ = some (.string k) := (blk_cell (DS3.out.ask) 2).trans rfl
    have az2 := blk_frozen (DS3.out.ask) 2
    have a3 : (w3).cell? ⟨w.heap.size, 3, none⟩ = some (.slice A t.length c) := (blk_cell (DS3.out.ask) 3).trans rfl
    have az3 := blk_frozen (DS3.out.ask) 3
    have p0 : (w3).cell? ⟨w1.heap.size, 0, none⟩ = some (.int .i64 num) := (blk_cell (DS3.out.out) 0).trans rfl
    have pz0 := blk_frozen (DS3.out.out) 0
    have p1 : (w3).cell? ⟨w1.heap.size, 1, none⟩ = some (.int .i64 0) := (blk_cell (DS3.out.out) 1).trans rfl
    have pz1 := blk_frozen (DS3.out.out) 1
    have p2 : (w3).cell? ⟨w1.heap.size, 2, none⟩ = some (.slice none 0 0) := (blk_cell (DS3.out.out) 2).trans rfl
    have pz2 := blk_frozen (DS3.out.out) 2
    have p3 : (w3).cell? ⟨w1.heap.size, 3, none⟩ = some (.slice none 0 0) := (blk_cell (DS3.out.out) 3).trans rfl
    have pz3 := blk_frozen (DS3.out.out) 3
    have r0 : (w3).cell? ⟨w.heap.size + 1, 0, none⟩ = some (.int .i64 0) := (blk_cell (DS3.out.res) 0).trans rfl
    have rz0 := blk_frozen (DS3.out.res) 0
    have r1 : (w3).cell? ⟨w.heap.size + 1, 1, none⟩ = some (.int .i64 0) := (blk_cell (DS3.out.res) 1).trans rfl
    have rz1 := blk_frozen (DS3.out.res) 1
    have r2 : (w3).cell? ⟨w.heap.size + 1, 2, none⟩ = some (.slice none 0 0) := (blk_cell (DS3.out.res) 2).trans rfl
    have rz2 := blk_frozen (DS3.out.res) 2
    have r3 : (w3).cell? ⟨w.heap.size + 1, 3, none⟩ = some (.slice none 0 0) := (blk_cell (DS3.out.res) 3).trans rfl
    have rz3 := blk_frozen (DS3.out.res) 3
    rw [hfd] at HF1 HL1
    simp only [Option.map_some, Option.getD_some, Option.isSome_some] at HF1 HL1 ⊢
    have hsz := hsm y (find_mem hfd).1
    go_wp2_with (first | ((with_reducible refine gate_builtin (b := .append) (xs := #[.tmp 133, .tmp 134]) rfl ?_); at_builtin; refine Kd.R_append_row (Value.int .u8) (0 : Int) (h1 := fun _ => rfl) (w0 := w3) w3.heap.size rfl (.tmp 133) (.tmp 134) 27 5 (.int .u8 0) 1 rfl Try.underlying27 info5 rfl (by omega) (.slice none 0 0) [] y.2.2 A1 y.2.2.length c1 (fun _ => True) rfl rfl ?aF ?aO ?aR ?aB ?aS ?aL ?_; (case aF => exact fun _ _ => trivial); (case aO => exact Kd.R_nil _ _ _ _ _); (case aR => exact Kd.F_now HF1.out); (case aB => exact Below.refl _ _); (case aS => exact Nat.le_refl _); (case aL => have := hsz; simp only [List.length_nil]; omega); intro v7 w7 ho7 hb7 hg7 hat7; rw [List.nil_append] at ho7; obtain ⟨A7, c7, rfl, hc7, hC7⟩ := Kd.R_reads ho7; have DS7 := Aside0.mk (DS3.out.kept hb7); have HO7 := Aside0.mk (Kd.R_lower ho7 DS3.out.below.size); clear a0 az0 a1 az1 a2 az2 a3 az3 p0 pz0 p1 pz1 p2 pz2 p3 pz3 r0 rz0 r1 rz1 r2 rz2 r3 rz3; have a0 : (w7).cell? ⟨w.heap.size, 0, none⟩ = some (.int .i64 2) := (blk_cell (DS7.out.ask) 0).trans rfl; have az0 := blk_frozen (DS7.out.ask) 0; have a1 : (w7).cell? ⟨w.heap.size, 1, none⟩ = some (.int .i64 num) := (blk_cell (DS7.out.ask) 1).trans rfl; have az1 := blk_frozen (DS7.out.ask) 1; have a2 : (w7).cell? ⟨w.heap.size, 2, none⟩ = some (.string k) := (blk_cell (DS7.out.ask) 2).trans rfl; have az2 := blk_frozen (DS7.out.ask) 2; have a3 : (w7).cell? ⟨w.heap.size, 3, none⟩ = some (.slice A t.length c) := (blk_cell (DS7.out.ask) 3).trans rfl; have az3 := blk_frozen (DS7.out.ask) 3; have p0 : (w7).cell? ⟨w1.heap.size, 0, none⟩ = some (.int .i64 num) := (blk_cell (DS7.out.out) 0).trans rfl; have pz0 := blk_frozen (DS7.out.out) 0; have p1 : (w7).cell? ⟨w1.heap.size, 1, none⟩ = some (.int .i64 0) := (blk_cell (DS7.out.out) 1).trans rfl; have pz1 := blk_frozen (DS7.out.out) 1; have p2 : (w7).cell? ⟨w1.heap.size, 2, none⟩ = some (.slice none 0 0) := (blk_cell (DS7.out.out) 2).trans rfl; have pz2 := blk_frozen (DS7.out.out) 2; have p3 : (w7).cell? ⟨w1.heap.size, 3, none⟩ = some (.slice none 0 0) := (blk_cell (DS7.out.out) 3).trans rfl; have pz3 := blk_frozen (DS7.out.out) 3; have r0 : (w7).cell? ⟨w.heap.size + 1, 0, none⟩ = some (.int .i64 0) := (blk_cell (DS7.out.res) 0).trans rfl; have rz0 := blk_frozen (DS7.out.res) 0; have r1 : (w7).cell? ⟨w.heap.size + 1, 1, none⟩ = some (.int .i64 0) := (blk_cell (DS7.out.res) 1).trans rfl; have rz1 := blk_frozen (DS7.out.res) 1; have r2 : (w7).cell? ⟨w.heap.size + 1, 2, none⟩ = some (.slice none 0 0) := (blk_cell (DS7.out.res) 2).trans rfl; have rz2 := blk_frozen (DS7.out.res) 2; have r3 : (w7).cell? ⟨w.heap.size + 1, 3, none⟩ = some (.slice none 0 0) := (blk_cell (DS7.out.res) 3).trans rfl; have rz3 := blk_frozen (DS7.out.res) 3; clear ho7 hb7 hg7 hat7 hC7) | fail)
    all_goals
      have D4 := DS7.out.put 2 (.slice A7 y.2.2.length c7) rfl
      refine bodyPost_ret (results_cell_row rfl _ _ (w.heap.size + 1) 32 _ (0, 0) _ rfl (fill4_res D4.res (.int .i64 num) (.int .i64 0) (.slice A7 y.2.2.length c7) (.slice none 0 0)) Try.underlying32 rfl (by kernel_rfl)) rfl ?_
      obtain ⟨F1, F2, F3⟩ := fill4 D4.res (by omega) D4.below (.int .i64 num) (.int .i64 0) (.slice A7 y.2.2.length c7) (.slice none 0 0)
      exact ⟨_, _, rfl, F1 _ _ (Kd.R_set HO7.out DS7.out.out (by decide) 2 _), Kd.R_nil _ _ _ _ _, F3⟩
theorem Rf.finish {S : List Nat} {w w3 w4 : World} {x r : Nat} {q : Int} {L' : List Ent} (hS : ∀ s ∈ S, s < w.heap.size) (hx : x ∈ S) {A0 : Option Addr} {n0 c0 : Nat} (hx4 : w4.heap[x]? = some (.cells #[.int .i64 q, .slice A0 n0 c0] 66 (0, 0)))
    {A5 : Option Addr} {c5 : Nat} (hc : (refL L').length ≤ c5) (hF : Kd.F k69 w4 (fun k => (k ∉ S ∧ k < w.heap.size) ∨ w3.heap.size ≤ k) A5 (refL L').length (refL L')) (hw3 : r < w3.heap.size) (hr : w.heap.size ≤ r) (h34 : w3.heap.size ≤ w4.heap.size) (a b c d : Value) :
    Rf S (((((w4.setCell ⟨x, 1, none⟩ (.slice A5 (refL L').length c5)).setCell ⟨r, 0, none⟩ a).setCell ⟨r, 1, none⟩ b).setCell ⟨r, 2, none⟩ c).setCell ⟨r, 3, none⟩ d) x q L' := by
  have hxlt := hS x hx
  have hok : ∀ k, ((k ∉ S ∧ k < w.heap.size) ∨ w3.heap.size ≤ k) → k ≠ x ∧ k ≠ r := by
    intro k hk
    rcases hk with ⟨h1, h2⟩ | h
    · exact ⟨fun e => h1 (by rw [e]; exact hx), by omega⟩
    · exact ⟨by omega, by omega⟩
  have F1 := Kd.F_far (p := ⟨x, 1, none⟩) hF (fun k hk => (hok k hk).1) (.slice A5 (refL L').length c5)
  have F2 := Kd.F_far (p := ⟨r, 0, none⟩) F1 (fun k hk => (hok k hk).2) a
  have F3 := Kd.F_far (p := ⟨r, 1, none⟩) F2 (fun k hk => (hok k hk).2) b
  have F4 := Kd.F_far (p := ⟨r, 2, none⟩) F3 (fun k hk => (hok k hk).2) c
  have F5 := Kd.F_far (p := ⟨r, 3, none⟩) F4 (fun k hk => (hok k hk).2) d
  have hxr : x ≠ r := by omega
  refine ⟨⟨A5, c5, ?_, hc, Kd.F_mono F5 (fun k hk => ?_)⟩, hx, fun s hs => ?_⟩
  · rw [set4_far hxr]
    exact blk_put hx4 1 _ rfl
  · rcases hk with ⟨h1, _⟩ | h
    · exact h1
    · intro hm
      have := hS k hm
      omega
  · have := hS s hs
    simp only [World.setCell]
    simp
    omega
theorem gx_below {a b c : World} {row : Option Nat} (h : a.grownBy b row) (hb : Below b.heap.size b c) : a.grownBy c row :=
  ⟨hb.os.trans h.os, hb.tape.trans h.tape, hb.output.trans h.output, Nat.le_trans h.size hb.size, fun j hj hne => (hb.block j (Nat.lt_of_lt_of_le hj h.size)).trans (h.block j hj hne)⟩
theorem gx_set {a b : World} {x : Nat} (h : a.grownBy b (some x)) (i : Nat) (u : Value) : a.grownBy (b.setCell ⟨x, i, none⟩ u) (some x) :=
  ⟨h.os, h.tape, h.output, by have := h.size; simpa [World.setCell] using this, fun j hj hne => (Below.heap_setCell b ⟨x, i, none⟩ u j (fun e => hne (by rw [show j = x from e]))).trans (h.block j hj hne)⟩
theorem off_snoc (k : ByteArray) (L : List Ent) (i : Nat) (hi : i < L.length) : offE k (L.take (i + 1)) = if L[i].1 = k then offE k (L.take i) else offE k (L.take i) ++ [L[i]] := by
  unfold offE
  rw [take_snoc L i hi, List.filter_append]
  by_cases h : L[i].1 = k
  · rw [if_pos h]; simp [h]
  · rw [if_neg h]; simp [h]
theorem rd_ref (L : List Ent) (i : Nat) (hi : i < L.length) : rd_T69 (refL L) (i : Int) = ⟨(L[i]).1, (L[i]).2.2⟩ := by
  unfold rd_T69
  rw [Int.toNat_natCast]
  exact refL_get L i hi
theorem without_loop (L : List Ent) (k : ByteArray) (hl : L.length ≤ 100000) : ∀ d i, i + d = L.length → scriniumref19_without.l0 (d + 1) (refL L) k (refL (offE k (L.take i))) (i : Int) = some (refL (offE k L))
  | 0, i, h => by
    unfold scriniumref19_without.l0
    rw [refL_len, if_neg (by omega), show i = L.length by omega, List.take_length]
  | d + 1, i, h => by
    have ih := without_loop L k hl d (i + 1) (by omega)
    have e : wrap64 ((i : Int) + 1) = ((i + 1 : Nat) : Int) := by unfold wrap64; omega
    have hof : (offE k (L.take i)).length ≤ (L.take i).length := List.length_filter_le _ _
    rw [List.length_take] at hof
    unfold scriniumref19_without.l0
    rw [refL_len, if_pos (by omega), if_pos (by omega), rd_ref L i (by omega), e]
    rw [off_snoc k L i (by omega)] at ih
    by_cases hk : (L[i]'(by omega)).1 = k
    · rw [if_pos hk] at ih
      rw [if_pos (by rw [hk])]
      exact ih
    · rw [if_neg hk] at ih
      rw [if_neg (fun e => hk (toList_inj' e)), if_pos (by rw [refL_len]; omega)]
      have e2 : refL (offE k (L.take i) ++ [L[i]'(by omega)]) = refL (offE k (L.take i)) ++ [⟨(L[i]'(by omega)).1, (L[i]'(by omega)).2.2⟩] := by unfold refL; rw [List.map_append]; rfl
      rw [e2] at ih
      exact ih
theorem without_is (L : List Ent) (k : ByteArray) (hl : L.length ≤ 100000) : scriniumref19_without.f (L.length + 1) (refL L) k = some (refL (offE k L)) := without_loop L k hl L.length 0 (by omega)
theorem off_none {k : ByteArray} {L : List Ent} (h : findE k L = none) : L.filter (fun x => !decide (x.1 = k)) = L := by
  unfold findE at h
  rw [List.find?_eq_none] at h
  exact List.filter_eq_self.2 (fun a ha => by simpa using h a ha)
set_option maxRecDepth 20000 in
set_option maxHeartbeats 4000000 in
theorem RDo_drop (S : List Nat) (x : Nat) (q : Int) (L : List Ent) (num : Int) (k : ByteArray) (A : Option Addr) (c : Nat) (t : List Int) (w : World) (h : Rf S w x q L) (hl : L.length ≤ 100000) (hK : Sb.okA 4 num k.size t.length = true) (hc : t.length ≤ c) (hr : Bs.C w A t.length t) :
    Calls Try.prog 16 #[.pointer (some ⟨x, 0, none⟩), .agg #[.int .i64 4, .int .i64 num, .string k, .slice A t.length c]] w fun e w' => ∃ vb vn, e = .returned (.agg #[.int .i64 num, .int .i64 (if (findE k L).isSome then 0 else 1), vb, vn]) ∧ Bs.R 5 w' w.heap.size (fun _ => True) vb [] ∧ Kd.string.R 9 w' w.heap.size (fun _ => True) vn [] ∧ Rf S w' x q (offE k L) ∧ w.grownBy w' (some x) := by
  have HR := Aside0.mk hr
  have HH := Aside0.mk h
  have B1 := Aside0.mk (below_alloc (below_alloc (Below.refl w.heap.size w) (.cells #[.int .i64 4, .int .i64 num, .string k, .slice A t.length c] 29)) (.cells #[.int .i64 0, .int .i64 0, .slice none 0 0, .slice none 0 0] 32))
  clear hr h
  go_enter Try.func16, Try.ntmps16
  go_wp2_with fail
  refine (scriniumref16_RightAsk.calls 4 num k A c t _ _ (Kd.C_below HR.out B1.out) hc (Sb.refRight_is 4 num k t)).mono ?_
  rintro e w1 ⟨rfl, hb1⟩
  have B2 := Aside0.mk (B1.out.trans (hb1.mono B1.out.size))
  have KA := Aside0.mk (blk_below (blk_alloc (blk_new w (.cells #[.int .i64 4, .int .i64 num, .string k, .slice A t.length c] 29)) (.cells #[.int .i64 0, .int .i64 0, .slice none 0 0, .slice none 0 0] 32)) hb1)
  have KR := Aside0.mk (show w1.heap[w.heap.size + 1]? = some (.cells #[.int .i64 0, .int .i64 0, .slice none 0 0, .slice none 0 0] 32 (0, 0)) from by have h := blk_below (blk_new (w.alloc (.cells #[.int .i64 4, .int .i64 num, .string k, .slice A t.length c] 29)) (.cells #[.int .i64 0, .int .i64 0, .slice none 0 0, .slice none 0 0] 32)) hb1; simpa using h)
  clear hb1
  rw [hK]
  have hlt : w.heap.size + 1 < w1.heap.size := blk_lt KR.out
  have HA := KA.out
  have a0 : (w1).cell? ⟨w.heap.size, 0, none⟩ = some (.int .i64 4) := (blk_cell (HA) 0).trans rfl
  have az0 := blk_frozen (HA) 0
  have a1 : (w1).cell? ⟨w.heap.size, 1, none⟩ = some (.int .i64 num) := (blk_cell (HA) 1).trans rfl
  have az1 := blk_frozen (HA) 1
  have a2 : (w1).cell? ⟨w.heap.size, 2, none⟩ = some (.string k) := (blk_cell (HA) 2).trans rfl
  have az2 := blk_frozen (HA) 2
  have a3 : (w1).cell? ⟨w.heap.size, 3, none⟩ = some (.slice A t.length c) := (blk_cell (HA) 3).trans rfl
  have az3 := blk_frozen (HA) 3
  clear HA
  have n1 : w1.heap.size ≠ w.heap.size := by omega
  have n2 : w.heap.size ≠ w1.heap.size := by omega
  have n3 : w1.heap.size ≠ w.heap.size + 1 := by omega
  have n4 : w.heap.size + 1 ≠ w1.heap.size := by omega
  have n5 : w.heap.size < w1.heap.size := by omega
  go_wp2_with fail
  have hDS := DS.start B2.out KA.out KR.out hlt ⟨blk_new w1 (.cells #[.int .i64 num, .int .i64 0, .slice none 0 0, .slice none 0 0] 32), below_alloc (Below.refl _ _) _⟩
  generalize w1.alloc (.cells #[.int .i64 num, .int .i64 0, .slice none 0 0, .slice none 0 0] 32) = W2 at hDS ⊢
  have DS2 := Aside0.mk hDS
  clear hDS KA KR B2 B1 a0 az0 a1 az1 a2 az2 a3 az3
  refine (RHas_calls S x q L k _ (Rf.kept HH.out DS2.out.below) (by omega)).mono ?_
  rintro e w3 ⟨v, rfl, ⟨A1, c1, rfl, hc1, hF1⟩, hb3⟩
  have DS3 := Aside0.mk (DS2.out.kept hb3)
  have RF3 := Aside0.mk (Rf.kept HH.out DS3.out.below)
  have HF1 := Aside0.mk hF1
  have HL1 := Aside0.mk hc1
  clear hb3 hF1 hc1
  cases hfd : findE k L with
  | none =>
    have a0 : (w3).cell? ⟨w.heap.size, 0, none⟩ = some (.int .i64 4) := (blk_cell (DS3.out.ask) 0).trans rfl
    have az0 := blk_frozen (DS3.out.ask) 0
    have a1 : (w3).cell? ⟨w.heap.size, 1, none⟩ = some (.int .i64 num) := (blk_cell (DS3.out.ask) 1).trans rfl
    have az1 := blk_frozen (DS3.out.ask) 1
    have a2 : (w3).cell? ⟨w.heap.size, 2, none⟩ = some (.string k) := (blk_cell (DS3.out.ask) 2).trans rfl
    have az2 := blk_frozen (DS3.out.ask) 2
    have a3 : (w3).cell? ⟨w.heap.size, 3, none⟩ = some (.slice A t.length c) := (blk_cell (DS3.out.ask) 3).trans rfl
    have az3 := blk_frozen (DS3.out.ask) 3
    have p0 : (w3).cell? ⟨w1.heap.size, 0, none⟩ = some (.int .i64 num) := (blk_cell (DS3.out.out) 0).trans rfl
    have pz0 := blk_frozen (DS3.out.out) 0
    have p1 : (w3).cell? ⟨w1.heap.size, 1, none⟩ = some (.int .i64 0) := (blk_cell (DS3.out.out) 1).trans rfl
    have pz1 := blk_frozen (DS3.out.out) 1
    have p2 : (w3).cell? ⟨w1.heap.size, 2, none⟩ = some (.slice none 0 0) := (blk_cell (DS3.out.out) 2).trans rfl
    have pz2 := blk_frozen (DS3.out.out) 2
    have p3 : (w3).cell? ⟨w1.heap.size, 3, none⟩ = some (.slice none 0 0) := (blk_cell (DS3.out.out) 3).trans rfl
    have pz3 := blk_frozen (DS3.out.out) 3
    have r0 : (w3).cell? ⟨w.heap.size + 1, 0, none⟩ = some (.int .i64 0) := (blk_cell (DS3.out.res) 0).trans rfl
    have rz0 := blk_frozen (DS3.out.res) 0
    have r1 : (w3).cell? ⟨w.heap.size + 1, 1, none⟩ = some (.int .i64 0) := (blk_cell (DS3.out.res) 1).trans rfl
    have rz1 := blk_frozen (DS3.out.res) 1
    have r2 : (w3).cell? ⟨w.heap.size + 1, 2, none⟩ = some (.slice none 0 0) := (blk_cell (DS3.out.res) 2).trans rfl
    have rz2 := blk_frozen (DS3.out.res) 2
    have r3 : (w3).cell? ⟨w.heap.size + 1, 3, none⟩ = some (.slice none 0 0) := (blk_cell (DS3.out.res) 3).trans rfl
    have rz3 := blk_frozen (DS3.out.res) 3
    simp only [Option.map_none, Option.getD_none, Option.isSome_none]
    go_wp2_with fail
    have D4 := DS3.out.put 1 (.int .i64 1) rfl
    refine bodyPost_ret (results_cell_row rfl _ _ (w.heap.size + 1) 32 _ (0, 0) _ rfl (fill4_res D4.res (.int .i64 num) (.int .i64 1) (.slice none 0 0) (.slice none 0 0)) Try.underlying32 rfl (by kernel_rfl)) rfl ?_
    obtain ⟨F1, F2, F3⟩ := fill4 D4.res (by omega) D4.below (.int .i64 num) (.int .i64 1) (.slice none 0 0) (.slice none 0 0)
    exact ⟨_, _, rfl, Kd.R_nil _ _ _ _ _, Kd.R_nil _ _ _ _ _, by unfold offE; rw [off_none hfd]; exact Rf.kept HH.out F3, grown_of_below F3 _⟩
  | some y =>
    have a0 : (w3).cell? ⟨w.heap.size, 0, none⟩ = some (.int .i64 4) := (blk_cell (DS3.out.ask) 0).trans rfl
    have az0 := blk_frozen (DS3.out.ask) 0
    have a1 : (w3).cell? ⟨w.heap.size, 1, none⟩ = some (.int .i64 num) := (blk_cell (DS3.out.ask) 1).trans rfl
    have az1 := blk_frozen (DS3.out.ask) 1
    have a2 : (w3).cell? ⟨w.heap.size, 2, none⟩ = some (.string k) := (blk_cell (DS3.out.ask) 2).trans rfl
    have az2 := blk_frozen (DS3.out.ask) 2
    have a3 : (w3).cell? ⟨w.heap.size, 3, none⟩ = some (.slice A t.length c) := (blk_cell (DS3.out.ask) 3).trans rfl
    have az3 := blk_frozen (DS3.out.ask) 3
    have p0 : (w3).cell? ⟨w1.heap.size, 0, none⟩ = some (.int .i64 num) := (blk_cell (DS3.out.out) 0).trans rfl
    have pz0 := blk_frozen (DS3.out.out) 0
    have p1 : (w3).cell? ⟨w1.heap.size, 1, none⟩ = some (.int .i64 0) := (blk_cell (DS3.out.out) 1).trans rfl
    have pz1 := blk_frozen (DS3.out.out) 1
    have p2 : (w3).cell? ⟨w1.heap.size, 2, none⟩ = some (.slice none 0 0) := (blk_cell (DS3.out.out) 2).trans rfl
    have pz2 := blk_frozen (DS3.out.out) 2
    have p3 : (w3).cell? ⟨w1.heap.size, 3, none⟩ = some (.slice none 0 0) := (blk_cell (DS3.out.out) 3).trans rfl
    have pz3 := blk_frozen (DS3.out.out) 3
    have r0 : (w3).cell? ⟨w.heap.size + 1, 0, none⟩ = some (.int .i64 0) := (blk_cell (DS3.out.res) 0).trans rfl
    have rz0 := blk_frozen (DS3.out.res) 0
    have r1 : (w3).cell? ⟨w.heap.size + 1, 1, none⟩ = some (.int .i64 0) := (blk_cell (DS3.out.res) 1).trans rfl
    have rz1 := blk_frozen (DS3.out.res) 1
    have r2 : (w3).cell? ⟨w.heap.size + 1, 2, none⟩ = some (.slice none 0 0) := (blk_cell (DS3.out.res) 2).trans rfl
    have rz2 := blk_frozen (DS3.out.res) 2
    have r3 : (w3).cell? ⟨w.heap.size + 1, 3, none⟩ = some (.slice none 0 0) := (blk_cell (DS3.out.res) 3).trans rfl
    have rz3 := blk_frozen (DS3.out.res) 3
    rw [hfd] at HF1 HL1
    simp only [Option.map_some, Option.getD_some, Option.isSome_some] at HF1 HL1 ⊢
    obtain ⟨A', c', hx0, hc', hF'⟩ := HH.out.ex
    have hx' := blk_below hx0 DS3.out.below
    have HX' := Aside0.mk hx'
    have HC' := Aside0.mk hc'
    have HF' := Aside0.mk (Kd.F_below (Kd.F_bound hF') DS3.out.below)
    clear hx0
    have gx0 : w3.cell? ⟨x, 0, none⟩ = _ := (blk_cell hx' 0).trans rfl
    have gx1 : w3.cell? ⟨x, 1, none⟩ = some (.slice A' (refL L).length c') := (blk_cell hx' 1).trans rfl
    have hxlt := HH.out.xlt
    have hax : some w.heap.size ≠ some x := by intro e; injection e; omega
    clear hx' hc' hF'
    go_wp2_with fail
    refine wp_region_noPanic ?_
    refine wp_region_held_drew (S := fun W => w3.grownBy W (some x)) (by kernel_rfl) (grown_of_below (below_drew (Below.refl _ _)) _) (fun hHeld => ?_)
    refine wpAnyH_take (i := 0) (oi := { dst := some 138, op := _, type := _, pos := _, after := _, guard := _ }) (v := ?_) rfl (by kernel_rfl) (by kernel_rfl) (by kernel_rfl) (fun _ _ _ h => h) (Or.inl ⟨by rfl, ?_⟩) hHeld ?_
    rotate_left
    · (intro w hSw; go_simp) <;> (with_reducible rfl)
    try simp only [Act.put, List.setIfInBounds_toArray, List.set_cons_zero, List.set_cons_succ]
    refine wpAnyH_take (i := 1) (oi := { dst := some 139, op := _, type := _, pos := _, after := _, guard := _ }) (v := ?_) rfl (by kernel_rfl) (by kernel_rfl) (by kernel_rfl) (fun _ _ _ h => h) (Or.inl ⟨by rfl, ?_⟩) hHeld ?_
    rotate_left
    · (intro w hSw; go_simp) <;> (with_reducible rfl)
    try simp only [Act.put, List.setIfInBounds_toArray, List.set_cons_zero, List.set_cons_succ]
    refine wpAnyH_take (i := 5) (oi := { dst := some 143, op := _, type := _, pos := _, after := _, guard := _ }) (v := ?_) rfl (by kernel_rfl) (by kernel_rfl) (by kernel_rfl) (fun _ _ _ h => h) (Or.inl ⟨by rfl, ?_⟩) hHeld ?_
    rotate_left
    · (intro w hSw; go_simp) <;> (with_reducible rfl)
    try simp only [Act.put, List.setIfInBounds_toArray, List.set_cons_zero, List.set_cons_succ]
    refine wpAnyH_take (i := 2) (oi := { dst := some 140, op := _, type := _, pos := _, after := _, guard := _ }) (v := ?_) rfl (by kernel_rfl) (by kernel_rfl) (by kernel_rfl) (fun _ _ _ h => h) (Or.inl ⟨by rfl, ?_⟩) hHeld ?_
    rotate_left
    · (intro w hSw; go_simp) <;> (with_reducible rfl)
    try simp only [Act.put, List.setIfInBounds_toArray, List.set_cons_zero, List.set_cons_succ]
    refine wpAnyH_take (i := 3) (oi := { dst := some 141, op := _, type := _, pos := _, after := _, guard := _ }) (v := ?_) rfl (by kernel_rfl) (by kernel_rfl) (by kernel_rfl) (fun _ _ _ h => h) (Or.inl ⟨by rfl, ?_⟩) hHeld ?_
    rotate_left
    · (intro w hSw; go_simp) <;> (with_reducible rfl)
    try simp only [Act.put, List.setIfInBounds_toArray, List.set_cons_zero, List.set_cons_succ]
    refine wpAnyH_take (i := 6) (oi := { dst := some 144, op := _, type := _, pos := _, after := _, guard := _ }) (v := ?_) rfl (by kernel_rfl) (by kernel_rfl) (by kernel_rfl) (fun _ _ _ h => h) (Or.inl ⟨by rfl, ?_⟩) hHeld ?_
    rotate_left
    · (intro w hSw; have hh : w.cell? ⟨_, 2, none⟩ = some (.string k) := (blk_cell (blk_grown DS3.out.ask hSw hax) 2).trans rfl; go_simp) <;> (with_reducible rfl)
    try simp only [Act.put, List.setIfInBounds_toArray, List.set_cons_zero, List.set_cons_succ]
    refine wpAnyH_ready (rs := [4]) (by kernel_rfl) (by simp) (AllReadyH.cons (o := { dst := some 142, op := _, type := _, pos := _, after := _, guard := _ }) rfl (fun K hK => ?_) AllReadyH.nil)
    go_simp
    refine hK.out _ _ (hHeld) (fun hHeld2 => ?_)
    clear hK K hHeld
    have hHeld := hHeld2
    clear hHeld2
    try simp only [Act.put, List.setIfInBounds_toArray, List.set_cons_zero, List.set_cons_succ]
    refine wpAnyH_ready (rs := [7]) (by kernel_rfl) (by simp) (AllReadyH.cons (o := { dst := some 145, op := _, type := _, pos := _, after := _, guard := _ }) rfl (fun K hK => ?_) AllReadyH.nil)
    go_simp
    refine (scriniumref19_without.calls (L.length + 1) (fun k => k ∉ S ∧ k < w.heap.size) A' c' (refL L) k _ _ (Kd.V_mk HC'.out (Kd.F_drew HF'.out)) (without_is L k hl)).mono ?_
    rintro e w4 ⟨v4, rfl, hN4, hb4⟩
    refine hK.out _ _ (gx_below hHeld hb4) (fun hHeld2 => ?_)
    clear hK K hHeld
    have hHeld := hHeld2
    clear hHeld2
    try simp only [Act.put, List.setIfInBounds_toArray, List.set_cons_zero, List.set_cons_succ]
    refine wpAnyH_take (i := 8) (oi := { dst := some 146, op := _, type := _, pos := _, after := _, guard := _ }) (v := ?_) rfl (by kernel_rfl) (by kernel_rfl) (by kernel_rfl) (fun _ _ _ h => h) (Or.inl ⟨by rfl, ?_⟩) hHeld ?_
    rotate_left
    · (intro w hSw; go_simp) <;> (with_reducible rfl)
    try simp only [Act.put, List.setIfInBounds_toArray, List.set_cons_zero, List.set_cons_succ]
    refine wpAnyH_take (i := 9) (oi := { dst := some 147, op := _, type := _, pos := _, after := _, guard := _ }) (v := ?_) rfl (by kernel_rfl) (by kernel_rfl) (by kernel_rfl) (fun _ _ _ h => h) (Or.inl ⟨by rfl, ?_⟩) hHeld ?_
    rotate_left
    · (intro w hSw; go_simp) <;> (with_reducible rfl)
    try simp only [Act.put, List.setIfInBounds_toArray, List.set_cons_zero, List.set_cons_succ]
    have hx4 := blk_below (blk_drew HX'.out) hb4
    have gx2 : w4.cell? ⟨x, 1, none⟩ = some (.slice A' (refL L).length c') := (blk_cell hx4 1).trans rfl
    have gz2 := blk_frozen hx4 1
    have HX4 := Aside0.mk hx4
    obtain ⟨A5, c5, rfl, hc5, hC5⟩ := Kd.N_reads hN4
    have HF5 := Aside0.mk (Kd.N_F hN4)
    have HC5 := Aside0.mk hc5
    have HG4 := Aside0.mk (gx_below (grown_of_below (below_drew (Below.refl w3.heap.size w3)) (some x)) hb4)
    clear hN4 hb4 hC5 hx4 hc5
    refine wpAnyH_ready (rs := [10]) (by kernel_rfl) (by simp) (AllReadyH.cons (o := { dst := none, op := _, type := _, pos := _, after := _, guard := _ }) rfl (fun K hK => ?_) AllReadyH.nil)
    go_simp
    refine hK.out _ _ (gx_set hHeld _ _) (fun hHeld2 => ?_)
    clear hK K hHeld
    have hHeld := hHeld2
    clear hHeld2
    try simp only [Act.put, List.setIfInBounds_toArray, List.set_cons_zero, List.set_cons_succ]
    refine wpAnyH_done (by kernel_rfl) ?_ _
    refine NoPanic.normal ?_
    have D5 := Aside0.mk (DS3.out.turn (gx_set HG4.out 1 (.slice A5 (refL (offE k L)).length c5)) hxlt)
    have RF5 := Aside0.mk (Rf.finish (r := w.heap.size + 1) HH.out.lt HH.out.mem HX4.out HC5.out HF5.out (by have := blk_lt DS3.out.res; exact this) (by omega) HG4.out.size)
    generalize w4.setCell ⟨x, 1, none⟩ (.slice A5 (refL (offE k L)).length c5) = W5 at D5 RF5 ⊢
    clear gx0 gx1 gx2 gz2  a0 az0 a1 az1 a2 az2 a3 az3 p0 pz0 p1 pz1 p2 pz2 p3 pz3 r0 rz0 r1 rz1 r2 rz2 r3 rz3
    have p0 : (W5).cell? ⟨w1.heap.size, 0, none⟩ = some (.int .i64 num) := (blk_cell (D5.out.out) 0).trans rfl
    have pz0 := blk_frozen (D5.out.out) 0
    have p1 : (W5).cell? ⟨w1.heap.size, 1, none⟩ = some (.int .i64 0) := (blk_cell (D5.out.out) 1).trans rfl
    have pz1 := blk_frozen (D5.out.out) 1
    have p2 : (W5).cell? ⟨w1.heap.size, 2, none⟩ = some (.slice none 0 0) := (blk_cell (D5.out.out) 2).trans rfl
    have pz2 := blk_frozen (D5.out.out) 2
    have p3 : (W5).cell? ⟨w1.heap.size, 3, none⟩ = some (.slice none 0 0) := (blk_cell (D5.out.out) 3).trans rfl
    have pz3 := blk_frozen (D5.out.out) 3
    have r0 : (W5).cell? ⟨w.heap.size + 1, 0, none⟩ = some (.int .i64 0) := (blk_cell (D5.out.res) 0).trans rfl
    have rz0 := blk_frozen (D5.out.res) 0
    have r1 : (W5).cell? ⟨w.heap.size + 1, 1, none⟩ = some (.int .i64 0) := (blk_cell (D5.out.res) 1).trans rfl
    have rz1 := blk_frozen (D5.out.res) 1
    have r2 : (W5).cell? ⟨w.heap.size + 1, 2, none⟩ = some (.slice none 0 0) := (blk_cell (D5.out.res) 2).trans rfl
    have rz2 := blk_frozen (D5.out.res) 2
    have r3 : (W5).cell? ⟨w.heap.size + 1, 3, none⟩ = some (.slice none 0 0) := (blk_cell (D5.out.res) 3).trans rfl
    have rz3 := blk_frozen (D5.out.res) 3
    go_wp2_with fail
    all_goals
      refine bodyPost_ret (results_cell_row rfl _ _ (w.heap.size + 1) 32 _ (0, 0) _ rfl (fill4_res D5.out.res (.int .i64 num) (.int .i64 0) (.slice none 0 0) (.slice none 0 0)) Try.underlying32 rfl (by kernel_rfl)) rfl ?_
      exact ⟨_, _, rfl, Kd.R_nil _ _ _ _ _, Kd.R_nil _ _ _ _ _, RF5.out _ _ _ _, fill4_grown D5.out.grown (by omega) _ _ _ _⟩
end Go.Proofs.Ytahiadghodhkhaa.Bl
